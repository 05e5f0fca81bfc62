/- The walks of octet's writer and reader. -/
import Derived.Test.YtlgkdnmklgbhbaaGreatDoorMB
import Derived.Test.YtlgkdnmklgbhbaaGreatDoorFactsM
namespace Go.Proofs.YtlgkdnmklgbhbaaGreatDoor
open Go Go.Fw
set_option maxRecDepth 100000

theorem clone_any (l : List UInt8) (w : World) (a : Option Addr) (len cap : Nat) (hl : SlAt 1 RByte w (.slice a len cap) l) (hn : l.length ≤ 1099511627776) :
    Ret Tryz.prog 110 [.slice a len cap] w fun r w' => ∃ g, Own w' 5 1 r l.length (hcells l) g ∧ Ext w w' ∧ (g = -1 ∨ (w.heap.size : Int) ≤ g) ∧ g < w'.heap.size := by
  have hl0 := hl
  obtain ⟨rfl, -⟩ := hl.at
  have e := ExtB.refl (fun _ => False) w
  refine ret_of_run Tryz.func110 rfl Tryz.ntmps110 rfl ?_
  refine run_seq ?_
  refine run_region rfl ?_
  refine runl_ev (ev_assign rfl) ?_
  refine runl_nil ?_
  refine run_seq ?_
  refine run_seq ?_
  rcases a with _ | a
  · obtain rfl : l = [] := by
      cases l with
      | nil => rfl
      | cons b l =>
        obtain ⟨_, _, ha, _⟩ := bytes_cells hl0 (by simp)
        cases ha
    refine run_region rfl ?_
    refine runl_ev (ev_move rfl) ?_
    refine runl_ev (ev_eqlLn Tryz.underlying29 rfl rfl) ?_
    refine runl_nil ?_
    refine run_cond_true rfl (rfl) ?_
    refine run_seq ?_
    refine run_region rfl ?_
    refine runl_ev (ev_assign rfl) ?_
    refine runl_nil ?_
    refine run_ret_any Tryz.func110 (res1 Tryz.results110 rfl) ?_
    exact ⟨-1, own_nil _ _ _ _, e, .inl rfl, by omega⟩
  · refine run_region rfl ?_
    refine runl_ev (ev_move rfl) ?_
    refine runl_ev (ev_eqlLn Tryz.underlying29 rfl rfl) ?_
    refine runl_nil ?_
    refine run_cond_false rfl (rfl) ?_
    refine run_skip ?_
    refine run_seq ?_
    refine run_region rfl ?_
    refine runl_op (t_buildSlice0 Tryz.underlying29 sz_5) ?_
    rintro _ w5 ⟨b5, rfl, hb5, e5, n5, l5⟩
    have z5 := e5.size
    replace e := e.trans e5
    refine runl_ev (ev_move rfl) ?_
    refine runl_op (t_appendL (l := l) (R := RByte) ef_29 rfl rfl (own_lit (n := 0) hb5 (by unfold maxLen; omega) rfl) (hl0.ext RByte.stable e) rbyte_len (fun x cs h => rbyte_one x cs h) (by unfold maxLen; omega) (by omega)) ?_
    rintro v7 w7 ⟨news, g7, hnl, hnp, ap7⟩
    have own := ap7.own
    rw [bytes_parts hnp hnl, List.nil_append, Nat.zero_add] at own
    have hn7 := ap7.new
    have hs7 := ap7.size
    have z7 := ap7.ext.size
    replace e := e.newG ap7.ext (by omega)
    refine runl_ev (ev_assign rfl) ?_
    refine runl_nil ?_
    refine run_ret_any Tryz.func110 (res1 Tryz.results110 rfl) ?_
    exact ⟨g7, own, e, by omega, by omega⟩
theorem wraw_any {l : List UInt8} {w0 w : World} {wb : Nat} {g : Int} {v : Value} {T : TypeId} (st : WSt T 5 w0 w wb g v l) (news : List UInt8) (a : Option Addr) (n c : Nat) (hs : SlAt 1 RByte w (.slice a n c) news) (hb : l.length + news.length ≤ 1099511627776) :
    Ret Tryz.prog 164 [.pointer (some ⟨wb, 0, none⟩), .slice a n c] w (WP T 5 w0 w wb g l news) := by
  obtain ⟨hw, own, E, hwb, hg, hgl, hne⟩ := st
  have e0 := ExtB.refl (fun k => k = wb ∨ (k : Int) = g) w
  have lwb := lt_of_at hw
  obtain ⟨rfl, -⟩ := hs.at
  refine ret_of_run Tryz.func164 rfl Tryz.ntmps164 rfl ?_
  refine run_seq ?_
  refine run_region rfl ?_
  refine runl_ev (ev_move rfl) ?_
  refine runl_ev (ev_neqPn Tryz.underlying247 rfl rfl) ?_
  refine runl_nil ?_
  refine run_cond_true rfl (rfl) ?_
  refine run_region rfl ?_
  refine runl_ev (ev_move rfl) ?_
  refine runl_ev (ev_move rfl) ?_
  refine runl_ev (ev_nilCheck rfl) ?_
  refine runl_ev (ev_fieldAddr fld_173_0 rfl) ?_
  refine runl_ev (ev_load1 cell_29 rfl (eqw (cell_blk hw rfl))) ?_
  refine runl_ev (ev_move rfl) ?_
  refine runl_op (t_appendL (l := news) (R := RByte) ef_29 rfl rfl own hs rbyte_len (fun x cs h => rbyte_one x cs h) (by unfold maxLen; omega) (by omega)) ?_
  rintro v12 w12 ⟨nc, g12, hnl, hnp, ap12⟩
  have hn12 := ap12.new
  have hs12 := ap12.size
  have z12 := ap12.ext.size
  replace hw := ap12.ext.atG hw (by omega)
  replace E := E.newG ap12.ext (by omega)
  replace e0 := e0.newBG ap12.ext (fun k hk => by first | exact .inl (by omega) | exact .inr hk | exact .inr (.inr hk) | exact .inr (.inr (by omega)))
  replace own := ap12.own
  rw [bytes_parts hnp hnl, ← hcells_app, ← List.length_append] at own
  obtain ⟨a12, c12, rfl⟩ := own.shape
  refine runl_ev (ev_nilCheck rfl) ?_
  refine runl_ev (ev_fieldAddr fld_173_0 rfl) ?_
  refine runl_do (t_store1 sz_29 rfl rfl rfl rfl hw (by simp)) ?_
  rintro _ v1_9 ⟨hq1_9, e1_9, z1_9⟩
  replace own := own.ext1 e1_9 (by omega)
  replace E := E.new1 e1_9 (by omega)
  replace e0 := e0.newB1 e1_9 (by first | exact .inl (by omega) | exact .inr rfl | exact .inr (.inl rfl) | exact .inr (.inr (by omega)))
  replace hw := hq1_9
  clear hq1_9
  refine runl_nil ?_
  refine run_end_any Tryz.func164 (res0 Tryz.results164) ?_
  exact ⟨rfl, _, _, ⟨⟨hw, own, E, hwb, by omega, by omega, by omega⟩, e0, by omega⟩⟩
theorem wout_any {l : List UInt8} {w0 w : World} {wb : Nat} {g : Int} {v : Value} {T : TypeId} (st : WSt T 5 w0 w wb g v l) (hb : l.length ≤ 1099511627776) :
    Ret Tryz.prog 155 [.pointer (some ⟨wb, 0, none⟩)] w fun r w' => ∃ g, Own w' 5 1 r l.length (hcells l) g ∧ Ext w w' ∧ (g = -1 ∨ (w.heap.size : Int) ≤ g) ∧ g < w'.heap.size := by
  obtain ⟨hw, own, E, hwb, hg, hgl, hne⟩ := st
  have e := ExtB.refl (fun _ => False) w
  have hsl := own_bytes own
  obtain ⟨a, c, rfl⟩ := own.shape
  refine ret_of_run Tryz.func155 rfl Tryz.ntmps155 rfl ?_
  refine run_seq ?_
  refine run_region rfl ?_
  refine runl_ev (ev_assign rfl) ?_
  refine runl_nil ?_
  refine run_seq ?_
  refine run_seq ?_
  refine run_region rfl ?_
  refine runl_ev (ev_move rfl) ?_
  refine runl_ev (ev_eqlPn Tryz.underlying247 rfl rfl) ?_
  refine runl_nil ?_
  refine run_cond_false rfl (rfl) ?_
  refine run_skip ?_
  refine run_seq ?_
  refine run_region rfl ?_
  refine runl_ev (ev_move rfl) ?_
  refine runl_ev (ev_nilCheck rfl) ?_
  refine runl_ev (ev_fieldAddr fld_173_0 rfl) ?_
  refine runl_ev (ev_load1 cell_29 rfl (eqw (cell_blk hw rfl))) ?_
  refine runl_op (t_call call_110 rfl (clone_any l _ _ _ _ hsl hb)) ?_
  rintro v9 w9 ⟨g9, o9, e9, n9, l9⟩
  have z9 := e9.size
  replace e := e.trans e9
  refine runl_ev (ev_assign rfl) ?_
  refine runl_nil ?_
  refine run_ret_any Tryz.func155 (res1 Tryz.results155 rfl) ?_
  exact ⟨g9, o9, e9, n9, l9⟩
theorem wnums_any {l : List UInt8} {w0 w : World} {wb : Nat} {g : Int} {v : Value} {T : TypeId} (st : WSt T 5 w0 w wb g v l) (ns : List Int) (a : Option Addr) (n c : Nat) (hs : SlAt 1 RInt w (.slice a n c) ns) (ha : ∀ b o, a = some ⟨b, o, none⟩ → b ≠ wb ∧ (b : Int) ≠ g) (hln : ns.length ≤ 1099511627776) (hb : l.length + (encNs ns).length ≤ 1099511627776) :
    Ret Tryz.prog 92 [.pointer (some ⟨wb, 0, none⟩), .slice a n c] w (WP T 5 w0 w wb g l (encNs ns)) := by
  obtain ⟨rfl, hat⟩ := hs.at
  have e0 := ExtB.refl (fun k => k = wb ∨ (k : Int) = g) w
  obtain ⟨hw, own, E, hwb1, hg1, hgl1, hne1⟩ := st
  have lwb := lt_of_at hw
  have zl := E.size
  have zl0 := e0.size
  refine ret_of_run Tryz.func92 rfl Tryz.ntmps92 rfl ?_
  refine run_seq ?_
  refine run_seq ?_
  refine run_region rfl ?_
  refine runl_ev (ev_move rfl) ?_
  refine runl_ev (ev_eqlPn Tryz.underlying247 rfl rfl) ?_
  refine runl_nil ?_
  refine run_cond_false rfl (rfl) ?_
  refine run_skip ?_
  refine run_seq ?_
  refine run_region rfl ?_
  refine runl_ev (ev_move rfl) ?_
  refine runl_ev (ev_lenL sl_248 rfl) ?_
  refine runl_ev (ev_move rfl) ?_
  refine runl_nil ?_
  refine run_block ?_
  refine run_loop (ι := Nat × Value × Int) (fun x => [(0, .pointer (some ⟨wb, 0, none⟩)), (9, .slice a ns.length c), (10, .int .i64 (ns.length : Int)), (11, .int .i64 (x.1 : Int))]) (fun x w' => x.1 ≤ ns.length ∧ WSt T 5 w0 w' wb x.2.2 x.2.1 (l ++ encNs (ns.take x.1)) ∧ ExtB (fun k => k = wb ∨ (k : Int) = g) w w' ∧ (x.2.2 = g ∨ (w.heap.size : Int) ≤ x.2.2)) (fun x => ns.length - x.1) ((0, v, g)) ⟨rfl, rfl, rfl, rfl, trivial⟩ (⟨Nat.zero_le _, by simpa [encNs] using (⟨hw, own, E, hwb1, hg1, hgl1, hne1⟩ : WSt T 5 w0 w wb g v l), e0, .inl rfl⟩) ?_
  clear e0 hw own E hwb1 hg1 hgl1 hne1
  intro ⟨k, v, g1⟩ w1 ⟨hk, st, e0, hgn⟩ IH
  simp only at hk st hgn
  obtain ⟨hw, own, E, hwb1, hg1, hgl1, hne1⟩ := st
  have lwb := lt_of_at hw
  have zl := E.size
  have zl0 := e0.size
  refine run_seq ?_
  refine run_region rfl ?_
  refine runl_ev (ev_lss rfl rfl) ?_
  refine runl_nil ?_
  refine run_seq ?_
  refine run_dcond rfl (fun h1 => ?_) (fun h1 => ?_)
  · have hk1 : k < ns.length := by omega
    obtain ⟨n, hn⟩ : ∃ n, ns[k]? = some n := ⟨ns[k], by simp⟩
    obtain ⟨b1, o1, cs1, rfl, hr1, hc1⟩ := hs.get hn
    obtain rfl := hr1
    have hb1 := ha b1 o1 rfl
    have htk := encNs_take hn
    have htl := encNs_take_le ns (k + 1)
    rw [htk, List.length_append] at htl
    have hcl := clampN_lt n
    refine run_skip ?_
    refine run_seq ?_
    refine run_block ?_
    refine run_seq ?_
    refine run_region rfl ?_
    refine runl_ev (ev_indexAddr el_248 rfl rfl (by omega)) ?_
    refine runl_ev (ev_load1 cell_3 rfl (eqw (hc1.extB e0 (fun h => h.elim hb1.1 hb1.2)))) ?_
    refine runl_ev (ev_assign rfl) ?_
    refine runl_nil ?_
    refine run_seq ?_
    refine run_region rfl ?_
    refine runl_ev (ev_move rfl) ?_
    refine runl_ev (ev_min rfl rfl) ?_
    refine runl_ev (ev_max rfl rfl) ?_
    refine runl_ev (ev_convI ((clampN n : Int)) Tryz.underlying3 Tryz.underlying197 rfl (clamp_wrap n)) ?_
    refine runl_ev (ev_assign rfl) ?_
    refine runl_nil ?_
    refine run_seq ?_
    refine run_block ?_
    refine run_loop (ι := Nat × List UInt8 × Value × Int) (fun y => [(0, .pointer (some ⟨wb, 0, none⟩)), (6, .int .u64 (y.1 : Int)), (9, .slice (some ⟨b1, o1, none⟩) ns.length c), (10, .int .i64 (ns.length : Int)), (11, .int .i64 (k : Int))]) (fun y w' => y.1 ≤ 4611686018427387904 ∧ y.2.1 ++ encU y.1 = encN n ∧ WSt T 5 w0 w' wb y.2.2.2 y.2.2.1 (l ++ encNs (ns.take k) ++ y.2.1) ∧ ExtB (fun k => k = wb ∨ (k : Int) = g) w w' ∧ (y.2.2.2 = g ∨ (w.heap.size : Int) ≤ y.2.2.2)) (fun y => y.1) ((clampN n, [], v, g1)) ⟨rfl, rfl, rfl, rfl, rfl, trivial⟩ (⟨hcl, rfl, by simpa using (⟨hw, own, E, hwb1, hg1, hgl1, hne1⟩ : WSt T 5 w0 _ wb g1 v (l ++ encNs (ns.take k))), e0, hgn⟩) ?_
    clear e0 hw own E hwb1 hg1 hgl1 hne1 hgn
    intro ⟨u, dn, v, g2⟩ w2 ⟨hu, hdn, st, e0, hgn⟩ IH1
    simp only at hu hdn st hgn
    obtain ⟨hw, own, E, hwb1, hg1, hgl1, hne1⟩ := st
    have lwb := lt_of_at hw
    have zl := E.size
    have zl0 := e0.size
    have hdl := congrArg List.length hdn
    have hne := encU_ne u
    have hul : 1 ≤ (encU u).length := by cases hq : encU u with | nil => exact absurd hq hne | cons _ _ => simp
    rw [List.length_append] at hdl
    have hll : (l ++ encNs (ns.take k) ++ dn).length = l.length + (encNs (ns.take k)).length + dn.length := by simp [List.length_append]; omega
    refine run_seq ?_
    refine run_seq ?_
    refine run_region rfl ?_
    refine runl_ev (ev_move rfl) ?_
    refine runl_ev (ev_geq rfl rfl) ?_
    refine runl_nil ?_
    refine run_dcond rfl (fun h2 => ?_) (fun h2 => ?_)
    · refine run_skip ?_
      refine run_seq ?_
      refine run_block ?_
      refine run_region rfl ?_
      refine runl_ev (ev_move rfl) ?_
      refine runl_ev (ev_move rfl) ?_
      refine runl_ev (ev_nilCheck rfl) ?_
      refine runl_ev (ev_fieldAddr fld_173_0 rfl) ?_
      refine runl_ev (ev_load1 cell_29 rfl (eqw (cell_blk hw rfl))) ?_
      refine runl_ev (ev_move rfl) ?_
      refine runl_ev (ev_convI (((u % 256 : Nat) : Int)) Tryz.underlying197 Tryz.underlying5 rfl (u8_mod u)) ?_
      refine runl_ev (ev_or (((UInt8.ofNat (u % 128 + 128)).toNat : Int)) rfl rfl (or128 u)) ?_
      refine runl_op (t_buildSlice (out := [.int .u8 ((UInt8.ofNat (u % 128 + 128)).toNat : Int)]) Tryz.underlying29 sz_5 zero_5 rfl rfl (by decide) (by decide) rfl (rfl)) ?_
      rintro _ w31 ⟨b31, rfl, hb31, e31, n31, l31⟩
      have z31 := e31.size
      replace hw := e31.at hw
      replace own := own.ext e31
      replace E := E.trans e31
      replace e0 := e0.trans e31.toB
      refine runl_op (t_append (news := [.int .u8 ((UInt8.ofNat (u % 128 + 128)).toNat : Int)]) ef_29 rfl rfl own rfl (cells_all hb31) (by simp) (by unfold maxLen; omega) (by omega)) ?_
      rintro v32 w32 ⟨g32, ap32⟩
      have hn32 := ap32.new
      have z32 := ap32.size
      replace hw := ap32.ext.atG hw (by omega)
      replace E := E.newG ap32.ext (by omega)
      replace e0 := e0.newBG ap32.ext (fun k hk => by rcases hgn with h | h; exact .inr (.inr (by omega)); exact .inl (by omega))
      replace own := ap32.own
      obtain ⟨a32, c32, rfl⟩ := own.shape
      refine runl_ev (ev_nilCheck rfl) ?_
      refine runl_ev (ev_fieldAddr fld_173_0 rfl) ?_
      refine runl_do (t_store1 sz_29 rfl rfl rfl rfl hw (by simp)) ?_
      rintro _ v7_12 ⟨hq7_12, e7_12, z7_12⟩
      replace own := own.ext1 e7_12 (by omega)
      replace E := E.new1 e7_12 (by omega)
      replace e0 := e0.newB1 e7_12 (by first | exact .inl (by omega) | exact .inr rfl | exact .inr (.inl rfl) | exact .inr (.inr (by omega)))
      replace hw := hq7_12
      clear hq7_12
      refine runl_nil ?_
      refine run_inBlock ?_
      refine run_region rfl ?_
      refine runl_ev (ev_move rfl) ?_
      refine runl_ev (ev_shr (((u / 128 : Nat) : Int)) rfl rfl (by omega) (shr7 u)) ?_
      refine runl_ev (ev_assign rfl) ?_
      refine runl_nil ?_
      refine IH1 (u / 128, dn ++ [UInt8.ofNat (u % 128 + 128)], _, g32) _ _ (by simp only; omega) ⟨rfl, rfl, rfl, rfl, rfl, trivial⟩ ⟨(by show u / 128 ≤ _; omega), ?_, ⟨hw, ?_, E, hwb1, (by show g32 = -1 ∨ (_ : Int) ≤ g32; omega), (by show g32 < (_ : Int); omega), (by show g32 ≠ (_ : Int); omega)⟩, e0, (by show g32 = g ∨ _ ≤ g32; omega)⟩
      · show dn ++ [_] ++ encU (u / 128) = _
        rw [← hdn, encU_more (u := u) (by omega)]
        simp
      · have hq : (l ++ encNs (ns.take k) ++ (dn ++ [UInt8.ofNat (u % 128 + 128)])).length = (l ++ encNs (ns.take k) ++ dn).length + 1 := by simp only [List.length_append, List.length_singleton]; omega
        show Own _ _ _ _ (l ++ encNs (ns.take k) ++ (dn ++ [UInt8.ofNat (u % 128 + 128)])).length _ _
        rw [hq, ← List.append_assoc, hcells_app]
        exact own
    · refine run_exit rfl ?_
      refine run_region rfl ?_
      refine runl_ev (ev_move rfl) ?_
      refine runl_ev (ev_move rfl) ?_
      refine runl_ev (ev_nilCheck rfl) ?_
      refine runl_ev (ev_fieldAddr fld_173_0 rfl) ?_
      refine runl_ev (ev_load1 cell_29 rfl (eqw (cell_blk hw rfl))) ?_
      refine runl_ev (ev_move rfl) ?_
      refine runl_ev (ev_convI (((UInt8.ofNat u).toNat : Int)) Tryz.underlying197 Tryz.underlying5 rfl (by rw [u8_mod, u8_ofNat (by omega)]; congr 1; omega)) ?_
      refine runl_op (t_buildSlice (out := [.int .u8 ((UInt8.ofNat (u)).toNat : Int)]) Tryz.underlying29 sz_5 zero_5 rfl rfl (by decide) (by decide) rfl (rfl)) ?_
      rintro _ w42 ⟨b42, rfl, hb42, e42, n42, l42⟩
      have z42 := e42.size
      replace hw := e42.at hw
      replace own := own.ext e42
      replace E := E.trans e42
      replace e0 := e0.trans e42.toB
      refine runl_op (t_append (news := [.int .u8 ((UInt8.ofNat (u)).toNat : Int)]) ef_29 rfl rfl own rfl (cells_all hb42) (by simp) (by unfold maxLen; omega) (by omega)) ?_
      rintro v43 w43 ⟨g43, ap43⟩
      have hn43 := ap43.new
      have z43 := ap43.size
      replace hw := ap43.ext.atG hw (by omega)
      replace E := E.newG ap43.ext (by omega)
      replace e0 := e0.newBG ap43.ext (fun k hk => by rcases hgn with h | h; exact .inr (.inr (by omega)); exact .inl (by omega))
      replace own := ap43.own
      obtain ⟨a43, c43, rfl⟩ := own.shape
      refine runl_ev (ev_nilCheck rfl) ?_
      refine runl_ev (ev_fieldAddr fld_173_0 rfl) ?_
      refine runl_do (t_store1 sz_29 rfl rfl rfl rfl hw (by simp)) ?_
      rintro _ v8_11 ⟨hq8_11, e8_11, z8_11⟩
      replace own := own.ext1 e8_11 (by omega)
      replace E := E.new1 e8_11 (by omega)
      replace e0 := e0.newB1 e8_11 (by first | exact .inl (by omega) | exact .inr rfl | exact .inr (.inl rfl) | exact .inr (.inr (by omega)))
      replace hw := hq8_11
      clear hq8_11
      refine runl_nil ?_
      refine run_inBlock ?_
      refine run_region rfl ?_
      refine runl_ev (ev_add rfl rfl (by omega) (by omega)) ?_
      refine runl_ev (ev_move rfl) ?_
      refine runl_nil ?_
      refine IH (k + 1, _, g43) _ _ (by simp only; omega) ⟨rfl, rfl, rfl, rfl, trivial⟩ ⟨(by show k + 1 ≤ _; omega), ⟨hw, ?_, E, hwb1, (by show g43 = -1 ∨ (_ : Int) ≤ g43; omega), (by show g43 < (_ : Int); omega), (by show g43 ≠ (_ : Int); omega)⟩, e0, (by show g43 = g ∨ _ ≤ g43; omega)⟩
      show Own _ _ _ _ (l ++ encNs (ns.take (k + 1))).length _ _
      have hq : l ++ encNs (ns.take (k + 1)) = (l ++ encNs (ns.take k) ++ dn) ++ [UInt8.ofNat u] := by rw [htk, ← hdn, encU_small (by omega : u < 128)]; simp
      have hq1 : ((l ++ encNs (ns.take k) ++ dn) ++ [UInt8.ofNat u]).length = (l ++ encNs (ns.take k) ++ dn).length + 1 := by rw [List.length_append]; rfl
      rw [hq, hq1, hcells_app]
      exact own
  · obtain rfl : k = ns.length := by omega
    rw [List.take_length] at own
    refine run_exit rfl ?_
    refine run_end_any Tryz.func92 (res0 Tryz.results92) ?_
    exact ⟨rfl, _, _, ⟨⟨hw, own, E, hwb1, hg1, hgl1, hne1⟩, e0, hgn⟩⟩
theorem wbytes_any {l : List UInt8} {w0 w : World} {wb : Nat} {g : Int} {v : Value} {T : TypeId} (st : WSt T 5 w0 w wb g v l) (news : List UInt8) (a : Option Addr) (n c pb pk : Nat) (TP : TypeId) (fr : Nat × Nat) (hp : w.heap[pb]? = some (.cells ⟨[.slice a n c]⟩ TP fr)) (hpb : pb ≠ wb ∧ (pb : Int) ≠ g) (hs : ∀ w', ExtB (fun k => k = wb ∨ (k : Int) = g) w w' → SlAt 1 RByte w' (.slice a n c) news) (hb : l.length + (encBs news).length ≤ 1099511627776) :
    Ret Tryz.prog 163 [.pointer (some ⟨wb, 0, none⟩), .slice (some ⟨pb, 0, none⟩) 1 pk] w (WP T 5 w0 w wb g l (encBs news)) := by
  obtain ⟨rfl, -⟩ := (hs w (ExtB.refl _ _)).at
  have lpb := lt_of_at hp
  have hw0 := lt_of_at st.hw
  have e := ExtB.refl (fun _ => False) w
  have hlb : (encBs news).length = (encN news.length).length + news.length := by simp [encBs]
  have hnl : news.length ≤ 1099511627776 := by omega
  refine ret_of_run Tryz.func163 rfl Tryz.ntmps163 rfl ?_
  refine run_seq ?_
  refine run_region rfl ?_
  refine runl_ev (ev_move rfl) ?_
  refine runl_ev (ev_lenL sl_274 rfl) ?_
  refine runl_ev (ev_move rfl) ?_
  refine runl_nil ?_
  refine run_block ?_
  refine run_loop (ι := Nat × Value × Int) (fun x => [(0, .pointer (some ⟨wb, 0, none⟩)), (6, .slice (some ⟨pb, 0, none⟩) 1 pk), (7, .int .i64 1), (8, .int .i64 (x.1 : Int))]) (fun x w' => (x.1 = 0 ∧ w' = w ∧ x.2.1 = v ∧ x.2.2 = g) ∨ (x.1 = 1 ∧ WPost T 5 w0 w wb g l (encBs news) x.2.1 x.2.2 w')) (fun x => 1 - x.1) ((0, v, g)) ⟨rfl, rfl, rfl, rfl, trivial⟩ (.inl ⟨rfl, rfl, rfl, rfl⟩) ?_
  intro ⟨k, v1, g1⟩ w1 hJ IH
  simp only at hJ
  refine run_seq ?_
  rcases hJ with ⟨rfl, rfl, rfl, rfl⟩ | ⟨rfl, hpost⟩
  · have hp0 := hp
    have e := ExtB.refl (fun _ => False) w1
    refine run_region rfl ?_
    refine runl_ev (ev_lss rfl rfl) ?_
    refine runl_nil ?_
    refine run_seq ?_
    refine run_cond_true rfl (rfl) ?_
    refine run_skip ?_
    refine run_seq ?_
    refine run_block ?_
    refine run_seq ?_
    refine run_region rfl ?_
    refine runl_ev (ev_indexAddr (k := 0) el_274 rfl rfl (by omega)) ?_
    refine runl_ev (ev_load1 cell_29 rfl (eqw (cell_blk hp0 rfl))) ?_
    refine runl_ev (ev_assign rfl) ?_
    refine runl_nil ?_
    refine run_seq ?_
    refine run_region rfl ?_
    refine runl_ev (ev_move rfl) ?_
    refine runl_ev (ev_move rfl) ?_
    refine runl_ev (ev_lenL sl_29 rfl) ?_
    refine runl_op (t_buildSlice (out := [.int .i64 (news.length : Int)]) Tryz.underlying248 sz_3 zero_3 rfl rfl (by decide) (by decide) rfl (rfl)) ?_
    rintro _ w15 ⟨b15, rfl, hb15, e15, n15, l15⟩
    have z15 := e15.size
    refine runl_op (t_call call_92 rfl (wnums_any (st.up e15) [(news.length : Int)] _ _ _ (sl_lit (l := [(news.length : Int)]) (R := RInt) hb15 (pc rfl pn)) (fun b o h => by cases h; have := st.hgl; exact ⟨by omega, by omega⟩) (by simp) (by rw [encNs_one]; omega))) ?_
    rintro _ w16 ⟨rfl, v2, g2, p16⟩
    have q16 := p16.from e15
    rw [encNs_one] at q16 p16
    have z16 := q16.extB.size
    refine runl_nil ?_
    refine run_region rfl ?_
    refine runl_ev (ev_move rfl) ?_
    refine runl_ev (ev_move rfl) ?_
    refine runl_op (t_call call_164 rfl (wraw_any q16.st news _ _ _ (hs _ q16.extB) (by rw [List.length_append]; omega))) ?_
    rintro _ w19 ⟨rfl, v3, g3, p19⟩
    have q19 := q16.trans st.hgl p19
    have z19 := q19.extB.size
    refine runl_nil ?_
    refine run_inBlock ?_
    refine run_region rfl ?_
    refine runl_ev (ev_add rfl rfl (by omega) (by omega)) ?_
    refine runl_ev (ev_move rfl) ?_
    refine runl_nil ?_
    exact IH (1, v3, g3) _ _ (by simp only; omega) ⟨rfl, rfl, rfl, rfl, trivial⟩ (.inr ⟨rfl, q19⟩)
  · refine run_region rfl ?_
    refine runl_ev (ev_lss rfl rfl) ?_
    refine runl_nil ?_
    refine run_seq ?_
    refine run_cond_false rfl (rfl) ?_
    refine run_exit rfl ?_
    refine run_end_any Tryz.func163 (res0 Tryz.results163) ?_
    exact ⟨rfl, _, _, hpost⟩
end Go.Proofs.YtlgkdnmklgbhbaaGreatDoor
/- The walks of octet's reader. -/
namespace Go.Proofs.YtlgkdnmklgbhbaaGreatDoor
open Go Go.Fw
set_option maxRecDepth 100000
theorem acc_lt {u m i : Nat} (hu : u < 128 ^ i) (hm : m < 128) : u + m * 128 ^ i < 128 ^ (i + 1) := by
  have : (m + 1) * 128 ^ i ≤ 128 * 128 ^ i := Nat.mul_le_mul_right _ (by omega)
  rw [Nat.add_mul] at this
  rw [Nat.pow_succ]
  omega

end Go.Proofs.YtlgkdnmklgbhbaaGreatDoor
/- The walks of wire's writer: digests, keys, a record's bytes. -/
namespace Go.Proofs.YtlgkdnmklgbhbaaGreatDoor
open Go Go.Fw
set_option maxRecDepth 100000

theorem whash_any {l : List UInt8} {w0 w : World} {wb : Nat} {g : Int} {v : Value} {T : TypeId} (st : WSt T 5 w0 w wb g v l) (h : List UInt8) (hh : h.length = 32) (hb : l.length + 32 ≤ 1099511627776) :
    Ret Tryz.prog 103 [.pointer (some ⟨wb, 0, none⟩), .agg ⟨hcells h⟩] w (WP T 5 w0 w wb g l (h)) := by
  have e := ExtB.refl (fun _ => False) w
  have lwb := lt_of_at st.hw
  have hgl := st.hgl
  refine ret_of_run Tryz.func103 rfl Tryz.ntmps103 rfl ?_
  refine run_seq ?_
  refine run_region rfl ?_
  refine runl_op (t_boxA rfl) ?_
  rintro _ w3 ⟨b3, rfl, hb3, e3, n3, l3⟩
  have z3 := e3.size
  replace e := e.trans e3
  refine runl_nil ?_
  refine run_draw mo (fun w' => Ext w3 w') [4] [(true, 0), (true, 1), (true, 2), (true, 3), (false, 4)] (by kernel_rfl) ?_
  intro wr1 er1
  have zr1 := er1.size
  have hsr1 := er1
  have ep := e.trans er1
  have hb3p := er1.at hb3
  refine rund_ev hsr1 rfl (ev_move rfl) ?_
  refine rund_ev hsr1 rfl (ev_nilCheck rfl) ?_
  refine rund_ev hsr1 rfl (ev_fieldAddr fld_175_0 rfl) ?_
  refine rund_ev hsr1 rfl (ev_sliceA arr_25 rfl) ?_
  refine rund_opT rfl rfl (t_call call_164 rfl (wraw_any (st.up ep) h _ 32 32 (hh ▸ sl_cells (cells_all hb3p) (parts_bytes h)) (by omega))) ?_
  rintro _ w8 ⟨rfl, v8, g8, p8⟩
  have q8 := p8.from ep
  have z8 := q8.extB.size
  refine rund_nil ?_
  refine run_end_any Tryz.func103 (res0 Tryz.results103) ?_
  exact ⟨rfl, v8, g8, q8⟩
theorem wrowsH_any {l : List UInt8} {w0 w : World} {wb : Nat} {g : Int} {v : Value} {T : TypeId} (st : WSt T 5 w0 w wb g v l) (xs : List (List UInt8)) (a : Option Addr) (n c : Nat) (hs : SlAt 32 RHash w0 (.slice a n c) xs) (hxl : xs.length ≤ 1099511627776) (hb : l.length + (encN xs.length ++ xs.flatMap id).length ≤ 1099511627776) :
    Ret Tryz.prog 184 [.pointer (some ⟨wb, 0, none⟩), .func (.func 103) #[] #[], .slice a n c] w (WP T 5 w0 w wb g l (encN xs.length ++ xs.flatMap id)) := by
  have e := ExtB.refl (fun _ => False) w
  have lwb := lt_of_at st.hw
  have hgl := st.hgl
  have hs0 := hs
  obtain ⟨rfl, hat⟩ := hs.at
  rw [List.length_append] at hb
  refine ret_of_run Tryz.func184 rfl Tryz.ntmps184 rfl ?_
  refine run_seq ?_
  refine run_region rfl ?_
  refine runl_ev (ev_move rfl) ?_
  refine runl_ev (ev_nilCheck rfl) ?_
  refine runl_ev (ev_fieldAddr fld_175_0 rfl) ?_
  refine runl_ev (ev_move rfl) ?_
  refine runl_ev (ev_lenL sl_60 rfl) ?_
  refine runl_op (t_buildSlice (out := [.int .i64 (xs.length : Int)]) Tryz.underlying248 sz_3 zero_3 rfl rfl (by decide) (by decide) rfl (rfl)) ?_
  rintro _ w13 ⟨b13, rfl, hb13, e13, n13, l13⟩
  have z13 := e13.size
  replace e := e.trans e13
  refine runl_op (t_call call_92 rfl (wnums_any (st.up e) [(xs.length : Int)] _ _ _ (sl_lit (l := [(xs.length : Int)]) (R := RInt) hb13 (pc rfl pn)) (fun b o h => by cases h; exact ⟨by omega, by omega⟩) (by simp) (by rw [encNs_one]; omega))) ?_
  rintro _ w14 ⟨rfl, v14, g14, p14⟩
  have q14 := p14.from e
  rw [encNs_one] at q14
  have z14 := q14.extB.size
  refine runl_nil ?_
  refine run_seq ?_
  refine run_region rfl ?_
  refine runl_ev (ev_move rfl) ?_
  refine runl_ev (ev_lenL sl_60 rfl) ?_
  refine runl_ev (ev_move rfl) ?_
  refine runl_nil ?_
  refine run_block ?_
  refine run_loop (ι := Nat × Value × Int) (fun x => [(0, .pointer (some ⟨wb, 0, none⟩)), (1, .func (.func 103) #[] #[]), (15, .slice a xs.length c), (16, .int .i64 (xs.length : Int)), (17, .int .i64 (x.1 : Int))]) (fun x w' => x.1 ≤ xs.length ∧ WPost T 5 w0 w wb g l (encN xs.length ++ (xs.take x.1).flatMap id) x.2.1 x.2.2 w') (fun x => xs.length - x.1) ((0, v14, g14)) ⟨rfl, rfl, rfl, rfl, rfl, trivial⟩ (⟨Nat.zero_le _, by simpa using q14⟩) ?_
  clear q14 p14 e
  intro ⟨k, v1, g1⟩ w1 ⟨hk, po⟩ IH
  simp only at hk po
  have e := ExtB.refl (fun _ => False) w1
  have lwb1 := lt_of_at po.st.hw
  have hgl1 := po.st.hgl
  have hpz := po.extB.size
  refine run_seq ?_
  refine run_region rfl ?_
  refine runl_ev (ev_lss rfl rfl) ?_
  refine runl_nil ?_
  refine run_seq ?_
  refine run_dcond rfl (fun h0 => ?_) (fun h0 => ?_)
  · have hk1 : k < xs.length := by omega
    obtain ⟨b1, o1, cs1, rfl, hr1, hc1⟩ := hat k hk1
    have hcl1 := rhash_len _ _ _ hr1
    have hone1 := rhash_one _ _ hr1
    have htk : (xs.take (k + 1)).flatMap id = (xs.take k).flatMap id ++ id xs[k] := by rw [List.take_add_one, List.getElem?_eq_getElem hk1, List.flatMap_append]; simp
    have htl : ((xs.take k).flatMap id).length + (id xs[k]).length ≤ (xs.flatMap id).length := by
      have h1 := congrArg (fun l => (l.flatMap id).length) (List.take_append_drop (k + 1) xs)
      simp only [List.flatMap_append, List.length_append, htk] at h1
      omega
    have htl0 : (l ++ (encN (xs.length : Int) ++ (xs.take k).flatMap id)).length = l.length + (encN (xs.length : Int)).length + ((xs.take k).flatMap id).length := by simp only [List.length_append]; omega
    obtain ⟨hh1, rfl⟩ := hr1
    refine run_skip ?_
    refine run_seq ?_
    refine run_block ?_
    refine run_seq ?_
    refine run_region rfl ?_
    refine runl_ev (ev_indexAddr el_60 rfl rfl (by omega)) ?_
    refine runl_ev (ev_loadA agg_25 hcl1 rfl (eqw (hc1.ext (po.st.ext.trans e)))) ?_
    refine runl_op (t_alloc zero_25 rfl) ?_
    rintro _ w7 ⟨b7, rfl, hb7, e7, n7, l7⟩
    have z7 := e7.size
    replace e := e.trans e7
    refine runl_do (t_storeW sz_25 rfl rfl hcl1 rfl hb7 (hone1)) ?_
    rintro _ v3_3 ⟨hq3_3, e3_3, z3_3⟩
    replace e := e.new1 e3_3 (by omega)
    replace hb7 := hq3_3
    clear hq3_3
    refine runl_nil ?_
    refine run_region rfl ?_
    refine runl_ev (ev_move rfl) ?_
    refine runl_ev (ev_move rfl) ?_
    refine runl_ev (ev_loadA agg_25 hcl1 rfl (eqw (cells_all hb7))) ?_
    refine runl_op (t_callv call_103 rfl rfl (whash_any (po.st.up e) xs[k] hh1 (by rw [htl0]; simp only [id] at htl; omega))) ?_
    rintro _ w24 ⟨rfl, v24, g24, p24⟩
    have q24 := po.trans hgl (p24.from e)
    have z24 := q24.extB.size
    refine runl_nil ?_
    refine run_inBlock ?_
    refine run_region rfl ?_
    refine runl_ev (ev_add rfl rfl (by omega) (by omega)) ?_
    refine runl_ev (ev_move rfl) ?_
    refine runl_nil ?_
    refine IH (k + 1, v24, g24) _ _ (by simp only; omega) ⟨rfl, rfl, rfl, rfl, rfl, trivial⟩ ⟨hk1, ?_⟩
    simp only
    rw [htk, ← List.append_assoc]
    exact q24
  · obtain rfl : k = xs.length := by omega
    rw [List.take_length] at po
    refine run_exit rfl ?_
    refine run_end_any Tryz.func184 (res0 Tryz.results184) ?_
    exact ⟨rfl, v1, g1, po⟩
theorem wkeys_any {l : List UInt8} {w0 w : World} {wb : Nat} {g : Int} {v : Value} {T : TypeId} (st : WSt T 5 w0 w wb g v l) (k : KeysP) (cs : List Value) (hk : RKeys w0 k cs) (hkl : k.keys.length ≤ 1099511627776) (hb : l.length + (encKeys k).length ≤ 1099511627776) :
    Ret Tryz.prog 129 [.pointer (some ⟨wb, 0, none⟩), .agg ⟨cs⟩] w (WP T 5 w0 w wb g l (encKeys k)) := by
  have e := ExtB.refl (fun _ => False) w
  have lwb := lt_of_at st.hw
  have hgl := st.hgl
  obtain ⟨a, c, rfl, hks, -⟩ := hk
  unfold encKeys at hb ⊢
  simp only [List.length_append] at hb
  refine ret_of_run Tryz.func129 rfl Tryz.ntmps129 rfl ?_
  refine run_seq ?_
  refine run_region rfl ?_
  refine runl_op (t_boxA rfl) ?_
  rintro _ w3 ⟨b3, rfl, hb3, e3, n3, l3⟩
  have z3 := e3.size
  replace e := e.trans e3
  refine runl_nil ?_
  refine run_seq ?_
  refine run_region rfl ?_
  refine runl_ev (ev_move rfl) ?_
  refine runl_ev (ev_fieldAddr fld_65_0 rfl) ?_
  refine runl_ev (ev_load1 cell_60 rfl (eqw (cell_blk hb3 rfl))) ?_
  refine runl_op (t_call call_184 rfl (wrowsH_any (st.up e) k.keys a _ c hks hkl (by simp only [List.length_append]; omega))) ?_
  rintro _ w7 ⟨rfl, v7, g7, p7⟩
  have q7 := p7.from e
  have z7 := q7.extB.size
  replace hb3 := p7.extB.at hb3 (fun h => by rcases h with h | h <;> omega)
  clear e
  have e := ExtB.refl (fun _ => False) w7
  have hgl7 := q7.st.hgl
  have lwb7 := lt_of_at q7.st.hw
  refine runl_nil ?_
  refine run_draw mo (fun w' => Ext w7 w') [6] [(true, 0), (true, 1), (true, 2), (true, 3), (true, 4), (false, 5), (false, 6)] (by kernel_rfl) ?_
  intro wr2 er2
  have zr2 := er2.size
  have hsr2 := er2
  have ep := e.trans er2
  have hb3p := er2.at hb3
  refine rund_ev hsr2 rfl (ev_move rfl) ?_
  refine rund_ev hsr2 rfl (ev_nilCheck rfl) ?_
  refine rund_ev hsr2 rfl (ev_fieldAddr fld_175_0 rfl) ?_
  refine rund_ev hsr2 rfl (ev_fieldAddr fld_65_1 rfl) ?_
  refine rund_ev hsr2 rfl (ev_load1 cell_3 rfl (fun wz hz => cell_blk (hz.at hb3) rfl)) ?_
  refine rund_op rfl (t_buildSlice (out := [.int .i64 k.need]) Tryz.underlying248 sz_3 zero_3 rfl rfl (by decide) (by decide) rfl (rfl)) ?_
  rintro _ w13 ⟨b13, rfl, hb13, e13, n13, l13⟩
  have z13 := e13.size
  replace ep := ep.trans e13
  replace hb3p := e13.at hb3p
  have hs13 := hsr2.trans e13
  refine ⟨hs13, ?_⟩
  have hb13p := hb13
  refine rund_opT rfl rfl (t_call call_92 rfl (wnums_any (q7.st.up ep) [k.need] _ _ _ (sl_lit (l := [k.need]) (R := RInt) hb13p (pc rfl pn)) (fun b o h => by cases h; exact ⟨by omega, by omega⟩) (by simp) (by rw [encNs_one]; simp only [List.length_append]; omega))) ?_
  rintro _ w14 ⟨rfl, v14, g14, p14⟩
  rw [encNs_one] at p14
  have q14 := q7.trans st.hgl (p14.from ep)
  rw [List.append_assoc] at q14
  have z14 := q14.extB.size
  refine rund_nil ?_
  refine run_end_any Tryz.func129 (res0 Tryz.results129) ?_
  exact ⟨rfl, v14, g14, q14⟩
theorem encoded_any (w : World) (kind : Int) (may : Bool) (fid : FuncId) (caps : List Value) (hcall : callable Tryz.prog fid = true) (enc : List UInt8) (hkb : (encN kind).length ≤ 100) (hbe : may = true → enc.length ≤ 1000000000)
    (hlay : may = true → ∀ (w1 : World) (wb : Nat) (g : Int) (v : Value), WSt 175 5 w w1 wb g v (encN kind) → Ret Tryz.prog fid (.pointer (some ⟨wb, 0, none⟩) :: caps) w1 (WP 175 5 w w1 wb g (encN kind) enc)) :
    Ret Tryz.prog 88 [.int .i64 kind, .bool may, .func (.func fid) #[] ⟨caps⟩] w fun r w' => ∃ v g, r = .tuple #[v, .int .i64 (if may = true then 0 else 1)] ∧ Own w' 5 1 v (if may = true then encN kind ++ enc else []).length (hcells (if may = true then encN kind ++ enc else [])) g ∧ Ext w w' ∧ (g = -1 ∨ (w.heap.size : Int) ≤ g) ∧ g < w'.heap.size := by
  have e := ExtB.refl (fun _ => False) w
  refine ret_of_run Tryz.func88 rfl Tryz.ntmps88 rfl ?_
  refine run_seq ?_
  refine run_region rfl ?_
  refine runl_ev (ev_assign rfl) ?_
  refine runl_ev (ev_assign rfl) ?_
  refine runl_nil ?_
  refine run_seq ?_
  refine run_seq ?_
  refine run_region rfl ?_
  refine runl_ev (ev_move rfl) ?_
  refine runl_ev (ev_not rfl) ?_
  refine runl_nil ?_
  refine run_cond_split rfl (fun h0 => ?_) (fun h0 => ?_)
  · obtain rfl : may = false := by simpa using h0
    refine run_seq ?_
    refine run_region rfl ?_
    refine runl_ev (ev_assign rfl) ?_
    refine runl_ev (ev_assign rfl) ?_
    refine runl_nil ?_
    refine run_ret_any Tryz.func88 (res2 Tryz.results88 rfl rfl) ?_
    exact ⟨_, -1, rfl, own_nil _ _ _ _, e, .inl rfl, by omega⟩
  · obtain rfl : may = true := by simpa using h0
    have hbe := hbe rfl
    refine run_skip ?_
    refine run_seq ?_
    refine run_region rfl ?_
    refine runl_ev (ev_build (out := [.slice none 0 0]) ps_175 zero_175 rfl rfl (rfl)) ?_
    refine runl_op (t_boxA rfl) ?_
    rintro _ w12 ⟨b12, rfl, hb12, e12, n12, l12⟩
    have z12 := e12.size
    replace e := e.trans e12
    have st : WSt 175 5 w _ b12 (-1) (.slice none 0 0) [] := ⟨hb12, own_nil _ _ _ _, e, n12, .inl rfl, by omega, by omega⟩
    clear e
    have e := ExtB.refl (fun _ => False) w12
    refine runl_ev (ev_assign rfl) ?_
    refine runl_nil ?_
    refine run_seq ?_
    refine run_region rfl ?_
    refine runl_ev (ev_move rfl) ?_
    refine runl_ev (ev_nilCheck rfl) ?_
    refine runl_ev (ev_fieldAddr fld_175_0 rfl) ?_
    refine runl_ev (ev_move rfl) ?_
    refine runl_op (t_buildSlice (out := [.int .i64 kind]) Tryz.underlying248 sz_3 zero_3 rfl rfl (by decide) (by decide) rfl (rfl)) ?_
    rintro _ w17 ⟨b17, rfl, hb17, e17, n17, l17⟩
    have z17 := e17.size
    replace e := e.trans e17
    replace hb12 := e17.at hb12
    refine runl_op (t_call call_92 rfl (wnums_any (st.up e) [kind] _ _ _ (sl_lit (l := [kind]) (R := RInt) hb17 (pc rfl pn)) (fun b o h => by cases h; exact ⟨by omega, by omega⟩) (by simp) (by rw [encNs_one]; simp; omega))) ?_
    rintro _ w18 ⟨rfl, v18, g18, p18⟩
    rw [encNs_one] at p18
    have st18 := p18.st
    rw [List.nil_append] at st18
    have z18 := p18.extB.size
    refine runl_nil ?_
    refine run_seq ?_
    refine run_region rfl ?_
    refine runl_ev (ev_move rfl) ?_
    refine runl_ev (ev_move rfl) ?_
    refine runl_op (t_callv hcall rfl rfl (hlay rfl _ _ _ _ st18)) ?_
    rintro _ w21 ⟨rfl, v21, g21, p21⟩
    have z21 := p21.extB.size
    refine runl_nil ?_
    refine run_seq ?_
    refine run_region rfl ?_
    refine runl_ev (ev_move rfl) ?_
    refine runl_ev (ev_nilCheck rfl) ?_
    refine runl_ev (ev_fieldAddr fld_175_0 rfl) ?_
    refine runl_op (t_call call_155 rfl (wout_any p21.st (by rw [List.length_append]; omega))) ?_
    rintro r25 w25 ⟨g25, o25, e25, hg25, hl25⟩
    have z25 := e25.size
    refine runl_ev (ev_assign rfl) ?_
    refine runl_ev (ev_assign rfl) ?_
    refine runl_nil ?_
    refine run_ret_any Tryz.func88 (res2 Tryz.results88 rfl rfl) ?_
    have hz := p21.st.ext.size
    exact ⟨_, g25, rfl, o25, p21.st.ext.trans e25, by omega, hl25⟩
end Go.Proofs.YtlgkdnmklgbhbaaGreatDoor
/- The walks of what tells whether keys, roots and times may be, on both sides. -/
namespace Go.Proofs.YtlgkdnmklgbhbaaGreatDoor
open Go Go.Fw
set_option maxRecDepth 100000

theorem isver_any (n : Int) (w : World) : Ret Tryz.prog 156 [.int .i64 n] w fun r w' => r = .bool (verB n) ∧ Ext w w' := by
  have e := ExtB.refl (fun _ => False) w
  refine ret_of_run Tryz.func156 rfl Tryz.ntmps156 rfl ?_
  refine run_seq ?_
  refine run_region rfl ?_
  refine runl_ev (ev_assign rfl) ?_
  refine runl_nil ?_
  refine run_seq ?_
  by_cases h : 1 ≤ n
  · refine run_region rfl ?_
    refine runl_ev (ev_move rfl) ?_
    refine runl_ev (ev_geq rfl rfl) ?_
    refine runl_ev (ev_move rfl) ?_
    refine runl_ev_g rfl rfl (decide_eq_true h) (ev_move rfl) ?_
    refine runl_ev_g rfl rfl (decide_eq_true h) (ev_leq rfl rfl) ?_
    refine runl_ev (ev_pick rfl rfl rfl (if_pos (decide_eq_true h))) ?_
    refine runl_ev (ev_assign rfl) ?_
    refine runl_nil ?_
    refine run_ret_any Tryz.func156 (res1 Tryz.results156 rfl) ?_
    exact ⟨by simp [verB, h], e⟩
  · refine run_region rfl ?_
    refine runl_ev (ev_move rfl) ?_
    refine runl_ev (ev_geq rfl rfl) ?_
    refine runl_ev (ev_move rfl) ?_
    refine runl_no_g rfl rfl (decide_eq_false h) ?_
    refine runl_no_g rfl rfl (decide_eq_false h) ?_
    refine runl_ev (ev_pick rfl rfl rfl (if_neg (by simp [h]))) ?_
    refine runl_ev (ev_assign rfl) ?_
    refine runl_nil ?_
    refine run_ret_any Tryz.func156 (res1 Tryz.results156 rfl) ?_
    exact ⟨by simp [verB, h], e⟩
theorem isnum_any (n : Int) (w : World) : Ret Tryz.prog 157 [.int .i64 n] w fun r w' => r = .bool (numB n) ∧ Ext w w' := by
  have e := ExtB.refl (fun _ => False) w
  refine ret_of_run Tryz.func157 rfl Tryz.ntmps157 rfl ?_
  refine run_seq ?_
  refine run_region rfl ?_
  refine runl_ev (ev_assign rfl) ?_
  refine runl_nil ?_
  refine run_seq ?_
  by_cases h : 0 ≤ n
  · refine run_region rfl ?_
    refine runl_ev (ev_move rfl) ?_
    refine runl_ev (ev_geq rfl rfl) ?_
    refine runl_ev (ev_move rfl) ?_
    refine runl_ev_g rfl rfl (decide_eq_true h) (ev_move rfl) ?_
    refine runl_ev_g rfl rfl (decide_eq_true h) (ev_leq rfl rfl) ?_
    refine runl_ev (ev_pick rfl rfl rfl (if_pos (decide_eq_true h))) ?_
    refine runl_ev (ev_assign rfl) ?_
    refine runl_nil ?_
    refine run_ret_any Tryz.func157 (res1 Tryz.results157 rfl) ?_
    exact ⟨by simp [numB, h], e⟩
  · refine run_region rfl ?_
    refine runl_ev (ev_move rfl) ?_
    refine runl_ev (ev_geq rfl rfl) ?_
    refine runl_ev (ev_move rfl) ?_
    refine runl_no_g rfl rfl (decide_eq_false h) ?_
    refine runl_no_g rfl rfl (decide_eq_false h) ?_
    refine runl_ev (ev_pick rfl rfl rfl (if_neg (by simp [h]))) ?_
    refine runl_ev (ev_assign rfl) ?_
    refine runl_nil ?_
    refine run_ret_any Tryz.func157 (res1 Tryz.results157 rfl) ?_
    exact ⟨by simp [numB, h], e⟩
theorem rver_any (n : Int) (w : World) : Ret Tryz.prog 176 [.int .i64 n] w fun r w' => r = .bool (verB n) ∧ Ext w w' := by
  have e := ExtB.refl (fun _ => False) w
  refine ret_of_run Tryz.func176 rfl Tryz.ntmps176 rfl ?_
  refine run_seq ?_
  refine run_region rfl ?_
  refine runl_ev (ev_assign rfl) ?_
  refine runl_nil ?_
  refine run_seq ?_
  by_cases h : 1 ≤ n
  · refine run_region rfl ?_
    refine runl_ev (ev_move rfl) ?_
    refine runl_ev (ev_geq rfl rfl) ?_
    refine runl_ev (ev_move rfl) ?_
    refine runl_ev_g rfl rfl (decide_eq_true h) (ev_move rfl) ?_
    refine runl_ev_g rfl rfl (decide_eq_true h) (ev_leq rfl rfl) ?_
    refine runl_ev (ev_pick rfl rfl rfl (if_pos (decide_eq_true h))) ?_
    refine runl_ev (ev_assign rfl) ?_
    refine runl_nil ?_
    refine run_ret_any Tryz.func176 (res1 Tryz.results176 rfl) ?_
    exact ⟨by simp [verB, h], e⟩
  · refine run_region rfl ?_
    refine runl_ev (ev_move rfl) ?_
    refine runl_ev (ev_geq rfl rfl) ?_
    refine runl_ev (ev_move rfl) ?_
    refine runl_no_g rfl rfl (decide_eq_false h) ?_
    refine runl_no_g rfl rfl (decide_eq_false h) ?_
    refine runl_ev (ev_pick rfl rfl rfl (if_neg (by simp [h]))) ?_
    refine runl_ev (ev_assign rfl) ?_
    refine runl_nil ?_
    refine run_ret_any Tryz.func176 (res1 Tryz.results176 rfl) ?_
    exact ⟨by simp [verB, h], e⟩
theorem idxH_any (l : List (List UInt8)) (w : World) (a : Option Addr) (n c : Nat) (hl : SlAt 32 RHash w (.slice a n c) l) (hn : l.length ≤ 1099511627776) (h : List UInt8) (hh : h.length = 32) :
    Ret Tryz.prog 221 [.slice a n c, .agg ⟨hcells h⟩] w fun r w' => r = .int .i64 (idxOf (fun x => decide (h = x)) l) ∧ Ext w w' := by
  have e := ExtB.refl (fun _ => False) w
  obtain ⟨rfl, hat⟩ := hl.at
  refine ret_of_run Tryz.func221 rfl Tryz.ntmps221 rfl ?_
  refine run_seq ?_
  refine run_region rfl ?_
  refine runl_op (t_boxA rfl) ?_
  rintro _ w3 ⟨b3, rfl, hb3, e3, n3, l3⟩
  have z3 := e3.size
  replace e := e.trans e3
  refine runl_ev (ev_assign rfl) ?_
  refine runl_nil ?_
  refine run_seq ?_
  refine run_seq ?_
  refine run_region rfl ?_
  refine runl_ev (ev_move rfl) ?_
  refine runl_ev (ev_lenL sl_60 rfl) ?_
  refine runl_ev (ev_move rfl) ?_
  refine runl_nil ?_
  refine run_block ?_
  refine run_loop (ι := Nat) (fun k => [(0, .slice a l.length c), (3, .pointer (some ⟨b3, 0, none⟩)), (7, .int .i64 (l.length : Int)), (8, .int .i64 (k : Int))]) (fun k w' => k ≤ l.length ∧ (∀ j x, j < k → l[j]? = some x → decide (h = x) = false) ∧ w'.heap[b3]? = some (.cells ⟨hcells h⟩ 25 (0, 0)) ∧ Ext w w') (fun k => l.length - k) (0) ⟨rfl, rfl, rfl, rfl, trivial⟩ (⟨Nat.zero_le _, fun j _ hj => by omega, hb3, e⟩) ?_
  clear e hb3
  intro k w1 ⟨hk, hno, hb3, e⟩ IH
  have lb3 := lt_of_at hb3
  refine run_seq ?_
  refine run_region rfl ?_
  refine runl_ev (ev_lss rfl rfl) ?_
  refine runl_nil ?_
  refine run_seq ?_
  refine run_dcond rfl (fun h0 => ?_) (fun h0 => ?_)
  · have hk1 : k < l.length := by omega
    obtain ⟨b1, o1, cs1, rfl, ⟨hh1, rfl⟩, hc1⟩ := hat k hk1
    refine run_skip ?_
    refine run_seq ?_
    refine run_block ?_
    refine run_seq ?_
    refine run_region rfl ?_
    refine runl_ev (ev_move rfl) ?_
    refine runl_ev (ev_assign rfl) ?_
    refine runl_nil ?_
    refine run_seq ?_
    refine run_draw mo (fun w' => Ext w1 w') [] [(true, 0), (true, 1), (true, 2), (true, 3), (true, 4), (true, 5)] (by kernel_rfl) ?_
    intro wr4 er4
    have zr4 := er4.size
    have hsr4 := er4
    refine rund_ev hsr4 rfl (ev_loadA agg_25 (hcells_length h ▸ hh : (hcells h).length = 32) rfl (fun wz hz => cells_all (hz.at hb3))) ?_
    refine rund_ev hsr4 rfl (ev_move rfl) ?_
    refine rund_ev hsr4 rfl (ev_move rfl) ?_
    refine rund_ev hsr4 rfl (ev_indexAddr el_60 rfl rfl (by omega)) ?_
    refine rund_ev hsr4 rfl (ev_loadA agg_25 (by rw [hcells_length]; exact hh1) rfl (fun wz hz => hc1.ext (e.trans hz))) ?_
    refine rund_ev hsr4 rfl (ev_eqlA rfl rfl eg_25 (eqv_hash Tryz.underlying25 Tryz.underlying5 sz_5 hh hh1)) ?_
    refine rund_nil ?_
    replace e := e.trans er4
    replace hb3 := er4.at hb3
    refine run_cond_split rfl (fun h1 => ?_) (fun h1 => ?_)
    · have h1 : decide (h = l[k]) = true := h1
      refine run_seq ?_
      refine run_region rfl ?_
      refine runl_ev (ev_move rfl) ?_
      refine runl_ev (ev_assign rfl) ?_
      refine runl_nil ?_
      refine run_ret_any Tryz.func221 (res1 Tryz.results221 rfl) ?_
      exact ⟨by rw [idxOf_hit (p := fun x => decide (h = x)) hk1 hno h1], e⟩
    · have h1 : decide (h = l[k]) = false := h1
      refine run_skip ?_
      refine run_inBlock ?_
      refine run_region rfl ?_
      refine runl_ev (ev_add rfl rfl (by omega) (by omega)) ?_
      refine runl_ev (ev_move rfl) ?_
      refine runl_nil ?_
      exact IH (k + 1) _ _ (by omega) ⟨rfl, rfl, rfl, rfl, trivial⟩ ⟨by omega, idxOf_snoc (p := fun x => decide (h = x)) hk1 hno h1, hb3, e⟩
  · obtain rfl : k = l.length := by omega
    refine run_exit rfl ?_
    refine run_seq ?_
    refine run_region rfl ?_
    refine runl_ev (ev_assign rfl) ?_
    refine runl_nil ?_
    refine run_ret_any Tryz.func221 (res1 Tryz.results221 rfl) ?_
    exact ⟨by rw [idxOf_none hno], e⟩
theorem hasH_any (l : List (List UInt8)) (w : World) (a : Option Addr) (n c : Nat) (hl : SlAt 32 RHash w (.slice a n c) l) (hn : l.length ≤ 1099511627776) (h : List UInt8) (hh : h.length = 32) :
    Ret Tryz.prog 208 [.slice a n c, .agg ⟨hcells h⟩] w fun r w' => r = .bool (decide (h ∈ l)) ∧ Ext w w' := by
  have e := ExtB.refl (fun _ => False) w
  refine ret_of_run Tryz.func208 rfl Tryz.ntmps208 rfl ?_
  refine run_seq ?_
  refine run_region rfl ?_
  refine runl_op (t_boxA rfl) ?_
  rintro _ w3 ⟨b3, rfl, hb3, e3, n3, l3⟩
  have z3 := e3.size
  replace e := e.trans e3
  refine runl_ev (ev_assign rfl) ?_
  refine runl_nil ?_
  refine run_seq ?_
  refine run_region rfl ?_
  refine runl_ev (ev_move rfl) ?_
  refine runl_ev (ev_loadA agg_25 (by rw [hcells_length]; exact hh) rfl (eqw (cells_all hb3))) ?_
  refine runl_op (t_call call_221 rfl (idxH_any l _ _ _ _ (hl.ext RHash.stable e) hn h hh)) ?_
  rintro _ w7 ⟨rfl, e7⟩
  have z7 := e7.size
  replace e := e.trans e7
  replace hb3 := e7.at hb3
  refine runl_ev (ev_geq rfl rfl) ?_
  refine runl_ev (ev_assign rfl) ?_
  refine runl_nil ?_
  refine run_ret_any Tryz.func208 (res1 Tryz.results208 rfl) ?_
  exact ⟨congrArg Value.bool (decide_eq_decide.2 idx_mem), e⟩
theorem iskeys_any (k : KeysP) (cs : List Value) (w : World) (hk : RKeys w k cs) : Ret Tryz.prog 183 [.agg ⟨cs⟩] w fun r w' => r = .bool (isKeysP k) ∧ Ext w w' := by
  have e := ExtB.refl (fun _ => False) w
  obtain ⟨a, c, rfl, hks, hkc⟩ := hk
  obtain ⟨-, hat⟩ := hks.at
  have hks0 := hks
  refine ret_of_run Tryz.func183 rfl Tryz.ntmps183 rfl ?_
  refine run_seq ?_
  refine run_region rfl ?_
  refine runl_op (t_boxA rfl) ?_
  rintro _ w1 ⟨b1, rfl, hb1, e1, n1, l1⟩
  have z1 := e1.size
  replace e := e.trans e1
  refine runl_ev (ev_assign rfl) ?_
  refine runl_nil ?_
  refine run_seq ?_
  refine run_seq ?_
  have hcs : (k.keys.length : Int) < 1 ∨ (¬ (k.keys.length : Int) < 1 ∧ (4 : Int) < k.keys.length) ∨ (¬ (k.keys.length : Int) < 1 ∧ ¬ (4 : Int) < k.keys.length ∧ k.need < 1) ∨ (¬ (k.keys.length : Int) < 1 ∧ ¬ (4 : Int) < k.keys.length ∧ ¬ k.need < 1 ∧ (k.keys.length : Int) < k.need) ∨ (¬ (k.keys.length : Int) < 1 ∧ ¬ (4 : Int) < k.keys.length ∧ ¬ k.need < 1 ∧ ¬ (k.keys.length : Int) < k.need) := by omega
  rcases hcs with h1 | ⟨h1, h2⟩ | ⟨h1, h2, h3⟩ | ⟨h1, h2, h3, h4⟩ | ⟨h1, h2, h3, h4⟩
  · refine run_region rfl ?_
    refine runl_ev (ev_fieldAddr fld_65_0 rfl) ?_
    refine runl_ev (ev_load1 cell_60 rfl (eqw (cell_blk hb1 rfl))) ?_
    refine runl_ev (ev_lenL sl_60 rfl) ?_
    refine runl_ev (ev_lss rfl rfl) ?_
    refine runl_ev (ev_move rfl) ?_
    refine runl_no_g rfl rfl (decide_eq_true h1) ?_
    refine runl_no_g rfl rfl (decide_eq_true h1) ?_
    refine runl_no_g rfl rfl (decide_eq_true h1) ?_
    refine runl_no_g rfl rfl (decide_eq_true h1) ?_
    refine runl_ev (ev_pick rfl rfl rfl (if_pos (decide_eq_true h1))) ?_
    refine runl_ev (ev_move rfl) ?_
    refine runl_no_g rfl rfl (rfl) ?_
    refine runl_no_g rfl rfl (rfl) ?_
    refine runl_no_g rfl rfl (rfl) ?_
    refine runl_ev (ev_pick rfl rfl rfl (if_pos (rfl))) ?_
    refine runl_ev (ev_move rfl) ?_
    refine runl_no_g rfl rfl (rfl) ?_
    refine runl_no_g rfl rfl (rfl) ?_
    refine runl_no_g rfl rfl (rfl) ?_
    refine runl_no_g rfl rfl (rfl) ?_
    refine runl_no_g rfl rfl (rfl) ?_
    refine runl_no_g rfl rfl (rfl) ?_
    refine runl_ev (ev_pick rfl rfl rfl (if_pos (rfl))) ?_
    refine runl_nil ?_
    refine run_cond_true rfl (rfl) ?_
    refine run_seq ?_
    refine run_region rfl ?_
    refine runl_ev (ev_assign rfl) ?_
    refine runl_nil ?_
    refine run_ret_any Tryz.func183 (res1 Tryz.results183 rfl) ?_
    exact ⟨by rw [keysF (.inl h1)], e⟩
  · refine run_region rfl ?_
    refine runl_ev (ev_fieldAddr fld_65_0 rfl) ?_
    refine runl_ev (ev_load1 cell_60 rfl (eqw (cell_blk hb1 rfl))) ?_
    refine runl_ev (ev_lenL sl_60 rfl) ?_
    refine runl_ev (ev_lss rfl rfl) ?_
    refine runl_ev (ev_move rfl) ?_
    refine runl_ev_g rfl rfl (decide_eq_false h1) (ev_fieldAddr fld_65_0 rfl) ?_
    refine runl_ev_g rfl rfl (decide_eq_false h1) (ev_load1 cell_60 rfl (eqw (cell_blk hb1 rfl))) ?_
    refine runl_ev_g rfl rfl (decide_eq_false h1) (ev_lenL sl_60 rfl) ?_
    refine runl_ev_g rfl rfl (decide_eq_false h1) (ev_gtr rfl rfl) ?_
    refine runl_ev (ev_pick rfl rfl rfl (if_neg (by simp; omega))) ?_
    refine runl_ev (ev_move rfl) ?_
    refine runl_no_g rfl rfl (decide_eq_true h2) ?_
    refine runl_no_g rfl rfl (decide_eq_true h2) ?_
    refine runl_no_g rfl rfl (decide_eq_true h2) ?_
    refine runl_ev (ev_pick rfl rfl rfl (if_pos (decide_eq_true h2))) ?_
    refine runl_ev (ev_move rfl) ?_
    refine runl_no_g rfl rfl (rfl) ?_
    refine runl_no_g rfl rfl (rfl) ?_
    refine runl_no_g rfl rfl (rfl) ?_
    refine runl_no_g rfl rfl (rfl) ?_
    refine runl_no_g rfl rfl (rfl) ?_
    refine runl_no_g rfl rfl (rfl) ?_
    refine runl_ev (ev_pick rfl rfl rfl (if_pos (rfl))) ?_
    refine runl_nil ?_
    refine run_cond_true rfl (rfl) ?_
    refine run_seq ?_
    refine run_region rfl ?_
    refine runl_ev (ev_assign rfl) ?_
    refine runl_nil ?_
    refine run_ret_any Tryz.func183 (res1 Tryz.results183 rfl) ?_
    exact ⟨by rw [keysF (.inr (.inl h2))], e⟩
  · refine run_region rfl ?_
    refine runl_ev (ev_fieldAddr fld_65_0 rfl) ?_
    refine runl_ev (ev_load1 cell_60 rfl (eqw (cell_blk hb1 rfl))) ?_
    refine runl_ev (ev_lenL sl_60 rfl) ?_
    refine runl_ev (ev_lss rfl rfl) ?_
    refine runl_ev (ev_move rfl) ?_
    refine runl_ev_g rfl rfl (decide_eq_false h1) (ev_fieldAddr fld_65_0 rfl) ?_
    refine runl_ev_g rfl rfl (decide_eq_false h1) (ev_load1 cell_60 rfl (eqw (cell_blk hb1 rfl))) ?_
    refine runl_ev_g rfl rfl (decide_eq_false h1) (ev_lenL sl_60 rfl) ?_
    refine runl_ev_g rfl rfl (decide_eq_false h1) (ev_gtr rfl rfl) ?_
    refine runl_ev (ev_pick rfl rfl rfl (if_neg (by simp; omega))) ?_
    refine runl_ev (ev_move rfl) ?_
    refine runl_ev_g rfl rfl (decide_eq_false h2) (ev_fieldAddr fld_65_1 rfl) ?_
    refine runl_ev_g rfl rfl (decide_eq_false h2) (ev_load1 cell_3 rfl (eqw (cell_blk hb1 rfl))) ?_
    refine runl_ev_g rfl rfl (decide_eq_false h2) (ev_lss rfl rfl) ?_
    refine runl_ev (ev_pick rfl rfl rfl (if_neg (by simp; omega))) ?_
    refine runl_ev (ev_move rfl) ?_
    refine runl_no_g rfl rfl (decide_eq_true h3) ?_
    refine runl_no_g rfl rfl (decide_eq_true h3) ?_
    refine runl_no_g rfl rfl (decide_eq_true h3) ?_
    refine runl_no_g rfl rfl (decide_eq_true h3) ?_
    refine runl_no_g rfl rfl (decide_eq_true h3) ?_
    refine runl_no_g rfl rfl (decide_eq_true h3) ?_
    refine runl_ev (ev_pick rfl rfl rfl (if_pos (decide_eq_true h3))) ?_
    refine runl_nil ?_
    refine run_cond_true rfl (rfl) ?_
    refine run_seq ?_
    refine run_region rfl ?_
    refine runl_ev (ev_assign rfl) ?_
    refine runl_nil ?_
    refine run_ret_any Tryz.func183 (res1 Tryz.results183 rfl) ?_
    exact ⟨by rw [keysF (.inr (.inr (.inl h3)))], e⟩
  · refine run_region rfl ?_
    refine runl_ev (ev_fieldAddr fld_65_0 rfl) ?_
    refine runl_ev (ev_load1 cell_60 rfl (eqw (cell_blk hb1 rfl))) ?_
    refine runl_ev (ev_lenL sl_60 rfl) ?_
    refine runl_ev (ev_lss rfl rfl) ?_
    refine runl_ev (ev_move rfl) ?_
    refine runl_ev_g rfl rfl (decide_eq_false h1) (ev_fieldAddr fld_65_0 rfl) ?_
    refine runl_ev_g rfl rfl (decide_eq_false h1) (ev_load1 cell_60 rfl (eqw (cell_blk hb1 rfl))) ?_
    refine runl_ev_g rfl rfl (decide_eq_false h1) (ev_lenL sl_60 rfl) ?_
    refine runl_ev_g rfl rfl (decide_eq_false h1) (ev_gtr rfl rfl) ?_
    refine runl_ev (ev_pick rfl rfl rfl (if_neg (by simp; omega))) ?_
    refine runl_ev (ev_move rfl) ?_
    refine runl_ev_g rfl rfl (decide_eq_false h2) (ev_fieldAddr fld_65_1 rfl) ?_
    refine runl_ev_g rfl rfl (decide_eq_false h2) (ev_load1 cell_3 rfl (eqw (cell_blk hb1 rfl))) ?_
    refine runl_ev_g rfl rfl (decide_eq_false h2) (ev_lss rfl rfl) ?_
    refine runl_ev (ev_pick rfl rfl rfl (if_neg (by simp; omega))) ?_
    refine runl_ev (ev_move rfl) ?_
    refine runl_ev_g rfl rfl (decide_eq_false h3) (ev_fieldAddr fld_65_1 rfl) ?_
    refine runl_ev_g rfl rfl (decide_eq_false h3) (ev_load1 cell_3 rfl (eqw (cell_blk hb1 rfl))) ?_
    refine runl_ev_g rfl rfl (decide_eq_false h3) (ev_fieldAddr fld_65_0 rfl) ?_
    refine runl_ev_g rfl rfl (decide_eq_false h3) (ev_load1 cell_60 rfl (eqw (cell_blk hb1 rfl))) ?_
    refine runl_ev_g rfl rfl (decide_eq_false h3) (ev_lenL sl_60 rfl) ?_
    refine runl_ev_g rfl rfl (decide_eq_false h3) (ev_gtr rfl rfl) ?_
    refine runl_ev (ev_pick rfl rfl rfl (if_neg (by simp; omega))) ?_
    refine runl_nil ?_
    refine run_cond_true rfl (decide_eq_true h4) ?_
    refine run_seq ?_
    refine run_region rfl ?_
    refine runl_ev (ev_assign rfl) ?_
    refine runl_nil ?_
    refine run_ret_any Tryz.func183 (res1 Tryz.results183 rfl) ?_
    exact ⟨by rw [keysF (.inr (.inr (.inr h4)))], e⟩
  · refine run_region rfl ?_
    refine runl_ev (ev_fieldAddr fld_65_0 rfl) ?_
    refine runl_ev (ev_load1 cell_60 rfl (eqw (cell_blk hb1 rfl))) ?_
    refine runl_ev (ev_lenL sl_60 rfl) ?_
    refine runl_ev (ev_lss rfl rfl) ?_
    refine runl_ev (ev_move rfl) ?_
    refine runl_ev_g rfl rfl (decide_eq_false h1) (ev_fieldAddr fld_65_0 rfl) ?_
    refine runl_ev_g rfl rfl (decide_eq_false h1) (ev_load1 cell_60 rfl (eqw (cell_blk hb1 rfl))) ?_
    refine runl_ev_g rfl rfl (decide_eq_false h1) (ev_lenL sl_60 rfl) ?_
    refine runl_ev_g rfl rfl (decide_eq_false h1) (ev_gtr rfl rfl) ?_
    refine runl_ev (ev_pick rfl rfl rfl (if_neg (by simp; omega))) ?_
    refine runl_ev (ev_move rfl) ?_
    refine runl_ev_g rfl rfl (decide_eq_false h2) (ev_fieldAddr fld_65_1 rfl) ?_
    refine runl_ev_g rfl rfl (decide_eq_false h2) (ev_load1 cell_3 rfl (eqw (cell_blk hb1 rfl))) ?_
    refine runl_ev_g rfl rfl (decide_eq_false h2) (ev_lss rfl rfl) ?_
    refine runl_ev (ev_pick rfl rfl rfl (if_neg (by simp; omega))) ?_
    refine runl_ev (ev_move rfl) ?_
    refine runl_ev_g rfl rfl (decide_eq_false h3) (ev_fieldAddr fld_65_1 rfl) ?_
    refine runl_ev_g rfl rfl (decide_eq_false h3) (ev_load1 cell_3 rfl (eqw (cell_blk hb1 rfl))) ?_
    refine runl_ev_g rfl rfl (decide_eq_false h3) (ev_fieldAddr fld_65_0 rfl) ?_
    refine runl_ev_g rfl rfl (decide_eq_false h3) (ev_load1 cell_60 rfl (eqw (cell_blk hb1 rfl))) ?_
    refine runl_ev_g rfl rfl (decide_eq_false h3) (ev_lenL sl_60 rfl) ?_
    refine runl_ev_g rfl rfl (decide_eq_false h3) (ev_gtr rfl rfl) ?_
    refine runl_ev (ev_pick rfl rfl rfl (if_neg (by simp; omega))) ?_
    refine runl_nil ?_
    refine run_cond_false rfl (decide_eq_false h4) ?_
    refine run_skip ?_
    refine run_seq ?_
    refine run_seq ?_
    refine run_region rfl ?_
    refine runl_ev (ev_fieldAddr fld_65_0 rfl) ?_
    refine runl_ev (ev_load1 cell_60 rfl (eqw (cell_blk hb1 rfl))) ?_
    refine runl_ev (ev_lenL sl_60 rfl) ?_
    refine runl_ev (ev_move rfl) ?_
    refine runl_nil ?_
    refine run_block ?_
    refine run_loop (ι := Nat) (fun j => [(1, .pointer (some ⟨b1, 0, none⟩)), (29, .slice a k.keys.length c), (30, .int .i64 (k.keys.length : Int)), (31, .int .i64 (j : Int))]) (fun j w' => j ≤ k.keys.length ∧ (k.keys.take j).Nodup ∧ w'.heap[b1]? = some (.cells ⟨[.slice a k.keys.length c, .int .i64 k.need]⟩ 65 (0, 0)) ∧ Ext w w') (fun j => k.keys.length - j) (0) ⟨rfl, rfl, rfl, rfl, trivial⟩ (⟨Nat.zero_le _, List.Pairwise.nil, hb1, e⟩) ?_
    clear e hb1
    intro j w1 ⟨hj, hnd, hb1, e⟩ IH
    have lb1 := lt_of_at hb1
    refine run_seq ?_
    refine run_region rfl ?_
    refine runl_ev (ev_lss rfl rfl) ?_
    refine runl_nil ?_
    refine run_seq ?_
    refine run_dcond rfl (fun hl => ?_) (fun hl => ?_)
    · have hj1 : j < k.keys.length := by omega
      obtain ⟨b2, o2, cs2, rfl, ⟨hh2, rfl⟩, hc2⟩ := hat j hj1
      refine run_skip ?_
      refine run_seq ?_
      refine run_block ?_
      refine run_seq ?_
      refine run_region rfl ?_
      refine runl_ev (ev_move rfl) ?_
      refine runl_ev (ev_indexAddr el_60 rfl rfl (by omega)) ?_
      refine runl_ev (ev_loadA agg_25 (by rw [hcells_length]; exact hh2) rfl (eqw (hc2.ext e))) ?_
      refine runl_op (t_alloc zero_25 rfl) ?_
      rintro _ w4 ⟨b4, rfl, hb4, e4, n4, l4⟩
      have z4 := e4.size
      replace e := e.trans e4
      replace hb1 := e4.at hb1
      refine runl_ev (ev_assign rfl) ?_
      refine runl_do (t_storeW sz_25 rfl rfl (by rw [hcells_length]; exact hh2) rfl hb4 (hcells_one _)) ?_
      rintro _ v5_5 ⟨hq5_5, e5_5, z5_5⟩
      replace e := e.new1 e5_5 (by omega)
      replace hb1 := e5_5.at1 hb1 (by omega)
      replace hb4 := hq5_5
      clear hq5_5
      refine runl_nil ?_
      refine run_seq ?_
      refine run_draw mo (fun w' => Ext v5_5 w') [5] [(true, 0), (true, 1), (true, 2), (true, 3), (true, 4), (false, 5)] (by kernel_rfl) ?_
      intro wr6 er6
      have zr6 := er6.size
      have hsr6 := er6
      have ep := e.trans er6
      have hb1p := er6.at hb1
      have hb4p := er6.at hb4
      refine rund_ev hsr6 rfl (ev_fieldAddr fld_65_0 rfl) ?_
      refine rund_ev hsr6 rfl (ev_load1 cell_60 rfl (fun wz hz => cell_blk (hz.at hb1) rfl)) ?_
      refine rund_ev hsr6 rfl (ev_move rfl) ?_
      refine rund_ev hsr6 rfl (ev_sliceL_hi (n := j) el_60 rfl rfl (by omega)) ?_
      refine rund_ev hsr6 rfl (ev_loadA agg_25 (by rw [hcells_length]; exact hh2) rfl (fun wz hz => cells_all (hz.at hb4))) ?_
      refine rund_opT rfl rfl (t_call call_208 rfl (hasH_any (k.keys.take j) _ _ _ _ (sl_take (hks0.ext RHash.stable ep) (by omega) c) (by rw [List.length_take]; omega) _ hh2)) ?_
      rintro _ w41 ⟨rfl, e41⟩
      have z41 := e41.size
      replace ep := ep.trans e41
      replace hb1p := e41.at hb1p
      replace hb4p := e41.at hb4p
      refine rund_nil ?_
      replace e := ep
      clear ep
      replace hb1 := hb1p
      clear hb1p
      replace hb4 := hb4p
      clear hb4p
      refine run_dcond rfl (fun hm => ?_) (fun hm => ?_)
      · refine run_seq ?_
        refine run_region rfl ?_
        refine runl_ev (ev_assign rfl) ?_
        refine runl_nil ?_
        refine run_ret_any Tryz.func183 (res1 Tryz.results183 rfl) ?_
        exact ⟨by rw [keysN (not_nodup_take hj1 hm)], e⟩
      · refine run_skip ?_
        refine run_inBlock ?_
        refine run_region rfl ?_
        refine runl_ev (ev_add rfl rfl (by omega) (by omega)) ?_
        refine runl_ev (ev_move rfl) ?_
        refine runl_nil ?_
        exact IH (j + 1) _ _ (by omega) ⟨rfl, rfl, rfl, rfl, trivial⟩ ⟨by omega, nodup_take_succ hj1 hnd hm, hb1, e⟩
    · obtain rfl : j = k.keys.length := by omega
      rw [List.take_length] at hnd
      refine run_exit rfl ?_
      refine run_seq ?_
      refine run_region rfl ?_
      refine runl_ev (ev_assign rfl) ?_
      refine runl_nil ?_
      refine run_ret_any Tryz.func183 (res1 Tryz.results183 rfl) ?_
      exact ⟨by rw [keysT h1 h2 h3 h4 hnd], e⟩
theorem riskeys_any (k : KeysP) (cs : List Value) (w : World) (hk : RKeys w k cs) : Ret Tryz.prog 181 [.agg ⟨cs⟩] w fun r w' => r = .bool (isKeysP k) ∧ Ext w w' := by
  have e := ExtB.refl (fun _ => False) w
  obtain ⟨a, c, rfl, hks, hkc⟩ := hk
  obtain ⟨-, hat⟩ := hks.at
  have hks0 := hks
  refine ret_of_run Tryz.func181 rfl Tryz.ntmps181 rfl ?_
  refine run_seq ?_
  refine run_region rfl ?_
  refine runl_op (t_boxA rfl) ?_
  rintro _ w1 ⟨b1, rfl, hb1, e1, n1, l1⟩
  have z1 := e1.size
  replace e := e.trans e1
  refine runl_ev (ev_assign rfl) ?_
  refine runl_nil ?_
  refine run_seq ?_
  refine run_seq ?_
  have hcs : (k.keys.length : Int) < 1 ∨ (¬ (k.keys.length : Int) < 1 ∧ (4 : Int) < k.keys.length) ∨ (¬ (k.keys.length : Int) < 1 ∧ ¬ (4 : Int) < k.keys.length ∧ k.need < 1) ∨ (¬ (k.keys.length : Int) < 1 ∧ ¬ (4 : Int) < k.keys.length ∧ ¬ k.need < 1 ∧ (k.keys.length : Int) < k.need) ∨ (¬ (k.keys.length : Int) < 1 ∧ ¬ (4 : Int) < k.keys.length ∧ ¬ k.need < 1 ∧ ¬ (k.keys.length : Int) < k.need) := by omega
  rcases hcs with h1 | ⟨h1, h2⟩ | ⟨h1, h2, h3⟩ | ⟨h1, h2, h3, h4⟩ | ⟨h1, h2, h3, h4⟩
  · refine run_region rfl ?_
    refine runl_ev (ev_fieldAddr fld_65_0 rfl) ?_
    refine runl_ev (ev_load1 cell_60 rfl (eqw (cell_blk hb1 rfl))) ?_
    refine runl_ev (ev_lenL sl_60 rfl) ?_
    refine runl_ev (ev_lss rfl rfl) ?_
    refine runl_ev (ev_move rfl) ?_
    refine runl_no_g rfl rfl (decide_eq_true h1) ?_
    refine runl_no_g rfl rfl (decide_eq_true h1) ?_
    refine runl_no_g rfl rfl (decide_eq_true h1) ?_
    refine runl_no_g rfl rfl (decide_eq_true h1) ?_
    refine runl_ev (ev_pick rfl rfl rfl (if_pos (decide_eq_true h1))) ?_
    refine runl_ev (ev_move rfl) ?_
    refine runl_no_g rfl rfl (rfl) ?_
    refine runl_no_g rfl rfl (rfl) ?_
    refine runl_no_g rfl rfl (rfl) ?_
    refine runl_ev (ev_pick rfl rfl rfl (if_pos (rfl))) ?_
    refine runl_ev (ev_move rfl) ?_
    refine runl_no_g rfl rfl (rfl) ?_
    refine runl_no_g rfl rfl (rfl) ?_
    refine runl_no_g rfl rfl (rfl) ?_
    refine runl_no_g rfl rfl (rfl) ?_
    refine runl_no_g rfl rfl (rfl) ?_
    refine runl_no_g rfl rfl (rfl) ?_
    refine runl_ev (ev_pick rfl rfl rfl (if_pos (rfl))) ?_
    refine runl_nil ?_
    refine run_cond_true rfl (rfl) ?_
    refine run_seq ?_
    refine run_region rfl ?_
    refine runl_ev (ev_assign rfl) ?_
    refine runl_nil ?_
    refine run_ret_any Tryz.func181 (res1 Tryz.results181 rfl) ?_
    exact ⟨by rw [keysF (.inl h1)], e⟩
  · refine run_region rfl ?_
    refine runl_ev (ev_fieldAddr fld_65_0 rfl) ?_
    refine runl_ev (ev_load1 cell_60 rfl (eqw (cell_blk hb1 rfl))) ?_
    refine runl_ev (ev_lenL sl_60 rfl) ?_
    refine runl_ev (ev_lss rfl rfl) ?_
    refine runl_ev (ev_move rfl) ?_
    refine runl_ev_g rfl rfl (decide_eq_false h1) (ev_fieldAddr fld_65_0 rfl) ?_
    refine runl_ev_g rfl rfl (decide_eq_false h1) (ev_load1 cell_60 rfl (eqw (cell_blk hb1 rfl))) ?_
    refine runl_ev_g rfl rfl (decide_eq_false h1) (ev_lenL sl_60 rfl) ?_
    refine runl_ev_g rfl rfl (decide_eq_false h1) (ev_gtr rfl rfl) ?_
    refine runl_ev (ev_pick rfl rfl rfl (if_neg (by simp; omega))) ?_
    refine runl_ev (ev_move rfl) ?_
    refine runl_no_g rfl rfl (decide_eq_true h2) ?_
    refine runl_no_g rfl rfl (decide_eq_true h2) ?_
    refine runl_no_g rfl rfl (decide_eq_true h2) ?_
    refine runl_ev (ev_pick rfl rfl rfl (if_pos (decide_eq_true h2))) ?_
    refine runl_ev (ev_move rfl) ?_
    refine runl_no_g rfl rfl (rfl) ?_
    refine runl_no_g rfl rfl (rfl) ?_
    refine runl_no_g rfl rfl (rfl) ?_
    refine runl_no_g rfl rfl (rfl) ?_
    refine runl_no_g rfl rfl (rfl) ?_
    refine runl_no_g rfl rfl (rfl) ?_
    refine runl_ev (ev_pick rfl rfl rfl (if_pos (rfl))) ?_
    refine runl_nil ?_
    refine run_cond_true rfl (rfl) ?_
    refine run_seq ?_
    refine run_region rfl ?_
    refine runl_ev (ev_assign rfl) ?_
    refine runl_nil ?_
    refine run_ret_any Tryz.func181 (res1 Tryz.results181 rfl) ?_
    exact ⟨by rw [keysF (.inr (.inl h2))], e⟩
  · refine run_region rfl ?_
    refine runl_ev (ev_fieldAddr fld_65_0 rfl) ?_
    refine runl_ev (ev_load1 cell_60 rfl (eqw (cell_blk hb1 rfl))) ?_
    refine runl_ev (ev_lenL sl_60 rfl) ?_
    refine runl_ev (ev_lss rfl rfl) ?_
    refine runl_ev (ev_move rfl) ?_
    refine runl_ev_g rfl rfl (decide_eq_false h1) (ev_fieldAddr fld_65_0 rfl) ?_
    refine runl_ev_g rfl rfl (decide_eq_false h1) (ev_load1 cell_60 rfl (eqw (cell_blk hb1 rfl))) ?_
    refine runl_ev_g rfl rfl (decide_eq_false h1) (ev_lenL sl_60 rfl) ?_
    refine runl_ev_g rfl rfl (decide_eq_false h1) (ev_gtr rfl rfl) ?_
    refine runl_ev (ev_pick rfl rfl rfl (if_neg (by simp; omega))) ?_
    refine runl_ev (ev_move rfl) ?_
    refine runl_ev_g rfl rfl (decide_eq_false h2) (ev_fieldAddr fld_65_1 rfl) ?_
    refine runl_ev_g rfl rfl (decide_eq_false h2) (ev_load1 cell_3 rfl (eqw (cell_blk hb1 rfl))) ?_
    refine runl_ev_g rfl rfl (decide_eq_false h2) (ev_lss rfl rfl) ?_
    refine runl_ev (ev_pick rfl rfl rfl (if_neg (by simp; omega))) ?_
    refine runl_ev (ev_move rfl) ?_
    refine runl_no_g rfl rfl (decide_eq_true h3) ?_
    refine runl_no_g rfl rfl (decide_eq_true h3) ?_
    refine runl_no_g rfl rfl (decide_eq_true h3) ?_
    refine runl_no_g rfl rfl (decide_eq_true h3) ?_
    refine runl_no_g rfl rfl (decide_eq_true h3) ?_
    refine runl_no_g rfl rfl (decide_eq_true h3) ?_
    refine runl_ev (ev_pick rfl rfl rfl (if_pos (decide_eq_true h3))) ?_
    refine runl_nil ?_
    refine run_cond_true rfl (rfl) ?_
    refine run_seq ?_
    refine run_region rfl ?_
    refine runl_ev (ev_assign rfl) ?_
    refine runl_nil ?_
    refine run_ret_any Tryz.func181 (res1 Tryz.results181 rfl) ?_
    exact ⟨by rw [keysF (.inr (.inr (.inl h3)))], e⟩
  · refine run_region rfl ?_
    refine runl_ev (ev_fieldAddr fld_65_0 rfl) ?_
    refine runl_ev (ev_load1 cell_60 rfl (eqw (cell_blk hb1 rfl))) ?_
    refine runl_ev (ev_lenL sl_60 rfl) ?_
    refine runl_ev (ev_lss rfl rfl) ?_
    refine runl_ev (ev_move rfl) ?_
    refine runl_ev_g rfl rfl (decide_eq_false h1) (ev_fieldAddr fld_65_0 rfl) ?_
    refine runl_ev_g rfl rfl (decide_eq_false h1) (ev_load1 cell_60 rfl (eqw (cell_blk hb1 rfl))) ?_
    refine runl_ev_g rfl rfl (decide_eq_false h1) (ev_lenL sl_60 rfl) ?_
    refine runl_ev_g rfl rfl (decide_eq_false h1) (ev_gtr rfl rfl) ?_
    refine runl_ev (ev_pick rfl rfl rfl (if_neg (by simp; omega))) ?_
    refine runl_ev (ev_move rfl) ?_
    refine runl_ev_g rfl rfl (decide_eq_false h2) (ev_fieldAddr fld_65_1 rfl) ?_
    refine runl_ev_g rfl rfl (decide_eq_false h2) (ev_load1 cell_3 rfl (eqw (cell_blk hb1 rfl))) ?_
    refine runl_ev_g rfl rfl (decide_eq_false h2) (ev_lss rfl rfl) ?_
    refine runl_ev (ev_pick rfl rfl rfl (if_neg (by simp; omega))) ?_
    refine runl_ev (ev_move rfl) ?_
    refine runl_ev_g rfl rfl (decide_eq_false h3) (ev_fieldAddr fld_65_1 rfl) ?_
    refine runl_ev_g rfl rfl (decide_eq_false h3) (ev_load1 cell_3 rfl (eqw (cell_blk hb1 rfl))) ?_
    refine runl_ev_g rfl rfl (decide_eq_false h3) (ev_fieldAddr fld_65_0 rfl) ?_
    refine runl_ev_g rfl rfl (decide_eq_false h3) (ev_load1 cell_60 rfl (eqw (cell_blk hb1 rfl))) ?_
    refine runl_ev_g rfl rfl (decide_eq_false h3) (ev_lenL sl_60 rfl) ?_
    refine runl_ev_g rfl rfl (decide_eq_false h3) (ev_gtr rfl rfl) ?_
    refine runl_ev (ev_pick rfl rfl rfl (if_neg (by simp; omega))) ?_
    refine runl_nil ?_
    refine run_cond_true rfl (decide_eq_true h4) ?_
    refine run_seq ?_
    refine run_region rfl ?_
    refine runl_ev (ev_assign rfl) ?_
    refine runl_nil ?_
    refine run_ret_any Tryz.func181 (res1 Tryz.results181 rfl) ?_
    exact ⟨by rw [keysF (.inr (.inr (.inr h4)))], e⟩
  · refine run_region rfl ?_
    refine runl_ev (ev_fieldAddr fld_65_0 rfl) ?_
    refine runl_ev (ev_load1 cell_60 rfl (eqw (cell_blk hb1 rfl))) ?_
    refine runl_ev (ev_lenL sl_60 rfl) ?_
    refine runl_ev (ev_lss rfl rfl) ?_
    refine runl_ev (ev_move rfl) ?_
    refine runl_ev_g rfl rfl (decide_eq_false h1) (ev_fieldAddr fld_65_0 rfl) ?_
    refine runl_ev_g rfl rfl (decide_eq_false h1) (ev_load1 cell_60 rfl (eqw (cell_blk hb1 rfl))) ?_
    refine runl_ev_g rfl rfl (decide_eq_false h1) (ev_lenL sl_60 rfl) ?_
    refine runl_ev_g rfl rfl (decide_eq_false h1) (ev_gtr rfl rfl) ?_
    refine runl_ev (ev_pick rfl rfl rfl (if_neg (by simp; omega))) ?_
    refine runl_ev (ev_move rfl) ?_
    refine runl_ev_g rfl rfl (decide_eq_false h2) (ev_fieldAddr fld_65_1 rfl) ?_
    refine runl_ev_g rfl rfl (decide_eq_false h2) (ev_load1 cell_3 rfl (eqw (cell_blk hb1 rfl))) ?_
    refine runl_ev_g rfl rfl (decide_eq_false h2) (ev_lss rfl rfl) ?_
    refine runl_ev (ev_pick rfl rfl rfl (if_neg (by simp; omega))) ?_
    refine runl_ev (ev_move rfl) ?_
    refine runl_ev_g rfl rfl (decide_eq_false h3) (ev_fieldAddr fld_65_1 rfl) ?_
    refine runl_ev_g rfl rfl (decide_eq_false h3) (ev_load1 cell_3 rfl (eqw (cell_blk hb1 rfl))) ?_
    refine runl_ev_g rfl rfl (decide_eq_false h3) (ev_fieldAddr fld_65_0 rfl) ?_
    refine runl_ev_g rfl rfl (decide_eq_false h3) (ev_load1 cell_60 rfl (eqw (cell_blk hb1 rfl))) ?_
    refine runl_ev_g rfl rfl (decide_eq_false h3) (ev_lenL sl_60 rfl) ?_
    refine runl_ev_g rfl rfl (decide_eq_false h3) (ev_gtr rfl rfl) ?_
    refine runl_ev (ev_pick rfl rfl rfl (if_neg (by simp; omega))) ?_
    refine runl_nil ?_
    refine run_cond_false rfl (decide_eq_false h4) ?_
    refine run_skip ?_
    refine run_seq ?_
    refine run_seq ?_
    refine run_region rfl ?_
    refine runl_ev (ev_assign rfl) ?_
    refine runl_nil ?_
    refine run_block ?_
    refine run_loop (ι := Nat) (fun j => [(1, .pointer (some ⟨b1, 0, none⟩)), (3, .int .i64 (j : Int))]) (fun j w' => j ≤ k.keys.length ∧ (k.keys.take j).Nodup ∧ w'.heap[b1]? = some (.cells ⟨[.slice a k.keys.length c, .int .i64 k.need]⟩ 65 (0, 0)) ∧ Ext w w') (fun j => k.keys.length - j) (0) ⟨rfl, rfl, trivial⟩ (⟨Nat.zero_le _, List.Pairwise.nil, hb1, e⟩) ?_
    clear e hb1
    intro j w1 ⟨hj, hnd, hb1, e⟩ IH
    have lb1 := lt_of_at hb1
    refine run_seq ?_
    refine run_seq ?_
    refine run_region rfl ?_
    refine runl_ev (ev_move rfl) ?_
    refine runl_ev (ev_fieldAddr fld_65_0 rfl) ?_
    refine runl_ev (ev_load1 cell_60 rfl (eqw (cell_blk hb1 rfl))) ?_
    refine runl_ev (ev_lenL sl_60 rfl) ?_
    refine runl_ev (ev_lss rfl rfl) ?_
    refine runl_nil ?_
    refine run_dcond rfl (fun hl => ?_) (fun hl => ?_)
    · have hj1 : j < k.keys.length := by omega
      obtain ⟨b2, o2, cs2, rfl, ⟨hh2, rfl⟩, hc2⟩ := hat j hj1
      refine run_skip ?_
      refine run_seq ?_
      refine run_block ?_
      refine run_seq ?_
      refine run_region rfl ?_
      refine runl_ev (ev_assign rfl) ?_
      refine runl_nil ?_
      refine run_block ?_
      refine run_loop (ι := Nat) (fun i => [(1, .pointer (some ⟨b1, 0, none⟩)), (3, .int .i64 (j : Int)), (4, .int .i64 (i : Int))]) (fun i w' => i ≤ j ∧ (∀ q (hq : q < i) (hq2 : q < k.keys.length), k.keys[j] ≠ k.keys[q]) ∧ w'.heap[b1]? = some (.cells ⟨[.slice (some ⟨b2, o2, none⟩) k.keys.length c, .int .i64 k.need]⟩ 65 (0, 0)) ∧ Ext w w') (fun i => j - i) (0) ⟨rfl, rfl, rfl, trivial⟩ (⟨Nat.zero_le _, fun q hq => absurd hq (by omega), hb1, e⟩) ?_
      clear e hb1
      intro i w2 ⟨hi, hne, hb1, e⟩ IH2
      have lb1 := lt_of_at hb1
      refine run_seq ?_
      refine run_seq ?_
      refine run_region rfl ?_
      refine runl_ev (ev_move rfl) ?_
      refine runl_ev (ev_move rfl) ?_
      refine runl_ev (ev_lss rfl rfl) ?_
      refine runl_nil ?_
      refine run_dcond rfl (fun hl2 => ?_) (fun hl2 => ?_)
      · have hi1 : i < j := by omega
        obtain ⟨b3, o3, cs3, he3, ⟨hh3, rfl⟩, hc3⟩ := hat i (by omega)
        cases he3
        refine run_skip ?_
        refine run_seq ?_
        refine run_block ?_
        refine run_seq ?_
        refine run_draw mo (fun w' => Ext w2 w') [] [(true, 0), (true, 1), (true, 2), (true, 3), (true, 4), (true, 5), (true, 6), (true, 7), (true, 8), (true, 9), (true, 10)] (by kernel_rfl) ?_
        intro wr9 er9
        have zr9 := er9.size
        have hsr9 := er9
        refine rund_ev hsr9 rfl (ev_fieldAddr fld_65_0 rfl) ?_
        refine rund_ev hsr9 rfl (ev_load1 cell_60 rfl (fun wz hz => cell_blk (hz.at hb1) rfl)) ?_
        refine rund_ev hsr9 rfl (ev_move rfl) ?_
        refine rund_ev hsr9 rfl (ev_indexAddr el_60 rfl rfl (by omega)) ?_
        refine rund_ev hsr9 rfl (ev_loadA agg_25 (by rw [hcells_length]; exact hh2) rfl (fun wz hz => hc2.ext (e.trans hz))) ?_
        refine rund_ev hsr9 rfl (ev_fieldAddr fld_65_0 rfl) ?_
        refine rund_ev hsr9 rfl (ev_load1 cell_60 rfl (fun wz hz => cell_blk (hz.at hb1) rfl)) ?_
        refine rund_ev hsr9 rfl (ev_move rfl) ?_
        refine rund_ev hsr9 rfl (ev_indexAddr el_60 rfl rfl (by omega)) ?_
        refine rund_ev hsr9 rfl (ev_loadA agg_25 (by rw [hcells_length]; exact hh3) rfl (fun wz hz => hc3.ext (e.trans hz))) ?_
        refine rund_ev hsr9 rfl (ev_eqlA rfl rfl eg_25 (eqv_hash Tryz.underlying25 Tryz.underlying5 sz_5 hh2 hh3)) ?_
        refine rund_nil ?_
        replace e := e.trans er9
        replace hb1 := er9.at hb1
        refine run_cond_split rfl (fun hm => ?_) (fun hm => ?_)
        · have hm : decide (k.keys[j] = k.keys[i]) = true := hm
          refine run_seq ?_
          refine run_region rfl ?_
          refine runl_ev (ev_assign rfl) ?_
          refine runl_nil ?_
          refine run_ret_any Tryz.func181 (res1 Tryz.results181 rfl) ?_
          exact ⟨by rw [keysN (not_nodup_at hj1 hi1 (of_decide_eq_true hm))], e⟩
        · have hm : decide (k.keys[j] = k.keys[i]) = false := hm
          refine run_skip ?_
          refine run_inBlock ?_
          refine run_region rfl ?_
          refine runl_ev (ev_move rfl) ?_
          refine runl_ev (ev_add rfl rfl (by omega) (by omega)) ?_
          refine runl_ev (ev_assign rfl) ?_
          refine runl_nil ?_
          exact IH2 (i + 1) _ _ (by omega) ⟨rfl, rfl, rfl, trivial⟩ ⟨by omega, fun q hq hq2 => by
            by_cases hqi : q = i
            · subst hqi; exact of_decide_eq_false hm
            · exact hne q (by omega) hq2, hb1, e⟩
      · obtain rfl : i = j := by omega
        refine run_exit rfl ?_
        refine run_inBlock ?_
        refine run_region rfl ?_
        refine runl_ev (ev_move rfl) ?_
        refine runl_ev (ev_add rfl rfl (by omega) (by omega)) ?_
        refine runl_ev (ev_assign rfl) ?_
        refine runl_nil ?_
        exact IH (i + 1) _ _ (by omega) ⟨rfl, rfl, trivial⟩ ⟨by omega, nodup_take_succ hj1 hnd (mem_take_none hj1 fun q hq => hne q hq (by omega)), hb1, e⟩
    · obtain rfl : j = k.keys.length := by omega
      rw [List.take_length] at hnd
      refine run_exit rfl ?_
      refine run_seq ?_
      refine run_region rfl ?_
      refine runl_ev (ev_assign rfl) ?_
      refine runl_nil ?_
      refine run_ret_any Tryz.func181 (res1 Tryz.results181 rfl) ?_
      exact ⟨by rw [keysT h1 h2 h3 h4 hnd], e⟩
theorem rnums_any (ns : List Int) (w : World) (a : Option Addr) (n c : Nat) (hs : SlAt 1 RInt w (.slice a n c) ns) (hn : ns.length ≤ 1099511627776) : Ret Tryz.prog 177 [.slice a n c] w fun r w' => r = .bool (ns.all numB) ∧ Ext w w' := by
  have e := ExtB.refl (fun _ => False) w
  obtain ⟨rfl, hat⟩ := hs.at
  refine ret_of_run Tryz.func177 rfl Tryz.ntmps177 rfl ?_
  refine run_seq ?_
  refine run_region rfl ?_
  refine runl_ev (ev_assign rfl) ?_
  refine runl_nil ?_
  refine run_seq ?_
  refine run_seq ?_
  refine run_region rfl ?_
  refine runl_ev (ev_assign rfl) ?_
  refine runl_nil ?_
  refine run_block ?_
  refine run_loop (ι := Nat) (fun k => [(0, .slice a ns.length c), (3, .int .i64 (k : Int))]) (fun k w' => k ≤ ns.length ∧ (ns.take k).all numB = true ∧ Ext w w') (fun k => ns.length - k) (0) ⟨rfl, rfl, trivial⟩ (⟨Nat.zero_le _, rfl, e⟩) ?_
  clear e
  intro k w1 ⟨hk, hall, e⟩ IH
  refine run_seq ?_
  refine run_seq ?_
  refine run_region rfl ?_
  refine runl_ev (ev_move rfl) ?_
  refine runl_ev (ev_move rfl) ?_
  refine runl_ev (ev_lenL sl_248 rfl) ?_
  refine runl_ev (ev_lss rfl rfl) ?_
  refine runl_nil ?_
  refine run_dcond rfl (fun h0 => ?_) (fun h0 => ?_)
  · have hk1 : k < ns.length := by omega
    obtain ⟨b1, o1, cs1, rfl, hr1, hc1⟩ := hat k hk1
    obtain rfl := hr1
    refine run_skip ?_
    refine run_seq ?_
    refine run_block ?_
    refine run_seq ?_
    by_cases h1 : ns[k] < 0
    · refine run_region rfl ?_
      refine runl_ev (ev_move rfl) ?_
      refine runl_ev (ev_move rfl) ?_
      refine runl_ev (ev_indexAddr el_248 rfl rfl (by omega)) ?_
      refine runl_ev (ev_load1 cell_3 rfl (eqw (hc1.ext e))) ?_
      refine runl_ev (ev_lss rfl rfl) ?_
      refine runl_ev (ev_move rfl) ?_
      refine runl_no_g rfl rfl (decide_eq_true h1) ?_
      refine runl_no_g rfl rfl (decide_eq_true h1) ?_
      refine runl_no_g rfl rfl (decide_eq_true h1) ?_
      refine runl_no_g rfl rfl (decide_eq_true h1) ?_
      refine runl_no_g rfl rfl (decide_eq_true h1) ?_
      refine runl_ev (ev_pick rfl rfl rfl (if_pos (decide_eq_true h1))) ?_
      refine runl_nil ?_
      refine run_cond_true rfl (rfl) ?_
      refine run_seq ?_
      refine run_region rfl ?_
      refine runl_ev (ev_assign rfl) ?_
      refine runl_nil ?_
      refine run_ret_any Tryz.func177 (res1 Tryz.results177 rfl) ?_
      exact ⟨by rw [all_no hk1 (by simp only [numB]; rw [decide_eq_false (by omega)]; rfl)], e⟩
    · refine run_region rfl ?_
      refine runl_ev (ev_move rfl) ?_
      refine runl_ev (ev_move rfl) ?_
      refine runl_ev (ev_indexAddr el_248 rfl rfl (by omega)) ?_
      refine runl_ev (ev_load1 cell_3 rfl (eqw (hc1.ext e))) ?_
      refine runl_ev (ev_lss rfl rfl) ?_
      refine runl_ev (ev_move rfl) ?_
      refine runl_ev_g rfl rfl (decide_eq_false h1) (ev_move rfl) ?_
      refine runl_ev_g rfl rfl (decide_eq_false h1) (ev_move rfl) ?_
      refine runl_ev_g rfl rfl (decide_eq_false h1) (ev_indexAddr el_248 rfl rfl (by omega)) ?_
      refine runl_ev_g rfl rfl (decide_eq_false h1) (ev_load1 cell_3 rfl (eqw (hc1.ext e))) ?_
      refine runl_ev_g rfl rfl (decide_eq_false h1) (ev_gtr rfl rfl) ?_
      refine runl_ev (ev_pick rfl rfl rfl (if_neg (by simp; omega))) ?_
      refine runl_nil ?_
      refine run_dcond rfl (fun h2 => ?_) (fun h2 => ?_)
      · refine run_seq ?_
        refine run_region rfl ?_
        refine runl_ev (ev_assign rfl) ?_
        refine runl_nil ?_
        refine run_ret_any Tryz.func177 (res1 Tryz.results177 rfl) ?_
        exact ⟨by rw [all_no hk1 (by simp only [numB]; rw [decide_eq_false (by omega : ¬ ns[k] ≤ 1073741824)]; simp)], e⟩
      · have hn1 : numB ns[k] = true := by simp only [numB]; rw [decide_eq_true (by omega : 0 ≤ ns[k]), decide_eq_true (by omega : ns[k] ≤ 1073741824)]; rfl
        refine run_skip ?_
        refine run_inBlock ?_
        refine run_region rfl ?_
        refine runl_ev (ev_move rfl) ?_
        refine runl_ev (ev_add rfl rfl (by omega) (by omega)) ?_
        refine runl_ev (ev_assign rfl) ?_
        refine runl_nil ?_
        exact IH (k + 1) _ _ (by omega) ⟨rfl, rfl, trivial⟩ ⟨by omega, all_take_succ hk1 hall hn1, e⟩
  · obtain rfl : k = ns.length := by omega
    rw [List.take_length] at hall
    refine run_exit rfl ?_
    refine run_seq ?_
    refine run_region rfl ?_
    refine runl_ev (ev_assign rfl) ?_
    refine runl_nil ?_
    refine run_ret_any Tryz.func177 (res1 Tryz.results177 rfl) ?_
    exact ⟨by rw [hall], e⟩
theorem isroot_any (r : RootP) (cs : List Value) (w : World) (hr : RRoot w r cs) : Ret Tryz.prog 127 [.agg ⟨cs⟩] w fun v w' => v = .bool (isRootP r) ∧ Ext w w' := by
  have e := ExtB.refl (fun _ => False) w
  obtain ⟨ks, rfl, hkl, hrl, hks⟩ := hr
  refine ret_of_run Tryz.func127 rfl Tryz.ntmps127 rfl ?_
  refine run_seq ?_
  refine run_region rfl ?_
  refine runl_op (t_boxA rfl) ?_
  rintro _ w1 ⟨b1, rfl, hb1, e1, n1, l1⟩
  have z1 := e1.size
  replace e := e.trans e1
  refine runl_ev (ev_assign rfl) ?_
  refine runl_nil ?_
  refine run_seq ?_
  refine run_seq ?_
  refine run_region rfl ?_
  refine runl_ev (ev_fieldAddr fld_68_2 rfl) ?_
  refine runl_ev (ev_loadA agg_66 (hkl : ks.length = 8) rfl (eqw (cells_blk (c := ⟨.int .i64 r.ver :: .int .i64 r.exp :: ks⟩) hb1 (fun i v hv => by rw [show 0 + 2 + i = i + 2 by omega]; simpa using hv)))) ?_
  refine runl_ev (ev_move rfl) ?_
  refine runl_nil ?_
  refine run_block ?_
  refine run_loop (ι := Nat) (fun k => [(1, .pointer (some ⟨b1, 0, none⟩)), (6, .agg ⟨ks⟩), (7, .int .i64 (k : Int))]) (fun k w' => k ≤ 4 ∧ (r.roles.take k).all isKeysP = true ∧ w'.heap[b1]? = some (.cells ⟨.int .i64 r.ver :: .int .i64 r.exp :: ks⟩ 68 (0, 0)) ∧ Ext w w') (fun k => 4 - k) (0) ⟨rfl, rfl, rfl, trivial⟩ (⟨Nat.zero_le _, rfl, hb1, e⟩) ?_
  clear e hb1
  intro k w1 ⟨hk, hall, hb1, e⟩ IH
  have lb1 := lt_of_at hb1
  refine run_seq ?_
  refine run_region rfl ?_
  refine runl_ev (ev_lss rfl rfl) ?_
  refine runl_nil ?_
  refine run_seq ?_
  refine run_dcond rfl (fun h0 => ?_) (fun h0 => ?_)
  · have hk1 : k < r.roles.length := by omega
    obtain ⟨c2, hseg, hrk⟩ := RKeys.seg hks hk1
    have hc2l := rkeys_len _ _ _ hrk
    have hseg2 : (((.int .i64 r.ver :: .int .i64 r.exp :: ks).drop 2).drop (k * 2)).take 2 = c2 := hseg
    rw [List.drop_drop] at hseg2
    refine run_skip ?_
    refine run_seq ?_
    refine run_block ?_
    refine run_seq ?_
    refine run_region rfl ?_
    refine runl_ev (ev_indexAA arr_66 agg_65 rfl rfl (by omega) (hseg)) ?_
    refine runl_op (t_alloc zero_65 rfl) ?_
    rintro _ w4 ⟨b4, rfl, hb4, e4, n4, l4⟩
    have z4 := e4.size
    replace e := e.trans e4
    replace hb1 := e4.at hb1
    refine runl_do (t_storeW sz_65 rfl rfl hc2l rfl hb4 (rkeys_one _ _ hrk)) ?_
    rintro _ v3_2 ⟨hq3_2, e3_2, z3_2⟩
    replace e := e.new1 e3_2 (by omega)
    replace hb1 := e3_2.at1 hb1 (by omega)
    replace hb4 := hq3_2
    clear hq3_2
    refine runl_nil ?_
    refine run_seq ?_
    refine run_region rfl ?_
    refine runl_ev (ev_loadA agg_65 hc2l rfl (eqw (cells_all hb4))) ?_
    refine runl_op (t_call call_183 rfl (iskeys_any r.roles[k] c2 _ (RKeys.stable _ _ _ _ e hrk))) ?_
    rintro _ w11 ⟨rfl, e11⟩
    have z11 := e11.size
    replace e := e.trans e11
    replace hb1 := e11.at hb1
    replace hb4 := e11.at hb4
    refine runl_ev (ev_not rfl) ?_
    refine runl_nil ?_
    refine run_cond_split rfl (fun h1 => ?_) (fun h1 => ?_)
    · have hik : isKeysP r.roles[k] = false := by simpa using h1
      have hf : isRootP r = false := by unfold isRootP; rw [all_no hk1 hik]; rfl
      refine run_seq ?_
      refine run_region rfl ?_
      refine runl_ev (ev_assign rfl) ?_
      refine runl_nil ?_
      refine run_ret_any Tryz.func127 (res1 Tryz.results127 rfl) ?_
      exact ⟨by rw [hf], e⟩
    · have hik : isKeysP r.roles[k] = true := by simpa using h1
      refine run_skip ?_
      refine run_inBlock ?_
      refine run_region rfl ?_
      refine runl_ev (ev_add rfl rfl (by omega) (by omega)) ?_
      refine runl_ev (ev_move rfl) ?_
      refine runl_nil ?_
      exact IH (k + 1) _ _ (by omega) ⟨rfl, rfl, rfl, trivial⟩ ⟨by omega, all_take_succ hk1 hall hik, hb1, e⟩
  · obtain rfl : k = 4 := by omega
    rw [← hrl, List.take_length] at hall
    refine run_exit rfl ?_
    refine run_seq ?_
    refine run_region rfl ?_
    refine runl_ev (ev_fieldAddr fld_68_0 rfl) ?_
    refine runl_ev (ev_load1 cell_3 rfl (eqw (cell_blk hb1 rfl))) ?_
    refine runl_op (t_call call_156 rfl (isver_any r.ver _)) ?_
    rintro _ w16 ⟨rfl, e16⟩
    have z16 := e16.size
    replace e := e.trans e16
    replace hb1 := e16.at hb1
    cases hv : verB r.ver
    · refine runl_ev (ev_move rfl) ?_
      refine runl_no_g rfl rfl (rfl) ?_
      refine runl_no_g rfl rfl (rfl) ?_
      refine runl_no_g rfl rfl (rfl) ?_
      refine runl_ev (ev_pick rfl rfl rfl (if_neg (by simp))) ?_
      refine runl_ev (ev_assign rfl) ?_
      refine runl_nil ?_
      refine run_ret_any Tryz.func127 (res1 Tryz.results127 rfl) ?_
      exact ⟨by simp [isRootP, hv], e⟩
    · refine runl_ev (ev_move rfl) ?_
      refine runl_ev_g rfl rfl (rfl) (ev_fieldAddr fld_68_1 rfl) ?_
      refine runl_ev_g rfl rfl (rfl) (ev_load1 cell_3 rfl (eqw (cell_blk hb1 rfl))) ?_
      refine runl_op_g rfl rfl (rfl) (t_call call_157 rfl (isnum_any r.exp _)) ?_
      rintro _ w20 ⟨rfl, e20⟩
      have z20 := e20.size
      replace e := e.trans e20
      replace hb1 := e20.at hb1
      refine runl_ev (ev_pick rfl rfl rfl (if_pos (rfl))) ?_
      refine runl_ev (ev_assign rfl) ?_
      refine runl_nil ?_
      refine run_ret_any Tryz.func127 (res1 Tryz.results127 rfl) ?_
      exact ⟨by simp [isRootP, hv, hall], e⟩
theorem risroot_any (r : RootP) (cs : List Value) (w : World) (hr : RRoot w r cs) : Ret Tryz.prog 135 [.agg ⟨cs⟩] w fun v w' => v = .bool (isRootP r) ∧ Ext w w' := by
  have e := ExtB.refl (fun _ => False) w
  obtain ⟨ks, rfl, hkl, hrl, hks⟩ := hr
  refine ret_of_run Tryz.func135 rfl Tryz.ntmps135 rfl ?_
  refine run_seq ?_
  refine run_region rfl ?_
  refine runl_op (t_boxA rfl) ?_
  rintro _ w1 ⟨b1, rfl, hb1, e1, n1, l1⟩
  have z1 := e1.size
  replace e := e.trans e1
  refine runl_ev (ev_assign rfl) ?_
  refine runl_nil ?_
  refine run_seq ?_
  refine run_seq ?_
  refine run_region rfl ?_
  refine runl_ev (ev_assign rfl) ?_
  refine runl_nil ?_
  refine run_block ?_
  refine run_loop (ι := Nat) (fun k => [(1, .pointer (some ⟨b1, 0, none⟩)), (3, .int .i64 (k : Int))]) (fun k w' => k ≤ 4 ∧ (r.roles.take k).all isKeysP = true ∧ w'.heap[b1]? = some (.cells ⟨.int .i64 r.ver :: .int .i64 r.exp :: ks⟩ 68 (0, 0)) ∧ Ext w w') (fun k => 4 - k) (0) ⟨rfl, rfl, trivial⟩ (⟨Nat.zero_le _, rfl, hb1, e⟩) ?_
  clear e hb1
  intro k w1 ⟨hk, hall, hb1, e⟩ IH
  have lb1 := lt_of_at hb1
  refine run_seq ?_
  refine run_seq ?_
  refine run_region rfl ?_
  refine runl_ev (ev_move rfl) ?_
  refine runl_ev (ev_lss rfl rfl) ?_
  refine runl_nil ?_
  refine run_dcond rfl (fun h0 => ?_) (fun h0 => ?_)
  · have hk1 : k < r.roles.length := by omega
    obtain ⟨c2, hseg, hrk⟩ := RKeys.seg hks hk1
    have hc2l := rkeys_len _ _ _ hrk
    have hseg2 : (((.int .i64 r.ver :: .int .i64 r.exp :: ks).drop 2).drop (k * 2)).take 2 = c2 := hseg
    rw [List.drop_drop] at hseg2
    refine run_skip ?_
    refine run_seq ?_
    refine run_block ?_
    refine run_seq ?_
    refine run_region rfl ?_
    refine runl_ev (ev_move rfl) ?_
    refine runl_ev (ev_fieldAddr fld_68_2 rfl) ?_
    refine runl_ev (ev_indexAddrA arr_66 rfl rfl (by omega)) ?_
    refine runl_ev (ev_loadA agg_65 hc2l rfl (eqw ((cells_all hb1).seg c2 (2 + k * 2) (by omega) (by rw [hc2l, Nat.add_comm]; first | exact hseg2.symm | (rw [Nat.add_comm]; exact hseg2.symm))))) ?_
    refine runl_op (t_call call_181 rfl (riskeys_any r.roles[k] c2 _ (RKeys.stable _ _ _ _ e hrk))) ?_
    rintro _ w12 ⟨rfl, e12⟩
    have z12 := e12.size
    replace e := e.trans e12
    replace hb1 := e12.at hb1
    refine runl_ev (ev_not rfl) ?_
    refine runl_nil ?_
    refine run_cond_split rfl (fun h1 => ?_) (fun h1 => ?_)
    · have hik : isKeysP r.roles[k] = false := by simpa using h1
      have hf : isRootP r = false := by unfold isRootP; rw [all_no hk1 hik]; rfl
      refine run_seq ?_
      refine run_region rfl ?_
      refine runl_ev (ev_assign rfl) ?_
      refine runl_nil ?_
      refine run_ret_any Tryz.func135 (res1 Tryz.results135 rfl) ?_
      exact ⟨by rw [hf], e⟩
    · have hik : isKeysP r.roles[k] = true := by simpa using h1
      refine run_skip ?_
      refine run_inBlock ?_
      refine run_region rfl ?_
      refine runl_ev (ev_move rfl) ?_
      refine runl_ev (ev_add rfl rfl (by omega) (by omega)) ?_
      refine runl_ev (ev_assign rfl) ?_
      refine runl_nil ?_
      exact IH (k + 1) _ _ (by omega) ⟨rfl, rfl, trivial⟩ ⟨by omega, all_take_succ hk1 hall hik, hb1, e⟩
  · obtain rfl : k = 4 := by omega
    rw [← hrl, List.take_length] at hall
    refine run_exit rfl ?_
    refine run_seq ?_
    refine run_region rfl ?_
    refine runl_ev (ev_fieldAddr fld_68_0 rfl) ?_
    refine runl_ev (ev_load1 cell_3 rfl (eqw (cell_blk hb1 rfl))) ?_
    refine runl_op (t_call call_176 rfl (rver_any r.ver _)) ?_
    rintro _ w16 ⟨rfl, e16⟩
    have z16 := e16.size
    replace e := e.trans e16
    replace hb1 := e16.at hb1
    cases hv : verB r.ver
    · refine runl_ev (ev_move rfl) ?_
      refine runl_no_g rfl rfl (rfl) ?_
      refine runl_no_g rfl rfl (rfl) ?_
      refine runl_no_g rfl rfl (rfl) ?_
      refine runl_no_g rfl rfl (rfl) ?_
      refine runl_ev (ev_pick rfl rfl rfl (if_neg (by simp))) ?_
      refine runl_ev (ev_assign rfl) ?_
      refine runl_nil ?_
      refine run_ret_any Tryz.func135 (res1 Tryz.results135 rfl) ?_
      exact ⟨by simp [isRootP, hv], e⟩
    · refine runl_ev (ev_move rfl) ?_
      refine runl_ev_g rfl rfl (rfl) (ev_fieldAddr fld_68_1 rfl) ?_
      refine runl_ev_g rfl rfl (rfl) (ev_load1 cell_3 rfl (eqw (cell_blk hb1 rfl))) ?_
      refine runl_op_g rfl rfl (rfl) (t_buildSlice (out := [.int .i64 r.exp]) Tryz.underlying248 sz_3 zero_3 rfl rfl (by decide) (by decide) rfl (rfl)) ?_
      rintro _ w20 ⟨b20, rfl, hb20, e20, n20, l20⟩
      have z20 := e20.size
      replace e := e.trans e20
      replace hb1 := e20.at hb1
      refine runl_op_g rfl rfl (rfl) (t_call call_177 rfl (rnums_any [r.exp] _ _ _ _ (sl_lit (l := [r.exp]) (R := RInt) hb20 (pc rfl pn)) (by simp))) ?_
      rintro _ w21 ⟨rfl, e21⟩
      have z21 := e21.size
      replace e := e.trans e21
      replace hb1 := e21.at hb1
      replace hb20 := e21.at hb20
      refine runl_ev (ev_pick rfl rfl rfl (if_pos (rfl))) ?_
      refine runl_ev (ev_assign rfl) ?_
      refine runl_nil ?_
      refine run_ret_any Tryz.func135 (res1 Tryz.results135 rfl) ?_
      exact ⟨by simp [isRootP, hv, hall], e⟩
theorem istime_any (t : TimeP) (ht : t.sum.length = 32) (w : World) : Ret Tryz.prog 101 [.agg ⟨t.cells⟩] w fun v w' => v = .bool (isTimeP t) ∧ Ext w w' := by
  have e := ExtB.refl (fun _ => False) w
  refine ret_of_run Tryz.func101 rfl Tryz.ntmps101 rfl ?_
  refine run_seq ?_
  refine run_region rfl ?_
  refine runl_op (t_boxA rfl) ?_
  rintro _ w1 ⟨b1, rfl, hb1, e1, n1, l1⟩
  have z1 := e1.size
  replace e := e.trans e1
  refine runl_ev (ev_assign rfl) ?_
  refine runl_nil ?_
  refine run_seq ?_
  refine run_region rfl ?_
  refine runl_ev (ev_fieldAddr fld_37_0 rfl) ?_
  refine runl_ev (ev_load1 cell_3 rfl (eqw (cell_blk hb1 rfl))) ?_
  refine runl_op (t_call call_156 rfl (isver_any t.ver _)) ?_
  rintro _ w5 ⟨rfl, e5⟩
  have z5 := e5.size
  replace e := e.trans e5
  replace hb1 := e5.at hb1
  cases hv : verB t.ver
  · refine runl_ev (ev_move rfl) ?_
    refine runl_no_g rfl rfl (rfl) ?_
    refine runl_no_g rfl rfl (rfl) ?_
    refine runl_no_g rfl rfl (rfl) ?_
    refine runl_ev (ev_pick rfl rfl rfl (if_neg (by simp))) ?_
    refine runl_ev (ev_move rfl) ?_
    refine runl_no_g rfl rfl (rfl) ?_
    refine runl_no_g rfl rfl (rfl) ?_
    refine runl_no_g rfl rfl (rfl) ?_
    refine runl_ev (ev_pick rfl rfl rfl (if_neg (by simp))) ?_
    refine runl_ev (ev_assign rfl) ?_
    refine runl_nil ?_
    refine run_ret_any Tryz.func101 (res1 Tryz.results101 rfl) ?_
    exact ⟨by simp [isTimeP, hv], e⟩
  · refine runl_ev (ev_move rfl) ?_
    refine runl_ev_g rfl rfl (rfl) (ev_fieldAddr fld_37_1 rfl) ?_
    refine runl_ev_g rfl rfl (rfl) (ev_load1 cell_3 rfl (eqw (cell_blk hb1 rfl))) ?_
    refine runl_op_g rfl rfl (rfl) (t_call call_157 rfl (isnum_any t.exp _)) ?_
    rintro _ w9 ⟨rfl, e9⟩
    have z9 := e9.size
    replace e := e.trans e9
    replace hb1 := e9.at hb1
    cases hx : numB t.exp
    · refine runl_ev (ev_pick rfl rfl rfl (if_pos (rfl))) ?_
      refine runl_ev (ev_move rfl) ?_
      refine runl_no_g rfl rfl (rfl) ?_
      refine runl_no_g rfl rfl (rfl) ?_
      refine runl_no_g rfl rfl (rfl) ?_
      refine runl_ev (ev_pick rfl rfl rfl (if_neg (by simp))) ?_
      refine runl_ev (ev_assign rfl) ?_
      refine runl_nil ?_
      refine run_ret_any Tryz.func101 (res1 Tryz.results101 rfl) ?_
      exact ⟨by simp [isTimeP, hv, hx], e⟩
    · refine runl_ev (ev_pick rfl rfl rfl (if_pos (rfl))) ?_
      refine runl_ev (ev_move rfl) ?_
      refine runl_ev_g rfl rfl (rfl) (ev_fieldAddr fld_37_2 rfl) ?_
      refine runl_ev_g rfl rfl (rfl) (ev_load1 cell_3 rfl (eqw (cell_blk hb1 rfl))) ?_
      refine runl_op_g rfl rfl (rfl) (t_call call_156 rfl (isver_any t.snap _)) ?_
      rintro _ w14 ⟨rfl, e14⟩
      have z14 := e14.size
      replace e := e.trans e14
      replace hb1 := e14.at hb1
      refine runl_ev (ev_pick rfl rfl rfl (if_pos (rfl))) ?_
      refine runl_ev (ev_assign rfl) ?_
      refine runl_nil ?_
      refine run_ret_any Tryz.func101 (res1 Tryz.results101 rfl) ?_
      exact ⟨by simp [isTimeP, hv, hx], e⟩
end Go.Proofs.YtlgkdnmklgbhbaaGreatDoor
/- The walks of what encodes roots and times, and of the reference's. -/
namespace Go.Proofs.YtlgkdnmklgbhbaaGreatDoor
open Go Go.Fw
set_option maxRecDepth 100000

theorem encroot1_any {l : List UInt8} {w0 w : World} {wb : Nat} {g : Int} {v : Value} {T : TypeId} (st : WSt T 5 w0 w wb g v l) (r : RootP) (cs : List Value) (xb : Nat) (hx : w0.heap[xb]? = some (.cells ⟨cs⟩ 68 (0, 0))) (hr : RRoot w0 r cs) (hkl : ∀ k ∈ r.roles, k.keys.length ≤ 1099511627776) (hb : l.length + (encRoot r).length ≤ 1099511627776) :
    Ret Tryz.prog 128 [.pointer (some ⟨wb, 0, none⟩), .pointer (some ⟨xb, 0, none⟩)] w (WP T 5 w0 w wb g l (encRoot r)) := by
  have e := ExtB.refl (fun _ => False) w
  have lwb := lt_of_at st.hw
  have hgl := st.hgl
  have lxb := lt_of_at hx
  have hwb := st.hwb
  have hg0 := st.hg
  replace hx := st.ext.at hx
  obtain ⟨ks, rfl, hkz, hrl, hks⟩ := hr
  have henc : encRoot r = encNs [r.ver, r.exp] ++ r.roles.flatMap encKeys := by simp [encRoot, encNs]
  rw [henc] at hb ⊢
  rw [List.length_append] at hb
  refine ret_of_run Tryz.func128 rfl Tryz.ntmps128 rfl ?_
  refine run_seq ?_
  refine run_draw mo (fun w' => Ext w w') [8] [(true, 0), (true, 1), (true, 2), (true, 3), (true, 4), (true, 5), (true, 6), (false, 7), (false, 8)] (by kernel_rfl) ?_
  intro wr0 er0
  have zr0 := er0.size
  have hsr0 := er0
  have ep := e.trans er0
  have hxp := er0.at hx
  refine rund_ev hsr0 rfl (ev_move rfl) ?_
  refine rund_ev hsr0 rfl (ev_nilCheck rfl) ?_
  refine rund_ev hsr0 rfl (ev_fieldAddr fld_175_0 rfl) ?_
  refine rund_ev hsr0 rfl (ev_fieldAddr fld_68_0 rfl) ?_
  refine rund_ev hsr0 rfl (ev_load1 cell_3 rfl (fun wz hz => cell_blk (hz.at hx) rfl)) ?_
  refine rund_ev hsr0 rfl (ev_fieldAddr fld_68_1 rfl) ?_
  refine rund_ev hsr0 rfl (ev_load1 cell_3 rfl (fun wz hz => cell_blk (hz.at hx) rfl)) ?_
  refine rund_op rfl (t_buildSlice (out := [.int .i64 r.ver, .int .i64 r.exp]) Tryz.underlying248 sz_3 zero_3 rfl rfl (by decide) (by decide) rfl (rfl)) ?_
  rintro _ w12 ⟨b12, rfl, hb12, e12, n12, l12⟩
  have z12 := e12.size
  replace ep := ep.trans e12
  replace hxp := e12.at hxp
  have hs12 := hsr0.trans e12
  refine ⟨hs12, ?_⟩
  have hb12p := hb12
  refine rund_opT rfl rfl (t_call call_92 rfl (wnums_any (st.up ep) [r.ver, r.exp] _ _ _ (sl_lit (l := [r.ver, r.exp]) (R := RInt) hb12p (pc rfl (pc rfl pn))) (fun b o h => by cases h; exact ⟨by omega, by omega⟩) (by simp) (by omega))) ?_
  rintro _ w13 ⟨rfl, v13, g13, p13⟩
  have q13 := p13.from ep
  have z13 := q13.extB.size
  replace hxp := p13.extB.at hxp (fun h => by rcases h with h | h <;> omega)
  refine rund_nil ?_
  replace hx := hxp
  clear hxp
  have e := ExtB.refl (fun _ => False) w13
  refine run_seq ?_
  refine run_region rfl ?_
  refine runl_ev (ev_fieldAddr fld_68_2 rfl) ?_
  refine runl_ev (ev_loadA agg_66 (hkz : ks.length = 8) rfl (eqw (cells_blk (c := ⟨.int .i64 r.ver :: .int .i64 r.exp :: ks⟩) hx (fun i v hv => by rw [show 0 + 2 + i = i + 2 by omega]; simpa using hv)))) ?_
  refine runl_ev (ev_move rfl) ?_
  refine runl_nil ?_
  refine run_block ?_
  refine run_loop (ι := Nat × Value × Int) (fun x => [(0, .pointer (some ⟨wb, 0, none⟩)), (1, .pointer (some ⟨xb, 0, none⟩)), (15, .agg ⟨ks⟩), (16, .int .i64 (x.1 : Int))]) (fun x w1 => x.1 ≤ 4 ∧ WPost T 5 w0 w wb g l (encNs [r.ver, r.exp] ++ (r.roles.take x.1).flatMap encKeys) x.2.1 x.2.2 w1) (fun x => 4 - x.1) ((0, v13, g13)) ⟨rfl, rfl, rfl, rfl, trivial⟩ (⟨Nat.zero_le _, by simpa using q13⟩) ?_
  clear q13 p13 e
  intro ⟨k, v1, g1⟩ w1 ⟨hk, po⟩ IH
  simp only at hk po
  have e := ExtB.refl (fun _ => False) w1
  have hgl1 := po.st.hgl
  have lwb1 := lt_of_at po.st.hw
  refine run_seq ?_
  refine run_region rfl ?_
  refine runl_ev (ev_lss rfl rfl) ?_
  refine runl_nil ?_
  refine run_seq ?_
  refine run_dcond rfl (fun h0 => ?_) (fun h0 => ?_)
  · have hk1 : k < r.roles.length := by omega
    obtain ⟨c2, hseg, hrk⟩ := RKeys.seg hks hk1
    have hc2l := rkeys_len _ _ _ hrk
    have hk2 := hkl _ (List.getElem_mem hk1)
    have htk := flat_take (f := encKeys) hk1
    have htl := flat_take_le (f := encKeys) (l := r.roles) (k + 1)
    rw [htk, List.length_append] at htl
    have htl0 : (l ++ (encNs [r.ver, r.exp] ++ (r.roles.take k).flatMap encKeys)).length = l.length + (encNs [r.ver, r.exp]).length + ((r.roles.take k).flatMap encKeys).length := by simp only [List.length_append]; omega
    refine run_skip ?_
    refine run_seq ?_
    refine run_block ?_
    refine run_seq ?_
    refine run_region rfl ?_
    refine runl_ev (ev_indexAA arr_66 agg_65 rfl rfl (by omega) (hseg)) ?_
    refine runl_op (t_alloc zero_65 rfl) ?_
    rintro _ w4 ⟨b4, rfl, hb4, e4, n4, l4⟩
    have z4 := e4.size
    replace e := e.trans e4
    refine runl_do (t_storeW sz_65 rfl rfl hc2l rfl hb4 (rkeys_one _ _ hrk)) ?_
    rintro _ v3_2 ⟨hq3_2, e3_2, z3_2⟩
    replace e := e.new1 e3_2 (by omega)
    replace hb4 := hq3_2
    clear hq3_2
    refine runl_nil ?_
    refine run_region rfl ?_
    refine runl_ev (ev_move rfl) ?_
    refine runl_ev (ev_loadA agg_65 hc2l rfl (eqw (cells_all hb4))) ?_
    refine runl_op (t_call call_129 rfl (wkeys_any (po.st.up e) r.roles[k] c2 hrk hk2 (by omega))) ?_
    rintro _ w21 ⟨rfl, v21, g21, p21⟩
    have q21 := po.trans hgl (p21.from e)
    have z21 := q21.extB.size
    refine runl_nil ?_
    refine run_inBlock ?_
    refine run_region rfl ?_
    refine runl_ev (ev_add rfl rfl (by omega) (by omega)) ?_
    refine runl_ev (ev_move rfl) ?_
    refine runl_nil ?_
    refine IH (k + 1, v21, g21) _ _ (by simp only; omega) ⟨rfl, rfl, rfl, rfl, trivial⟩ ⟨by show k + 1 ≤ 4; omega, ?_⟩
    simp only
    rw [htk, ← List.append_assoc]
    exact q21
  · obtain rfl : k = 4 := by omega
    rw [← hrl, List.take_length] at po
    refine run_exit rfl ?_
    refine run_end_any Tryz.func128 (res0 Tryz.results128) ?_
    exact ⟨rfl, v1, g1, po⟩
theorem encroot_any (x : RootP) (cs : List Value) (w : World) (hr : RRoot w x cs) (hkl : ∀ k ∈ x.roles, k.keys.length ≤ 1000000) (hb : (encRoot x).length ≤ 1000000000) : Ret Tryz.prog 64 [.agg ⟨cs⟩] w fun v w' => ∃ p, v = .tuple #[p, .int .i64 (encE isRootP x)] ∧ OwnB 5 w (encP 1 isRootP encRoot x) p w' := by
  have e := ExtB.refl (fun _ => False) w
  have hcl := rroot_len hr
  refine ret_of_run Tryz.func64 rfl Tryz.ntmps64 rfl ?_
  refine run_seq ?_
  refine run_region rfl ?_
  refine runl_op (t_boxA rfl) ?_
  rintro _ w1 ⟨b1, rfl, hb1, e1, n1, l1⟩
  have z1 := e1.size
  replace e := e.trans e1
  refine runl_ev (ev_assign rfl) ?_
  refine runl_ev (ev_assign rfl) ?_
  refine runl_nil ?_
  refine run_seq ?_
  refine run_region rfl ?_
  refine runl_ev (ev_loadA agg_68 hcl rfl (eqw (cells_all hb1))) ?_
  refine runl_op (t_call call_127 rfl (isroot_any x cs _ (RRoot.stable _ _ _ _ e hr))) ?_
  rintro _ w5 ⟨rfl, e5⟩
  have z5 := e5.size
  replace e := e.trans e5
  replace hb1 := e5.at hb1
  refine runl_ev (ev_makeFunc rfl rfl) ?_
  refine runl_op (t_call call_88 rfl (encoded_any _ 1 (isRootP x) 128 [.pointer (some ⟨b1, 0, none⟩)] call_128 (encRoot x) (by have := encN_len 1; omega) (fun _ => hb) (fun _ w1 wb g v st => encroot1_any st x cs b1 hb1 (RRoot.stable _ _ _ _ e hr) (fun k hk => by have := hkl k hk; omega) (by have := encN_len 1; omega)))) ?_
  rintro _ w7 ⟨p7, g7, rfl, o7, e7, hg7, hgl7⟩
  have z7 := e7.size
  replace e := e.trans e7
  replace hb1 := e7.at hb1
  refine runl_ev (ev_extract rfl rfl) ?_
  refine runl_ev (ev_extract rfl rfl) ?_
  refine runl_ev (ev_assign rfl) ?_
  refine runl_ev (ev_assign rfl) ?_
  refine runl_nil ?_
  refine run_ret_any Tryz.func64 (res2 Tryz.results64 rfl rfl) ?_
  have hz := e.size
  exact ⟨p7, rfl, ownB_of o7 e (by omega) (by omega)⟩
theorem enctime1_any {l : List UInt8} {w0 w : World} {wb : Nat} {g : Int} {v : Value} {T : TypeId} (st : WSt T 5 w0 w wb g v l) (t : TimeP) (ht : t.sum.length = 32) (xb : Nat) (hx : w0.heap[xb]? = some (.cells ⟨t.cells⟩ 37 (0, 0))) (hb : l.length ≤ 1000) :
    Ret Tryz.prog 102 [.pointer (some ⟨wb, 0, none⟩), .pointer (some ⟨xb, 0, none⟩)] w (WP T 5 w0 w wb g l (encTime t)) := by
  have e := ExtB.refl (fun _ => False) w
  have lwb := lt_of_at st.hw
  have hgl := st.hgl
  have lxb := lt_of_at hx
  have hwb := st.hwb
  have hg0 := st.hg
  replace hx := st.ext.at hx
  have hnl := encNs_len [t.ver, t.exp, t.snap]
  simp only [List.length_cons, List.length_nil] at hnl
  refine ret_of_run Tryz.func102 rfl Tryz.ntmps102 rfl ?_
  refine run_seq ?_
  refine run_draw mo (fun w' => Ext w w') [10] [(true, 0), (true, 1), (true, 2), (true, 3), (true, 4), (true, 5), (true, 6), (true, 7), (true, 8), (false, 9), (false, 10)] (by kernel_rfl) ?_
  intro wr0 er0
  have zr0 := er0.size
  have hsr0 := er0
  have ep := e.trans er0
  have hxp := er0.at hx
  refine rund_ev hsr0 rfl (ev_move rfl) ?_
  refine rund_ev hsr0 rfl (ev_nilCheck rfl) ?_
  refine rund_ev hsr0 rfl (ev_fieldAddr fld_175_0 rfl) ?_
  refine rund_ev hsr0 rfl (ev_fieldAddr fld_37_0 rfl) ?_
  refine rund_ev hsr0 rfl (ev_load1 cell_3 rfl (fun wz hz => cell_blk (hz.at hx) rfl)) ?_
  refine rund_ev hsr0 rfl (ev_fieldAddr fld_37_1 rfl) ?_
  refine rund_ev hsr0 rfl (ev_load1 cell_3 rfl (fun wz hz => cell_blk (hz.at hx) rfl)) ?_
  refine rund_ev hsr0 rfl (ev_fieldAddr fld_37_2 rfl) ?_
  refine rund_ev hsr0 rfl (ev_load1 cell_3 rfl (fun wz hz => cell_blk (hz.at hx) rfl)) ?_
  refine rund_op rfl (t_buildSlice (out := [.int .i64 t.ver, .int .i64 t.exp, .int .i64 t.snap]) Tryz.underlying248 sz_3 zero_3 rfl rfl (by decide) (by decide) rfl (rfl)) ?_
  rintro _ w12 ⟨b12, rfl, hb12, e12, n12, l12⟩
  have z12 := e12.size
  replace ep := ep.trans e12
  replace hxp := e12.at hxp
  have hs12 := hsr0.trans e12
  refine ⟨hs12, ?_⟩
  have hb12p := hb12
  refine rund_opT rfl rfl (t_call call_92 rfl (wnums_any (st.up ep) [t.ver, t.exp, t.snap] _ _ _ (sl_lit (l := [t.ver, t.exp, t.snap]) (R := RInt) hb12p (pc rfl (pc rfl (pc rfl pn)))) (fun b o h => by cases h; exact ⟨by omega, by omega⟩) (by simp) (by omega))) ?_
  rintro _ w13 ⟨rfl, v13, g13, p13⟩
  have q13 := p13.from ep
  have z13 := q13.extB.size
  replace hxp := p13.extB.at hxp (fun h => by rcases h with h | h <;> omega)
  refine rund_nil ?_
  replace hx := hxp
  clear hxp
  refine run_region rfl ?_
  refine runl_ev (ev_move rfl) ?_
  refine runl_ev (ev_fieldAddr fld_37_3 rfl) ?_
  refine runl_ev (ev_loadA agg_25 (by rw [hcells_length]; exact ht) rfl (eqw (cells_blk (c := ⟨t.cells⟩) hx (fun i v hv => by rw [show 0 + 3 + i = i + 3 by omega]; simpa [TimeP.cells] using hv)))) ?_
  refine runl_op (t_call call_103 rfl (whash_any q13.st t.sum ht (by rw [List.length_append]; omega))) ?_
  rintro _ w17 ⟨rfl, v17, g17, p17⟩
  have q17 := q13.trans hgl p17
  have z17 := q17.extB.size
  refine runl_nil ?_
  refine run_end_any Tryz.func102 (res0 Tryz.results102) ?_
  exact ⟨rfl, v17, g17, q17⟩
theorem enctime_any (x : TimeP) (w : World) (ht : x.sum.length = 32) : Ret Tryz.prog 46 [.agg ⟨x.cells⟩] w fun v w' => ∃ p, v = .tuple #[p, .int .i64 (encE isTimeP x)] ∧ OwnB 5 w (encP 2 isTimeP encTime x) p w' := by
  have e := ExtB.refl (fun _ => False) w
  have hcl : x.cells.length = 35 := by show (hcells x.sum).length + 3 = 35; rw [hcells_length]; omega
  refine ret_of_run Tryz.func46 rfl Tryz.ntmps46 rfl ?_
  refine run_seq ?_
  refine run_region rfl ?_
  refine runl_op (t_boxA rfl) ?_
  rintro _ w1 ⟨b1, rfl, hb1, e1, n1, l1⟩
  have z1 := e1.size
  replace e := e.trans e1
  refine runl_ev (ev_assign rfl) ?_
  refine runl_ev (ev_assign rfl) ?_
  refine runl_nil ?_
  refine run_seq ?_
  refine run_region rfl ?_
  refine runl_ev (ev_loadA agg_37 hcl rfl (eqw (cells_all hb1))) ?_
  refine runl_op (t_call call_101 rfl (istime_any x ht _)) ?_
  rintro _ w5 ⟨rfl, e5⟩
  have z5 := e5.size
  replace e := e.trans e5
  replace hb1 := e5.at hb1
  refine runl_ev (ev_makeFunc rfl rfl) ?_
  refine runl_op (t_call call_88 rfl (encoded_any _ 2 (isTimeP x) 102 [.pointer (some ⟨b1, 0, none⟩)] call_102 (encTime x) (by have := encN_len 2; omega) (fun _ => by have := encNs_len [x.ver, x.exp, x.snap]; simp only [encTime, List.length_append, List.length_cons, List.length_nil] at this ⊢; omega) (fun _ w1 wb g v st => enctime1_any st x ht b1 hb1 (by have := encN_len 2; omega)))) ?_
  rintro _ w7 ⟨p7, g7, rfl, o7, e7, hg7, hgl7⟩
  have z7 := e7.size
  replace e := e.trans e7
  replace hb1 := e7.at hb1
  refine runl_ev (ev_extract rfl rfl) ?_
  refine runl_ev (ev_extract rfl rfl) ?_
  refine runl_ev (ev_assign rfl) ?_
  refine runl_ev (ev_assign rfl) ?_
  refine runl_nil ?_
  refine run_ret_any Tryz.func46 (res2 Tryz.results46 rfl rfl) ?_
  have hz := e.size
  exact ⟨p7, rfl, ownB_of o7 e (by omega) (by omega)⟩
theorem known_bytes : encP 2 isTimeP encTime ⟨1, 0, 1, List.replicate 32 0⟩ = 2 :: 1 :: 0 :: 1 :: List.replicate 32 0 := by
  have h : isTimeP ⟨1, 0, 1, List.replicate 32 0⟩ = true := by decide
  unfold encP
  rw [h, if_pos rfl]
  have e2 : encN 2 = [2] := encN_small (n := 2) (by decide)
  have e1 : encN 1 = [1] := encN_small (n := 1) (by decide)
  have e0 : encN 0 = [0] := encN_small (n := 0) (by decide)
  simp only [encTime, encNs, List.flatMap_cons, List.flatMap_nil, e0, e1, e2, List.cons_append, List.nil_append, List.append_nil]

theorem rnum1_any (n : Int) (w : World) : Ret Tryz.prog 121 [.int .i64 n] w (OwnB 5 w (encN n)) := by
  have e := ExtB.refl (fun _ => False) w
  have hcl := clampN_lt n
  refine ret_of_run Tryz.func121 rfl Tryz.ntmps121 rfl ?_
  refine run_seq ?_
  refine run_region rfl ?_
  refine runl_ev (ev_assign rfl) ?_
  refine runl_nil ?_
  refine run_seq ?_
  refine run_region rfl ?_
  refine runl_ev (ev_assign rfl) ?_
  refine runl_nil ?_
  refine run_cut1 (ι := Unit) (fun _ => [(3, .int .u64 (clampN n : Int))]) (fun _ w1 => Ext w w1) ?_ ?_
  · clear e
    intro _ w1 e
    refine run_seq ?_
    refine run_region rfl ?_
    refine runl_ev (ev_assign rfl) ?_
    refine runl_nil ?_
    refine run_seq ?_
    refine run_block ?_
    refine run_loop (ι := Nat × List UInt8 × Value) (fun x => [(3, .int .u64 (x.1 : Int)), (4, x.2.2)]) (fun x w1 => x.1 ≤ 4611686018427387904 ∧ x.2.1 ++ encU x.1 = encN n ∧ OwnB 5 w x.2.1 x.2.2 w1) (fun x => x.1) ((clampN n, [], .slice none 0 0)) ⟨rfl, rfl, trivial⟩ (⟨hcl, rfl, OwnL.nil _ _ e⟩) ?_
    clear e
    intro ⟨u, dn, v⟩ w2 ⟨hu, hdn, ow⟩ IH
    simp only at hu hdn ow
    obtain ⟨xs, g, own, hpp, hxl, e, hg, hgl⟩ := ow.open
    have hdl := congrArg List.length hdn
    have hnl := encN_len n
    rw [List.length_append] at hdl
    refine run_seq ?_
    refine run_seq ?_
    refine run_region rfl ?_
    refine runl_ev (ev_move rfl) ?_
    refine runl_ev (ev_geq rfl rfl) ?_
    refine runl_nil ?_
    refine run_dcond rfl (fun h2 => ?_) (fun h2 => ?_)
    · refine run_skip ?_
      refine run_block ?_
      refine run_seq ?_
      refine run_region rfl ?_
      refine runl_ev (ev_move rfl) ?_
      refine runl_ev (ev_move rfl) ?_
      refine runl_ev (ev_and (((u % 128 : Nat) : Int)) rfl rfl (and127u u (by omega))) ?_
      refine runl_ev (ev_convI (((u % 128 : Nat) : Int)) Tryz.underlying197 Tryz.underlying5 rfl (by rw [u8_mod, Nat.mod_eq_of_lt (by omega)])) ?_
      refine runl_ev (ev_or (((UInt8.ofNat (u % 128 + 128)).toNat : Int)) rfl rfl (or128b u)) ?_
      refine runl_op (t_buildSlice (out := [.int .u8 ((UInt8.ofNat (u % 128 + 128)).toNat : Int)]) Tryz.underlying29 sz_5 zero_5 rfl rfl (by decide) (by decide) rfl (rfl)) ?_
      rintro _ w18 ⟨b18, rfl, hb18, e18, n18, l18⟩
      have z18 := e18.size
      replace e := e.trans e18
      replace own := own.ext e18
      refine runl_op (t_append (news := [.int .u8 ((UInt8.ofNat (u % 128 + 128)).toNat : Int)]) ef_29 rfl rfl own rfl (cells_all hb18) (by simp) (by unfold maxLen; omega) (by omega)) ?_
      rintro v19 w19 ⟨g19, ap19⟩
      have z19 := ap19.size
      have ow19 := OwnL.app flat_byte e hg (by omega) (hpp.mono fun _ _ _ hr => flat_byte _ _ _ _ hr) hxl (parts_bytes [_]) ap19 rfl rfl
      refine runl_ev (ev_assign rfl) ?_
      refine runl_nil ?_
      refine run_region rfl ?_
      refine runl_ev (ev_move rfl) ?_
      refine runl_ev (ev_shr (((u / 128 : Nat) : Int)) rfl rfl (by omega) (shr7 u)) ?_
      refine runl_ev (ev_assign rfl) ?_
      refine runl_nil ?_
      refine run_inBlock ?_
      refine IH (u / 128, dn ++ [UInt8.ofNat (u % 128 + 128)], v19) _ _ (by simp only; omega) ⟨rfl, rfl, trivial⟩ ⟨(by show u / 128 ≤ _; omega), ?_, ow19⟩
      show dn ++ [_] ++ encU (u / 128) = _
      rw [← hdn, encU_more (u := u) (by omega)]
      simp
    · have hfin : dn ++ [UInt8.ofNat u] = encN n := by rw [← hdn, encU_small (by omega)]
      refine run_exit rfl ?_
      refine run_seq ?_
      refine run_region rfl ?_
      refine runl_ev (ev_move rfl) ?_
      refine runl_ev (ev_move rfl) ?_
      refine runl_ev (ev_convI (((UInt8.ofNat u).toNat : Int)) Tryz.underlying197 Tryz.underlying5 rfl (by rw [u8_mod, u8_ofNat (by omega)]; congr 1; omega)) ?_
      refine runl_op (t_buildSlice (out := [.int .u8 ((UInt8.ofNat u).toNat : Int)]) Tryz.underlying29 sz_5 zero_5 rfl rfl (by decide) (by decide) rfl (rfl)) ?_
      rintro _ w25 ⟨b25, rfl, hb25, e25, n25, l25⟩
      have z25 := e25.size
      replace e := e.trans e25
      replace own := own.ext e25
      refine runl_op (t_append (news := [.int .u8 ((UInt8.ofNat u).toNat : Int)]) ef_29 rfl rfl own rfl (cells_all hb25) (by simp) (by unfold maxLen; omega) (by omega)) ?_
      rintro v26 w26 ⟨g26, ap26⟩
      have z26 := ap26.size
      have ow26 := OwnL.app flat_byte e hg (by omega) (hpp.mono fun _ _ _ hr => flat_byte _ _ _ _ hr) hxl (parts_bytes [_]) ap26 rfl rfl
      refine runl_ev (ev_assign rfl) ?_
      refine runl_nil ?_
      refine run_ret_any Tryz.func121 (res1 Tryz.results121 rfl) ?_
      rw [← hfin]
      exact ow26
  · intro JJ
    refine run_seq ?_
    refine run_region rfl ?_
    refine runl_ev (ev_move rfl) ?_
    refine runl_ev (ev_gtr rfl rfl) ?_
    refine runl_nil ?_
    refine run_dcond rfl (fun h0 => ?_) (fun h0 => ?_)
    · have hcn : clampN n = 4611686018427387904 := by unfold clampN; omega
      refine run_region rfl ?_
      refine runl_ev (ev_assign rfl) ?_
      refine runl_nil ?_
      exact JJ () _ _ ⟨by rw [hcn]; rfl, trivial⟩ e
    · refine run_seq ?_
      refine run_region rfl ?_
      refine runl_ev (ev_move rfl) ?_
      refine runl_ev (ev_gtr rfl rfl) ?_
      refine runl_nil ?_
      refine run_dcond rfl (fun h1 => ?_) (fun h1 => ?_)
      · refine run_region rfl ?_
        refine runl_ev (ev_move rfl) ?_
        refine runl_ev (ev_convI ((clampN n : Int)) Tryz.underlying3 Tryz.underlying197 rfl (by rw [← wrap_u64 (n := clampN n) (by omega)]; congr 1; unfold clampN; omega)) ?_
        refine runl_ev (ev_assign rfl) ?_
        refine runl_nil ?_
        exact JJ () _ _ ⟨rfl, trivial⟩ e
      · have hcn : clampN n = 0 := by unfold clampN; omega
        refine run_skip ?_
        exact JJ () _ _ ⟨by rw [hcn]; rfl, trivial⟩ e
theorem rnums1_any (ns : List Int) (w : World) (a : Option Addr) (n c : Nat) (hs : SlAt 1 RInt w (.slice a n c) ns) (hn : ns.length ≤ 1000000) : Ret Tryz.prog 116 [.slice a n c] w (OwnB 5 w (encNs ns)) := by
  have e := ExtB.refl (fun _ => False) w
  obtain ⟨rfl, hat⟩ := hs.at
  have hel := encNs_len ns
  refine ret_of_run Tryz.func116 rfl Tryz.ntmps116 rfl ?_
  refine run_seq ?_
  refine run_region rfl ?_
  refine runl_ev (ev_assign rfl) ?_
  refine runl_nil ?_
  refine run_seq ?_
  refine run_region rfl ?_
  refine runl_ev (ev_assign rfl) ?_
  refine runl_nil ?_
  refine run_seq ?_
  refine run_seq ?_
  refine run_region rfl ?_
  refine runl_ev (ev_assign rfl) ?_
  refine runl_nil ?_
  refine run_block ?_
  refine run_loop (ι := Nat × Value) (fun x => [(0, .slice a ns.length c), (3, x.2), (4, .int .i64 (x.1 : Int))]) (fun x w1 => x.1 ≤ ns.length ∧ OwnB 5 w (encNs (ns.take x.1)) x.2 w1) (fun x => ns.length - x.1) ((0, .slice none 0 0)) ⟨rfl, rfl, rfl, trivial⟩ (⟨Nat.zero_le _, OwnL.nil _ _ e⟩) ?_
  clear e
  intro ⟨k, v⟩ w1 ⟨hk, ow⟩ IH
  simp only at hk ow
  obtain ⟨xs, g, own, hpp, hxl, e, hg, hgl⟩ := ow.open
  have htl := encNs_take_le ns k
  refine run_seq ?_
  refine run_seq ?_
  refine run_region rfl ?_
  refine runl_ev (ev_move rfl) ?_
  refine runl_ev (ev_move rfl) ?_
  refine runl_ev (ev_lenL sl_248 rfl) ?_
  refine runl_ev (ev_lss rfl rfl) ?_
  refine runl_nil ?_
  refine run_dcond rfl (fun h0 => ?_) (fun h0 => ?_)
  · have hk1 : k < ns.length := by omega
    obtain ⟨b1, o1, cs1, rfl, hr1, hc1⟩ := hat k hk1
    obtain rfl := hr1
    have hel1 := encN_len ns[k]
    have htk := encNs_take (List.getElem?_eq_getElem hk1)
    refine run_skip ?_
    refine run_seq ?_
    refine run_block ?_
    refine run_region rfl ?_
    refine runl_ev (ev_move rfl) ?_
    refine runl_ev (ev_move rfl) ?_
    refine runl_ev (ev_move rfl) ?_
    refine runl_ev (ev_indexAddr el_248 rfl rfl (by omega)) ?_
    refine runl_ev (ev_load1 cell_3 rfl (eqw (hc1.ext e))) ?_
    refine runl_op (t_call call_121 rfl (rnum1_any ns[k] _)) ?_
    rintro v16 w16 ow16
    have e16 := ow16.ext
    obtain ⟨a16, c16, rfl, hc16, s16⟩ := ow16.sl
    have z16 := e16.size
    replace e := e.trans e16
    replace own := own.ext e16
    refine runl_op (t_appendL (l := encN ns[k]) (R := RByte) ef_29 rfl rfl own s16 rbyte_len (fun x cs h => rbyte_one x cs h) (by unfold maxLen; omega) (by omega)) ?_
    rintro v17 w17 ⟨n17, g17, hnl17, hnp17, ap17⟩
    have z17 := ap17.size
    have ow17 := OwnL.app flat_byte e hg (by omega) (hpp.mono fun _ _ _ hr => flat_byte _ _ _ _ hr) hxl hnp17 ap17 (by first | rfl | rw [List.length_append]) rfl
    refine runl_ev (ev_assign rfl) ?_
    refine runl_nil ?_
    refine run_inBlock ?_
    refine run_region rfl ?_
    refine runl_ev (ev_move rfl) ?_
    refine runl_ev (ev_add rfl rfl (by omega) (by omega)) ?_
    refine runl_ev (ev_assign rfl) ?_
    refine runl_nil ?_
    refine IH (k + 1, v17) _ _ (by simp only; omega) ⟨rfl, rfl, rfl, trivial⟩ ⟨hk1, ?_⟩
    simp only
    rw [htk]
    exact ow17
  · obtain rfl : k = ns.length := by omega
    rw [List.take_length] at ow
    refine run_exit rfl ?_
    refine run_seq ?_
    refine run_region rfl ?_
    refine runl_ev (ev_move rfl) ?_
    refine runl_ev (ev_assign rfl) ?_
    refine runl_nil ?_
    refine run_ret_any Tryz.func116 (res1 Tryz.results116 rfl) ?_
    exact ow
theorem rkeys6_any (k : KeysP) (cs : List Value) (w : World) (hk : RKeys w k cs) (hkl : k.keys.length ≤ 1000000) : Ret Tryz.prog 136 [.agg ⟨cs⟩] w (OwnB 5 w (encKeys k)) := by
  have e := ExtB.refl (fun _ => False) w
  obtain ⟨a, c, rfl, hks, hkc⟩ := hk
  obtain ⟨-, hat⟩ := hks.at
  have hlen := hashes_len (sl_hashes hks)
  have hn1 := encN_len k.keys.length
  have hn2 := encN_len k.need
  refine ret_of_run Tryz.func136 rfl Tryz.ntmps136 rfl ?_
  refine run_seq ?_
  refine run_region rfl ?_
  refine runl_op (t_boxA rfl) ?_
  rintro _ w1 ⟨b1, rfl, hb1, e1, n1, l1⟩
  have z1 := e1.size
  replace e := e.trans e1
  have E1 := e
  clear e
  have e := ExtB.refl (fun _ => False) w1
  have lb1 := lt_of_at hb1
  refine runl_ev (ev_assign rfl) ?_
  refine runl_nil ?_
  refine run_seq ?_
  refine run_region rfl ?_
  refine runl_ev (ev_fieldAddr fld_65_0 rfl) ?_
  refine runl_ev (ev_load1 cell_60 rfl (eqw (cell_blk hb1 rfl))) ?_
  refine runl_ev (ev_lenL sl_60 rfl) ?_
  refine runl_op (t_call call_121 rfl (rnum1_any (k.keys.length : Int) _)) ?_
  rintro v8 w8 ow8
  have e8 := ow8.ext
  have z8 := e8.size
  replace e := e.trans e8
  replace hb1 := e8.at hb1
  refine runl_ev (ev_assign rfl) ?_
  refine runl_nil ?_
  refine run_seq ?_
  refine run_seq ?_
  refine run_region rfl ?_
  refine runl_ev (ev_assign rfl) ?_
  refine runl_nil ?_
  refine run_block ?_
  refine run_loop (ι := Nat × Value) (fun x => [(1, .pointer (some ⟨b1, 0, none⟩)), (3, x.2), (4, .int .i64 (x.1 : Int))]) (fun x w2 => x.1 ≤ k.keys.length ∧ w2.heap[b1]? = some (.cells ⟨[.slice a k.keys.length c, .int .i64 k.need]⟩ 65 (0, 0)) ∧ OwnB 5 w1 (encN k.keys.length ++ (k.keys.take x.1).flatMap id) x.2 w2) (fun x => k.keys.length - x.1) ((0, v8)) ⟨rfl, rfl, rfl, trivial⟩ (⟨Nat.zero_le _, hb1, by simpa using ow8⟩) ?_
  clear e hb1
  intro ⟨j, v⟩ w2 ⟨hj, hb1, ow⟩ IH
  simp only at hj ow
  obtain ⟨xs, g, own, hpp, hxl, e, hg, hgl⟩ := ow.open
  have htl := flat_take_le (f := id) (l := k.keys) j
  rw [List.length_append] at own
  refine run_seq ?_
  refine run_seq ?_
  refine run_region rfl ?_
  refine runl_ev (ev_move rfl) ?_
  refine runl_ev (ev_fieldAddr fld_65_0 rfl) ?_
  refine runl_ev (ev_load1 cell_60 rfl (eqw (cell_blk hb1 rfl))) ?_
  refine runl_ev (ev_lenL sl_60 rfl) ?_
  refine runl_ev (ev_lss rfl rfl) ?_
  refine runl_nil ?_
  refine run_dcond rfl (fun h0 => ?_) (fun h0 => ?_)
  · have hj1 : j < k.keys.length := by omega
    obtain ⟨b2, o2, cs2, rfl, ⟨hh2, rfl⟩, hc2⟩ := hat j hj1
    have htk := flat_take (f := id) hj1
    refine run_skip ?_
    refine run_seq ?_
    refine run_block ?_
    refine run_region rfl ?_
    refine runl_ev (ev_move rfl) ?_
    refine runl_ev (ev_fieldAddr fld_65_0 rfl) ?_
    refine runl_ev (ev_load1 cell_60 rfl (eqw (cell_blk hb1 rfl))) ?_
    refine runl_ev (ev_move rfl) ?_
    refine runl_ev (ev_indexAddr el_60 rfl rfl (by omega)) ?_
    refine runl_ev (ev_sliceA arr_25 rfl) ?_
    refine runl_op (t_append (news := hcells k.keys[j]) ef_29 rfl rfl own (by rw [hcells_length]; exact hh2) (hc2.ext (E1.trans e)) (hcells_one _) (by unfold maxLen; omega) (by omega)) ?_
    rintro v22 w22 ⟨g22, ap22⟩
    have z22 := ap22.size
    replace hb1 := ap22.ext.atG hb1 (by omega)
    have ow22 := OwnL.app flat_byte e hg (by omega) hpp hxl (parts_bytes k.keys[j]) ap22 (by rw [List.length_append]) hh2
    refine runl_ev (ev_assign rfl) ?_
    refine runl_nil ?_
    refine run_inBlock ?_
    refine run_region rfl ?_
    refine runl_ev (ev_move rfl) ?_
    refine runl_ev (ev_add rfl rfl (by omega) (by omega)) ?_
    refine runl_ev (ev_assign rfl) ?_
    refine runl_nil ?_
    refine IH (j + 1, v22) _ _ (by simp only; omega) ⟨rfl, rfl, rfl, trivial⟩ ⟨hj1, hb1, ?_⟩
    simp only
    rw [htk, ← List.append_assoc]
    exact ow22
  · obtain rfl : j = k.keys.length := by omega
    rw [List.take_length] at ow hpp htl own hxl
    refine run_exit rfl ?_
    refine run_seq ?_
    refine run_region rfl ?_
    refine runl_ev (ev_move rfl) ?_
    refine runl_ev (ev_fieldAddr fld_65_1 rfl) ?_
    refine runl_ev (ev_load1 cell_3 rfl (eqw (cell_blk hb1 rfl))) ?_
    refine runl_op (t_call call_121 rfl (rnum1_any k.need _)) ?_
    rintro v26 w26 ow26
    have e26 := ow26.ext
    obtain ⟨a26, c26, rfl, hc26, s26⟩ := ow26.sl
    have z26 := e26.size
    replace e := e.trans e26
    replace own := own.ext e26
    replace hb1 := e26.at hb1
    refine runl_op (t_appendL (l := encN k.need) (R := RByte) ef_29 rfl rfl own s26 rbyte_len (fun x cs h => rbyte_one x cs h) (by unfold maxLen; omega) (by omega)) ?_
    rintro v27 w27 ⟨n27, g27, hnl27, hnp27, ap27⟩
    have z27 := ap27.size
    replace hb1 := ap27.ext.atG hb1 (by omega)
    have ow27 := OwnL.app flat_byte e hg (by omega) (hpp.mono fun _ _ _ hr => flat_byte _ _ _ _ hr) hxl hnp27 ap27 (by first | rfl | rw [List.length_append]) rfl
    refine runl_ev (ev_assign rfl) ?_
    refine runl_nil ?_
    refine run_ret_any Tryz.func136 (res1 Tryz.results136 rfl) ?_
    unfold encKeys
    rw [← List.append_assoc]
    exact OwnL.from E1 ow27
theorem rencroot_any (r : RootP) (cs : List Value) (w : World) (hr : RRoot w r cs) (hkl : ∀ k ∈ r.roles, k.keys.length ≤ 1000000) (hb : (encRoot r).length ≤ 1000000000) :
    Ret Tryz.prog 68 [.agg ⟨cs⟩] w fun v w' => ∃ p, v = .tuple #[p, .int .i64 (encE isRootP r)] ∧ OwnB 5 w (encP 1 isRootP encRoot r) p w' := by
  have e := ExtB.refl (fun _ => False) w
  have hcl := rroot_len hr
  have hr0 := hr
  obtain ⟨ks, rfl, hkz, hrl, hks⟩ := hr
  have henc : encRoot r = encNs [r.ver, r.exp] ++ r.roles.flatMap encKeys := by simp [encRoot, encNs]
  rw [henc, List.length_append] at hb
  have hn3 := encNs_len [1, r.ver, r.exp]
  simp only [List.length_cons, List.length_nil] at hn3
  refine ret_of_run Tryz.func68 rfl Tryz.ntmps68 rfl ?_
  refine run_seq ?_
  refine run_region rfl ?_
  refine runl_op (t_boxA rfl) ?_
  rintro _ w1 ⟨b1, rfl, hb1, e1, n1, l1⟩
  have z1 := e1.size
  replace e := e.trans e1
  have E1 := e
  clear e
  have e := ExtB.refl (fun _ => False) w1
  have lb1 := lt_of_at hb1
  refine runl_ev (ev_assign rfl) ?_
  refine runl_ev (ev_assign rfl) ?_
  refine runl_nil ?_
  refine run_seq ?_
  refine run_seq ?_
  refine run_region rfl ?_
  refine runl_ev (ev_loadA agg_68 hcl rfl (eqw (cells_all hb1))) ?_
  refine runl_op (t_call call_135 rfl (risroot_any r _ _ (RRoot.stable _ _ _ _ (E1.trans e) hr0))) ?_
  rintro _ w7 ⟨rfl, e7⟩
  have z7 := e7.size
  replace e := e.trans e7
  replace hb1 := e7.at hb1
  refine runl_ev (ev_not rfl) ?_
  refine runl_nil ?_
  refine run_cond_split rfl (fun h0 => ?_) (fun h0 => ?_)
  · have hm : isRootP r = false := by simpa using h0
    refine run_seq ?_
    refine run_region rfl ?_
    refine runl_ev (ev_assign rfl) ?_
    refine runl_ev (ev_assign rfl) ?_
    refine runl_nil ?_
    refine run_ret_any Tryz.func68 (res2 Tryz.results68 rfl rfl) ?_
    refine ⟨_, by rw [encE, hm]; rfl, ?_⟩
    rw [show encP 1 isRootP encRoot r = [] by unfold encP; rw [hm]; rfl]
    exact OwnL.nil _ _ (E1.trans e)
  · have hm : isRootP r = true := by simpa using h0
    refine run_skip ?_
    refine run_seq ?_
    refine run_region rfl ?_
    refine runl_ev (ev_fieldAddr fld_68_0 rfl) ?_
    refine runl_ev (ev_load1 cell_3 rfl (eqw (cell_blk hb1 rfl))) ?_
    refine runl_ev (ev_fieldAddr fld_68_1 rfl) ?_
    refine runl_ev (ev_load1 cell_3 rfl (eqw (cell_blk hb1 rfl))) ?_
    refine runl_op (t_buildSlice (out := [.int .i64 1, .int .i64 r.ver, .int .i64 r.exp]) Tryz.underlying248 sz_3 zero_3 rfl rfl (by decide) (by decide) rfl (rfl)) ?_
    rintro _ w13 ⟨b13, rfl, hb13, e13, n13, l13⟩
    have z13 := e13.size
    replace e := e.trans e13
    replace hb1 := e13.at hb1
    refine runl_op (t_call call_116 rfl (rnums1_any [1, r.ver, r.exp] _ _ _ _ (sl_lit (l := [1, r.ver, r.exp]) (R := RInt) hb13 (pc rfl (pc rfl (pc rfl pn)))) (by simp))) ?_
    rintro v14 w14 ow14
    have e14 := ow14.ext
    have ow := ow14.from e
    have z14 := e14.size
    replace e := e.trans e14
    replace hb1 := e14.at hb1
    replace hb13 := e14.at hb13
    clear ow14
    refine runl_ev (ev_assign rfl) ?_
    refine runl_nil ?_
    refine run_seq ?_
    refine run_seq ?_
    refine run_region rfl ?_
    refine runl_ev (ev_assign rfl) ?_
    refine runl_nil ?_
    refine run_block ?_
    refine run_loop (ι := Nat × Value) (fun x => [(1, .pointer (some ⟨b1, 0, none⟩)), (4, x.2), (5, .int .i64 (x.1 : Int))]) (fun x w2 => x.1 ≤ 4 ∧ w2.heap[b1]? = some (.cells ⟨.int .i64 r.ver :: .int .i64 r.exp :: ks⟩ 68 (0, 0)) ∧ OwnB 5 w1 (encNs [1, r.ver, r.exp] ++ (r.roles.take x.1).flatMap encKeys) x.2 w2) (fun x => 4 - x.1) ((0, v14)) ⟨rfl, rfl, rfl, trivial⟩ (⟨Nat.zero_le _, hb1, by simpa using ow⟩) ?_
    clear e hb1 ow
    intro ⟨k, v⟩ w2 ⟨hk, hb1, ow⟩ IH
    simp only at hk ow
    obtain ⟨xs, g, own, hpp, hxl, e, hg, hgl⟩ := ow.open
    have htl0 := flat_take_le (f := encKeys) (l := r.roles) k
    rw [List.length_append] at own
    refine run_seq ?_
    refine run_seq ?_
    refine run_region rfl ?_
    refine runl_ev (ev_move rfl) ?_
    refine runl_ev (ev_lss rfl rfl) ?_
    refine runl_nil ?_
    refine run_dcond rfl (fun h1 => ?_) (fun h1 => ?_)
    · have hk1 : k < r.roles.length := by omega
      obtain ⟨c2, hseg, hrk⟩ := RKeys.seg hks hk1
      have hc2l := rkeys_len _ _ _ hrk
      have hseg2 : (((.int .i64 r.ver :: .int .i64 r.exp :: ks).drop 2).drop (k * 2)).take 2 = c2 := hseg
      rw [List.drop_drop] at hseg2
      have htk := flat_take (f := encKeys) hk1
      have htl := flat_take_le (f := encKeys) (l := r.roles) (k + 1)
      rw [htk, List.length_append] at htl
      refine run_skip ?_
      refine run_seq ?_
      refine run_block ?_
      refine run_region rfl ?_
      refine runl_ev (ev_move rfl) ?_
      refine runl_ev (ev_move rfl) ?_
      refine runl_ev (ev_fieldAddr fld_68_2 rfl) ?_
      refine runl_ev (ev_indexAddrA arr_66 rfl rfl (by omega)) ?_
      refine runl_ev (ev_loadA agg_65 hc2l rfl (eqw ((cells_all hb1).seg c2 (2 + k * 2) (by omega) (by rw [hc2l]; exact hseg2.symm)))) ?_
      refine runl_op (t_call call_136 rfl (rkeys6_any r.roles[k] c2 _ (RKeys.stable _ _ _ _ (E1.trans e) hrk) (hkl _ (List.getElem_mem hk1)))) ?_
      rintro v24 w24 ow24
      have e24 := ow24.ext
      obtain ⟨a24, c24, rfl, hc24, s24⟩ := ow24.sl
      have z24 := e24.size
      replace e := e.trans e24
      replace own := own.ext e24
      replace hb1 := e24.at hb1
      refine runl_op (t_appendL (l := encKeys r.roles[k]) (R := RByte) ef_29 rfl rfl own s24 rbyte_len (fun x cs h => rbyte_one x cs h) (by unfold maxLen; omega) (by omega)) ?_
      rintro v25 w25 ⟨n25, g25, hnl25, hnp25, ap25⟩
      have z25 := ap25.size
      replace hb1 := ap25.ext.atG hb1 (by omega)
      have ow25 := OwnL.app flat_byte e hg (by omega) (hpp.mono fun _ _ _ hr => flat_byte _ _ _ _ hr) hxl hnp25 ap25 (by first | rfl | rw [List.length_append]) rfl
      refine runl_ev (ev_assign rfl) ?_
      refine runl_nil ?_
      refine run_inBlock ?_
      refine run_region rfl ?_
      refine runl_ev (ev_move rfl) ?_
      refine runl_ev (ev_add rfl rfl (by omega) (by omega)) ?_
      refine runl_ev (ev_assign rfl) ?_
      refine runl_nil ?_
      refine IH (k + 1, v25) _ _ (by simp only; omega) ⟨rfl, rfl, rfl, trivial⟩ ⟨by show k + 1 ≤ 4; omega, hb1, ?_⟩
      simp only
      rw [htk, ← List.append_assoc]
      exact ow25
    · obtain rfl : k = 4 := by omega
      rw [← hrl, List.take_length] at ow
      refine run_exit rfl ?_
      refine run_seq ?_
      refine run_region rfl ?_
      refine runl_ev (ev_move rfl) ?_
      refine runl_ev (ev_assign rfl) ?_
      refine runl_ev (ev_assign rfl) ?_
      refine runl_nil ?_
      refine run_ret_any Tryz.func68 (res2 Tryz.results68 rfl rfl) ?_
      refine ⟨_, by rw [encE, hm]; rfl, ?_⟩
      rw [show encP 1 isRootP encRoot r = encNs [1, r.ver, r.exp] ++ r.roles.flatMap encKeys by unfold encP; rw [hm, henc]; simp [encNs]]
      exact OwnL.from E1 ow
end Go.Proofs.YtlgkdnmklgbhbaaGreatDoor
/- The walks of what tells whether a text is a name. -/
namespace Go.Proofs.YtlgkdnmklgbhbaaGreatDoor
open Go Go.Fw
set_option maxRecDepth 100000

theorem sethas_any (c : UInt8) (w : World) (sb : Nat) (T : TypeId) (fr : Nat × Nat) (hs : w.heap[sb]? = some (.cells ⟨setCells signsL⟩ T fr)) : Ret Tryz.prog 212 [.pointer (some ⟨sb, 0, none⟩), .int .u8 (c.toNat : Int)] w fun r w' => r = .bool (isSign c) ∧ Ext w w' := by
  have e := ExtB.refl (fun _ => False) w
  refine ret_of_run Tryz.func212 rfl Tryz.ntmps212 rfl ?_
  refine run_seq ?_
  refine run_region rfl ?_
  refine runl_ev (ev_assign rfl) ?_
  refine runl_nil ?_
  refine run_seq ?_
  refine run_region rfl ?_
  refine runl_ev (ev_move rfl) ?_
  refine runl_ev (ev_move rfl) ?_
  refine runl_ev (ev_nilCheck rfl) ?_
  refine runl_ev (ev_indexAddrA (k := c.toNat) arr_268 rfl rfl (c.toNat_lt)) ?_
  refine runl_ev (ev_load1 cell_4 rfl (eqw ((cells_all hs).pick c.toNat (by omega) (setCells_get signsL c)))) ?_
  refine runl_ev (ev_assign rfl) ?_
  refine runl_nil ?_
  refine run_ret_any Tryz.func212 (res1 Tryz.results212 rfl) ?_
  exact ⟨rfl, e⟩
theorem mkset_any (w : World) : Ret Tryz.prog 197 [.string ⟨signsL.toArray⟩] w fun r w' => r = .tuple #[.agg ⟨setCells signsL⟩, .bool true] ∧ Ext w w' := by
  have e := ExtB.refl (fun _ => False) w
  refine ret_of_run Tryz.func197 rfl Tryz.ntmps197 rfl ?_
  refine run_seq ?_
  refine run_region rfl ?_
  refine runl_op (t_alloc zero_268 rfl) ?_
  rintro _ w2 ⟨b2, rfl, hb2, e2, n2, l2⟩
  have z2 := e2.size
  replace e := e.trans e2
  refine runl_ev (ev_assign rfl) ?_
  refine runl_nil ?_
  refine run_seq ?_
  refine run_seq ?_
  refine run_region rfl ?_
  refine runl_ev (ev_assign rfl) ?_
  refine runl_nil ?_
  refine run_block ?_
  refine run_loop (ι := Nat) (fun k => [(0, .string ⟨signsL.toArray⟩), (2, .pointer (some ⟨b2, 0, none⟩)), (4, .int .i64 (k : Int))]) (fun k w' => k ≤ 37 ∧ w'.heap[b2]? = some (.cells ⟨setCells (signsL.take k)⟩ 268 (0, 0)) ∧ Ext w w') (fun k => 37 - k) (0) ⟨rfl, rfl, rfl, trivial⟩ (⟨Nat.zero_le _, by rw [List.take_zero, setCells_nil]; exact hb2, e⟩) ?_
  clear e hb2
  intro k w1 ⟨hk, hb2, e⟩ IH
  have hsz : (⟨signsL.toArray⟩ : ByteArray).size = 37 := rfl
  have hzl : signsL.length = 37 := rfl
  refine run_seq ?_
  refine run_seq ?_
  refine run_region rfl ?_
  refine runl_ev (ev_move rfl) ?_
  refine runl_ev (ev_move rfl) ?_
  refine runl_ev (ev_lenS str_9 rfl) ?_
  refine runl_ev (ev_lss rfl rfl) ?_
  refine runl_nil ?_
  refine run_dcond rfl (fun h0 => ?_) (fun h0 => ?_)
  · have hk1 : k < signsL.length := by omega
    have hlt := signs_lt hk1
    have hset := setCells_set (signsL.take k) signsL[k]
    have htk : signsL.take (k + 1) = signsL.take k ++ [signsL[k]] := by rw [List.take_add_one, List.getElem?_eq_getElem hk1]; rfl
    refine run_skip ?_
    refine run_seq ?_
    refine run_block ?_
    refine run_seq ?_
    refine run_region rfl ?_
    refine runl_ev (ev_move rfl) ?_
    refine runl_ev (ev_move rfl) ?_
    refine runl_ev (ev_indexS (k := k) Tryz.underlying9 rfl rfl (by rw [hsz]; omega)) ?_
    refine runl_ev (ev_assign rfl) ?_
    refine runl_nil ?_
    refine run_seq ?_
    refine run_seq ?_
    refine run_region rfl ?_
    refine runl_ev (ev_move rfl) ?_
    refine runl_ev (ev_geq rfl rfl) ?_
    refine runl_nil ?_
    refine run_cond_false rfl (decide_eq_false (by show ¬ (128 : Int) ≤ (signsL[k].toNat : Int); omega)) ?_
    refine run_skip ?_
    refine run_region rfl ?_
    refine runl_ev (ev_move rfl) ?_
    refine runl_ev (ev_indexAddrA (k := signsL[k].toNat) arr_268 rfl rfl (by omega)) ?_
    refine runl_do (t_store1 sz_4 rfl rfl rfl rfl hb2 (by rw [setCells_len]; omega)) ?_
    rintro _ v7_2 ⟨hq7_2, e7_2, z7_2⟩
    replace e := e.new1 e7_2 (by omega)
    replace hb2 := hq7_2
    clear hq7_2
    refine runl_nil ?_
    replace hb2 : _ = some (Obj.cells ⟨(setCells (signsL.take k)).set (0 + signsL[k].toNat * 1) (.bool true)⟩ _ _) := hb2
    rw [Nat.zero_add, Nat.mul_one, hset, ← htk] at hb2
    refine run_inBlock ?_
    refine run_region rfl ?_
    refine runl_ev (ev_move rfl) ?_
    refine runl_ev (ev_add rfl rfl (by omega) (by omega)) ?_
    refine runl_ev (ev_assign rfl) ?_
    refine runl_nil ?_
    exact IH (k + 1) _ _ (by omega) ⟨rfl, rfl, rfl, trivial⟩ ⟨by omega, hb2, e⟩
  · obtain rfl : k = 37 := by omega
    replace hb2 : _ = some (Obj.cells ⟨setCells signsL⟩ _ _) := hb2
    refine run_exit rfl ?_
    refine run_seq ?_
    refine run_region rfl ?_
    refine runl_ev (ev_loadA agg_268 (setCells_len _) rfl (eqw (cells_all hb2))) ?_
    refine runl_do (t_storeW sz_268 rfl rfl (setCells_len _) (setCells_len _) hb2 ((setCells_one _))) ?_
    rintro _ v8_1 ⟨hq8_1, e8_1, z8_1⟩
    replace e := e.new1 e8_1 (by omega)
    replace hb2 := hq8_1
    clear hq8_1
    refine runl_ev (ev_assign rfl) ?_
    refine runl_nil ?_
    refine run_ret_any Tryz.func197 (resCT Tryz.results197 rfl (loadVar_agg agg_268 (setCells_len _) (cells_all hb2)) rfl) ?_
    exact ⟨rfl, e⟩
theorem triml_any (s : ByteArray) (w : World) (hn : s.size ≤ 1099511627776) (sb : Nat) (T : TypeId) (fr : Nat × Nat) (hs : w.heap[sb]? = some (.cells ⟨setCells signsL⟩ T fr)) : Ret Tryz.prog 198 [.string s, .pointer (some ⟨sb, 0, none⟩)] w fun r w' => ∃ q, r = .string q ∧ Cut s q ∧ q.size ≤ 1099511627776 ∧ Ext w w' := by
  have e := ExtB.refl (fun _ => False) w
  refine ret_of_run Tryz.func198 rfl Tryz.ntmps198 rfl ?_
  refine run_seq ?_
  refine run_region rfl ?_
  refine runl_ev (ev_assign rfl) ?_
  refine runl_nil ?_
  refine run_seq ?_
  refine run_block ?_
  refine run_loop (ι := ByteArray) (fun q => [(0, .string q), (1, .pointer (some ⟨sb, 0, none⟩))]) (fun q w' => q.size ≤ 1099511627776 ∧ CutI s q ∧ Ext w w') (fun q => q.size) (s) ⟨rfl, rfl, trivial⟩ (⟨hn, Iff.rfl, e⟩) ?_
  clear e
  intro q w1 ⟨hq, hc, e⟩ IH
  refine run_seq ?_
  refine run_seq ?_
  refine run_region rfl ?_
  refine runl_ev (ev_move rfl) ?_
  refine runl_ev (ev_lenS str_9 rfl) ?_
  refine runl_ev (ev_gtr rfl rfl) ?_
  refine runl_nil ?_
  refine run_dcond rfl (fun h0 => ?_) (fun h0 => ?_)
  · have hq0 : 0 < q.size := by omega
    refine run_skip ?_
    refine run_block ?_
    refine run_seq ?_
    refine run_seq ?_
    refine run_region rfl ?_
    refine runl_ev (ev_move rfl) ?_
    refine runl_ev (ev_move rfl) ?_
    refine runl_ev (ev_indexS (k := 0) Tryz.underlying9 rfl rfl (hq0)) ?_
    refine runl_op (t_call call_212 rfl (sethas_any q[0] _ sb _ _ (e.at hs))) ?_
    rintro _ w11 ⟨rfl, e11⟩
    have z11 := e11.size
    replace e := e.trans e11
    refine runl_ev (ev_not rfl) ?_
    refine runl_nil ?_
    refine run_cond_split rfl (fun h1 => ?_) (fun h1 => ?_)
    · have hsg : isSign q[0] = false := by simpa using h1
      have hfin : allS q → q.size = 0 := fun h => absurd h (not_allS hq0 hsg)
      refine run_exit rfl ?_
      refine run_seq ?_
      refine run_region rfl ?_
      refine runl_ev (ev_move rfl) ?_
      refine runl_ev (ev_assign rfl) ?_
      refine runl_nil ?_
      refine run_ret_any Tryz.func198 (res1 Tryz.results198 rfl) ?_
      exact ⟨q, rfl, ⟨hc, hfin⟩, hq, e⟩
    · have hsg : isSign q[0] = true := by simpa using h1
      have hcl := cut_left hq0 hsg
      refine run_skip ?_
      refine run_region rfl ?_
      refine runl_ev (ev_move rfl) ?_
      refine runl_ev (ev_sliceS_lo str_9 rfl (n := 1) rfl (by omega)) ?_
      refine runl_ev (ev_assign rfl) ?_
      refine runl_nil ?_
      refine run_inBlock ?_
      exact IH (q.extract 1 q.size) _ _ (by rw [ByteArray.size_extract]; omega) ⟨rfl, rfl, trivial⟩ ⟨by rw [ByteArray.size_extract]; omega, hcl.trans hc, e⟩
  · have hfin : allS q → q.size = 0 := fun _ => by omega
    refine run_exit rfl ?_
    refine run_seq ?_
    refine run_region rfl ?_
    refine runl_ev (ev_move rfl) ?_
    refine runl_ev (ev_assign rfl) ?_
    refine runl_nil ?_
    refine run_ret_any Tryz.func198 (res1 Tryz.results198 rfl) ?_
    exact ⟨q, rfl, ⟨hc, hfin⟩, hq, e⟩
theorem trimr_any (s : ByteArray) (w : World) (hn : s.size ≤ 1099511627776) (sb : Nat) (T : TypeId) (fr : Nat × Nat) (hs : w.heap[sb]? = some (.cells ⟨setCells signsL⟩ T fr)) : Ret Tryz.prog 199 [.string s, .pointer (some ⟨sb, 0, none⟩)] w fun r w' => ∃ q, r = .string q ∧ Cut s q ∧ q.size ≤ 1099511627776 ∧ Ext w w' := by
  have e := ExtB.refl (fun _ => False) w
  refine ret_of_run Tryz.func199 rfl Tryz.ntmps199 rfl ?_
  refine run_seq ?_
  refine run_region rfl ?_
  refine runl_ev (ev_assign rfl) ?_
  refine runl_nil ?_
  refine run_seq ?_
  refine run_block ?_
  refine run_loop (ι := ByteArray) (fun q => [(0, .string q), (1, .pointer (some ⟨sb, 0, none⟩))]) (fun q w' => q.size ≤ 1099511627776 ∧ CutI s q ∧ Ext w w') (fun q => q.size) (s) ⟨rfl, rfl, trivial⟩ (⟨hn, Iff.rfl, e⟩) ?_
  clear e
  intro q w1 ⟨hq, hc, e⟩ IH
  refine run_seq ?_
  refine run_seq ?_
  refine run_region rfl ?_
  refine runl_ev (ev_move rfl) ?_
  refine runl_ev (ev_lenS str_9 rfl) ?_
  refine runl_ev (ev_gtr rfl rfl) ?_
  refine runl_nil ?_
  refine run_dcond rfl (fun h0 => ?_) (fun h0 => ?_)
  · obtain ⟨m, hm⟩ : ∃ m, m + 1 = q.size := ⟨q.size - 1, by omega⟩
    refine run_skip ?_
    refine run_block ?_
    refine run_seq ?_
    refine run_seq ?_
    refine run_region rfl ?_
    refine runl_ev (ev_move rfl) ?_
    refine runl_ev (ev_move rfl) ?_
    refine runl_ev (ev_move rfl) ?_
    refine runl_ev (ev_lenS str_9 rfl) ?_
    refine runl_ev (ev_subK ((m : Int)) rfl rfl (by rw [show ((q.size : Int) - 1) = m by omega]; exact wrap_i64 (by omega) (by omega))) ?_
    refine runl_ev (ev_indexS (k := m) Tryz.underlying9 rfl rfl (by omega)) ?_
    refine runl_op (t_call call_212 rfl (sethas_any (q[m]'(by omega)) _ sb _ _ (e.at hs))) ?_
    rintro _ w14 ⟨rfl, e14⟩
    have z14 := e14.size
    replace e := e.trans e14
    refine runl_ev (ev_not rfl) ?_
    refine runl_nil ?_
    refine run_cond_split rfl (fun h1 => ?_) (fun h1 => ?_)
    · have hsg : isSign (q[m]'(by omega)) = false := by simpa using h1
      have hfin : allS q → q.size = 0 := fun h => absurd h (not_allS (by omega) hsg)
      refine run_exit rfl ?_
      refine run_seq ?_
      refine run_region rfl ?_
      refine runl_ev (ev_move rfl) ?_
      refine runl_ev (ev_assign rfl) ?_
      refine runl_nil ?_
      refine run_ret_any Tryz.func199 (res1 Tryz.results199 rfl) ?_
      exact ⟨q, rfl, ⟨hc, hfin⟩, hq, e⟩
    · have hsg : isSign (q[m]'(by omega)) = true := by simpa using h1
      have hcl := cut_right hm hsg
      refine run_skip ?_
      refine run_region rfl ?_
      refine runl_ev (ev_move rfl) ?_
      refine runl_ev (ev_move rfl) ?_
      refine runl_ev (ev_lenS str_9 rfl) ?_
      refine runl_ev (ev_subK ((m : Int)) rfl rfl (by rw [show ((q.size : Int) - 1) = m by omega]; exact wrap_i64 (by omega) (by omega))) ?_
      refine runl_ev (ev_sliceS_hi str_9 rfl (n := m) rfl (by omega)) ?_
      refine runl_ev (ev_assign rfl) ?_
      refine runl_nil ?_
      refine run_inBlock ?_
      exact IH (q.extract 0 m) _ _ (by rw [ByteArray.size_extract]; omega) ⟨rfl, rfl, trivial⟩ ⟨by rw [ByteArray.size_extract]; omega, hcl.trans hc, e⟩
  · have hfin : allS q → q.size = 0 := fun _ => by omega
    refine run_exit rfl ?_
    refine run_seq ?_
    refine run_region rfl ?_
    refine runl_ev (ev_move rfl) ?_
    refine runl_ev (ev_assign rfl) ?_
    refine runl_nil ?_
    refine run_ret_any Tryz.func199 (res1 Tryz.results199 rfl) ?_
    exact ⟨q, rfl, ⟨hc, hfin⟩, hq, e⟩
theorem trim_any (s : ByteArray) (w : World) (hn : s.size ≤ 1099511627776) : Ret Tryz.prog 144 [.string s, .string ⟨signsL.toArray⟩] w fun r w' => ∃ q, r = .string q ∧ Cut s q ∧ Ext w w' := by
  have e := ExtB.refl (fun _ => False) w
  refine ret_of_run Tryz.func144 rfl Tryz.ntmps144 rfl ?_
  refine run_seq ?_
  refine run_region rfl ?_
  refine runl_ev (ev_assign rfl) ?_
  refine runl_nil ?_
  refine run_seq ?_
  refine run_seq ?_
  by_cases hs0 : s = ⟨#[]⟩
  · refine run_region rfl ?_
    refine runl_ev (ev_move rfl) ?_
    refine runl_ev (ev_eqlS rfl rfl) ?_
    refine runl_ev (ev_move rfl) ?_
    refine runl_no_g rfl rfl (decide_eq_true hs0) ?_
    refine runl_no_g rfl rfl (decide_eq_true hs0) ?_
    refine runl_ev (ev_pick rfl rfl rfl (if_pos (decide_eq_true hs0))) ?_
    refine runl_nil ?_
    refine run_cond_true rfl (rfl) ?_
    refine run_seq ?_
    refine run_region rfl ?_
    refine runl_ev (ev_move rfl) ?_
    refine runl_ev (ev_assign rfl) ?_
    refine runl_nil ?_
    refine run_ret_any Tryz.func144 (res1 Tryz.results144 rfl) ?_
    exact ⟨s, rfl, ⟨Iff.rfl, fun _ => ba_empty.1 hs0⟩, e⟩
  · refine run_region rfl ?_
    refine runl_ev (ev_move rfl) ?_
    refine runl_ev (ev_eqlS rfl rfl) ?_
    refine runl_ev (ev_move rfl) ?_
    refine runl_ev_g rfl rfl (decide_eq_false hs0) (ev_move rfl) ?_
    refine runl_ev_g rfl rfl (decide_eq_false hs0) (ev_eqlS rfl rfl) ?_
    refine runl_ev (ev_pick rfl rfl rfl (if_neg (by rw [decide_eq_false hs0]; simp))) ?_
    refine runl_nil ?_
    refine run_cond_false rfl (by decide) ?_
    refine run_skip ?_
    refine run_seq ?_
    refine run_seq ?_
    refine run_region rfl ?_
    refine runl_ev (ev_move rfl) ?_
    refine runl_ev (ev_lenS str_9 rfl) ?_
    refine runl_ev (ev_eqlI rfl rfl) ?_
    refine runl_ev (ev_move rfl) ?_
    refine runl_no_g rfl rfl (by decide) ?_
    refine runl_no_g rfl rfl (by decide) ?_
    refine runl_no_g rfl rfl (by decide) ?_
    refine runl_ev (ev_pick rfl rfl rfl (if_neg (by decide))) ?_
    refine runl_nil ?_
    refine run_cond_false rfl (rfl) ?_
    refine run_skip ?_
    refine run_seq ?_
    refine run_seq ?_
    refine run_region rfl ?_
    refine runl_ev (ev_move rfl) ?_
    refine runl_op (t_call call_197 rfl (mkset_any _)) ?_
    rintro _ w31 ⟨rfl, e31⟩
    have z31 := e31.size
    replace e := e.trans e31
    refine runl_ev (ev_move rfl) ?_
    refine runl_ev (ev_extract rfl rfl) ?_
    refine runl_ev (ev_extract rfl rfl) ?_
    refine runl_op (t_alloc zero_268 rfl) ?_
    rintro _ w5 ⟨b5, rfl, hb5, e5, n5, l5⟩
    have z5 := e5.size
    replace e := e.trans e5
    refine runl_do (t_storeW sz_268 rfl rfl (setCells_len _) (List.length_replicate) hb5 ((setCells_one _))) ?_
    rintro _ v5_6 ⟨hq5_6, e5_6, z5_6⟩
    replace e := e.new1 e5_6 (by omega)
    replace hb5 := hq5_6
    clear hq5_6
    refine runl_ev (ev_assign rfl) ?_
    refine runl_nil ?_
    refine run_seq ?_
    refine run_region rfl ?_
    refine runl_ev (ev_move rfl) ?_
    refine runl_nil ?_
    refine run_cond_true rfl (rfl) ?_
    refine run_seq ?_
    refine run_region rfl ?_
    refine runl_ev (ev_move rfl) ?_
    refine runl_op (t_call call_199 rfl (trimr_any s _ hn _ _ _ hb5)) ?_
    rintro _ w36 ⟨q36, rfl, cut36, hz36, e36⟩
    have z36 := e36.size
    replace e := e.trans e36
    replace hb5 := e36.at hb5
    refine runl_op (t_call call_198 rfl (triml_any q36 _ hz36 _ _ _ hb5)) ?_
    rintro _ w37 ⟨q37, rfl, cut37, hz37, e37⟩
    have z37 := e37.size
    replace e := e.trans e37
    replace hb5 := e37.at hb5
    refine runl_ev (ev_assign rfl) ?_
    refine runl_nil ?_
    refine run_ret_any Tryz.func144 (res1 Tryz.results144 rfl) ?_
    exact ⟨q37, rfl, cut36.trans cut37, e⟩
theorem name_any (s : ByteArray) (w : World) : Ret Tryz.prog 75 [.string s] w fun r w' => r = .bool (nameB s) ∧ Ext w w' := by
  have e := ExtB.refl (fun _ => False) w
  refine ret_of_run Tryz.func75 rfl Tryz.ntmps75 rfl ?_
  refine run_seq ?_
  refine run_region rfl ?_
  refine runl_ev (ev_assign rfl) ?_
  refine runl_nil ?_
  refine run_seq ?_
  have hcs : s.size = 0 ∨ (s.size ≠ 0 ∧ ¬ s.size ≤ 12) ∨ (s.size ≠ 0 ∧ s.size ≤ 12) := by omega
  rcases hcs with q1 | ⟨q1, q2⟩ | ⟨q1, q2⟩
  · obtain rfl := ba_empty.2 q1
    refine run_region rfl ?_
    refine runl_ev (ev_move rfl) ?_
    refine runl_ev (ev_neqS rfl rfl) ?_
    refine runl_ev (ev_move rfl) ?_
    refine runl_no_g rfl rfl (by decide) ?_
    refine runl_no_g rfl rfl (by decide) ?_
    refine runl_no_g rfl rfl (by decide) ?_
    refine runl_ev (ev_pick rfl rfl rfl (if_neg (by decide))) ?_
    refine runl_ev (ev_move rfl) ?_
    refine runl_no_g rfl rfl (rfl) ?_
    refine runl_no_g rfl rfl (rfl) ?_
    refine runl_no_g rfl rfl (rfl) ?_
    refine runl_ev (ev_pick rfl rfl rfl (if_neg (by simp))) ?_
    refine runl_ev (ev_assign rfl) ?_
    refine runl_nil ?_
    refine run_ret_any Tryz.func75 (res1 Tryz.results75 rfl) ?_
    exact ⟨by rw [show nameB ⟨#[]⟩ = false by decide], e⟩
  · have q3 : s ≠ ⟨#[]⟩ := fun h => q1 (ba_empty.1 h)
    refine run_region rfl ?_
    refine runl_ev (ev_move rfl) ?_
    refine runl_ev (ev_neqS rfl rfl) ?_
    refine runl_ev (ev_move rfl) ?_
    refine runl_ev_g rfl rfl (decide_eq_true q3) (ev_move rfl) ?_
    refine runl_ev_g rfl rfl (decide_eq_true q3) (ev_lenS str_9 rfl) ?_
    refine runl_ev_g rfl rfl (decide_eq_true q3) (ev_leq rfl rfl) ?_
    refine runl_ev (ev_pick rfl rfl rfl (if_pos (decide_eq_true q3))) ?_
    refine runl_ev (ev_move rfl) ?_
    refine runl_no_g rfl rfl (decide_eq_false (by omega)) ?_
    refine runl_no_g rfl rfl (decide_eq_false (by omega)) ?_
    refine runl_no_g rfl rfl (decide_eq_false (by omega)) ?_
    refine runl_ev (ev_pick rfl rfl rfl (if_neg (by simp; omega))) ?_
    refine runl_ev (ev_assign rfl) ?_
    refine runl_nil ?_
    refine run_ret_any Tryz.func75 (res1 Tryz.results75 rfl) ?_
    exact ⟨by rw [nameB, decide_eq_false q2]; simp, e⟩
  · have q3 : s ≠ ⟨#[]⟩ := fun h => q1 (ba_empty.1 h)
    refine run_region rfl ?_
    refine runl_ev (ev_move rfl) ?_
    refine runl_ev (ev_neqS rfl rfl) ?_
    refine runl_ev (ev_move rfl) ?_
    refine runl_ev_g rfl rfl (decide_eq_true q3) (ev_move rfl) ?_
    refine runl_ev_g rfl rfl (decide_eq_true q3) (ev_lenS str_9 rfl) ?_
    refine runl_ev_g rfl rfl (decide_eq_true q3) (ev_leq rfl rfl) ?_
    refine runl_ev (ev_pick rfl rfl rfl (if_pos (decide_eq_true q3))) ?_
    refine runl_ev (ev_move rfl) ?_
    refine runl_ev_g rfl rfl (decide_eq_true (by omega)) (ev_move rfl) ?_
    refine runl_op_g rfl rfl (decide_eq_true (by omega)) (t_call call_144 rfl (trim_any s _ (by omega))) ?_
    rintro _ w12 ⟨q12, rfl, cut12, e12⟩
    have z12 := e12.size
    replace e := e.trans e12
    refine runl_ev_g rfl rfl (decide_eq_true (by omega)) (ev_eqlS rfl rfl) ?_
    refine runl_ev (ev_pick rfl rfl rfl (if_pos (decide_eq_true (by omega)))) ?_
    refine runl_ev (ev_assign rfl) ?_
    refine runl_nil ?_
    refine run_ret_any Tryz.func75 (res1 Tryz.results75 rfl) ?_
    refine ⟨?_, e⟩
    rw [cut_name cut12, nameB, decide_eq_true (by omega : 1 ≤ s.size), decide_eq_true q2]
    rfl
end Go.Proofs.YtlgkdnmklgbhbaaGreatDoor

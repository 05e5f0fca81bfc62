/- The walks of octet's writer and reader. -/
import Derived.Test.YtcmbiaibocdfeaaDoorBytes
import Derived.Test.YtcmbiaibocdfeaaDoorFacts
namespace Go.Proofs.YtcmbiaibocdfeaaDoor
open Go Go.Fw
set_option maxRecDepth 100000

theorem clone_any (l : List UInt8) (w : World) (a : Option Addr) (len cap : Nat) (hl : SlAt 1 RByte w (.slice a len cap) l) (hn : l.length ≤ 1099511627776) :
    Ret Tryd.prog 79 [.slice a len cap] w fun r w' => ∃ g, Own w' 5 1 r l.length (hcells l) g ∧ Ext w w' ∧ (g = -1 ∨ (w.heap.size : Int) ≤ g) ∧ g < w'.heap.size := by
  have hl0 := hl
  obtain ⟨rfl, -⟩ := hl.at
  have e := ExtB.refl (fun _ => False) w
  refine ret_of_run Tryd.func79 rfl Tryd.ntmps79 rfl ?_
  refine run_seq ?_
  refine run_region rfl ?_
  refine runl_ev (ev_assign rfl) ?_
  refine runl_nil ?_
  refine run_seq ?_
  refine run_seq ?_
  rcases a with _ | a
  · obtain rfl : l = [] := by
      cases l with
      | nil => rfl
      | cons b l =>
        obtain ⟨_, _, ha, _⟩ := bytes_cells hl0 (by simp)
        cases ha
    refine run_region rfl ?_
    refine runl_ev (ev_move rfl) ?_
    refine runl_ev (ev_eqlLn Tryd.underlying24 rfl rfl) ?_
    refine runl_nil ?_
    refine run_cond_true rfl (rfl) ?_
    refine run_seq ?_
    refine run_region rfl ?_
    refine runl_ev (ev_assign rfl) ?_
    refine runl_nil ?_
    refine run_ret_any Tryd.func79 (res1 Tryd.results79 rfl) ?_
    exact ⟨-1, own_nil _ _ _ _, e, .inl rfl, by omega⟩
  · refine run_region rfl ?_
    refine runl_ev (ev_move rfl) ?_
    refine runl_ev (ev_eqlLn Tryd.underlying24 rfl rfl) ?_
    refine runl_nil ?_
    refine run_cond_false rfl (rfl) ?_
    refine run_skip ?_
    refine run_seq ?_
    refine run_region rfl ?_
    refine runl_op (t_buildSlice0 Tryd.underlying24 sz_5) ?_
    rintro _ w5 ⟨b5, rfl, hb5, e5, n5, l5⟩
    have z5 := e5.size
    replace e := e.trans e5
    refine runl_ev (ev_move rfl) ?_
    refine runl_op (t_appendL (l := l) (R := RByte) ef_24 rfl rfl (own_lit (n := 0) hb5 (by unfold maxLen; omega) rfl) (hl0.ext RByte.stable e) rbyte_len (fun x cs h => rbyte_one x cs h) (by unfold maxLen; omega) (by omega)) ?_
    rintro v7 w7 ⟨news, g7, hnl, hnp, ap7⟩
    have own := ap7.own
    rw [bytes_parts hnp hnl, List.nil_append, Nat.zero_add] at own
    have hn7 := ap7.new
    have hs7 := ap7.size
    have z7 := ap7.ext.size
    replace e := e.newG ap7.ext (by omega)
    refine runl_ev (ev_assign rfl) ?_
    refine runl_nil ?_
    refine run_ret_any Tryd.func79 (res1 Tryd.results79 rfl) ?_
    exact ⟨g7, own, e, by omega, by omega⟩
theorem wraw_any {l : List UInt8} {w0 w : World} {wb : Nat} {g : Int} {v : Value} {T : TypeId} (st : WSt T 5 w0 w wb g v l) (news : List UInt8) (a : Option Addr) (n c : Nat) (hs : SlAt 1 RByte w (.slice a n c) news) (hb : l.length + news.length ≤ 1099511627776) :
    Ret Tryd.prog 56 [.pointer (some ⟨wb, 0, none⟩), .slice a n c] w (WP T 5 w0 w wb g l news) := by
  obtain ⟨hw, own, E, hwb, hg, hgl, hne⟩ := st
  have e0 := ExtB.refl (fun k => k = wb ∨ (k : Int) = g) w
  have lwb := lt_of_at hw
  obtain ⟨rfl, -⟩ := hs.at
  refine ret_of_run Tryd.func56 rfl Tryd.ntmps56 rfl ?_
  refine run_seq ?_
  refine run_region rfl ?_
  refine runl_ev (ev_move rfl) ?_
  refine runl_ev (ev_neqPn Tryd.underlying110 rfl rfl) ?_
  refine runl_nil ?_
  refine run_cond_true rfl (rfl) ?_
  refine run_region rfl ?_
  refine runl_ev (ev_move rfl) ?_
  refine runl_ev (ev_move rfl) ?_
  refine runl_ev (ev_nilCheck rfl) ?_
  refine runl_ev (ev_fieldAddr fld_62_0 rfl) ?_
  refine runl_ev (ev_load1 cell_24 rfl (eqw (cell_blk hw rfl))) ?_
  refine runl_ev (ev_move rfl) ?_
  refine runl_op (t_appendL (l := news) (R := RByte) ef_24 rfl rfl own hs rbyte_len (fun x cs h => rbyte_one x cs h) (by unfold maxLen; omega) (by omega)) ?_
  rintro v12 w12 ⟨nc, g12, hnl, hnp, ap12⟩
  have hn12 := ap12.new
  have hs12 := ap12.size
  have z12 := ap12.ext.size
  replace hw := ap12.ext.atG hw (by omega)
  replace E := E.newG ap12.ext (by omega)
  replace e0 := e0.newBG ap12.ext (fun k hk => by first | exact .inl (by omega) | exact .inr hk | exact .inr (.inr hk) | exact .inr (.inr (by omega)))
  replace own := ap12.own
  rw [bytes_parts hnp hnl, ← hcells_app, ← List.length_append] at own
  obtain ⟨a12, c12, rfl⟩ := own.shape
  refine runl_ev (ev_nilCheck rfl) ?_
  refine runl_ev (ev_fieldAddr fld_62_0 rfl) ?_
  refine runl_do (t_store1 sz_24 rfl rfl rfl rfl hw (by simp)) ?_
  rintro _ v1_9 ⟨hq1_9, e1_9, z1_9⟩
  replace own := own.ext1 e1_9 (by omega)
  replace E := E.new1 e1_9 (by omega)
  replace e0 := e0.newB1 e1_9 (by first | exact .inl (by omega) | exact .inr rfl | exact .inr (.inl rfl) | exact .inr (.inr (by omega)))
  replace hw := hq1_9
  clear hq1_9
  refine runl_nil ?_
  refine run_end_any Tryd.func56 (res0 Tryd.results56) ?_
  exact ⟨rfl, _, _, ⟨⟨hw, own, E, hwb, by omega, by omega, by omega⟩, e0, by omega⟩⟩
theorem wout_any {l : List UInt8} {w0 w : World} {wb : Nat} {g : Int} {v : Value} {T : TypeId} (st : WSt T 5 w0 w wb g v l) (hb : l.length ≤ 1099511627776) :
    Ret Tryd.prog 53 [.pointer (some ⟨wb, 0, none⟩)] w fun r w' => ∃ g, Own w' 5 1 r l.length (hcells l) g ∧ Ext w w' ∧ (g = -1 ∨ (w.heap.size : Int) ≤ g) ∧ g < w'.heap.size := by
  obtain ⟨hw, own, E, hwb, hg, hgl, hne⟩ := st
  have e := ExtB.refl (fun _ => False) w
  have hsl := own_bytes own
  obtain ⟨a, c, rfl⟩ := own.shape
  refine ret_of_run Tryd.func53 rfl Tryd.ntmps53 rfl ?_
  refine run_seq ?_
  refine run_region rfl ?_
  refine runl_ev (ev_assign rfl) ?_
  refine runl_nil ?_
  refine run_seq ?_
  refine run_seq ?_
  refine run_region rfl ?_
  refine runl_ev (ev_move rfl) ?_
  refine runl_ev (ev_eqlPn Tryd.underlying110 rfl rfl) ?_
  refine runl_nil ?_
  refine run_cond_false rfl (rfl) ?_
  refine run_skip ?_
  refine run_seq ?_
  refine run_region rfl ?_
  refine runl_ev (ev_move rfl) ?_
  refine runl_ev (ev_nilCheck rfl) ?_
  refine runl_ev (ev_fieldAddr fld_62_0 rfl) ?_
  refine runl_ev (ev_load1 cell_24 rfl (eqw (cell_blk hw rfl))) ?_
  refine runl_op (t_call call_79 rfl (clone_any l _ _ _ _ hsl hb)) ?_
  rintro v9 w9 ⟨g9, o9, e9, n9, l9⟩
  have z9 := e9.size
  replace e := e.trans e9
  refine runl_ev (ev_assign rfl) ?_
  refine runl_nil ?_
  refine run_ret_any Tryd.func53 (res1 Tryd.results53 rfl) ?_
  exact ⟨g9, o9, e9, n9, l9⟩
theorem wnums_any {l : List UInt8} {w0 w : World} {wb : Nat} {g : Int} {v : Value} {T : TypeId} (st : WSt T 5 w0 w wb g v l) (ns : List Int) (a : Option Addr) (n c : Nat) (hs : SlAt 1 RInt w (.slice a n c) ns) (ha : ∀ b o, a = some ⟨b, o, none⟩ → b ≠ wb ∧ (b : Int) ≠ g) (hln : ns.length ≤ 1099511627776) (hb : l.length + (encNs ns).length ≤ 1099511627776) :
    Ret Tryd.prog 22 [.pointer (some ⟨wb, 0, none⟩), .slice a n c] w (WP T 5 w0 w wb g l (encNs ns)) := by
  obtain ⟨rfl, hat⟩ := hs.at
  have e0 := ExtB.refl (fun k => k = wb ∨ (k : Int) = g) w
  obtain ⟨hw, own, E, hwb1, hg1, hgl1, hne1⟩ := st
  have lwb := lt_of_at hw
  have zl := E.size
  have zl0 := e0.size
  refine ret_of_run Tryd.func22 rfl Tryd.ntmps22 rfl ?_
  refine run_seq ?_
  refine run_seq ?_
  refine run_region rfl ?_
  refine runl_ev (ev_move rfl) ?_
  refine runl_ev (ev_eqlPn Tryd.underlying110 rfl rfl) ?_
  refine runl_nil ?_
  refine run_cond_false rfl (rfl) ?_
  refine run_skip ?_
  refine run_seq ?_
  refine run_region rfl ?_
  refine runl_ev (ev_move rfl) ?_
  refine runl_ev (ev_lenL sl_111 rfl) ?_
  refine runl_ev (ev_move rfl) ?_
  refine runl_nil ?_
  refine run_block ?_
  refine run_loop (ι := Nat × Value × Int) (fun x => [(0, .pointer (some ⟨wb, 0, none⟩)), (9, .slice a ns.length c), (10, .int .i64 (ns.length : Int)), (11, .int .i64 (x.1 : Int))]) (fun x w' => x.1 ≤ ns.length ∧ WSt T 5 w0 w' wb x.2.2 x.2.1 (l ++ encNs (ns.take x.1)) ∧ ExtB (fun k => k = wb ∨ (k : Int) = g) w w' ∧ (x.2.2 = g ∨ (w.heap.size : Int) ≤ x.2.2)) (fun x => ns.length - x.1) ((0, v, g)) ⟨rfl, rfl, rfl, rfl, trivial⟩ (⟨Nat.zero_le _, by simpa [encNs] using (⟨hw, own, E, hwb1, hg1, hgl1, hne1⟩ : WSt T 5 w0 w wb g v l), e0, .inl rfl⟩) ?_
  clear e0 hw own E hwb1 hg1 hgl1 hne1
  intro ⟨k, v, g1⟩ w1 ⟨hk, st, e0, hgn⟩ IH
  simp only at hk st hgn
  obtain ⟨hw, own, E, hwb1, hg1, hgl1, hne1⟩ := st
  have lwb := lt_of_at hw
  have zl := E.size
  have zl0 := e0.size
  refine run_seq ?_
  refine run_region rfl ?_
  refine runl_ev (ev_lss rfl rfl) ?_
  refine runl_nil ?_
  refine run_seq ?_
  refine run_dcond rfl (fun h1 => ?_) (fun h1 => ?_)
  · have hk1 : k < ns.length := by omega
    obtain ⟨n, hn⟩ : ∃ n, ns[k]? = some n := ⟨ns[k], by simp⟩
    obtain ⟨b1, o1, cs1, rfl, hr1, hc1⟩ := hs.get hn
    obtain rfl := hr1
    have hb1 := ha b1 o1 rfl
    have htk := encNs_take hn
    have htl := encNs_take_le ns (k + 1)
    rw [htk, List.length_append] at htl
    have hcl := clampN_lt n
    refine run_skip ?_
    refine run_seq ?_
    refine run_block ?_
    refine run_seq ?_
    refine run_region rfl ?_
    refine runl_ev (ev_indexAddr el_111 rfl rfl (by omega)) ?_
    refine runl_ev (ev_load1 cell_3 rfl (eqw (hc1.extB e0 (fun h => h.elim hb1.1 hb1.2)))) ?_
    refine runl_ev (ev_assign rfl) ?_
    refine runl_nil ?_
    refine run_seq ?_
    refine run_region rfl ?_
    refine runl_ev (ev_move rfl) ?_
    refine runl_ev (ev_min rfl rfl) ?_
    refine runl_ev (ev_max rfl rfl) ?_
    refine runl_ev (ev_convI ((clampN n : Int)) Tryd.underlying3 Tryd.underlying112 rfl (clamp_wrap n)) ?_
    refine runl_ev (ev_assign rfl) ?_
    refine runl_nil ?_
    refine run_seq ?_
    refine run_block ?_
    refine run_loop (ι := Nat × List UInt8 × Value × Int) (fun y => [(0, .pointer (some ⟨wb, 0, none⟩)), (6, .int .u64 (y.1 : Int)), (9, .slice (some ⟨b1, o1, none⟩) ns.length c), (10, .int .i64 (ns.length : Int)), (11, .int .i64 (k : Int))]) (fun y w' => y.1 ≤ 4611686018427387904 ∧ y.2.1 ++ encU y.1 = encN n ∧ WSt T 5 w0 w' wb y.2.2.2 y.2.2.1 (l ++ encNs (ns.take k) ++ y.2.1) ∧ ExtB (fun k => k = wb ∨ (k : Int) = g) w w' ∧ (y.2.2.2 = g ∨ (w.heap.size : Int) ≤ y.2.2.2)) (fun y => y.1) ((clampN n, [], v, g1)) ⟨rfl, rfl, rfl, rfl, rfl, trivial⟩ (⟨hcl, rfl, by simpa using (⟨hw, own, E, hwb1, hg1, hgl1, hne1⟩ : WSt T 5 w0 _ wb g1 v (l ++ encNs (ns.take k))), e0, hgn⟩) ?_
    clear e0 hw own E hwb1 hg1 hgl1 hne1 hgn
    intro ⟨u, dn, v, g2⟩ w2 ⟨hu, hdn, st, e0, hgn⟩ IH1
    simp only at hu hdn st hgn
    obtain ⟨hw, own, E, hwb1, hg1, hgl1, hne1⟩ := st
    have lwb := lt_of_at hw
    have zl := E.size
    have zl0 := e0.size
    have hdl := congrArg List.length hdn
    have hne := encU_ne u
    have hul : 1 ≤ (encU u).length := by cases hq : encU u with | nil => exact absurd hq hne | cons _ _ => simp
    rw [List.length_append] at hdl
    have hll : (l ++ encNs (ns.take k) ++ dn).length = l.length + (encNs (ns.take k)).length + dn.length := by simp [List.length_append]; omega
    refine run_seq ?_
    refine run_seq ?_
    refine run_region rfl ?_
    refine runl_ev (ev_move rfl) ?_
    refine runl_ev (ev_geq rfl rfl) ?_
    refine runl_nil ?_
    refine run_dcond rfl (fun h2 => ?_) (fun h2 => ?_)
    · refine run_skip ?_
      refine run_seq ?_
      refine run_block ?_
      refine run_region rfl ?_
      refine runl_ev (ev_move rfl) ?_
      refine runl_ev (ev_move rfl) ?_
      refine runl_ev (ev_nilCheck rfl) ?_
      refine runl_ev (ev_fieldAddr fld_62_0 rfl) ?_
      refine runl_ev (ev_load1 cell_24 rfl (eqw (cell_blk hw rfl))) ?_
      refine runl_ev (ev_move rfl) ?_
      refine runl_ev (ev_convI (((u % 256 : Nat) : Int)) Tryd.underlying112 Tryd.underlying5 rfl (u8_mod u)) ?_
      refine runl_ev (ev_or (((UInt8.ofNat (u % 128 + 128)).toNat : Int)) rfl rfl (or128 u)) ?_
      refine runl_op (t_buildSlice (out := [.int .u8 ((UInt8.ofNat (u % 128 + 128)).toNat : Int)]) Tryd.underlying24 sz_5 zero_5 rfl rfl (by decide) (by decide) rfl (rfl)) ?_
      rintro _ w31 ⟨b31, rfl, hb31, e31, n31, l31⟩
      have z31 := e31.size
      replace hw := e31.at hw
      replace own := own.ext e31
      replace E := E.trans e31
      replace e0 := e0.trans e31.toB
      refine runl_op (t_append (news := [.int .u8 ((UInt8.ofNat (u % 128 + 128)).toNat : Int)]) ef_24 rfl rfl own rfl (cells_all hb31) (by simp) (by unfold maxLen; omega) (by omega)) ?_
      rintro v32 w32 ⟨g32, ap32⟩
      have hn32 := ap32.new
      have z32 := ap32.size
      replace hw := ap32.ext.atG hw (by omega)
      replace E := E.newG ap32.ext (by omega)
      replace e0 := e0.newBG ap32.ext (fun k hk => by rcases hgn with h | h; exact .inr (.inr (by omega)); exact .inl (by omega))
      replace own := ap32.own
      obtain ⟨a32, c32, rfl⟩ := own.shape
      refine runl_ev (ev_nilCheck rfl) ?_
      refine runl_ev (ev_fieldAddr fld_62_0 rfl) ?_
      refine runl_do (t_store1 sz_24 rfl rfl rfl rfl hw (by simp)) ?_
      rintro _ v7_12 ⟨hq7_12, e7_12, z7_12⟩
      replace own := own.ext1 e7_12 (by omega)
      replace E := E.new1 e7_12 (by omega)
      replace e0 := e0.newB1 e7_12 (by first | exact .inl (by omega) | exact .inr rfl | exact .inr (.inl rfl) | exact .inr (.inr (by omega)))
      replace hw := hq7_12
      clear hq7_12
      refine runl_nil ?_
      refine run_inBlock ?_
      refine run_region rfl ?_
      refine runl_ev (ev_move rfl) ?_
      refine runl_ev (ev_shr (((u / 128 : Nat) : Int)) rfl rfl (by omega) (shr7 u)) ?_
      refine runl_ev (ev_assign rfl) ?_
      refine runl_nil ?_
      refine IH1 (u / 128, dn ++ [UInt8.ofNat (u % 128 + 128)], _, g32) _ _ (by simp only; omega) ⟨rfl, rfl, rfl, rfl, rfl, trivial⟩ ⟨(by show u / 128 ≤ _; omega), ?_, ⟨hw, ?_, E, hwb1, (by show g32 = -1 ∨ (_ : Int) ≤ g32; omega), (by show g32 < (_ : Int); omega), (by show g32 ≠ (_ : Int); omega)⟩, e0, (by show g32 = g ∨ _ ≤ g32; omega)⟩
      · show dn ++ [_] ++ encU (u / 128) = _
        rw [← hdn, encU_more (u := u) (by omega)]
        simp
      · have hq : (l ++ encNs (ns.take k) ++ (dn ++ [UInt8.ofNat (u % 128 + 128)])).length = (l ++ encNs (ns.take k) ++ dn).length + 1 := by simp only [List.length_append, List.length_singleton]; omega
        show Own _ _ _ _ (l ++ encNs (ns.take k) ++ (dn ++ [UInt8.ofNat (u % 128 + 128)])).length _ _
        rw [hq, ← List.append_assoc, hcells_app]
        exact own
    · refine run_exit rfl ?_
      refine run_region rfl ?_
      refine runl_ev (ev_move rfl) ?_
      refine runl_ev (ev_move rfl) ?_
      refine runl_ev (ev_nilCheck rfl) ?_
      refine runl_ev (ev_fieldAddr fld_62_0 rfl) ?_
      refine runl_ev (ev_load1 cell_24 rfl (eqw (cell_blk hw rfl))) ?_
      refine runl_ev (ev_move rfl) ?_
      refine runl_ev (ev_convI (((UInt8.ofNat u).toNat : Int)) Tryd.underlying112 Tryd.underlying5 rfl (by rw [u8_mod, u8_ofNat (by omega)]; congr 1; omega)) ?_
      refine runl_op (t_buildSlice (out := [.int .u8 ((UInt8.ofNat (u)).toNat : Int)]) Tryd.underlying24 sz_5 zero_5 rfl rfl (by decide) (by decide) rfl (rfl)) ?_
      rintro _ w42 ⟨b42, rfl, hb42, e42, n42, l42⟩
      have z42 := e42.size
      replace hw := e42.at hw
      replace own := own.ext e42
      replace E := E.trans e42
      replace e0 := e0.trans e42.toB
      refine runl_op (t_append (news := [.int .u8 ((UInt8.ofNat (u)).toNat : Int)]) ef_24 rfl rfl own rfl (cells_all hb42) (by simp) (by unfold maxLen; omega) (by omega)) ?_
      rintro v43 w43 ⟨g43, ap43⟩
      have hn43 := ap43.new
      have z43 := ap43.size
      replace hw := ap43.ext.atG hw (by omega)
      replace E := E.newG ap43.ext (by omega)
      replace e0 := e0.newBG ap43.ext (fun k hk => by rcases hgn with h | h; exact .inr (.inr (by omega)); exact .inl (by omega))
      replace own := ap43.own
      obtain ⟨a43, c43, rfl⟩ := own.shape
      refine runl_ev (ev_nilCheck rfl) ?_
      refine runl_ev (ev_fieldAddr fld_62_0 rfl) ?_
      refine runl_do (t_store1 sz_24 rfl rfl rfl rfl hw (by simp)) ?_
      rintro _ v8_11 ⟨hq8_11, e8_11, z8_11⟩
      replace own := own.ext1 e8_11 (by omega)
      replace E := E.new1 e8_11 (by omega)
      replace e0 := e0.newB1 e8_11 (by first | exact .inl (by omega) | exact .inr rfl | exact .inr (.inl rfl) | exact .inr (.inr (by omega)))
      replace hw := hq8_11
      clear hq8_11
      refine runl_nil ?_
      refine run_inBlock ?_
      refine run_region rfl ?_
      refine runl_ev (ev_add rfl rfl (by omega) (by omega)) ?_
      refine runl_ev (ev_move rfl) ?_
      refine runl_nil ?_
      refine IH (k + 1, _, g43) _ _ (by simp only; omega) ⟨rfl, rfl, rfl, rfl, trivial⟩ ⟨(by show k + 1 ≤ _; omega), ⟨hw, ?_, E, hwb1, (by show g43 = -1 ∨ (_ : Int) ≤ g43; omega), (by show g43 < (_ : Int); omega), (by show g43 ≠ (_ : Int); omega)⟩, e0, (by show g43 = g ∨ _ ≤ g43; omega)⟩
      show Own _ _ _ _ (l ++ encNs (ns.take (k + 1))).length _ _
      have hq : l ++ encNs (ns.take (k + 1)) = (l ++ encNs (ns.take k) ++ dn) ++ [UInt8.ofNat u] := by rw [htk, ← hdn, encU_small (by omega : u < 128)]; simp
      have hq1 : ((l ++ encNs (ns.take k) ++ dn) ++ [UInt8.ofNat u]).length = (l ++ encNs (ns.take k) ++ dn).length + 1 := by rw [List.length_append]; rfl
      rw [hq, hq1, hcells_app]
      exact own
  · obtain rfl : k = ns.length := by omega
    rw [List.take_length] at own
    refine run_exit rfl ?_
    refine run_end_any Tryd.func22 (res0 Tryd.results22) ?_
    exact ⟨rfl, _, _, ⟨⟨hw, own, E, hwb1, hg1, hgl1, hne1⟩, e0, hgn⟩⟩
theorem wbytes_any {l : List UInt8} {w0 w : World} {wb : Nat} {g : Int} {v : Value} {T : TypeId} (st : WSt T 5 w0 w wb g v l) (news : List UInt8) (a : Option Addr) (n c pb pk : Nat) (TP : TypeId) (fr : Nat × Nat) (hp : w.heap[pb]? = some (.cells ⟨[.slice a n c]⟩ TP fr)) (hpb : pb ≠ wb ∧ (pb : Int) ≠ g) (hs : ∀ w', ExtB (fun k => k = wb ∨ (k : Int) = g) w w' → SlAt 1 RByte w' (.slice a n c) news) (hb : l.length + (encBs news).length ≤ 1099511627776) :
    Ret Tryd.prog 73 [.pointer (some ⟨wb, 0, none⟩), .slice (some ⟨pb, 0, none⟩) 1 pk] w (WP T 5 w0 w wb g l (encBs news)) := by
  obtain ⟨rfl, -⟩ := (hs w (ExtB.refl _ _)).at
  have lpb := lt_of_at hp
  have hw0 := lt_of_at st.hw
  have e := ExtB.refl (fun _ => False) w
  have hlb : (encBs news).length = (encN news.length).length + news.length := by simp [encBs]
  have hnl : news.length ≤ 1099511627776 := by omega
  refine ret_of_run Tryd.func73 rfl Tryd.ntmps73 rfl ?_
  refine run_seq ?_
  refine run_region rfl ?_
  refine runl_ev (ev_move rfl) ?_
  refine runl_ev (ev_lenL sl_134 rfl) ?_
  refine runl_ev (ev_move rfl) ?_
  refine runl_nil ?_
  refine run_block ?_
  refine run_loop (ι := Nat × Value × Int) (fun x => [(0, .pointer (some ⟨wb, 0, none⟩)), (6, .slice (some ⟨pb, 0, none⟩) 1 pk), (7, .int .i64 1), (8, .int .i64 (x.1 : Int))]) (fun x w' => (x.1 = 0 ∧ w' = w ∧ x.2.1 = v ∧ x.2.2 = g) ∨ (x.1 = 1 ∧ WPost T 5 w0 w wb g l (encBs news) x.2.1 x.2.2 w')) (fun x => 1 - x.1) ((0, v, g)) ⟨rfl, rfl, rfl, rfl, trivial⟩ (.inl ⟨rfl, rfl, rfl, rfl⟩) ?_
  intro ⟨k, v1, g1⟩ w1 hJ IH
  simp only at hJ
  refine run_seq ?_
  rcases hJ with ⟨rfl, rfl, rfl, rfl⟩ | ⟨rfl, hpost⟩
  · have hp0 := hp
    have e := ExtB.refl (fun _ => False) w1
    refine run_region rfl ?_
    refine runl_ev (ev_lss rfl rfl) ?_
    refine runl_nil ?_
    refine run_seq ?_
    refine run_cond_true rfl (rfl) ?_
    refine run_skip ?_
    refine run_seq ?_
    refine run_block ?_
    refine run_seq ?_
    refine run_region rfl ?_
    refine runl_ev (ev_indexAddr (k := 0) el_134 rfl rfl (by omega)) ?_
    refine runl_ev (ev_load1 cell_24 rfl (eqw (cell_blk hp0 rfl))) ?_
    refine runl_ev (ev_assign rfl) ?_
    refine runl_nil ?_
    refine run_seq ?_
    refine run_region rfl ?_
    refine runl_ev (ev_move rfl) ?_
    refine runl_ev (ev_move rfl) ?_
    refine runl_ev (ev_lenL sl_24 rfl) ?_
    refine runl_op (t_buildSlice (out := [.int .i64 (news.length : Int)]) Tryd.underlying111 sz_3 zero_3 rfl rfl (by decide) (by decide) rfl (rfl)) ?_
    rintro _ w15 ⟨b15, rfl, hb15, e15, n15, l15⟩
    have z15 := e15.size
    refine runl_op (t_call call_22 rfl (wnums_any (st.up e15) [(news.length : Int)] _ _ _ (sl_lit (l := [(news.length : Int)]) (R := RInt) hb15 (pc rfl pn)) (fun b o h => by cases h; have := st.hgl; exact ⟨by omega, by omega⟩) (by simp) (by rw [encNs_one]; omega))) ?_
    rintro _ w16 ⟨rfl, v2, g2, p16⟩
    have q16 := p16.from e15
    rw [encNs_one] at q16 p16
    have z16 := q16.extB.size
    refine runl_nil ?_
    refine run_region rfl ?_
    refine runl_ev (ev_move rfl) ?_
    refine runl_ev (ev_move rfl) ?_
    refine runl_op (t_call call_56 rfl (wraw_any q16.st news _ _ _ (hs _ q16.extB) (by rw [List.length_append]; omega))) ?_
    rintro _ w19 ⟨rfl, v3, g3, p19⟩
    have q19 := q16.trans st.hgl p19
    have z19 := q19.extB.size
    refine runl_nil ?_
    refine run_inBlock ?_
    refine run_region rfl ?_
    refine runl_ev (ev_add rfl rfl (by omega) (by omega)) ?_
    refine runl_ev (ev_move rfl) ?_
    refine runl_nil ?_
    exact IH (1, v3, g3) _ _ (by simp only; omega) ⟨rfl, rfl, rfl, rfl, trivial⟩ (.inr ⟨rfl, q19⟩)
  · refine run_region rfl ?_
    refine runl_ev (ev_lss rfl rfl) ?_
    refine runl_nil ?_
    refine run_seq ?_
    refine run_cond_false rfl (rfl) ?_
    refine run_exit rfl ?_
    refine run_end_any Tryd.func73 (res0 Tryd.results73) ?_
    exact ⟨rfl, _, _, hpost⟩
end Go.Proofs.YtcmbiaibocdfeaaDoor

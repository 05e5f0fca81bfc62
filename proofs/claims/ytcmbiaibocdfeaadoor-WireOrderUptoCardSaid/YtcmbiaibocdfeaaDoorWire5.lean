/- The walks of what encodes roots and times, and of the reference's. -/
import Derived.Test.YtcmbiaibocdfeaaDoorOwnB
import Derived.Test.YtcmbiaibocdfeaaDoorWire3
import Derived.Test.YtcmbiaibocdfeaaDoorWire4
namespace Go.Proofs.YtcmbiaibocdfeaaDoor
open Go Go.Fw
set_option maxRecDepth 100000

theorem enctime1_any {l : List UInt8} {w0 w : World} {wb : Nat} {g : Int} {v : Value} {T : TypeId} (st : WSt T 5 w0 w wb g v l) (t : TimeP) (ht : t.sum.length = 32) (xb : Nat) (hx : w0.heap[xb]? = some (.cells ⟨t.cells⟩ 31 (0, 0))) (hb : l.length ≤ 1000) :
    Ret Tryd.prog 21 [.pointer (some ⟨wb, 0, none⟩), .pointer (some ⟨xb, 0, none⟩)] w (WP T 5 w0 w wb g l (encTime t)) := by
  have e := ExtB.refl (fun _ => False) w
  have lwb := lt_of_at st.hw
  have hgl := st.hgl
  have lxb := lt_of_at hx
  have hwb := st.hwb
  have hg0 := st.hg
  replace hx := st.ext.at hx
  have hnl := encNs_len [t.ver, t.exp, t.snap]
  simp only [List.length_cons, List.length_nil] at hnl
  refine ret_of_run Tryd.func21 rfl Tryd.ntmps21 rfl ?_
  refine run_seq ?_
  refine run_draw mo (fun w' => Ext w w') [10] [(true, 0), (true, 1), (true, 2), (true, 3), (true, 4), (true, 5), (true, 6), (true, 7), (true, 8), (false, 9), (false, 10)] (by kernel_rfl) ?_
  intro wr0 er0
  have zr0 := er0.size
  have hsr0 := er0
  have ep := e.trans er0
  have hxp := er0.at hx
  refine rund_ev hsr0 rfl (ev_move rfl) ?_
  refine rund_ev hsr0 rfl (ev_nilCheck rfl) ?_
  refine rund_ev hsr0 rfl (ev_fieldAddr fld_64_0 rfl) ?_
  refine rund_ev hsr0 rfl (ev_fieldAddr fld_31_0 rfl) ?_
  refine rund_ev hsr0 rfl (ev_load1 cell_3 rfl (fun wz hz => cell_blk (hz.at hx) rfl)) ?_
  refine rund_ev hsr0 rfl (ev_fieldAddr fld_31_1 rfl) ?_
  refine rund_ev hsr0 rfl (ev_load1 cell_3 rfl (fun wz hz => cell_blk (hz.at hx) rfl)) ?_
  refine rund_ev hsr0 rfl (ev_fieldAddr fld_31_2 rfl) ?_
  refine rund_ev hsr0 rfl (ev_load1 cell_3 rfl (fun wz hz => cell_blk (hz.at hx) rfl)) ?_
  refine rund_op rfl (t_buildSlice (out := [.int .i64 t.ver, .int .i64 t.exp, .int .i64 t.snap]) Tryd.underlying111 sz_3 zero_3 rfl rfl (by decide) (by decide) rfl (rfl)) ?_
  rintro _ w12 ⟨b12, rfl, hb12, e12, n12, l12⟩
  have z12 := e12.size
  replace ep := ep.trans e12
  replace hxp := e12.at hxp
  have hs12 := hsr0.trans e12
  refine ⟨hs12, ?_⟩
  have hb12p := hb12
  refine rund_opT rfl rfl (t_call call_22 rfl (wnums_any (st.up ep) [t.ver, t.exp, t.snap] _ _ _ (sl_lit (l := [t.ver, t.exp, t.snap]) (R := RInt) hb12p (pc rfl (pc rfl (pc rfl pn)))) (fun b o h => by cases h; exact ⟨by omega, by omega⟩) (by simp) (by omega))) ?_
  rintro _ w13 ⟨rfl, v13, g13, p13⟩
  have q13 := p13.from ep
  have z13 := q13.extB.size
  replace hxp := p13.extB.at hxp (fun h => by rcases h with h | h <;> omega)
  refine rund_nil ?_
  replace hx := hxp
  clear hxp
  refine run_region rfl ?_
  refine runl_ev (ev_move rfl) ?_
  refine runl_ev (ev_fieldAddr fld_31_3 rfl) ?_
  refine runl_ev (ev_loadA agg_29 (by rw [hcells_length]; exact ht) rfl (eqw (cells_blk (c := ⟨t.cells⟩) hx (fun i v hv => by rw [show 0 + 3 + i = i + 3 by omega]; simpa [TimeP.cells] using hv)))) ?_
  refine runl_op (t_call call_23 rfl (whash_any q13.st t.sum ht (by rw [List.length_append]; omega))) ?_
  rintro _ w17 ⟨rfl, v17, g17, p17⟩
  have q17 := q13.trans hgl p17
  have z17 := q17.extB.size
  refine runl_nil ?_
  refine run_end_any Tryd.func21 (res0 Tryd.results21) ?_
  exact ⟨rfl, v17, g17, q17⟩
theorem enctime_any (x : TimeP) (w : World) (ht : x.sum.length = 32) : Ret Tryd.prog 9 [.agg ⟨x.cells⟩] w fun v w' => ∃ p, v = .tuple #[p, .int .i64 (encE isTimeP x)] ∧ OwnB 5 w (encP 2 isTimeP encTime x) p w' := by
  have e := ExtB.refl (fun _ => False) w
  have hcl : x.cells.length = 35 := by show (hcells x.sum).length + 3 = 35; rw [hcells_length]; omega
  refine ret_of_run Tryd.func9 rfl Tryd.ntmps9 rfl ?_
  refine run_seq ?_
  refine run_region rfl ?_
  refine runl_op (t_boxA rfl) ?_
  rintro _ w1 ⟨b1, rfl, hb1, e1, n1, l1⟩
  have z1 := e1.size
  replace e := e.trans e1
  refine runl_ev (ev_assign rfl) ?_
  refine runl_ev (ev_assign rfl) ?_
  refine runl_nil ?_
  refine run_seq ?_
  refine run_region rfl ?_
  refine runl_ev (ev_loadA agg_31 hcl rfl (eqw (cells_all hb1))) ?_
  refine runl_op (t_call call_20 rfl (istime_any x ht _)) ?_
  rintro _ w5 ⟨rfl, e5⟩
  have z5 := e5.size
  replace e := e.trans e5
  replace hb1 := e5.at hb1
  refine runl_ev (ev_makeFunc rfl rfl) ?_
  refine runl_op (t_call call_19 rfl (encoded_any _ 2 (isTimeP x) 21 [.pointer (some ⟨b1, 0, none⟩)] call_21 (encTime x) (by have := encN_len 2; omega) (fun _ => by have := encNs_len [x.ver, x.exp, x.snap]; simp only [encTime, List.length_append, List.length_cons, List.length_nil] at this ⊢; omega) (fun _ w1 wb g v st => enctime1_any st x ht b1 hb1 (by have := encN_len 2; omega)))) ?_
  rintro _ w7 ⟨p7, g7, rfl, o7, e7, hg7, hgl7⟩
  have z7 := e7.size
  replace e := e.trans e7
  replace hb1 := e7.at hb1
  refine runl_ev (ev_extract rfl rfl) ?_
  refine runl_ev (ev_extract rfl rfl) ?_
  refine runl_ev (ev_assign rfl) ?_
  refine runl_ev (ev_assign rfl) ?_
  refine runl_nil ?_
  refine run_ret_any Tryd.func9 (res2 Tryd.results9 rfl rfl) ?_
  have hz := e.size
  exact ⟨p7, rfl, ownB_of o7 e (by omega) (by omega)⟩
theorem known_bytes : encP 2 isTimeP encTime ⟨1, 0, 1, List.replicate 32 0⟩ = 2 :: 1 :: 0 :: 1 :: List.replicate 32 0 := by
  have h : isTimeP ⟨1, 0, 1, List.replicate 32 0⟩ = true := by decide
  unfold encP
  rw [h, if_pos rfl]
  have e2 : encN 2 = [2] := encN_small (n := 2) (by decide)
  have e1 : encN 1 = [1] := encN_small (n := 1) (by decide)
  have e0 : encN 0 = [0] := encN_small (n := 0) (by decide)
  simp only [encTime, encNs, List.flatMap_cons, List.flatMap_nil, e0, e1, e2, List.cons_append, List.nil_append, List.append_nil]

theorem known_any (w : World) : Ret Tryd.prog 8 [] w fun r w' => r = .bool true ∧ Ext w w' := by
  have e := ExtB.refl (fun _ => False) w
  refine ret_of_run Tryd.func8 rfl Tryd.ntmps8 rfl ?_
  refine run_seq ?_
  refine run_region rfl ?_
  refine runl_ev (ev_assign rfl) ?_
  refine runl_nil ?_
  refine run_seq ?_
  refine run_region rfl ?_
  refine runl_ev (ev_build (out := TimeP.cells ⟨1, 0, 1, List.replicate 32 0⟩) ps_31 zero_31 rfl rfl (by kernel_rfl)) ?_
  refine runl_op (t_call call_9 rfl (enctime_any ⟨1, 0, 1, List.replicate 32 0⟩ _ (by simp))) ?_
  rintro _ w5 ⟨p5, rfl, o5⟩
  have e5 := o5.ext
  rw [known_bytes] at o5
  obtain ⟨a5, c5, rfl, hc5, s5⟩ := o5.sl
  obtain ⟨b5, oo5, rfl, hcc⟩ := bytes_cells s5 (by simp)
  have z5 := e5.size
  replace e := e.trans e5
  refine runl_ev (ev_move rfl) ?_
  refine runl_ev (ev_extract rfl rfl) ?_
  refine runl_ev (ev_extract rfl rfl) ?_
  refine runl_ev (ev_assign rfl) ?_
  refine runl_ev (ev_assign rfl) ?_
  refine runl_nil ?_
  refine run_seq ?_
  refine run_region rfl ?_
  refine runl_ev (ev_move rfl) ?_
  refine runl_ev (ev_eqlI rfl rfl) ?_
  refine runl_ev (ev_move rfl) ?_
  refine runl_ev_g rfl rfl (rfl) (ev_move rfl) ?_
  refine runl_ev_g rfl rfl (rfl) (ev_lenL sl_24 rfl) ?_
  refine runl_ev_g rfl rfl (rfl) (ev_eqlI rfl rfl) ?_
  refine runl_ev (ev_pick rfl rfl rfl (if_pos (rfl))) ?_
  refine runl_ev (ev_move rfl) ?_
  refine runl_ev_g rfl rfl (rfl) (ev_move rfl) ?_
  refine runl_ev_g rfl rfl (rfl) (ev_indexAddr (k := 0) el_24 rfl rfl (by simp)) ?_
  refine runl_ev_g rfl rfl (rfl) (ev_load1 cell_5 rfl (eqw (hcc.pick 0 rfl rfl))) ?_
  refine runl_ev_g rfl rfl (rfl) (ev_eqlI rfl rfl) ?_
  refine runl_ev (ev_pick rfl rfl rfl (if_pos (rfl))) ?_
  refine runl_ev (ev_assign rfl) ?_
  refine runl_nil ?_
  refine run_ret_any Tryd.func8 (res1 Tryd.results8 rfl) ?_
  exact ⟨rfl, e⟩
theorem rnum1_any (n : Int) (w : World) : Ret Tryd.prog 31 [.int .i64 n] w (OwnB 5 w (encN n)) := by
  have e := ExtB.refl (fun _ => False) w
  have hcl := clampN_lt n
  refine ret_of_run Tryd.func31 rfl Tryd.ntmps31 rfl ?_
  refine run_seq ?_
  refine run_region rfl ?_
  refine runl_ev (ev_assign rfl) ?_
  refine runl_nil ?_
  refine run_seq ?_
  refine run_region rfl ?_
  refine runl_ev (ev_assign rfl) ?_
  refine runl_nil ?_
  refine run_cut1 (ι := Unit) (fun _ => [(3, .int .u64 (clampN n : Int))]) (fun _ w1 => Ext w w1) ?_ ?_
  · clear e
    intro _ w1 e
    refine run_seq ?_
    refine run_region rfl ?_
    refine runl_ev (ev_assign rfl) ?_
    refine runl_nil ?_
    refine run_seq ?_
    refine run_block ?_
    refine run_loop (ι := Nat × List UInt8 × Value) (fun x => [(3, .int .u64 (x.1 : Int)), (4, x.2.2)]) (fun x w1 => x.1 ≤ 4611686018427387904 ∧ x.2.1 ++ encU x.1 = encN n ∧ OwnB 5 w x.2.1 x.2.2 w1) (fun x => x.1) ((clampN n, [], .slice none 0 0)) ⟨rfl, rfl, trivial⟩ (⟨hcl, rfl, OwnL.nil _ _ e⟩) ?_
    clear e
    intro ⟨u, dn, v⟩ w2 ⟨hu, hdn, ow⟩ IH
    simp only at hu hdn ow
    obtain ⟨xs, g, own, hpp, hxl, e, hg, hgl⟩ := ow.open
    have hdl := congrArg List.length hdn
    have hnl := encN_len n
    rw [List.length_append] at hdl
    refine run_seq ?_
    refine run_seq ?_
    refine run_region rfl ?_
    refine runl_ev (ev_move rfl) ?_
    refine runl_ev (ev_geq rfl rfl) ?_
    refine runl_nil ?_
    refine run_dcond rfl (fun h2 => ?_) (fun h2 => ?_)
    · refine run_skip ?_
      refine run_block ?_
      refine run_seq ?_
      refine run_region rfl ?_
      refine runl_ev (ev_move rfl) ?_
      refine runl_ev (ev_move rfl) ?_
      refine runl_ev (ev_and (((u % 128 : Nat) : Int)) rfl rfl (and127u u (by omega))) ?_
      refine runl_ev (ev_convI (((u % 128 : Nat) : Int)) Tryd.underlying112 Tryd.underlying5 rfl (by rw [u8_mod, Nat.mod_eq_of_lt (by omega)])) ?_
      refine runl_ev (ev_or (((UInt8.ofNat (u % 128 + 128)).toNat : Int)) rfl rfl (or128b u)) ?_
      refine runl_op (t_buildSlice (out := [.int .u8 ((UInt8.ofNat (u % 128 + 128)).toNat : Int)]) Tryd.underlying24 sz_5 zero_5 rfl rfl (by decide) (by decide) rfl (rfl)) ?_
      rintro _ w18 ⟨b18, rfl, hb18, e18, n18, l18⟩
      have z18 := e18.size
      replace e := e.trans e18
      replace own := own.ext e18
      refine runl_op (t_append (news := [.int .u8 ((UInt8.ofNat (u % 128 + 128)).toNat : Int)]) ef_24 rfl rfl own rfl (cells_all hb18) (by simp) (by unfold maxLen; omega) (by omega)) ?_
      rintro v19 w19 ⟨g19, ap19⟩
      have z19 := ap19.size
      have ow19 := OwnL.app flat_byte e hg (by omega) (hpp.mono fun _ _ _ hr => flat_byte _ _ _ _ hr) hxl (parts_bytes [_]) ap19 rfl rfl
      refine runl_ev (ev_assign rfl) ?_
      refine runl_nil ?_
      refine run_region rfl ?_
      refine runl_ev (ev_move rfl) ?_
      refine runl_ev (ev_shr (((u / 128 : Nat) : Int)) rfl rfl (by omega) (shr7 u)) ?_
      refine runl_ev (ev_assign rfl) ?_
      refine runl_nil ?_
      refine run_inBlock ?_
      refine IH (u / 128, dn ++ [UInt8.ofNat (u % 128 + 128)], v19) _ _ (by simp only; omega) ⟨rfl, rfl, trivial⟩ ⟨(by show u / 128 ≤ _; omega), ?_, ow19⟩
      show dn ++ [_] ++ encU (u / 128) = _
      rw [← hdn, encU_more (u := u) (by omega)]
      simp
    · have hfin : dn ++ [UInt8.ofNat u] = encN n := by rw [← hdn, encU_small (by omega)]
      refine run_exit rfl ?_
      refine run_seq ?_
      refine run_region rfl ?_
      refine runl_ev (ev_move rfl) ?_
      refine runl_ev (ev_move rfl) ?_
      refine runl_ev (ev_convI (((UInt8.ofNat u).toNat : Int)) Tryd.underlying112 Tryd.underlying5 rfl (by rw [u8_mod, u8_ofNat (by omega)]; congr 1; omega)) ?_
      refine runl_op (t_buildSlice (out := [.int .u8 ((UInt8.ofNat u).toNat : Int)]) Tryd.underlying24 sz_5 zero_5 rfl rfl (by decide) (by decide) rfl (rfl)) ?_
      rintro _ w25 ⟨b25, rfl, hb25, e25, n25, l25⟩
      have z25 := e25.size
      replace e := e.trans e25
      replace own := own.ext e25
      refine runl_op (t_append (news := [.int .u8 ((UInt8.ofNat u).toNat : Int)]) ef_24 rfl rfl own rfl (cells_all hb25) (by simp) (by unfold maxLen; omega) (by omega)) ?_
      rintro v26 w26 ⟨g26, ap26⟩
      have z26 := ap26.size
      have ow26 := OwnL.app flat_byte e hg (by omega) (hpp.mono fun _ _ _ hr => flat_byte _ _ _ _ hr) hxl (parts_bytes [_]) ap26 rfl rfl
      refine runl_ev (ev_assign rfl) ?_
      refine runl_nil ?_
      refine run_ret_any Tryd.func31 (res1 Tryd.results31 rfl) ?_
      rw [← hfin]
      exact ow26
  · intro JJ
    refine run_seq ?_
    refine run_region rfl ?_
    refine runl_ev (ev_move rfl) ?_
    refine runl_ev (ev_gtr rfl rfl) ?_
    refine runl_nil ?_
    refine run_dcond rfl (fun h0 => ?_) (fun h0 => ?_)
    · have hcn : clampN n = 4611686018427387904 := by unfold clampN; omega
      refine run_region rfl ?_
      refine runl_ev (ev_assign rfl) ?_
      refine runl_nil ?_
      exact JJ () _ _ ⟨by rw [hcn]; rfl, trivial⟩ e
    · refine run_seq ?_
      refine run_region rfl ?_
      refine runl_ev (ev_move rfl) ?_
      refine runl_ev (ev_gtr rfl rfl) ?_
      refine runl_nil ?_
      refine run_dcond rfl (fun h1 => ?_) (fun h1 => ?_)
      · refine run_region rfl ?_
        refine runl_ev (ev_move rfl) ?_
        refine runl_ev (ev_convI ((clampN n : Int)) Tryd.underlying3 Tryd.underlying112 rfl (by rw [← wrap_u64 (n := clampN n) (by omega)]; congr 1; unfold clampN; omega)) ?_
        refine runl_ev (ev_assign rfl) ?_
        refine runl_nil ?_
        exact JJ () _ _ ⟨rfl, trivial⟩ e
      · have hcn : clampN n = 0 := by unfold clampN; omega
        refine run_skip ?_
        exact JJ () _ _ ⟨by rw [hcn]; rfl, trivial⟩ e
theorem rnums1_any (ns : List Int) (w : World) (a : Option Addr) (n c : Nat) (hs : SlAt 1 RInt w (.slice a n c) ns) (hn : ns.length ≤ 1000000) : Ret Tryd.prog 29 [.slice a n c] w (OwnB 5 w (encNs ns)) := by
  have e := ExtB.refl (fun _ => False) w
  obtain ⟨rfl, hat⟩ := hs.at
  have hel := encNs_len ns
  refine ret_of_run Tryd.func29 rfl Tryd.ntmps29 rfl ?_
  refine run_seq ?_
  refine run_region rfl ?_
  refine runl_ev (ev_assign rfl) ?_
  refine runl_nil ?_
  refine run_seq ?_
  refine run_region rfl ?_
  refine runl_ev (ev_assign rfl) ?_
  refine runl_nil ?_
  refine run_seq ?_
  refine run_seq ?_
  refine run_region rfl ?_
  refine runl_ev (ev_assign rfl) ?_
  refine runl_nil ?_
  refine run_block ?_
  refine run_loop (ι := Nat × Value) (fun x => [(0, .slice a ns.length c), (3, x.2), (4, .int .i64 (x.1 : Int))]) (fun x w1 => x.1 ≤ ns.length ∧ OwnB 5 w (encNs (ns.take x.1)) x.2 w1) (fun x => ns.length - x.1) ((0, .slice none 0 0)) ⟨rfl, rfl, rfl, trivial⟩ (⟨Nat.zero_le _, OwnL.nil _ _ e⟩) ?_
  clear e
  intro ⟨k, v⟩ w1 ⟨hk, ow⟩ IH
  simp only at hk ow
  obtain ⟨xs, g, own, hpp, hxl, e, hg, hgl⟩ := ow.open
  have htl := encNs_take_le ns k
  refine run_seq ?_
  refine run_seq ?_
  refine run_region rfl ?_
  refine runl_ev (ev_move rfl) ?_
  refine runl_ev (ev_move rfl) ?_
  refine runl_ev (ev_lenL sl_111 rfl) ?_
  refine runl_ev (ev_lss rfl rfl) ?_
  refine runl_nil ?_
  refine run_dcond rfl (fun h0 => ?_) (fun h0 => ?_)
  · have hk1 : k < ns.length := by omega
    obtain ⟨b1, o1, cs1, rfl, hr1, hc1⟩ := hat k hk1
    obtain rfl := hr1
    have hel1 := encN_len ns[k]
    have htk := encNs_take (List.getElem?_eq_getElem hk1)
    refine run_skip ?_
    refine run_seq ?_
    refine run_block ?_
    refine run_region rfl ?_
    refine runl_ev (ev_move rfl) ?_
    refine runl_ev (ev_move rfl) ?_
    refine runl_ev (ev_move rfl) ?_
    refine runl_ev (ev_indexAddr el_111 rfl rfl (by omega)) ?_
    refine runl_ev (ev_load1 cell_3 rfl (eqw (hc1.ext e))) ?_
    refine runl_op (t_call call_31 rfl (rnum1_any ns[k] _)) ?_
    rintro v16 w16 ow16
    have e16 := ow16.ext
    obtain ⟨a16, c16, rfl, hc16, s16⟩ := ow16.sl
    have z16 := e16.size
    replace e := e.trans e16
    replace own := own.ext e16
    refine runl_op (t_appendL (l := encN ns[k]) (R := RByte) ef_24 rfl rfl own s16 rbyte_len (fun x cs h => rbyte_one x cs h) (by unfold maxLen; omega) (by omega)) ?_
    rintro v17 w17 ⟨n17, g17, hnl17, hnp17, ap17⟩
    have z17 := ap17.size
    have ow17 := OwnL.app flat_byte e hg (by omega) (hpp.mono fun _ _ _ hr => flat_byte _ _ _ _ hr) hxl hnp17 ap17 (by first | rfl | rw [List.length_append]) rfl
    refine runl_ev (ev_assign rfl) ?_
    refine runl_nil ?_
    refine run_inBlock ?_
    refine run_region rfl ?_
    refine runl_ev (ev_move rfl) ?_
    refine runl_ev (ev_add rfl rfl (by omega) (by omega)) ?_
    refine runl_ev (ev_assign rfl) ?_
    refine runl_nil ?_
    refine IH (k + 1, v17) _ _ (by simp only; omega) ⟨rfl, rfl, rfl, trivial⟩ ⟨hk1, ?_⟩
    simp only
    rw [htk]
    exact ow17
  · obtain rfl : k = ns.length := by omega
    rw [List.take_length] at ow
    refine run_exit rfl ?_
    refine run_seq ?_
    refine run_region rfl ?_
    refine runl_ev (ev_move rfl) ?_
    refine runl_ev (ev_assign rfl) ?_
    refine runl_nil ?_
    refine run_ret_any Tryd.func29 (res1 Tryd.results29 rfl) ?_
    exact ow
end Go.Proofs.YtcmbiaibocdfeaaDoor

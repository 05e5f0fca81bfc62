/- The walks of what encodes roots and times, and of the reference's. -/
import Derived.Test.YtcmbiaibocdfeaaOwnB
import Derived.Test.YtcmbiaibocdfeaaWire3
import Derived.Test.YtcmbiaibocdfeaaWire4
namespace Go.Proofs.Ytcmbiaibocdfeaa
open Go Go.Fw
set_option maxRecDepth 100000

theorem encroot1_any {l : List UInt8} {w0 w : World} {wb : Nat} {g : Int} {v : Value} {T : TypeId} (st : WSt T 5 w0 w wb g v l) (r : RootP) (cs : List Value) (xb : Nat) (hx : w0.heap[xb]? = some (.cells ⟨cs⟩ 27 (0, 0))) (hr : RRoot w0 r cs) (hkl : ∀ k ∈ r.roles, k.keys.length ≤ 1099511627776) (hb : l.length + (encRoot r).length ≤ 1099511627776) :
    Ret Try.prog 20 [.pointer (some ⟨wb, 0, none⟩), .pointer (some ⟨xb, 0, none⟩)] w (WP T 5 w0 w wb g l (encRoot r)) := by
  have e := ExtB.refl (fun _ => False) w
  have lwb := lt_of_at st.hw
  have hgl := st.hgl
  have lxb := lt_of_at hx
  have hwb := st.hwb
  have hg0 := st.hg
  replace hx := st.ext.at hx
  obtain ⟨ks, rfl, hkz, hrl, hks⟩ := hr
  have henc : encRoot r = encNs [r.ver, r.exp] ++ r.roles.flatMap encKeys := by simp [encRoot, encNs]
  rw [henc] at hb ⊢
  rw [List.length_append] at hb
  refine ret_of_run Try.func20 rfl Try.ntmps20 rfl ?_
  refine run_seq ?_
  refine run_draw mo (fun w' => Ext w w') [8] [(true, 0), (true, 1), (true, 2), (true, 3), (true, 4), (true, 5), (true, 6), (false, 7), (false, 8)] (by kernel_rfl) ?_
  intro wr0 er0
  have zr0 := er0.size
  have hsr0 := er0
  have ep := e.trans er0
  have hxp := er0.at hx
  refine rund_ev hsr0 rfl (ev_move rfl) ?_
  refine rund_ev hsr0 rfl (ev_nilCheck rfl) ?_
  refine rund_ev hsr0 rfl (ev_fieldAddr fld_62_0 rfl) ?_
  refine rund_ev hsr0 rfl (ev_fieldAddr fld_27_0 rfl) ?_
  refine rund_ev hsr0 rfl (ev_load1 cell_3 rfl (fun wz hz => cell_blk (hz.at hx) rfl)) ?_
  refine rund_ev hsr0 rfl (ev_fieldAddr fld_27_1 rfl) ?_
  refine rund_ev hsr0 rfl (ev_load1 cell_3 rfl (fun wz hz => cell_blk (hz.at hx) rfl)) ?_
  refine rund_op rfl (t_buildSlice (out := [.int .i64 r.ver, .int .i64 r.exp]) Try.underlying108 sz_3 zero_3 rfl rfl (by decide) (by decide) rfl (rfl)) ?_
  rintro _ w12 ⟨b12, rfl, hb12, e12, n12, l12⟩
  have z12 := e12.size
  replace ep := ep.trans e12
  replace hxp := e12.at hxp
  have hs12 := hsr0.trans e12
  refine ⟨hs12, ?_⟩
  have hb12p := hb12
  refine rund_opT rfl rfl (t_call call_21 rfl (wnums_any (st.up ep) [r.ver, r.exp] _ _ _ (sl_lit (l := [r.ver, r.exp]) (R := RInt) hb12p (pc rfl (pc rfl pn))) (fun b o h => by cases h; exact ⟨by omega, by omega⟩) (by simp) (by omega))) ?_
  rintro _ w13 ⟨rfl, v13, g13, p13⟩
  have q13 := p13.from ep
  have z13 := q13.extB.size
  replace hxp := p13.extB.at hxp (fun h => by rcases h with h | h <;> omega)
  refine rund_nil ?_
  replace hx := hxp
  clear hxp
  have e := ExtB.refl (fun _ => False) w13
  refine run_seq ?_
  refine run_region rfl ?_
  refine runl_ev (ev_fieldAddr fld_27_2 rfl) ?_
  refine runl_ev (ev_loadA agg_25 (hkz : ks.length = 8) rfl (eqw (cells_blk (c := ⟨.int .i64 r.ver :: .int .i64 r.exp :: ks⟩) hx (fun i v hv => by rw [show 0 + 2 + i = i + 2 by omega]; simpa using hv)))) ?_
  refine runl_ev (ev_move rfl) ?_
  refine runl_nil ?_
  refine run_block ?_
  refine run_loop (ι := Nat × Value × Int) (fun x => [(0, .pointer (some ⟨wb, 0, none⟩)), (1, .pointer (some ⟨xb, 0, none⟩)), (15, .agg ⟨ks⟩), (16, .int .i64 (x.1 : Int))]) (fun x w1 => x.1 ≤ 4 ∧ WPost T 5 w0 w wb g l (encNs [r.ver, r.exp] ++ (r.roles.take x.1).flatMap encKeys) x.2.1 x.2.2 w1) (fun x => 4 - x.1) ((0, v13, g13)) ⟨rfl, rfl, rfl, rfl, trivial⟩ (⟨Nat.zero_le _, by simpa using q13⟩) ?_
  clear q13 p13 e
  intro ⟨k, v1, g1⟩ w1 ⟨hk, po⟩ IH
  simp only at hk po
  have e := ExtB.refl (fun _ => False) w1
  have hgl1 := po.st.hgl
  have lwb1 := lt_of_at po.st.hw
  refine run_seq ?_
  refine run_region rfl ?_
  refine runl_ev (ev_lss rfl rfl) ?_
  refine runl_nil ?_
  refine run_seq ?_
  refine run_dcond rfl (fun h0 => ?_) (fun h0 => ?_)
  · have hk1 : k < r.roles.length := by omega
    obtain ⟨c2, hseg, hrk⟩ := RKeys.seg hks hk1
    have hc2l := rkeys_len _ _ _ hrk
    have hk2 := hkl _ (List.getElem_mem hk1)
    have htk := flat_take (f := encKeys) hk1
    have htl := flat_take_le (f := encKeys) (l := r.roles) (k + 1)
    rw [htk, List.length_append] at htl
    have htl0 : (l ++ (encNs [r.ver, r.exp] ++ (r.roles.take k).flatMap encKeys)).length = l.length + (encNs [r.ver, r.exp]).length + ((r.roles.take k).flatMap encKeys).length := by simp only [List.length_append]; omega
    refine run_skip ?_
    refine run_seq ?_
    refine run_block ?_
    refine run_seq ?_
    refine run_region rfl ?_
    refine runl_ev (ev_indexAA arr_25 agg_24 rfl rfl (by omega) (hseg)) ?_
    refine runl_op (t_alloc zero_24 rfl) ?_
    rintro _ w4 ⟨b4, rfl, hb4, e4, n4, l4⟩
    have z4 := e4.size
    replace e := e.trans e4
    refine runl_do (t_storeW sz_24 rfl rfl hc2l rfl hb4 (rkeys_one _ _ hrk)) ?_
    rintro _ v3_2 ⟨hq3_2, e3_2, z3_2⟩
    replace e := e.new1 e3_2 (by omega)
    replace hb4 := hq3_2
    clear hq3_2
    refine runl_nil ?_
    refine run_region rfl ?_
    refine runl_ev (ev_move rfl) ?_
    refine runl_ev (ev_loadA agg_24 hc2l rfl (eqw (cells_all hb4))) ?_
    refine runl_op (t_call call_22 rfl (wkeys_any (po.st.up e) r.roles[k] c2 hrk hk2 (by omega))) ?_
    rintro _ w21 ⟨rfl, v21, g21, p21⟩
    have q21 := po.trans hgl (p21.from e)
    have z21 := q21.extB.size
    refine runl_nil ?_
    refine run_inBlock ?_
    refine run_region rfl ?_
    refine runl_ev (ev_add rfl rfl (by omega) (by omega)) ?_
    refine runl_ev (ev_move rfl) ?_
    refine runl_nil ?_
    refine IH (k + 1, v21, g21) _ _ (by simp only; omega) ⟨rfl, rfl, rfl, rfl, trivial⟩ ⟨by show k + 1 ≤ 4; omega, ?_⟩
    simp only
    rw [htk, ← List.append_assoc]
    exact q21
  · obtain rfl : k = 4 := by omega
    rw [← hrl, List.take_length] at po
    refine run_exit rfl ?_
    refine run_end_any Try.func20 (res0 Try.results20) ?_
    exact ⟨rfl, v1, g1, po⟩
theorem encroot_any (x : RootP) (cs : List Value) (w : World) (hr : RRoot w x cs) (hkl : ∀ k ∈ x.roles, k.keys.length ≤ 1000000) (hb : (encRoot x).length ≤ 1000000000) : Ret Try.prog 6 [.agg ⟨cs⟩] w fun v w' => ∃ p, v = .tuple #[p, .int .i64 (encE isRootP x)] ∧ OwnB 5 w (encP 1 isRootP encRoot x) p w' := by
  have e := ExtB.refl (fun _ => False) w
  have hcl := rroot_len hr
  refine ret_of_run Try.func6 rfl Try.ntmps6 rfl ?_
  refine run_seq ?_
  refine run_region rfl ?_
  refine runl_op (t_boxA rfl) ?_
  rintro _ w1 ⟨b1, rfl, hb1, e1, n1, l1⟩
  have z1 := e1.size
  replace e := e.trans e1
  refine runl_ev (ev_assign rfl) ?_
  refine runl_ev (ev_assign rfl) ?_
  refine runl_nil ?_
  refine run_seq ?_
  refine run_region rfl ?_
  refine runl_ev (ev_loadA agg_27 hcl rfl (eqw (cells_all hb1))) ?_
  refine runl_op (t_call call_19 rfl (isroot_any x cs _ (RRoot.stable _ _ _ _ e hr))) ?_
  rintro _ w5 ⟨rfl, e5⟩
  have z5 := e5.size
  replace e := e.trans e5
  replace hb1 := e5.at hb1
  refine runl_ev (ev_makeFunc rfl rfl) ?_
  refine runl_op (t_call call_18 rfl (encoded_any _ 1 (isRootP x) 20 [.pointer (some ⟨b1, 0, none⟩)] call_20 (encRoot x) (by have := encN_len 1; omega) (fun _ => hb) (fun _ w1 wb g v st => encroot1_any st x cs b1 hb1 (RRoot.stable _ _ _ _ e hr) (fun k hk => by have := hkl k hk; omega) (by have := encN_len 1; omega)))) ?_
  rintro _ w7 ⟨p7, g7, rfl, o7, e7, hg7, hgl7⟩
  have z7 := e7.size
  replace e := e.trans e7
  replace hb1 := e7.at hb1
  refine runl_ev (ev_extract rfl rfl) ?_
  refine runl_ev (ev_extract rfl rfl) ?_
  refine runl_ev (ev_assign rfl) ?_
  refine runl_ev (ev_assign rfl) ?_
  refine runl_nil ?_
  refine run_ret_any Try.func6 (res2 Try.results6 rfl rfl) ?_
  have hz := e.size
  exact ⟨p7, rfl, ownB_of o7 e (by omega) (by omega)⟩
theorem enctime1_any {l : List UInt8} {w0 w : World} {wb : Nat} {g : Int} {v : Value} {T : TypeId} (st : WSt T 5 w0 w wb g v l) (t : TimeP) (ht : t.sum.length = 32) (xb : Nat) (hx : w0.heap[xb]? = some (.cells ⟨t.cells⟩ 83 (0, 0))) (hb : l.length ≤ 1000) :
    Ret Try.prog 67 [.pointer (some ⟨wb, 0, none⟩), .pointer (some ⟨xb, 0, none⟩)] w (WP T 5 w0 w wb g l (encTime t)) := by
  have e := ExtB.refl (fun _ => False) w
  have lwb := lt_of_at st.hw
  have hgl := st.hgl
  have lxb := lt_of_at hx
  have hwb := st.hwb
  have hg0 := st.hg
  replace hx := st.ext.at hx
  have hnl := encNs_len [t.ver, t.exp, t.snap]
  simp only [List.length_cons, List.length_nil] at hnl
  refine ret_of_run Try.func67 rfl Try.ntmps67 rfl ?_
  refine run_seq ?_
  refine run_draw mo (fun w' => Ext w w') [10] [(true, 0), (true, 1), (true, 2), (true, 3), (true, 4), (true, 5), (true, 6), (true, 7), (true, 8), (false, 9), (false, 10)] (by kernel_rfl) ?_
  intro wr0 er0
  have zr0 := er0.size
  have hsr0 := er0
  have ep := e.trans er0
  have hxp := er0.at hx
  refine rund_ev hsr0 rfl (ev_move rfl) ?_
  refine rund_ev hsr0 rfl (ev_nilCheck rfl) ?_
  refine rund_ev hsr0 rfl (ev_fieldAddr fld_62_0 rfl) ?_
  refine rund_ev hsr0 rfl (ev_fieldAddr fld_83_0 rfl) ?_
  refine rund_ev hsr0 rfl (ev_load1 cell_3 rfl (fun wz hz => cell_blk (hz.at hx) rfl)) ?_
  refine rund_ev hsr0 rfl (ev_fieldAddr fld_83_1 rfl) ?_
  refine rund_ev hsr0 rfl (ev_load1 cell_3 rfl (fun wz hz => cell_blk (hz.at hx) rfl)) ?_
  refine rund_ev hsr0 rfl (ev_fieldAddr fld_83_2 rfl) ?_
  refine rund_ev hsr0 rfl (ev_load1 cell_3 rfl (fun wz hz => cell_blk (hz.at hx) rfl)) ?_
  refine rund_op rfl (t_buildSlice (out := [.int .i64 t.ver, .int .i64 t.exp, .int .i64 t.snap]) Try.underlying108 sz_3 zero_3 rfl rfl (by decide) (by decide) rfl (rfl)) ?_
  rintro _ w12 ⟨b12, rfl, hb12, e12, n12, l12⟩
  have z12 := e12.size
  replace ep := ep.trans e12
  replace hxp := e12.at hxp
  have hs12 := hsr0.trans e12
  refine ⟨hs12, ?_⟩
  have hb12p := hb12
  refine rund_opT rfl rfl (t_call call_21 rfl (wnums_any (st.up ep) [t.ver, t.exp, t.snap] _ _ _ (sl_lit (l := [t.ver, t.exp, t.snap]) (R := RInt) hb12p (pc rfl (pc rfl (pc rfl pn)))) (fun b o h => by cases h; exact ⟨by omega, by omega⟩) (by simp) (by omega))) ?_
  rintro _ w13 ⟨rfl, v13, g13, p13⟩
  have q13 := p13.from ep
  have z13 := q13.extB.size
  replace hxp := p13.extB.at hxp (fun h => by rcases h with h | h <;> omega)
  refine rund_nil ?_
  replace hx := hxp
  clear hxp
  refine run_region rfl ?_
  refine runl_ev (ev_move rfl) ?_
  refine runl_ev (ev_fieldAddr fld_83_3 rfl) ?_
  refine runl_ev (ev_loadA agg_81 (by rw [hcells_length]; exact ht) rfl (eqw (cells_blk (c := ⟨t.cells⟩) hx (fun i v hv => by rw [show 0 + 3 + i = i + 3 by omega]; simpa [TimeP.cells] using hv)))) ?_
  refine runl_op (t_call call_54 rfl (whash_any q13.st t.sum ht (by rw [List.length_append]; omega))) ?_
  rintro _ w17 ⟨rfl, v17, g17, p17⟩
  have q17 := q13.trans hgl p17
  have z17 := q17.extB.size
  refine runl_nil ?_
  refine run_end_any Try.func67 (res0 Try.results67) ?_
  exact ⟨rfl, v17, g17, q17⟩
theorem enctime_any (x : TimeP) (w : World) (ht : x.sum.length = 32) : Ret Try.prog 33 [.agg ⟨x.cells⟩] w fun v w' => ∃ p, v = .tuple #[p, .int .i64 (encE isTimeP x)] ∧ OwnB 5 w (encP 2 isTimeP encTime x) p w' := by
  have e := ExtB.refl (fun _ => False) w
  have hcl : x.cells.length = 35 := by show (hcells x.sum).length + 3 = 35; rw [hcells_length]; omega
  refine ret_of_run Try.func33 rfl Try.ntmps33 rfl ?_
  refine run_seq ?_
  refine run_region rfl ?_
  refine runl_op (t_boxA rfl) ?_
  rintro _ w1 ⟨b1, rfl, hb1, e1, n1, l1⟩
  have z1 := e1.size
  replace e := e.trans e1
  refine runl_ev (ev_assign rfl) ?_
  refine runl_ev (ev_assign rfl) ?_
  refine runl_nil ?_
  refine run_seq ?_
  refine run_region rfl ?_
  refine runl_ev (ev_loadA agg_83 hcl rfl (eqw (cells_all hb1))) ?_
  refine runl_op (t_call call_66 rfl (istime_any x ht _)) ?_
  rintro _ w5 ⟨rfl, e5⟩
  have z5 := e5.size
  replace e := e.trans e5
  replace hb1 := e5.at hb1
  refine runl_ev (ev_makeFunc rfl rfl) ?_
  refine runl_op (t_call call_18 rfl (encoded_any _ 2 (isTimeP x) 67 [.pointer (some ⟨b1, 0, none⟩)] call_67 (encTime x) (by have := encN_len 2; omega) (fun _ => by have := encNs_len [x.ver, x.exp, x.snap]; simp only [encTime, List.length_append, List.length_cons, List.length_nil] at this ⊢; omega) (fun _ w1 wb g v st => enctime1_any st x ht b1 hb1 (by have := encN_len 2; omega)))) ?_
  rintro _ w7 ⟨p7, g7, rfl, o7, e7, hg7, hgl7⟩
  have z7 := e7.size
  replace e := e.trans e7
  replace hb1 := e7.at hb1
  refine runl_ev (ev_extract rfl rfl) ?_
  refine runl_ev (ev_extract rfl rfl) ?_
  refine runl_ev (ev_assign rfl) ?_
  refine runl_ev (ev_assign rfl) ?_
  refine runl_nil ?_
  refine run_ret_any Try.func33 (res2 Try.results33 rfl rfl) ?_
  have hz := e.size
  exact ⟨p7, rfl, ownB_of o7 e (by omega) (by omega)⟩
theorem known_bytes : encP 2 isTimeP encTime ⟨1, 0, 1, List.replicate 32 0⟩ = 2 :: 1 :: 0 :: 1 :: List.replicate 32 0 := by
  have h : isTimeP ⟨1, 0, 1, List.replicate 32 0⟩ = true := by decide
  unfold encP
  rw [h, if_pos rfl]
  have e2 : encN 2 = [2] := encN_small (n := 2) (by decide)
  have e1 : encN 1 = [1] := encN_small (n := 1) (by decide)
  have e0 : encN 0 = [0] := encN_small (n := 0) (by decide)
  simp only [encTime, encNs, List.flatMap_cons, List.flatMap_nil, e0, e1, e2, List.cons_append, List.nil_append, List.append_nil]

theorem known_any (w : World) : Ret Try.prog 11 [] w fun r w' => r = .bool true ∧ Ext w w' := by
  have e := ExtB.refl (fun _ => False) w
  refine ret_of_run Try.func11 rfl Try.ntmps11 rfl ?_
  refine run_seq ?_
  refine run_region rfl ?_
  refine runl_ev (ev_assign rfl) ?_
  refine runl_nil ?_
  refine run_seq ?_
  refine run_region rfl ?_
  refine runl_ev (ev_build (out := TimeP.cells ⟨1, 0, 1, List.replicate 32 0⟩) ps_83 zero_83 rfl rfl (by kernel_rfl)) ?_
  refine runl_op (t_call call_33 rfl (enctime_any ⟨1, 0, 1, List.replicate 32 0⟩ _ (by simp))) ?_
  rintro _ w5 ⟨p5, rfl, o5⟩
  have e5 := o5.ext
  rw [known_bytes] at o5
  obtain ⟨a5, c5, rfl, hc5, s5⟩ := o5.sl
  obtain ⟨b5, oo5, rfl, hcc⟩ := bytes_cells s5 (by simp)
  have z5 := e5.size
  replace e := e.trans e5
  refine runl_ev (ev_move rfl) ?_
  refine runl_ev (ev_extract rfl rfl) ?_
  refine runl_ev (ev_extract rfl rfl) ?_
  refine runl_ev (ev_assign rfl) ?_
  refine runl_ev (ev_assign rfl) ?_
  refine runl_nil ?_
  refine run_seq ?_
  refine run_region rfl ?_
  refine runl_ev (ev_move rfl) ?_
  refine runl_ev (ev_eqlI rfl rfl) ?_
  refine runl_ev (ev_move rfl) ?_
  refine runl_ev_g rfl rfl (rfl) (ev_move rfl) ?_
  refine runl_ev_g rfl rfl (rfl) (ev_lenL sl_28 rfl) ?_
  refine runl_ev_g rfl rfl (rfl) (ev_eqlI rfl rfl) ?_
  refine runl_ev (ev_pick rfl rfl rfl (if_pos (rfl))) ?_
  refine runl_ev (ev_move rfl) ?_
  refine runl_ev_g rfl rfl (rfl) (ev_move rfl) ?_
  refine runl_ev_g rfl rfl (rfl) (ev_indexAddr (k := 0) el_28 rfl rfl (by simp)) ?_
  refine runl_ev_g rfl rfl (rfl) (ev_load1 cell_5 rfl (eqw (hcc.pick 0 rfl rfl))) ?_
  refine runl_ev_g rfl rfl (rfl) (ev_eqlI rfl rfl) ?_
  refine runl_ev (ev_pick rfl rfl rfl (if_pos (rfl))) ?_
  refine runl_ev (ev_assign rfl) ?_
  refine runl_nil ?_
  refine run_ret_any Try.func11 (res1 Try.results11 rfl) ?_
  exact ⟨rfl, e⟩
theorem rnum1_any (n : Int) (w : World) : Ret Try.prog 40 [.int .i64 n] w (OwnB 5 w (encN n)) := by
  have e := ExtB.refl (fun _ => False) w
  have hcl := clampN_lt n
  refine ret_of_run Try.func40 rfl Try.ntmps40 rfl ?_
  refine run_seq ?_
  refine run_region rfl ?_
  refine runl_ev (ev_assign rfl) ?_
  refine runl_nil ?_
  refine run_seq ?_
  refine run_region rfl ?_
  refine runl_ev (ev_assign rfl) ?_
  refine runl_nil ?_
  refine run_cut1 (ι := Unit) (fun _ => [(3, .int .u64 (clampN n : Int))]) (fun _ w1 => Ext w w1) ?_ ?_
  · clear e
    intro _ w1 e
    refine run_seq ?_
    refine run_region rfl ?_
    refine runl_ev (ev_assign rfl) ?_
    refine runl_nil ?_
    refine run_seq ?_
    refine run_block ?_
    refine run_loop (ι := Nat × List UInt8 × Value) (fun x => [(3, .int .u64 (x.1 : Int)), (4, x.2.2)]) (fun x w1 => x.1 ≤ 4611686018427387904 ∧ x.2.1 ++ encU x.1 = encN n ∧ OwnB 5 w x.2.1 x.2.2 w1) (fun x => x.1) ((clampN n, [], .slice none 0 0)) ⟨rfl, rfl, trivial⟩ (⟨hcl, rfl, OwnL.nil _ _ e⟩) ?_
    clear e
    intro ⟨u, dn, v⟩ w2 ⟨hu, hdn, ow⟩ IH
    simp only at hu hdn ow
    obtain ⟨xs, g, own, hpp, hxl, e, hg, hgl⟩ := ow.open
    have hdl := congrArg List.length hdn
    have hnl := encN_len n
    rw [List.length_append] at hdl
    refine run_seq ?_
    refine run_seq ?_
    refine run_region rfl ?_
    refine runl_ev (ev_move rfl) ?_
    refine runl_ev (ev_geq rfl rfl) ?_
    refine runl_nil ?_
    refine run_dcond rfl (fun h2 => ?_) (fun h2 => ?_)
    · refine run_skip ?_
      refine run_block ?_
      refine run_seq ?_
      refine run_region rfl ?_
      refine runl_ev (ev_move rfl) ?_
      refine runl_ev (ev_move rfl) ?_
      refine runl_ev (ev_and (((u % 128 : Nat) : Int)) rfl rfl (and127u u (by omega))) ?_
      refine runl_ev (ev_convI (((u % 128 : Nat) : Int)) Try.underlying109 Try.underlying5 rfl (by rw [u8_mod, Nat.mod_eq_of_lt (by omega)])) ?_
      refine runl_ev (ev_or (((UInt8.ofNat (u % 128 + 128)).toNat : Int)) rfl rfl (or128b u)) ?_
      refine runl_op (t_buildSlice (out := [.int .u8 ((UInt8.ofNat (u % 128 + 128)).toNat : Int)]) Try.underlying28 sz_5 zero_5 rfl rfl (by decide) (by decide) rfl (rfl)) ?_
      rintro _ w18 ⟨b18, rfl, hb18, e18, n18, l18⟩
      have z18 := e18.size
      replace e := e.trans e18
      replace own := own.ext e18
      refine runl_op (t_append (news := [.int .u8 ((UInt8.ofNat (u % 128 + 128)).toNat : Int)]) ef_28 rfl rfl own rfl (cells_all hb18) (by simp) (by unfold maxLen; omega) (by omega)) ?_
      rintro v19 w19 ⟨g19, ap19⟩
      have z19 := ap19.size
      have ow19 := OwnL.app flat_byte e hg (by omega) (hpp.mono fun _ _ _ hr => flat_byte _ _ _ _ hr) hxl (parts_bytes [_]) ap19 rfl rfl
      refine runl_ev (ev_assign rfl) ?_
      refine runl_nil ?_
      refine run_region rfl ?_
      refine runl_ev (ev_move rfl) ?_
      refine runl_ev (ev_shr (((u / 128 : Nat) : Int)) rfl rfl (by omega) (shr7 u)) ?_
      refine runl_ev (ev_assign rfl) ?_
      refine runl_nil ?_
      refine run_inBlock ?_
      refine IH (u / 128, dn ++ [UInt8.ofNat (u % 128 + 128)], v19) _ _ (by simp only; omega) ⟨rfl, rfl, trivial⟩ ⟨(by show u / 128 ≤ _; omega), ?_, ow19⟩
      show dn ++ [_] ++ encU (u / 128) = _
      rw [← hdn, encU_more (u := u) (by omega)]
      simp
    · have hfin : dn ++ [UInt8.ofNat u] = encN n := by rw [← hdn, encU_small (by omega)]
      refine run_exit rfl ?_
      refine run_seq ?_
      refine run_region rfl ?_
      refine runl_ev (ev_move rfl) ?_
      refine runl_ev (ev_move rfl) ?_
      refine runl_ev (ev_convI (((UInt8.ofNat u).toNat : Int)) Try.underlying109 Try.underlying5 rfl (by rw [u8_mod, u8_ofNat (by omega)]; congr 1; omega)) ?_
      refine runl_op (t_buildSlice (out := [.int .u8 ((UInt8.ofNat u).toNat : Int)]) Try.underlying28 sz_5 zero_5 rfl rfl (by decide) (by decide) rfl (rfl)) ?_
      rintro _ w25 ⟨b25, rfl, hb25, e25, n25, l25⟩
      have z25 := e25.size
      replace e := e.trans e25
      replace own := own.ext e25
      refine runl_op (t_append (news := [.int .u8 ((UInt8.ofNat u).toNat : Int)]) ef_28 rfl rfl own rfl (cells_all hb25) (by simp) (by unfold maxLen; omega) (by omega)) ?_
      rintro v26 w26 ⟨g26, ap26⟩
      have z26 := ap26.size
      have ow26 := OwnL.app flat_byte e hg (by omega) (hpp.mono fun _ _ _ hr => flat_byte _ _ _ _ hr) hxl (parts_bytes [_]) ap26 rfl rfl
      refine runl_ev (ev_assign rfl) ?_
      refine runl_nil ?_
      refine run_ret_any Try.func40 (res1 Try.results40 rfl) ?_
      rw [← hfin]
      exact ow26
  · intro JJ
    refine run_seq ?_
    refine run_region rfl ?_
    refine runl_ev (ev_move rfl) ?_
    refine runl_ev (ev_gtr rfl rfl) ?_
    refine runl_nil ?_
    refine run_dcond rfl (fun h0 => ?_) (fun h0 => ?_)
    · have hcn : clampN n = 4611686018427387904 := by unfold clampN; omega
      refine run_region rfl ?_
      refine runl_ev (ev_assign rfl) ?_
      refine runl_nil ?_
      exact JJ () _ _ ⟨by rw [hcn]; rfl, trivial⟩ e
    · refine run_seq ?_
      refine run_region rfl ?_
      refine runl_ev (ev_move rfl) ?_
      refine runl_ev (ev_gtr rfl rfl) ?_
      refine runl_nil ?_
      refine run_dcond rfl (fun h1 => ?_) (fun h1 => ?_)
      · refine run_region rfl ?_
        refine runl_ev (ev_move rfl) ?_
        refine runl_ev (ev_convI ((clampN n : Int)) Try.underlying3 Try.underlying109 rfl (by rw [← wrap_u64 (n := clampN n) (by omega)]; congr 1; unfold clampN; omega)) ?_
        refine runl_ev (ev_assign rfl) ?_
        refine runl_nil ?_
        exact JJ () _ _ ⟨rfl, trivial⟩ e
      · have hcn : clampN n = 0 := by unfold clampN; omega
        refine run_skip ?_
        exact JJ () _ _ ⟨by rw [hcn]; rfl, trivial⟩ e
theorem rnums1_any (ns : List Int) (w : World) (a : Option Addr) (n c : Nat) (hs : SlAt 1 RInt w (.slice a n c) ns) (hn : ns.length ≤ 1000000) : Ret Try.prog 24 [.slice a n c] w (OwnB 5 w (encNs ns)) := by
  have e := ExtB.refl (fun _ => False) w
  obtain ⟨rfl, hat⟩ := hs.at
  have hel := encNs_len ns
  refine ret_of_run Try.func24 rfl Try.ntmps24 rfl ?_
  refine run_seq ?_
  refine run_region rfl ?_
  refine runl_ev (ev_assign rfl) ?_
  refine runl_nil ?_
  refine run_seq ?_
  refine run_region rfl ?_
  refine runl_ev (ev_assign rfl) ?_
  refine runl_nil ?_
  refine run_seq ?_
  refine run_seq ?_
  refine run_region rfl ?_
  refine runl_ev (ev_assign rfl) ?_
  refine runl_nil ?_
  refine run_block ?_
  refine run_loop (ι := Nat × Value) (fun x => [(0, .slice a ns.length c), (3, x.2), (4, .int .i64 (x.1 : Int))]) (fun x w1 => x.1 ≤ ns.length ∧ OwnB 5 w (encNs (ns.take x.1)) x.2 w1) (fun x => ns.length - x.1) ((0, .slice none 0 0)) ⟨rfl, rfl, rfl, trivial⟩ (⟨Nat.zero_le _, OwnL.nil _ _ e⟩) ?_
  clear e
  intro ⟨k, v⟩ w1 ⟨hk, ow⟩ IH
  simp only at hk ow
  obtain ⟨xs, g, own, hpp, hxl, e, hg, hgl⟩ := ow.open
  have htl := encNs_take_le ns k
  refine run_seq ?_
  refine run_seq ?_
  refine run_region rfl ?_
  refine runl_ev (ev_move rfl) ?_
  refine runl_ev (ev_move rfl) ?_
  refine runl_ev (ev_lenL sl_108 rfl) ?_
  refine runl_ev (ev_lss rfl rfl) ?_
  refine runl_nil ?_
  refine run_dcond rfl (fun h0 => ?_) (fun h0 => ?_)
  · have hk1 : k < ns.length := by omega
    obtain ⟨b1, o1, cs1, rfl, hr1, hc1⟩ := hat k hk1
    obtain rfl := hr1
    have hel1 := encN_len ns[k]
    have htk := encNs_take (List.getElem?_eq_getElem hk1)
    refine run_skip ?_
    refine run_seq ?_
    refine run_block ?_
    refine run_region rfl ?_
    refine runl_ev (ev_move rfl) ?_
    refine runl_ev (ev_move rfl) ?_
    refine runl_ev (ev_move rfl) ?_
    refine runl_ev (ev_indexAddr el_108 rfl rfl (by omega)) ?_
    refine runl_ev (ev_load1 cell_3 rfl (eqw (hc1.ext e))) ?_
    refine runl_op (t_call call_40 rfl (rnum1_any ns[k] _)) ?_
    rintro v16 w16 ow16
    have e16 := ow16.ext
    obtain ⟨a16, c16, rfl, hc16, s16⟩ := ow16.sl
    have z16 := e16.size
    replace e := e.trans e16
    replace own := own.ext e16
    refine runl_op (t_appendL (l := encN ns[k]) (R := RByte) ef_28 rfl rfl own s16 rbyte_len (fun x cs h => rbyte_one x cs h) (by unfold maxLen; omega) (by omega)) ?_
    rintro v17 w17 ⟨n17, g17, hnl17, hnp17, ap17⟩
    have z17 := ap17.size
    have ow17 := OwnL.app flat_byte e hg (by omega) (hpp.mono fun _ _ _ hr => flat_byte _ _ _ _ hr) hxl hnp17 ap17 (by first | rfl | rw [List.length_append]) rfl
    refine runl_ev (ev_assign rfl) ?_
    refine runl_nil ?_
    refine run_inBlock ?_
    refine run_region rfl ?_
    refine runl_ev (ev_move rfl) ?_
    refine runl_ev (ev_add rfl rfl (by omega) (by omega)) ?_
    refine runl_ev (ev_assign rfl) ?_
    refine runl_nil ?_
    refine IH (k + 1, v17) _ _ (by simp only; omega) ⟨rfl, rfl, rfl, trivial⟩ ⟨hk1, ?_⟩
    simp only
    rw [htk]
    exact ow17
  · obtain rfl : k = ns.length := by omega
    rw [List.take_length] at ow
    refine run_exit rfl ?_
    refine run_seq ?_
    refine run_region rfl ?_
    refine runl_ev (ev_move rfl) ?_
    refine runl_ev (ev_assign rfl) ?_
    refine runl_nil ?_
    refine run_ret_any Try.func24 (res1 Try.results24 rfl) ?_
    exact ow
theorem rkeys6_any (k : KeysP) (cs : List Value) (w : World) (hk : RKeys w k cs) (hkl : k.keys.length ≤ 1000000) : Ret Try.prog 25 [.agg ⟨cs⟩] w (OwnB 5 w (encKeys k)) := by
  have e := ExtB.refl (fun _ => False) w
  obtain ⟨a, c, rfl, hks, hkc⟩ := hk
  obtain ⟨-, hat⟩ := hks.at
  have hlen := hashes_len (sl_hashes hks)
  have hn1 := encN_len k.keys.length
  have hn2 := encN_len k.need
  refine ret_of_run Try.func25 rfl Try.ntmps25 rfl ?_
  refine run_seq ?_
  refine run_region rfl ?_
  refine runl_op (t_boxA rfl) ?_
  rintro _ w1 ⟨b1, rfl, hb1, e1, n1, l1⟩
  have z1 := e1.size
  replace e := e.trans e1
  have E1 := e
  clear e
  have e := ExtB.refl (fun _ => False) w1
  have lb1 := lt_of_at hb1
  refine runl_ev (ev_assign rfl) ?_
  refine runl_nil ?_
  refine run_seq ?_
  refine run_region rfl ?_
  refine runl_ev (ev_fieldAddr fld_24_0 rfl) ?_
  refine runl_ev (ev_load1 cell_22 rfl (eqw (cell_blk hb1 rfl))) ?_
  refine runl_ev (ev_lenL sl_22 rfl) ?_
  refine runl_op (t_call call_40 rfl (rnum1_any (k.keys.length : Int) _)) ?_
  rintro v8 w8 ow8
  have e8 := ow8.ext
  have z8 := e8.size
  replace e := e.trans e8
  replace hb1 := e8.at hb1
  refine runl_ev (ev_assign rfl) ?_
  refine runl_nil ?_
  refine run_seq ?_
  refine run_seq ?_
  refine run_region rfl ?_
  refine runl_ev (ev_assign rfl) ?_
  refine runl_nil ?_
  refine run_block ?_
  refine run_loop (ι := Nat × Value) (fun x => [(1, .pointer (some ⟨b1, 0, none⟩)), (3, x.2), (4, .int .i64 (x.1 : Int))]) (fun x w2 => x.1 ≤ k.keys.length ∧ w2.heap[b1]? = some (.cells ⟨[.slice a k.keys.length c, .int .i64 k.need]⟩ 24 (0, 0)) ∧ OwnB 5 w1 (encN k.keys.length ++ (k.keys.take x.1).flatMap id) x.2 w2) (fun x => k.keys.length - x.1) ((0, v8)) ⟨rfl, rfl, rfl, trivial⟩ (⟨Nat.zero_le _, hb1, by simpa using ow8⟩) ?_
  clear e hb1
  intro ⟨j, v⟩ w2 ⟨hj, hb1, ow⟩ IH
  simp only at hj ow
  obtain ⟨xs, g, own, hpp, hxl, e, hg, hgl⟩ := ow.open
  have htl := flat_take_le (f := id) (l := k.keys) j
  rw [List.length_append] at own
  refine run_seq ?_
  refine run_seq ?_
  refine run_region rfl ?_
  refine runl_ev (ev_move rfl) ?_
  refine runl_ev (ev_fieldAddr fld_24_0 rfl) ?_
  refine runl_ev (ev_load1 cell_22 rfl (eqw (cell_blk hb1 rfl))) ?_
  refine runl_ev (ev_lenL sl_22 rfl) ?_
  refine runl_ev (ev_lss rfl rfl) ?_
  refine runl_nil ?_
  refine run_dcond rfl (fun h0 => ?_) (fun h0 => ?_)
  · have hj1 : j < k.keys.length := by omega
    obtain ⟨b2, o2, cs2, rfl, ⟨hh2, rfl⟩, hc2⟩ := hat j hj1
    have htk := flat_take (f := id) hj1
    refine run_skip ?_
    refine run_seq ?_
    refine run_block ?_
    refine run_region rfl ?_
    refine runl_ev (ev_move rfl) ?_
    refine runl_ev (ev_fieldAddr fld_24_0 rfl) ?_
    refine runl_ev (ev_load1 cell_22 rfl (eqw (cell_blk hb1 rfl))) ?_
    refine runl_ev (ev_move rfl) ?_
    refine runl_ev (ev_indexAddr el_22 rfl rfl (by omega)) ?_
    refine runl_ev (ev_sliceA arr_81 rfl) ?_
    refine runl_op (t_append (news := hcells k.keys[j]) ef_28 rfl rfl own (by rw [hcells_length]; exact hh2) (hc2.ext (E1.trans e)) (hcells_one _) (by unfold maxLen; omega) (by omega)) ?_
    rintro v22 w22 ⟨g22, ap22⟩
    have z22 := ap22.size
    replace hb1 := ap22.ext.atG hb1 (by omega)
    have ow22 := OwnL.app flat_byte e hg (by omega) hpp hxl (parts_bytes k.keys[j]) ap22 (by rw [List.length_append]) hh2
    refine runl_ev (ev_assign rfl) ?_
    refine runl_nil ?_
    refine run_inBlock ?_
    refine run_region rfl ?_
    refine runl_ev (ev_move rfl) ?_
    refine runl_ev (ev_add rfl rfl (by omega) (by omega)) ?_
    refine runl_ev (ev_assign rfl) ?_
    refine runl_nil ?_
    refine IH (j + 1, v22) _ _ (by simp only; omega) ⟨rfl, rfl, rfl, trivial⟩ ⟨hj1, hb1, ?_⟩
    simp only
    rw [htk, ← List.append_assoc]
    exact ow22
  · obtain rfl : j = k.keys.length := by omega
    rw [List.take_length] at ow hpp htl own hxl
    refine run_exit rfl ?_
    refine run_seq ?_
    refine run_region rfl ?_
    refine runl_ev (ev_move rfl) ?_
    refine runl_ev (ev_fieldAddr fld_24_1 rfl) ?_
    refine runl_ev (ev_load1 cell_3 rfl (eqw (cell_blk hb1 rfl))) ?_
    refine runl_op (t_call call_40 rfl (rnum1_any k.need _)) ?_
    rintro v26 w26 ow26
    have e26 := ow26.ext
    obtain ⟨a26, c26, rfl, hc26, s26⟩ := ow26.sl
    have z26 := e26.size
    replace e := e.trans e26
    replace own := own.ext e26
    replace hb1 := e26.at hb1
    refine runl_op (t_appendL (l := encN k.need) (R := RByte) ef_28 rfl rfl own s26 rbyte_len (fun x cs h => rbyte_one x cs h) (by unfold maxLen; omega) (by omega)) ?_
    rintro v27 w27 ⟨n27, g27, hnl27, hnp27, ap27⟩
    have z27 := ap27.size
    replace hb1 := ap27.ext.atG hb1 (by omega)
    have ow27 := OwnL.app flat_byte e hg (by omega) (hpp.mono fun _ _ _ hr => flat_byte _ _ _ _ hr) hxl hnp27 ap27 (by first | rfl | rw [List.length_append]) rfl
    refine runl_ev (ev_assign rfl) ?_
    refine runl_nil ?_
    refine run_ret_any Try.func25 (res1 Try.results25 rfl) ?_
    unfold encKeys
    rw [← List.append_assoc]
    exact OwnL.from E1 ow27
theorem rencroot_any (r : RootP) (cs : List Value) (w : World) (hr : RRoot w r cs) (hkl : ∀ k ∈ r.roles, k.keys.length ≤ 1000000) (hb : (encRoot r).length ≤ 1000000000) :
    Ret Try.prog 7 [.agg ⟨cs⟩] w fun v w' => ∃ p, v = .tuple #[p, .int .i64 (encE isRootP r)] ∧ OwnB 5 w (encP 1 isRootP encRoot r) p w' := by
  have e := ExtB.refl (fun _ => False) w
  have hcl := rroot_len hr
  have hr0 := hr
  obtain ⟨ks, rfl, hkz, hrl, hks⟩ := hr
  have henc : encRoot r = encNs [r.ver, r.exp] ++ r.roles.flatMap encKeys := by simp [encRoot, encNs]
  rw [henc, List.length_append] at hb
  have hn3 := encNs_len [1, r.ver, r.exp]
  simp only [List.length_cons, List.length_nil] at hn3
  refine ret_of_run Try.func7 rfl Try.ntmps7 rfl ?_
  refine run_seq ?_
  refine run_region rfl ?_
  refine runl_op (t_boxA rfl) ?_
  rintro _ w1 ⟨b1, rfl, hb1, e1, n1, l1⟩
  have z1 := e1.size
  replace e := e.trans e1
  have E1 := e
  clear e
  have e := ExtB.refl (fun _ => False) w1
  have lb1 := lt_of_at hb1
  refine runl_ev (ev_assign rfl) ?_
  refine runl_ev (ev_assign rfl) ?_
  refine runl_nil ?_
  refine run_seq ?_
  refine run_seq ?_
  refine run_region rfl ?_
  refine runl_ev (ev_loadA agg_27 hcl rfl (eqw (cells_all hb1))) ?_
  refine runl_op (t_call call_23 rfl (risroot_any r _ _ (RRoot.stable _ _ _ _ (E1.trans e) hr0))) ?_
  rintro _ w7 ⟨rfl, e7⟩
  have z7 := e7.size
  replace e := e.trans e7
  replace hb1 := e7.at hb1
  refine runl_ev (ev_not rfl) ?_
  refine runl_nil ?_
  refine run_cond_split rfl (fun h0 => ?_) (fun h0 => ?_)
  · have hm : isRootP r = false := by simpa using h0
    refine run_seq ?_
    refine run_region rfl ?_
    refine runl_ev (ev_assign rfl) ?_
    refine runl_ev (ev_assign rfl) ?_
    refine runl_nil ?_
    refine run_ret_any Try.func7 (res2 Try.results7 rfl rfl) ?_
    refine ⟨_, by rw [encE, hm]; rfl, ?_⟩
    rw [show encP 1 isRootP encRoot r = [] by unfold encP; rw [hm]; rfl]
    exact OwnL.nil _ _ (E1.trans e)
  · have hm : isRootP r = true := by simpa using h0
    refine run_skip ?_
    refine run_seq ?_
    refine run_region rfl ?_
    refine runl_ev (ev_fieldAddr fld_27_0 rfl) ?_
    refine runl_ev (ev_load1 cell_3 rfl (eqw (cell_blk hb1 rfl))) ?_
    refine runl_ev (ev_fieldAddr fld_27_1 rfl) ?_
    refine runl_ev (ev_load1 cell_3 rfl (eqw (cell_blk hb1 rfl))) ?_
    refine runl_op (t_buildSlice (out := [.int .i64 1, .int .i64 r.ver, .int .i64 r.exp]) Try.underlying108 sz_3 zero_3 rfl rfl (by decide) (by decide) rfl (rfl)) ?_
    rintro _ w13 ⟨b13, rfl, hb13, e13, n13, l13⟩
    have z13 := e13.size
    replace e := e.trans e13
    replace hb1 := e13.at hb1
    refine runl_op (t_call call_24 rfl (rnums1_any [1, r.ver, r.exp] _ _ _ _ (sl_lit (l := [1, r.ver, r.exp]) (R := RInt) hb13 (pc rfl (pc rfl (pc rfl pn)))) (by simp))) ?_
    rintro v14 w14 ow14
    have e14 := ow14.ext
    have ow := ow14.from e
    have z14 := e14.size
    replace e := e.trans e14
    replace hb1 := e14.at hb1
    replace hb13 := e14.at hb13
    clear ow14
    refine runl_ev (ev_assign rfl) ?_
    refine runl_nil ?_
    refine run_seq ?_
    refine run_seq ?_
    refine run_region rfl ?_
    refine runl_ev (ev_assign rfl) ?_
    refine runl_nil ?_
    refine run_block ?_
    refine run_loop (ι := Nat × Value) (fun x => [(1, .pointer (some ⟨b1, 0, none⟩)), (4, x.2), (5, .int .i64 (x.1 : Int))]) (fun x w2 => x.1 ≤ 4 ∧ w2.heap[b1]? = some (.cells ⟨.int .i64 r.ver :: .int .i64 r.exp :: ks⟩ 27 (0, 0)) ∧ OwnB 5 w1 (encNs [1, r.ver, r.exp] ++ (r.roles.take x.1).flatMap encKeys) x.2 w2) (fun x => 4 - x.1) ((0, v14)) ⟨rfl, rfl, rfl, trivial⟩ (⟨Nat.zero_le _, hb1, by simpa using ow⟩) ?_
    clear e hb1 ow
    intro ⟨k, v⟩ w2 ⟨hk, hb1, ow⟩ IH
    simp only at hk ow
    obtain ⟨xs, g, own, hpp, hxl, e, hg, hgl⟩ := ow.open
    have htl0 := flat_take_le (f := encKeys) (l := r.roles) k
    rw [List.length_append] at own
    refine run_seq ?_
    refine run_seq ?_
    refine run_region rfl ?_
    refine runl_ev (ev_move rfl) ?_
    refine runl_ev (ev_lss rfl rfl) ?_
    refine runl_nil ?_
    refine run_dcond rfl (fun h1 => ?_) (fun h1 => ?_)
    · have hk1 : k < r.roles.length := by omega
      obtain ⟨c2, hseg, hrk⟩ := RKeys.seg hks hk1
      have hc2l := rkeys_len _ _ _ hrk
      have hseg2 : (((.int .i64 r.ver :: .int .i64 r.exp :: ks).drop 2).drop (k * 2)).take 2 = c2 := hseg
      rw [List.drop_drop] at hseg2
      have htk := flat_take (f := encKeys) hk1
      have htl := flat_take_le (f := encKeys) (l := r.roles) (k + 1)
      rw [htk, List.length_append] at htl
      refine run_skip ?_
      refine run_seq ?_
      refine run_block ?_
      refine run_region rfl ?_
      refine runl_ev (ev_move rfl) ?_
      refine runl_ev (ev_move rfl) ?_
      refine runl_ev (ev_fieldAddr fld_27_2 rfl) ?_
      refine runl_ev (ev_indexAddrA arr_25 rfl rfl (by omega)) ?_
      refine runl_ev (ev_loadA agg_24 hc2l rfl (eqw ((cells_all hb1).seg c2 (2 + k * 2) (by omega) (by rw [hc2l]; exact hseg2.symm)))) ?_
      refine runl_op (t_call call_25 rfl (rkeys6_any r.roles[k] c2 _ (RKeys.stable _ _ _ _ (E1.trans e) hrk) (hkl _ (List.getElem_mem hk1)))) ?_
      rintro v24 w24 ow24
      have e24 := ow24.ext
      obtain ⟨a24, c24, rfl, hc24, s24⟩ := ow24.sl
      have z24 := e24.size
      replace e := e.trans e24
      replace own := own.ext e24
      replace hb1 := e24.at hb1
      refine runl_op (t_appendL (l := encKeys r.roles[k]) (R := RByte) ef_28 rfl rfl own s24 rbyte_len (fun x cs h => rbyte_one x cs h) (by unfold maxLen; omega) (by omega)) ?_
      rintro v25 w25 ⟨n25, g25, hnl25, hnp25, ap25⟩
      have z25 := ap25.size
      replace hb1 := ap25.ext.atG hb1 (by omega)
      have ow25 := OwnL.app flat_byte e hg (by omega) (hpp.mono fun _ _ _ hr => flat_byte _ _ _ _ hr) hxl hnp25 ap25 (by first | rfl | rw [List.length_append]) rfl
      refine runl_ev (ev_assign rfl) ?_
      refine runl_nil ?_
      refine run_inBlock ?_
      refine run_region rfl ?_
      refine runl_ev (ev_move rfl) ?_
      refine runl_ev (ev_add rfl rfl (by omega) (by omega)) ?_
      refine runl_ev (ev_assign rfl) ?_
      refine runl_nil ?_
      refine IH (k + 1, v25) _ _ (by simp only; omega) ⟨rfl, rfl, rfl, trivial⟩ ⟨by show k + 1 ≤ 4; omega, hb1, ?_⟩
      simp only
      rw [htk, ← List.append_assoc]
      exact ow25
    · obtain rfl : k = 4 := by omega
      rw [← hrl, List.take_length] at ow
      refine run_exit rfl ?_
      refine run_seq ?_
      refine run_region rfl ?_
      refine runl_ev (ev_move rfl) ?_
      refine runl_ev (ev_assign rfl) ?_
      refine runl_ev (ev_assign rfl) ?_
      refine runl_nil ?_
      refine run_ret_any Try.func7 (res2 Try.results7 rfl rfl) ?_
      refine ⟨_, by rw [encE, hm]; rfl, ?_⟩
      rw [show encP 1 isRootP encRoot r = encNs [1, r.ver, r.exp] ++ r.roles.flatMap encKeys by unfold encP; rw [hm, henc]; simp [encNs]]
      exact OwnL.from E1 ow
end Go.Proofs.Ytcmbiaibocdfeaa

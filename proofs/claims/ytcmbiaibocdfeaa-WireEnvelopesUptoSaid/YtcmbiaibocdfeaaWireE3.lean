/- The walks of what encodes envelopes, and of the reference's. -/
import Derived.Test.YtcmbiaibocdfeaaWireE2
namespace Go.Proofs.Ytcmbiaibocdfeaa
open Go Go.Fw
set_option maxRecDepth 100000

theorem wrowsM_any {l : List UInt8} {w0 w : World} {wb : Nat} {g : Int} {v : Value} {T : TypeId} (st : WSt T 5 w0 w wb g v l) (xs : List MarkP) (a : Option Addr) (n c : Nat) (hs : SlAt 35 RMark w0 (.slice a n c) xs) (hxl : xs.length ≤ 1099511627776) (hb : l.length + (encN xs.length ++ xs.flatMap encMark).length ≤ 1099511627776) :
    Ret Try.prog 37 [.pointer (some ⟨wb, 0, none⟩), .func (.func 38) #[] #[], .slice a n c] w (WP T 5 w0 w wb g l (encN xs.length ++ xs.flatMap encMark)) := by
  have e := ExtB.refl (fun _ => False) w
  have lwb := lt_of_at st.hw
  have hgl := st.hgl
  have hs0 := hs
  obtain ⟨rfl, hat⟩ := hs.at
  rw [List.length_append] at hb
  refine ret_of_run Try.func37 rfl Try.ntmps37 rfl ?_
  refine run_seq ?_
  refine run_region rfl ?_
  refine runl_ev (ev_move rfl) ?_
  refine runl_ev (ev_nilCheck rfl) ?_
  refine runl_ev (ev_fieldAddr fld_62_0 rfl) ?_
  refine runl_ev (ev_move rfl) ?_
  refine runl_ev (ev_lenL sl_42 rfl) ?_
  refine runl_op (t_buildSlice (out := [.int .i64 (xs.length : Int)]) Try.underlying108 sz_3 zero_3 rfl rfl (by decide) (by decide) rfl (rfl)) ?_
  rintro _ w13 ⟨b13, rfl, hb13, e13, n13, l13⟩
  have z13 := e13.size
  replace e := e.trans e13
  refine runl_op (t_call call_21 rfl (wnums_any (st.up e) [(xs.length : Int)] _ _ _ (sl_lit (l := [(xs.length : Int)]) (R := RInt) hb13 (pc rfl pn)) (fun b o h => by cases h; exact ⟨by omega, by omega⟩) (by simp) (by rw [encNs_one]; omega))) ?_
  rintro _ w14 ⟨rfl, v14, g14, p14⟩
  have q14 := p14.from e
  rw [encNs_one] at q14
  have z14 := q14.extB.size
  refine runl_nil ?_
  refine run_seq ?_
  refine run_region rfl ?_
  refine runl_ev (ev_move rfl) ?_
  refine runl_ev (ev_lenL sl_42 rfl) ?_
  refine runl_ev (ev_move rfl) ?_
  refine runl_nil ?_
  refine run_block ?_
  refine run_loop (ι := Nat × Value × Int) (fun x => [(0, .pointer (some ⟨wb, 0, none⟩)), (1, .func (.func 38) #[] #[]), (15, .slice a xs.length c), (16, .int .i64 (xs.length : Int)), (17, .int .i64 (x.1 : Int))]) (fun x w' => x.1 ≤ xs.length ∧ WPost T 5 w0 w wb g l (encN xs.length ++ (xs.take x.1).flatMap encMark) x.2.1 x.2.2 w') (fun x => xs.length - x.1) ((0, v14, g14)) ⟨rfl, rfl, rfl, rfl, rfl, trivial⟩ (⟨Nat.zero_le _, by simpa using q14⟩) ?_
  clear q14 p14 e
  intro ⟨k, v1, g1⟩ w1 ⟨hk, po⟩ IH
  simp only at hk po
  have e := ExtB.refl (fun _ => False) w1
  have lwb1 := lt_of_at po.st.hw
  have hgl1 := po.st.hgl
  have hpz := po.extB.size
  refine run_seq ?_
  refine run_region rfl ?_
  refine runl_ev (ev_lss rfl rfl) ?_
  refine runl_nil ?_
  refine run_seq ?_
  refine run_dcond rfl (fun h0 => ?_) (fun h0 => ?_)
  · have hk1 : k < xs.length := by omega
    obtain ⟨b1, o1, cs1, rfl, hr1, hc1⟩ := hat k hk1
    have hcl1 := rmark_len _ _ _ hr1
    have hone1 := rmark_one _ _ hr1
    have htk := flat_take (f := encMark) hk1
    have htl := flat_take_le (f := encMark) (l := xs) (k + 1)
    rw [htk, List.length_append] at htl
    have htl0 : (l ++ (encN (xs.length : Int) ++ (xs.take k).flatMap encMark)).length = l.length + (encN (xs.length : Int)).length + ((xs.take k).flatMap encMark).length := by simp only [List.length_append]; omega
    refine run_skip ?_
    refine run_seq ?_
    refine run_block ?_
    refine run_seq ?_
    refine run_region rfl ?_
    refine runl_ev (ev_indexAddr el_42 rfl rfl (by omega)) ?_
    refine runl_ev (ev_loadA agg_87 hcl1 rfl (eqw (hc1.ext (po.st.ext.trans e)))) ?_
    refine runl_op (t_alloc zero_87 rfl) ?_
    rintro _ w7 ⟨b7, rfl, hb7, e7, n7, l7⟩
    have z7 := e7.size
    replace e := e.trans e7
    refine runl_do (t_storeW sz_87 rfl rfl hcl1 rfl hb7 (hone1)) ?_
    rintro _ v3_3 ⟨hq3_3, e3_3, z3_3⟩
    replace e := e.new1 e3_3 (by omega)
    replace hb7 := hq3_3
    clear hq3_3
    refine runl_nil ?_
    refine run_region rfl ?_
    refine runl_ev (ev_move rfl) ?_
    refine runl_ev (ev_move rfl) ?_
    refine runl_ev (ev_loadA agg_87 hcl1 rfl (eqw (cells_all hb7))) ?_
    refine runl_op (t_callv call_38 rfl rfl (wmark_any (po.st.up e) xs[k] cs1 hr1 (by omega))) ?_
    rintro _ w24 ⟨rfl, v24, g24, p24⟩
    have q24 := po.trans hgl (p24.from e)
    have z24 := q24.extB.size
    refine runl_nil ?_
    refine run_inBlock ?_
    refine run_region rfl ?_
    refine runl_ev (ev_add rfl rfl (by omega) (by omega)) ?_
    refine runl_ev (ev_move rfl) ?_
    refine runl_nil ?_
    refine IH (k + 1, v24, g24) _ _ (by simp only; omega) ⟨rfl, rfl, rfl, rfl, rfl, trivial⟩ ⟨hk1, ?_⟩
    simp only
    rw [htk, ← List.append_assoc]
    exact q24
  · obtain rfl : k = xs.length := by omega
    rw [List.take_length] at po
    refine run_exit rfl ?_
    refine run_end_any Try.func37 (res0 Try.results37) ?_
    exact ⟨rfl, v1, g1, po⟩
theorem encenv1_any {l : List UInt8} {w0 w : World} {wb : Nat} {g : Int} {v : Value} {T : TypeId} (st : WSt T 5 w0 w wb g v l) (x : EnvP) (cs : List Value) (xb : Nat) (hx : w0.heap[xb]? = some (.cells ⟨cs⟩ 44 (0, 0))) (hr : REnv w0 x cs) (hkl : x.marks.length ≤ 1099511627776) (hb : l.length + (encEnv x).length ≤ 1099511627776) :
    Ret Try.prog 35 [.pointer (some ⟨wb, 0, none⟩), .pointer (some ⟨xb, 0, none⟩)] w (WP T 5 w0 w wb g l (encEnv x)) := by
  have e := ExtB.refl (fun _ => False) w
  have lwb := lt_of_at st.hw
  have hgl := st.hgl
  have lxb := lt_of_at hx
  have hwb := st.hwb
  have hg0 := st.hg
  replace hx := st.ext.at hx
  obtain ⟨a, c, a2, c2, rfl, hbo, hma⟩ := hr
  unfold encEnv at hb ⊢
  rw [List.length_append] at hb
  refine ret_of_run Try.func35 rfl Try.ntmps35 rfl ?_
  refine run_seq ?_
  refine run_draw mo (fun w' => Ext w w') [6] [(true, 0), (true, 1), (true, 2), (true, 3), (true, 4), (false, 5), (false, 6)] (by kernel_rfl) ?_
  intro wr0 er0
  have zr0 := er0.size
  have hsr0 := er0
  have ep := e.trans er0
  have hxp := er0.at hx
  refine rund_ev hsr0 rfl (ev_move rfl) ?_
  refine rund_ev hsr0 rfl (ev_nilCheck rfl) ?_
  refine rund_ev hsr0 rfl (ev_fieldAddr fld_62_0 rfl) ?_
  refine rund_ev hsr0 rfl (ev_fieldAddr fld_44_0 rfl) ?_
  refine rund_ev hsr0 rfl (ev_load1 cell_28 rfl (fun wz hz => cell_blk (hz.at hx) rfl)) ?_
  refine rund_op rfl (t_buildSlice (out := [.slice a x.body.length c]) Try.underlying122 sz_28 zero_28 rfl rfl (by decide) (by decide) rfl (rfl)) ?_
  rintro _ w8 ⟨b8, rfl, hb8, e8, n8, l8⟩
  have z8 := e8.size
  replace ep := ep.trans e8
  replace hxp := e8.at hxp
  have hs8 := hsr0.trans e8
  refine ⟨hs8, ?_⟩
  have hb8p := hb8
  refine rund_opT rfl rfl (t_call call_36 rfl (wbytes_any (st.up ep) x.body _ _ _ _ _ _ _ hb8p ⟨by omega, by omega⟩ (fun w1 e1 => hbo.ext RByte.stable ((st.up ep).base e1)) (by omega))) ?_
  rintro _ w9 ⟨rfl, v9, g9, p9⟩
  have q9 := p9.from ep
  have z9 := q9.extB.size
  replace hxp := p9.extB.at hxp (fun h => by rcases h with h | h <;> omega)
  refine rund_nil ?_
  replace hx := hxp
  clear hxp
  refine run_region rfl ?_
  refine runl_ev (ev_move rfl) ?_
  refine runl_ev (ev_fieldAddr fld_44_1 rfl) ?_
  refine runl_ev (ev_load1 cell_42 rfl (eqw (cell_blk hx rfl))) ?_
  refine runl_op (t_call call_37 rfl (wrowsM_any q9.st x.marks a2 _ c2 hma hkl (by rw [List.length_append]; omega))) ?_
  rintro _ w13 ⟨rfl, v13, g13, p13⟩
  have q13 := q9.trans hgl p13
  have z13 := q13.extB.size
  refine runl_nil ?_
  refine run_end_any Try.func35 (res0 Try.results35) ?_
  exact ⟨rfl, v13, g13, q13⟩
theorem encenv_any (x : EnvP) (cs : List Value) (w : World) (hr : REnv w x cs) (hkl : x.marks.length ≤ 1099511627776) (hb : isEnvP x = true → (encEnv x).length ≤ 1000000000) : Ret Try.prog 13 [.agg ⟨cs⟩] w fun v w' => ∃ p, v = .tuple #[p, .int .i64 (encE isEnvP x)] ∧ OwnB 5 w (encP 6 isEnvP encEnv x) p w' := by
  have e := ExtB.refl (fun _ => False) w
  have hcl := renv_len hr
  refine ret_of_run Try.func13 rfl Try.ntmps13 rfl ?_
  refine run_seq ?_
  refine run_region rfl ?_
  refine runl_op (t_boxA rfl) ?_
  rintro _ w1 ⟨b1, rfl, hb1, e1, n1, l1⟩
  have z1 := e1.size
  replace e := e.trans e1
  refine runl_ev (ev_assign rfl) ?_
  refine runl_ev (ev_assign rfl) ?_
  refine runl_nil ?_
  refine run_seq ?_
  refine run_region rfl ?_
  refine runl_ev (ev_loadA agg_44 hcl rfl (eqw (cells_all hb1))) ?_
  refine runl_op (t_call call_34 rfl (isenv_any x cs _ (REnv.stable _ _ _ _ e hr) (by omega))) ?_
  rintro _ w5 ⟨rfl, e5⟩
  have z5 := e5.size
  replace e := e.trans e5
  replace hb1 := e5.at hb1
  refine runl_ev (ev_makeFunc rfl rfl) ?_
  refine runl_op (t_call call_18 rfl (encoded_any _ 6 (isEnvP x) 35 [.pointer (some ⟨b1, 0, none⟩)] call_35 (encEnv x) (by have := encN_len 6; omega) hb (fun hm w1 wb g v st => encenv1_any st x cs b1 hb1 (REnv.stable _ _ _ _ e hr) hkl (by have := encN_len 6; have := hb hm; omega)))) ?_
  rintro _ w7 ⟨p7, g7, rfl, o7, e7, hg7, hgl7⟩
  have z7 := e7.size
  replace e := e.trans e7
  replace hb1 := e7.at hb1
  refine runl_ev (ev_extract rfl rfl) ?_
  refine runl_ev (ev_extract rfl rfl) ?_
  refine runl_ev (ev_assign rfl) ?_
  refine runl_ev (ev_assign rfl) ?_
  refine runl_nil ?_
  refine run_ret_any Try.func13 (res2 Try.results13 rfl rfl) ?_
  have hz := e.size
  exact ⟨p7, rfl, ownB_of o7 e (by omega) (by omega)⟩
theorem rbytes1_any (bs : List UInt8) (w : World) (a : Option Addr) (n c : Nat) (hs : SlAt 1 RByte w (.slice a n c) bs) (hn : bs.length ≤ 1000000000) : Ret Try.prog 41 [.slice a n c] w (OwnB 5 w (encBs bs)) := by
  have e := ExtB.refl (fun _ => False) w
  have hs0 := hs
  obtain ⟨rfl, -⟩ := hs.at
  have hnl := encN_len bs.length
  refine ret_of_run Try.func41 rfl Try.ntmps41 rfl ?_
  refine run_seq ?_
  refine run_region rfl ?_
  refine runl_ev (ev_assign rfl) ?_
  refine runl_nil ?_
  refine run_seq ?_
  refine run_region rfl ?_
  refine runl_ev (ev_move rfl) ?_
  refine runl_ev (ev_lenL sl_28 rfl) ?_
  refine runl_op (t_call call_40 rfl (rnum1_any (bs.length : Int) _)) ?_
  rintro v5 w5 ow5
  have ow := ow5.from e
  obtain ⟨xs, g, own, hpp, hxl, -, hg, hgl⟩ := ow.open
  have e5 := ow5.ext
  have z5 := e5.size
  replace e := e.trans e5
  refine runl_ev (ev_move rfl) ?_
  refine runl_op (t_appendL (l := bs) (R := RByte) ef_28 rfl rfl own (hs0.ext RByte.stable e) rbyte_len (fun x cs h => rbyte_one x cs h) (by unfold maxLen; omega) (by omega)) ?_
  rintro v7 w7 ⟨n7, g7, hnl7, hnp7, ap7⟩
  have z7 := ap7.size
  have ow7 := OwnL.app flat_byte e hg (by omega) (hpp.mono fun _ _ _ hr => flat_byte _ _ _ _ hr) hxl hnp7 ap7 (by first | rfl | rw [List.length_append]) rfl
  refine runl_ev (ev_assign rfl) ?_
  refine runl_nil ?_
  refine run_ret_any Try.func41 (res1 Try.results41 rfl) ?_
  exact ow7
theorem rencsig_any (s : SigP) (cs : List Value) (w : World) (hs : RSig w s cs) : Ret Try.prog 42 [.agg ⟨cs⟩] w fun v w' => ∃ p, v = .tuple #[p, .int .i64 (encE isSigP s)] ∧ OwnB 5 w (sigB s) p w' := by
  have e := ExtB.refl (fun _ => False) w
  have hs0 := hs
  have hsl := rsig_len _ _ _ hs
  obtain ⟨a, c, a2, c2, rfl, h1, h2⟩ := hs
  refine ret_of_run Try.func42 rfl Try.ntmps42 rfl ?_
  refine run_seq ?_
  refine run_region rfl ?_
  refine runl_op (t_boxA rfl) ?_
  rintro _ w1 ⟨b1, rfl, hb1, e1, n1, l1⟩
  have z1 := e1.size
  replace e := e.trans e1
  have E1 := e
  clear e
  have e := ExtB.refl (fun _ => False) w1
  have lb1 := lt_of_at hb1
  refine runl_ev (ev_assign rfl) ?_
  refine runl_ev (ev_assign rfl) ?_
  refine runl_nil ?_
  refine run_seq ?_
  refine run_seq ?_
  refine run_region rfl ?_
  refine runl_ev (ev_loadA agg_85 hsl rfl (eqw (cells_all hb1))) ?_
  refine runl_op (t_call call_73 rfl (qis_any s _ _ (RSig.stable _ _ _ _ (E1.trans e) hs0))) ?_
  rintro _ w8 ⟨rfl, e8⟩
  have z8 := e8.size
  replace e := e.trans e8
  replace hb1 := e8.at hb1
  refine runl_ev (ev_not rfl) ?_
  refine runl_nil ?_
  refine run_cond_split rfl (fun h0 => ?_) (fun h0 => ?_)
  · have hm : isSigP s = false := by simpa using h0
    refine run_seq ?_
    refine run_region rfl ?_
    refine runl_ev (ev_assign rfl) ?_
    refine runl_ev (ev_assign rfl) ?_
    refine runl_nil ?_
    refine run_ret_any Try.func42 (res2 Try.results42 rfl rfl) ?_
    refine ⟨_, by rw [encE, hm]; rfl, ?_⟩
    rw [show sigB s = [] by unfold sigB; rw [hm]; rfl]
    exact OwnL.nil _ _ (E1.trans e)
  · have hm : isSigP s = true := by simpa using h0
    have hm0 := hm
    unfold isSigP at hm0
    simp only [Bool.and_eq_true, decide_eq_true_eq] at hm0
    obtain ⟨m1, m2, m3, m4⟩ := hm0
    have hln := encN_len s.leaf
    have hl1 := hashes_len (sl_hashes h1)
    have hl2 := hashes_len (sl_hashes h2)
    refine run_skip ?_
    refine run_seq ?_
    refine run_region rfl ?_
    refine runl_ev (ev_fieldAddr fld_85_0 rfl) ?_
    refine runl_ev (ev_load1 cell_3 rfl (eqw (cell_blk hb1 rfl))) ?_
    refine runl_op (t_call call_40 rfl (rnum1_any s.leaf _)) ?_
    rintro v12 w12 ow12
    have e12 := ow12.ext
    have ow := ow12.from e
    have z12 := e12.size
    replace e := e.trans e12
    replace hb1 := e12.at hb1
    refine runl_ev (ev_assign rfl) ?_
    refine runl_nil ?_
    refine run_seq ?_
    refine run_seq ?_
    refine run_region rfl ?_
    refine runl_ev (ev_assign rfl) ?_
    refine runl_nil ?_
    refine run_block ?_
    refine run_loop (ι := Nat × Value) (fun x => [(1, .pointer (some ⟨b1, 0, none⟩)), (4, x.2), (5, .int .i64 (x.1 : Int))]) (fun x w2 => x.1 ≤ s.chains.length ∧ w2.heap[b1]? = some (.cells ⟨[.int .i64 s.leaf, .slice a s.chains.length c, .slice a2 s.path.length c2]⟩ 85 (0, 0)) ∧ OwnB 5 w1 (encN s.leaf ++ (s.chains.take x.1).flatMap id) x.2 w2) (fun x => s.chains.length - x.1) ((0, v12)) ⟨rfl, rfl, rfl, trivial⟩ (⟨Nat.zero_le _, hb1, by simpa using ow⟩) ?_
    clear e hb1 ow ow12
    intro ⟨j, v⟩ w2 ⟨hj, hb1, ow⟩ IH
    simp only at hj ow
    obtain ⟨xs, g, own, hpp, hxl, e, hg, hgl⟩ := ow.open
    have htl := flat_take_le (f := id) (l := s.chains) j
    rw [List.length_append] at own
    refine run_seq ?_
    refine run_seq ?_
    refine run_region rfl ?_
    refine runl_ev (ev_move rfl) ?_
    refine runl_ev (ev_fieldAddr fld_85_1 rfl) ?_
    refine runl_ev (ev_load1 cell_22 rfl (eqw (cell_blk hb1 rfl))) ?_
    refine runl_ev (ev_lenL sl_22 rfl) ?_
    refine runl_ev (ev_lss rfl rfl) ?_
    refine runl_nil ?_
    refine run_dcond rfl (fun h1c => ?_) (fun h1c => ?_)
    · have hj1 : j < s.chains.length := by omega
      obtain ⟨b2, o2, cs2, rfl, ⟨hh2, rfl⟩, hc2⟩ := h1.at.2 j hj1
      have htk := flat_take (f := id) hj1
      refine run_skip ?_
      refine run_seq ?_
      refine run_block ?_
      refine run_region rfl ?_
      refine runl_ev (ev_move rfl) ?_
      refine runl_ev (ev_fieldAddr fld_85_1 rfl) ?_
      refine runl_ev (ev_load1 cell_22 rfl (eqw (cell_blk hb1 rfl))) ?_
      refine runl_ev (ev_move rfl) ?_
      refine runl_ev (ev_indexAddr el_22 rfl rfl (by omega)) ?_
      refine runl_ev (ev_sliceA arr_81 rfl) ?_
      refine runl_op (t_append (news := hcells s.chains[j]) ef_28 rfl rfl own (by rw [hcells_length]; exact hh2) (hc2.ext (E1.trans e)) (hcells_one _) (by unfold maxLen; omega) (by omega)) ?_
      rintro v26 w26 ⟨g26, ap26⟩
      have z26 := ap26.size
      replace hb1 := ap26.ext.atG hb1 (by omega)
      have ow26 := OwnL.app flat_byte e hg (by omega) hpp hxl (parts_bytes s.chains[j]) ap26 (by rw [List.length_append]) hh2
      refine runl_ev (ev_assign rfl) ?_
      refine runl_nil ?_
      refine run_inBlock ?_
      refine run_region rfl ?_
      refine runl_ev (ev_move rfl) ?_
      refine runl_ev (ev_add rfl rfl (by omega) (by omega)) ?_
      refine runl_ev (ev_assign rfl) ?_
      refine runl_nil ?_
      refine IH (j + 1, v26) _ _ (by simp only; omega) ⟨rfl, rfl, rfl, trivial⟩ ⟨hj1, hb1, ?_⟩
      simp only
      rw [htk, ← List.append_assoc]
      exact ow26
    · obtain rfl : j = s.chains.length := by omega
      rw [List.take_length] at ow
      refine run_exit rfl ?_
      refine run_seq ?_
      refine run_seq ?_
      refine run_region rfl ?_
      refine runl_ev (ev_assign rfl) ?_
      refine runl_nil ?_
      refine run_block ?_
      refine run_loop (ι := Nat × Value) (fun x => [(1, .pointer (some ⟨b1, 0, none⟩)), (4, x.2), (6, .int .i64 (x.1 : Int))]) (fun x w2 => x.1 ≤ s.path.length ∧ w2.heap[b1]? = some (.cells ⟨[.int .i64 s.leaf, .slice a s.chains.length c, .slice a2 s.path.length c2]⟩ 85 (0, 0)) ∧ OwnB 5 w1 (encN s.leaf ++ s.chains.flatMap id ++ (s.path.take x.1).flatMap id) x.2 w2) (fun x => s.path.length - x.1) ((0, v)) ⟨rfl, rfl, rfl, trivial⟩ (⟨Nat.zero_le _, hb1, by simpa using ow⟩) ?_
      clear e hb1 ow own hpp hxl hg hgl
      intro ⟨j, v⟩ w3 ⟨hj, hb1, ow⟩ IH
      simp only at hj ow
      obtain ⟨xs, g, own, hpp, hxl, e, hg, hgl⟩ := ow.open
      have htl := flat_take_le (f := id) (l := s.path) j
      rw [List.length_append, List.length_append] at own
      refine run_seq ?_
      refine run_seq ?_
      refine run_region rfl ?_
      refine runl_ev (ev_move rfl) ?_
      refine runl_ev (ev_fieldAddr fld_85_2 rfl) ?_
      refine runl_ev (ev_load1 cell_22 rfl (eqw (cell_blk hb1 rfl))) ?_
      refine runl_ev (ev_lenL sl_22 rfl) ?_
      refine runl_ev (ev_lss rfl rfl) ?_
      refine runl_nil ?_
      refine run_dcond rfl (fun h2c => ?_) (fun h2c => ?_)
      · have hj1 : j < s.path.length := by omega
        obtain ⟨b2, o2, cs2, rfl, ⟨hh2, rfl⟩, hc2⟩ := h2.at.2 j hj1
        have htk := flat_take (f := id) hj1
        refine run_skip ?_
        refine run_seq ?_
        refine run_block ?_
        refine run_region rfl ?_
        refine runl_ev (ev_move rfl) ?_
        refine runl_ev (ev_fieldAddr fld_85_2 rfl) ?_
        refine runl_ev (ev_load1 cell_22 rfl (eqw (cell_blk hb1 rfl))) ?_
        refine runl_ev (ev_move rfl) ?_
        refine runl_ev (ev_indexAddr el_22 rfl rfl (by omega)) ?_
        refine runl_ev (ev_sliceA arr_81 rfl) ?_
        refine runl_op (t_append (news := hcells s.path[j]) ef_28 rfl rfl own (by rw [hcells_length]; exact hh2) (hc2.ext (E1.trans e)) (hcells_one _) (by unfold maxLen; omega) (by omega)) ?_
        rintro v40 w40 ⟨g40, ap40⟩
        have z40 := ap40.size
        replace hb1 := ap40.ext.atG hb1 (by omega)
        have ow40 := OwnL.app flat_byte e hg (by omega) hpp hxl (parts_bytes s.path[j]) ap40 (by rw [List.length_append, List.length_append]) hh2
        refine runl_ev (ev_assign rfl) ?_
        refine runl_nil ?_
        refine run_inBlock ?_
        refine run_region rfl ?_
        refine runl_ev (ev_move rfl) ?_
        refine runl_ev (ev_add rfl rfl (by omega) (by omega)) ?_
        refine runl_ev (ev_assign rfl) ?_
        refine runl_nil ?_
        refine IH (j + 1, v40) _ _ (by simp only; omega) ⟨rfl, rfl, rfl, trivial⟩ ⟨hj1, hb1, ?_⟩
        simp only
        rw [htk, ← List.append_assoc]
        exact ow40
      · obtain rfl : j = s.path.length := by omega
        rw [List.take_length] at ow
        refine run_exit rfl ?_
        refine run_seq ?_
        refine run_region rfl ?_
        refine runl_ev (ev_move rfl) ?_
        refine runl_ev (ev_assign rfl) ?_
        refine runl_ev (ev_assign rfl) ?_
        refine runl_nil ?_
        refine run_ret_any Try.func42 (res2 Try.results42 rfl rfl) ?_
        refine ⟨_, by rw [encE, hm]; rfl, ?_⟩
        rw [show sigB s = encN s.leaf ++ s.chains.flatMap id ++ s.path.flatMap id by unfold sigB encSig; rw [hm, if_pos rfl]; simp]
        exact OwnL.from E1 ow
theorem qisenv_any (x : EnvP) (cs : List Value) (w : World) (hx : REnv w x cs) (hn : x.marks.length ≤ 2199023255552) : Ret Try.prog 39 [.agg ⟨cs⟩] w fun r w' => r = .bool (isEnvP x) ∧ Ext w w' := by
  have e := ExtB.refl (fun _ => False) w
  obtain ⟨a, c, a2, c2, rfl, hb, hm⟩ := hx
  refine ret_of_run Try.func39 rfl Try.ntmps39 rfl ?_
  refine run_seq ?_
  refine run_region rfl ?_
  refine runl_op (t_boxA rfl) ?_
  rintro _ w1 ⟨b1, rfl, hb1, e1, n1, l1⟩
  have z1 := e1.size
  replace e := e.trans e1
  refine runl_ev (ev_assign rfl) ?_
  refine runl_nil ?_
  refine run_seq ?_
  refine run_seq ?_
  have hcs : (8192 : Int) < x.body.length ∨ (¬ (8192 : Int) < x.body.length ∧ (4 : Int) < x.marks.length) ∨ (¬ (8192 : Int) < x.body.length ∧ ¬ (4 : Int) < x.marks.length) := by omega
  rcases hcs with q1 | ⟨q1, q2⟩ | ⟨q1, q2⟩
  · refine run_region rfl ?_
    refine runl_ev (ev_fieldAddr fld_44_0 rfl) ?_
    refine runl_ev (ev_load1 cell_28 rfl (eqw (cell_blk hb1 rfl))) ?_
    refine runl_ev (ev_lenL sl_28 rfl) ?_
    refine runl_ev (ev_gtr rfl rfl) ?_
    refine runl_ev (ev_move rfl) ?_
    refine runl_no_g rfl rfl (decide_eq_true q1) ?_
    refine runl_no_g rfl rfl (decide_eq_true q1) ?_
    refine runl_no_g rfl rfl (decide_eq_true q1) ?_
    refine runl_no_g rfl rfl (decide_eq_true q1) ?_
    refine runl_ev (ev_pick rfl rfl rfl (if_pos (decide_eq_true q1))) ?_
    refine runl_nil ?_
    refine run_cond_true rfl (rfl) ?_
    refine run_seq ?_
    refine run_region rfl ?_
    refine runl_ev (ev_assign rfl) ?_
    refine runl_nil ?_
    refine run_ret_any Try.func39 (res1 Try.results39 rfl) ?_
    exact ⟨by rw [isEnvP, decide_eq_false (by omega : ¬ x.body.length ≤ 8192)]; rfl, e⟩
  · refine run_region rfl ?_
    refine runl_ev (ev_fieldAddr fld_44_0 rfl) ?_
    refine runl_ev (ev_load1 cell_28 rfl (eqw (cell_blk hb1 rfl))) ?_
    refine runl_ev (ev_lenL sl_28 rfl) ?_
    refine runl_ev (ev_gtr rfl rfl) ?_
    refine runl_ev (ev_move rfl) ?_
    refine runl_ev_g rfl rfl (decide_eq_false q1) (ev_fieldAddr fld_44_1 rfl) ?_
    refine runl_ev_g rfl rfl (decide_eq_false q1) (ev_load1 cell_42 rfl (eqw (cell_blk hb1 rfl))) ?_
    refine runl_ev_g rfl rfl (decide_eq_false q1) (ev_lenL sl_42 rfl) ?_
    refine runl_ev_g rfl rfl (decide_eq_false q1) (ev_gtr rfl rfl) ?_
    refine runl_ev (ev_pick rfl rfl rfl (if_neg (by rw [decide_eq_false q1]; simp))) ?_
    refine runl_nil ?_
    refine run_cond_true rfl (decide_eq_true q2) ?_
    refine run_seq ?_
    refine run_region rfl ?_
    refine runl_ev (ev_assign rfl) ?_
    refine runl_nil ?_
    refine run_ret_any Try.func39 (res1 Try.results39 rfl) ?_
    exact ⟨by rw [envF (by omega)], e⟩
  · refine run_region rfl ?_
    refine runl_ev (ev_fieldAddr fld_44_0 rfl) ?_
    refine runl_ev (ev_load1 cell_28 rfl (eqw (cell_blk hb1 rfl))) ?_
    refine runl_ev (ev_lenL sl_28 rfl) ?_
    refine runl_ev (ev_gtr rfl rfl) ?_
    refine runl_ev (ev_move rfl) ?_
    refine runl_ev_g rfl rfl (decide_eq_false q1) (ev_fieldAddr fld_44_1 rfl) ?_
    refine runl_ev_g rfl rfl (decide_eq_false q1) (ev_load1 cell_42 rfl (eqw (cell_blk hb1 rfl))) ?_
    refine runl_ev_g rfl rfl (decide_eq_false q1) (ev_lenL sl_42 rfl) ?_
    refine runl_ev_g rfl rfl (decide_eq_false q1) (ev_gtr rfl rfl) ?_
    refine runl_ev (ev_pick rfl rfl rfl (if_neg (by rw [decide_eq_false q1]; simp))) ?_
    refine runl_nil ?_
    refine run_cond_false rfl (decide_eq_false q2) ?_
    refine run_skip ?_
    refine run_seq ?_
    refine run_seq ?_
    refine run_region rfl ?_
    refine runl_ev (ev_assign rfl) ?_
    refine runl_nil ?_
    refine run_block ?_
    refine run_loop (ι := Nat) (fun k => [(1, .pointer (some ⟨b1, 0, none⟩)), (3, .int .i64 (k : Int))]) (fun k w' => k ≤ x.marks.length ∧ ((x.marks.take k).all fun m => isSigP m.sig) = true ∧ w'.heap[b1]? = some (.cells ⟨[.slice a x.body.length c, .slice a2 x.marks.length c2]⟩ 44 (0, 0)) ∧ Ext w w') (fun k => x.marks.length - k) (0) ⟨rfl, rfl, trivial⟩ (⟨Nat.zero_le _, rfl, hb1, e⟩) ?_
    clear e hb1
    intro k w1 ⟨hk, hall, hb1, e⟩ IH
    refine run_seq ?_
    refine run_seq ?_
    refine run_region rfl ?_
    refine runl_ev (ev_move rfl) ?_
    refine runl_ev (ev_fieldAddr fld_44_1 rfl) ?_
    refine runl_ev (ev_load1 cell_42 rfl (eqw (cell_blk hb1 rfl))) ?_
    refine runl_ev (ev_lenL sl_42 rfl) ?_
    refine runl_ev (ev_lss rfl rfl) ?_
    refine runl_nil ?_
    refine run_dcond rfl (fun h1 => ?_) (fun h1 => ?_)
    · have hk1 : k < x.marks.length := by omega
      obtain ⟨b2, o2, cs2, rfl, ⟨sc, rfl, hkk, hsc⟩, hc2⟩ := hm.at.2 k hk1
      refine run_skip ?_
      refine run_seq ?_
      refine run_block ?_
      refine run_seq ?_
      refine run_region rfl ?_
      refine runl_ev (ev_fieldAddr fld_44_1 rfl) ?_
      refine runl_ev (ev_load1 cell_42 rfl (eqw (cell_blk hb1 rfl))) ?_
      refine runl_ev (ev_move rfl) ?_
      refine runl_ev (ev_indexAddr el_42 rfl rfl (by omega)) ?_
      refine runl_ev (ev_fieldAddr fld_87_1 rfl) ?_
      refine runl_ev (ev_loadA agg_85 (rsig_len _ _ _ hsc) rfl (eqw ((hc2.ext e).seg sc 32 (by omega) (rmark_seg hkk)))) ?_
      refine runl_op (t_call call_73 rfl (qis_any x.marks[k].sig sc _ (RSig.stable _ _ _ _ e hsc))) ?_
      rintro _ w27 ⟨rfl, e27⟩
      have z27 := e27.size
      replace e := e.trans e27
      replace hb1 := e27.at hb1
      refine runl_ev (ev_not rfl) ?_
      refine runl_nil ?_
      refine run_cond_split rfl (fun h2 => ?_) (fun h2 => ?_)
      · have hik : isSigP x.marks[k].sig = false := by simpa using h2
        refine run_seq ?_
        refine run_region rfl ?_
        refine runl_ev (ev_assign rfl) ?_
        refine runl_nil ?_
        refine run_ret_any Try.func39 (res1 Try.results39 rfl) ?_
        exact ⟨by rw [isEnvP, all_no (p := fun m : MarkP => isSigP m.sig) hk1 hik]; simp, e⟩
      · have hik : isSigP x.marks[k].sig = true := by simpa using h2
        refine run_skip ?_
        refine run_inBlock ?_
        refine run_region rfl ?_
        refine runl_ev (ev_move rfl) ?_
        refine runl_ev (ev_add rfl rfl (by omega) (by omega)) ?_
        refine runl_ev (ev_assign rfl) ?_
        refine runl_nil ?_
        exact IH (k + 1) _ _ (by omega) ⟨rfl, rfl, trivial⟩ ⟨by omega, all_take_succ (p := fun m : MarkP => isSigP m.sig) hk1 hall hik, hb1, e⟩
    · obtain rfl : k = x.marks.length := by omega
      rw [List.take_length] at hall
      refine run_exit rfl ?_
      refine run_seq ?_
      refine run_region rfl ?_
      refine runl_ev (ev_assign rfl) ?_
      refine runl_nil ?_
      refine run_ret_any Try.func39 (res1 Try.results39 rfl) ?_
      exact ⟨by rw [isEnvP, hall, decide_eq_true (by omega : x.body.length ≤ 8192), decide_eq_true (by omega : x.marks.length ≤ 4)]; rfl, e⟩
end Go.Proofs.Ytcmbiaibocdfeaa

/- The walk of the law on envelopes. -/
import Derived.Test.YtcmbiaibocdfeaaWireE8
namespace Go.Proofs.Ytcmbiaibocdfeaa
open Go Go.Fw
set_option maxRecDepth 100000

theorem qsame_any (s : SigP) (cs cs2 : List Value) (w : World) (h1 : RSig w s cs) (h2 : RSig w s cs2) (hn : s.chains.length ≤ 1099511627776) (hn2 : s.path.length ≤ 1099511627776) : Ret Try.prog 48 [.agg ⟨cs⟩, .agg ⟨cs2⟩] w fun r w' => r = .bool true ∧ Ext w w' := by
  have e := ExtB.refl (fun _ => False) w
  obtain ⟨a, c, a2, c2, rfl, hc, hp⟩ := h1
  obtain ⟨a3, c3, a4, c4, rfl, hc3, hp3⟩ := h2
  refine ret_of_run Try.func48 rfl Try.ntmps48 rfl ?_
  refine run_seq ?_
  refine run_region rfl ?_
  refine runl_op (t_boxA rfl) ?_
  rintro _ w2 ⟨b2, rfl, hb2, e2, n2, l2⟩
  have z2 := e2.size
  replace e := e.trans e2
  refine runl_op (t_boxA rfl) ?_
  rintro _ w3 ⟨b3, rfl, hb3, e3, n3, l3⟩
  have z3 := e3.size
  replace e := e.trans e3
  replace hb2 := e3.at hb2
  refine runl_ev (ev_assign rfl) ?_
  refine runl_nil ?_
  refine run_seq ?_
  refine run_region rfl ?_
  refine runl_ev (ev_fieldAddr fld_85_0 rfl) ?_
  refine runl_ev (ev_load1 cell_3 rfl (eqw (cell_blk hb2 rfl))) ?_
  refine runl_ev (ev_fieldAddr fld_85_0 rfl) ?_
  refine runl_ev (ev_load1 cell_3 rfl (eqw (cell_blk hb3 rfl))) ?_
  refine runl_ev (ev_eqlI rfl rfl) ?_
  refine runl_ev (ev_move rfl) ?_
  refine runl_ev_g rfl rfl (by simp) (ev_fieldAddr fld_85_1 rfl) ?_
  refine runl_ev_g rfl rfl (by simp) (ev_load1 cell_22 rfl (eqw (cell_blk hb2 rfl))) ?_
  refine runl_ev_g rfl rfl (by simp) (ev_fieldAddr fld_85_1 rfl) ?_
  refine runl_ev_g rfl rfl (by simp) (ev_load1 cell_22 rfl (eqw (cell_blk hb3 rfl))) ?_
  refine runl_op_g rfl rfl (by simp) (t_call call_65 rfl (qhashes_any s.chains _ _ _ _ _ _ _ (hc.ext RHash.stable e) (hc3.ext RHash.stable e) hn)) ?_
  rintro _ w15 ⟨rfl, e15⟩
  have z15 := e15.size
  replace e := e.trans e15
  replace hb2 := e15.at hb2
  replace hb3 := e15.at hb3
  refine runl_ev (ev_pick rfl rfl rfl (if_pos (by simp))) ?_
  refine runl_ev (ev_move rfl) ?_
  refine runl_ev_g rfl rfl (rfl) (ev_fieldAddr fld_85_2 rfl) ?_
  refine runl_ev_g rfl rfl (rfl) (ev_load1 cell_22 rfl (eqw (cell_blk hb2 rfl))) ?_
  refine runl_ev_g rfl rfl (rfl) (ev_fieldAddr fld_85_2 rfl) ?_
  refine runl_ev_g rfl rfl (rfl) (ev_load1 cell_22 rfl (eqw (cell_blk hb3 rfl))) ?_
  refine runl_op_g rfl rfl (rfl) (t_call call_65 rfl (qhashes_any s.path _ _ _ _ _ _ _ (hp.ext RHash.stable e) (hp3.ext RHash.stable e) hn2)) ?_
  rintro _ w22 ⟨rfl, e22⟩
  have z22 := e22.size
  replace e := e.trans e22
  replace hb2 := e22.at hb2
  replace hb3 := e22.at hb3
  refine runl_ev (ev_pick rfl rfl rfl (if_pos (rfl))) ?_
  refine runl_ev (ev_assign rfl) ?_
  refine runl_nil ?_
  refine run_ret_any Try.func48 (res1 Try.results48 rfl) ?_
  exact ⟨rfl, e⟩
theorem qsameenv_any (x : EnvP) (cs cs2 : List Value) (w : World) (h1 : REnv w x cs) (h2 : REnv w x cs2) (hn : x.marks.length ≤ 1099511627776) (hm : ∀ m ∈ x.marks, m.sig.chains.length ≤ 1099511627776 ∧ m.sig.path.length ≤ 1099511627776) : Ret Try.prog 17 [.agg ⟨cs⟩, .agg ⟨cs2⟩] w fun r w' => r = .bool true ∧ Ext w w' := by
  have e := ExtB.refl (fun _ => False) w
  obtain ⟨a, c, a2, c2, rfl, hb, hma⟩ := h1
  obtain ⟨a3, c3, a4, c4, rfl, hbq, hma3⟩ := h2
  refine ret_of_run Try.func17 rfl Try.ntmps17 rfl ?_
  refine run_seq ?_
  refine run_region rfl ?_
  refine runl_op (t_boxA rfl) ?_
  rintro _ w2 ⟨b2, rfl, hb2, e2, n2, l2⟩
  have z2 := e2.size
  replace e := e.trans e2
  refine runl_op (t_boxA rfl) ?_
  rintro _ w3 ⟨b3, rfl, hb3, e3, n3, l3⟩
  have z3 := e3.size
  replace e := e.trans e3
  replace hb2 := e3.at hb2
  refine runl_ev (ev_assign rfl) ?_
  refine runl_nil ?_
  refine run_seq ?_
  refine run_seq ?_
  refine run_region rfl ?_
  refine runl_ev (ev_fieldAddr fld_44_0 rfl) ?_
  refine runl_ev (ev_load1 cell_28 rfl (eqw (cell_blk hb2 rfl))) ?_
  refine runl_ev (ev_convB (x.body) Try.underlying28 Try.underlying5 Try.underlying9 rfl (eqw (hb.ext RByte.stable e))) ?_
  refine runl_ev (ev_fieldAddr fld_44_0 rfl) ?_
  refine runl_ev (ev_load1 cell_28 rfl (eqw (cell_blk hb3 rfl))) ?_
  refine runl_ev (ev_convB (x.body) Try.underlying28 Try.underlying5 Try.underlying9 rfl (eqw (hbq.ext RByte.stable e))) ?_
  refine runl_ev (ev_neqS rfl rfl) ?_
  refine runl_ev (ev_move rfl) ?_
  refine runl_ev_g rfl rfl (by simp) (ev_fieldAddr fld_44_1 rfl) ?_
  refine runl_ev_g rfl rfl (by simp) (ev_load1 cell_42 rfl (eqw (cell_blk hb2 rfl))) ?_
  refine runl_ev_g rfl rfl (by simp) (ev_lenL sl_42 rfl) ?_
  refine runl_ev_g rfl rfl (by simp) (ev_fieldAddr fld_44_1 rfl) ?_
  refine runl_ev_g rfl rfl (by simp) (ev_load1 cell_42 rfl (eqw (cell_blk hb3 rfl))) ?_
  refine runl_ev_g rfl rfl (by simp) (ev_lenL sl_42 rfl) ?_
  refine runl_ev_g rfl rfl (by simp) (ev_neqI rfl rfl) ?_
  refine runl_ev (ev_pick rfl rfl rfl (if_neg (by simp))) ?_
  refine runl_nil ?_
  refine run_cond_false rfl (by simp) ?_
  refine run_skip ?_
  refine run_seq ?_
  refine run_seq ?_
  refine run_region rfl ?_
  refine runl_ev (ev_assign rfl) ?_
  refine runl_nil ?_
  refine run_block ?_
  refine run_loop (ι := Nat) (fun k => [(2, .pointer (some ⟨b2, 0, none⟩)), (3, .pointer (some ⟨b3, 0, none⟩)), (5, .int .i64 (k : Int))]) (fun k w' => k ≤ x.marks.length ∧ w'.heap[b2]? = some (.cells ⟨[.slice a x.body.length c, .slice a2 x.marks.length c2]⟩ 44 (0, 0)) ∧ w'.heap[b3]? = some (.cells ⟨[.slice a3 x.body.length c3, .slice a4 x.marks.length c4]⟩ 44 (0, 0)) ∧ Ext w w') (fun k => x.marks.length - k) (0) ⟨rfl, rfl, rfl, trivial⟩ (⟨Nat.zero_le _, hb2, hb3, e⟩) ?_
  clear e hb2 hb3
  intro k w1 ⟨hk, hb2, hb3, e⟩ IH
  refine run_seq ?_
  refine run_seq ?_
  refine run_region rfl ?_
  refine runl_ev (ev_move rfl) ?_
  refine runl_ev (ev_fieldAddr fld_44_1 rfl) ?_
  refine runl_ev (ev_load1 cell_42 rfl (eqw (cell_blk hb2 rfl))) ?_
  refine runl_ev (ev_lenL sl_42 rfl) ?_
  refine runl_ev (ev_lss rfl rfl) ?_
  refine runl_nil ?_
  refine run_dcond rfl (fun h1 => ?_) (fun h1 => ?_)
  · have hk1 : k < x.marks.length := by omega
    obtain ⟨bA, oA, cA, rfl, ⟨sA, rfl, hkA, hsA⟩, hcA⟩ := hma.at.2 k hk1
    obtain ⟨bB, oB, cB, rfl, ⟨sB, rfl, hkB, hsB⟩, hcB⟩ := hma3.at.2 k hk1
    have hmk := hm _ (List.getElem_mem hk1)
    refine run_skip ?_
    refine run_seq ?_
    refine run_block ?_
    refine run_seq ?_
    refine run_draw mo (fun w' => Ext w1 w') [] [(true, 0), (true, 1), (true, 2), (true, 3), (true, 4), (true, 5), (true, 6), (true, 7), (true, 8), (true, 9), (true, 10), (true, 11), (true, 12), (true, 13), (true, 14), (true, 15), (true, 16), (true, 17), (true, 18), (true, 19), (true, 20), (true, 21), (true, 22), (true, 23), (true, 24), (true, 25), (false, 26), (true, 27), (true, 28)] (by kernel_rfl) ?_
    intro wr6 er6
    have zr6 := er6.size
    have hsr6 := er6
    have ep := e.trans er6
    have hb2p := er6.at hb2
    have hb3p := er6.at hb3
    refine rund_ev hsr6 rfl (ev_fieldAddr fld_44_1 rfl) ?_
    refine rund_ev hsr6 rfl (ev_load1 cell_42 rfl (fun wz hz => cell_blk (hz.at hb2) rfl)) ?_
    refine rund_ev hsr6 rfl (ev_move rfl) ?_
    refine rund_ev hsr6 rfl (ev_indexAddr el_42 rfl rfl (by omega)) ?_
    refine rund_ev hsr6 rfl (ev_fieldAddr fld_87_0 rfl) ?_
    refine rund_ev hsr6 rfl (ev_loadA agg_81 (by rw [hcells_length]; exact hkA) rfl (fun wz hz => (hcA.ext (e.trans hz)).seg (hcells x.marks[k].key) 0 rfl (rmark_key hkA))) ?_
    refine rund_ev hsr6 rfl (ev_fieldAddr fld_44_1 rfl) ?_
    refine rund_ev hsr6 rfl (ev_load1 cell_42 rfl (fun wz hz => cell_blk (hz.at hb3) rfl)) ?_
    refine rund_ev hsr6 rfl (ev_move rfl) ?_
    refine rund_ev hsr6 rfl (ev_indexAddr el_42 rfl rfl (by omega)) ?_
    refine rund_ev hsr6 rfl (ev_fieldAddr fld_87_0 rfl) ?_
    refine rund_ev hsr6 rfl (ev_loadA agg_81 (by rw [hcells_length]; exact hkA) rfl (fun wz hz => (hcB.ext (e.trans hz)).seg (hcells x.marks[k].key) 0 rfl (rmark_key hkA))) ?_
    refine rund_ev hsr6 rfl (ev_neqA rfl rfl eg_81 (eqv_hash Try.underlying81 Try.underlying5 sz_5 hkA hkA)) ?_
    refine rund_ev hsr6 rfl (ev_move rfl) ?_
    refine rund_ev_g hsr6 rfl rfl rfl (by simp) (ev_fieldAddr fld_44_1 rfl) ?_
    refine rund_ev_g hsr6 rfl rfl rfl (by simp) (ev_load1 cell_42 rfl (fun wz hz => cell_blk (hz.at hb2) rfl)) ?_
    refine rund_ev_g hsr6 rfl rfl rfl (by simp) (ev_move rfl) ?_
    refine rund_ev_g hsr6 rfl rfl rfl (by simp) (ev_indexAddr el_42 rfl rfl (by omega)) ?_
    refine rund_ev_g hsr6 rfl rfl rfl (by simp) (ev_fieldAddr fld_87_1 rfl) ?_
    refine rund_ev_g hsr6 rfl rfl rfl (by simp) (ev_loadA agg_85 (rsig_len _ _ _ hsA) rfl (fun wz hz => (hcA.ext (e.trans hz)).seg sA 32 (by omega) (rmark_seg hkA))) ?_
    refine rund_ev_g hsr6 rfl rfl rfl (by simp) (ev_fieldAddr fld_44_1 rfl) ?_
    refine rund_ev_g hsr6 rfl rfl rfl (by simp) (ev_load1 cell_42 rfl (fun wz hz => cell_blk (hz.at hb3) rfl)) ?_
    refine rund_ev_g hsr6 rfl rfl rfl (by simp) (ev_move rfl) ?_
    refine rund_ev_g hsr6 rfl rfl rfl (by simp) (ev_indexAddr el_42 rfl rfl (by omega)) ?_
    refine rund_ev_g hsr6 rfl rfl rfl (by simp) (ev_fieldAddr fld_87_1 rfl) ?_
    refine rund_ev_g hsr6 rfl rfl rfl (by simp) (ev_loadA agg_85 (rsig_len _ _ _ hsB) rfl (fun wz hz => (hcB.ext (e.trans hz)).seg sB 32 (by omega) (rmark_seg hkA))) ?_
    refine rund_op_g rfl rfl rfl (by simp) (t_call call_48 rfl (qsame_any x.marks[k].sig sA sB _ (RSig.stable _ _ _ _ ep hsA) (RSig.stable _ _ _ _ ep hsB) hmk.1 hmk.2)) ?_
    rintro _ w55 ⟨rfl, e55⟩
    have z55 := e55.size
    replace ep := ep.trans e55
    replace hb2p := e55.at hb2p
    replace hb3p := e55.at hb3p
    have hs55 := hsr6.trans e55
    refine ⟨hs55, ?_⟩
    refine rund_ev_g hs55 rfl rfl rfl (by simp) (ev_not rfl) ?_
    refine rund_ev hs55 rfl (ev_pick rfl rfl rfl (if_neg (by simp))) ?_
    refine rund_nil ?_
    replace e := ep
    clear ep
    replace hb2 := hb2p
    clear hb2p
    replace hb3 := hb3p
    clear hb3p
    refine run_cond_false rfl (rfl) ?_
    refine run_skip ?_
    refine run_inBlock ?_
    refine run_region rfl ?_
    refine runl_ev (ev_move rfl) ?_
    refine runl_ev (ev_add rfl rfl (by omega) (by omega)) ?_
    refine runl_ev (ev_assign rfl) ?_
    refine runl_nil ?_
    exact IH (k + 1) _ _ (by omega) ⟨rfl, rfl, rfl, trivial⟩ ⟨by omega, hb2, hb3, e⟩
  · refine run_exit rfl ?_
    refine run_seq ?_
    refine run_region rfl ?_
    refine runl_ev (ev_assign rfl) ?_
    refine runl_nil ?_
    refine run_ret_any Try.func17 (res1 Try.results17 rfl) ?_
    exact ⟨rfl, e⟩
theorem large_any (x : EnvP) (cs : List Value) (w : World) (hx : REnv w x cs) (hn : x.marks.length ≤ 1099511627776) : Ret Try.prog 12 [.agg ⟨cs⟩] w fun r w' => ∃ b, r = .bool b ∧ Ext w w' := by
  have e := ExtB.refl (fun _ => False) w
  obtain ⟨a, c, a2, c2, rfl, hb, hma⟩ := hx
  refine ret_of_run Try.func12 rfl Try.ntmps12 rfl ?_
  refine run_seq ?_
  refine run_region rfl ?_
  refine runl_op (t_boxA rfl) ?_
  rintro _ w1 ⟨b1, rfl, hb1, e1, n1, l1⟩
  have z1 := e1.size
  replace e := e.trans e1
  refine runl_ev (ev_assign rfl) ?_
  refine runl_nil ?_
  refine run_seq ?_
  refine run_region rfl ?_
  refine runl_ev (ev_fieldAddr fld_44_0 rfl) ?_
  refine runl_ev (ev_load1 cell_28 rfl (eqw (cell_blk hb1 rfl))) ?_
  refine runl_ev (ev_lenL sl_28 rfl) ?_
  refine runl_ev (ev_assign rfl) ?_
  refine runl_nil ?_
  refine run_seq ?_
  refine run_seq ?_
  refine run_region rfl ?_
  refine runl_ev (ev_assign rfl) ?_
  refine runl_nil ?_
  refine run_block ?_
  refine run_loop (ι := Nat × Int) (fun y => [(1, .pointer (some ⟨b1, 0, none⟩)), (3, .int .i64 y.2), (4, .int .i64 (y.1 : Int))]) (fun y w' => y.1 ≤ x.marks.length ∧ w'.heap[b1]? = some (.cells ⟨[.slice a x.body.length c, .slice a2 x.marks.length c2]⟩ 44 (0, 0)) ∧ Ext w w') (fun y => x.marks.length - y.1) ((0, (x.body.length : Int))) ⟨rfl, rfl, rfl, trivial⟩ (⟨Nat.zero_le _, hb1, e⟩) ?_
  clear e hb1
  intro ⟨k, q⟩ w1 ⟨hk, hb1, e⟩ IH
  simp only at hk
  refine run_seq ?_
  refine run_seq ?_
  refine run_region rfl ?_
  refine runl_ev (ev_move rfl) ?_
  refine runl_ev (ev_fieldAddr fld_44_1 rfl) ?_
  refine runl_ev (ev_load1 cell_42 rfl (eqw (cell_blk hb1 rfl))) ?_
  refine runl_ev (ev_lenL sl_42 rfl) ?_
  refine runl_ev (ev_lss rfl rfl) ?_
  refine runl_nil ?_
  refine run_dcond rfl (fun h0 => ?_) (fun h0 => ?_)
  · have hk1 : k < x.marks.length := by omega
    obtain ⟨bA, oA, cA, rfl, ⟨sA, rfl, hkA, hsA⟩, hcA⟩ := hma.at.2 k hk1
    obtain ⟨aS, cS, aT, cT, rfl, -, -⟩ := hsA
    refine run_skip ?_
    refine run_seq ?_
    refine run_block ?_
    refine run_draw mo (fun w' => Ext w1 w') [] [(true, 0), (true, 1), (true, 2), (true, 3), (true, 4), (true, 5), (true, 6), (true, 7), (true, 8), (true, 9), (true, 10), (true, 11), (true, 12), (true, 13), (true, 14), (true, 15), (true, 16), (true, 17), (true, 18), (true, 19), (true, 20), (true, 21)] (by kernel_rfl) ?_
    intro wr5 er5
    have zr5 := er5.size
    have hsr5 := er5
    refine rund_ev hsr5 rfl (ev_move rfl) ?_
    refine rund_ev hsr5 rfl (ev_fieldAddr fld_44_1 rfl) ?_
    refine rund_ev hsr5 rfl (ev_load1 cell_42 rfl (fun wz hz => cell_blk (hz.at hb1) rfl)) ?_
    refine rund_ev hsr5 rfl (ev_move rfl) ?_
    refine rund_ev hsr5 rfl (ev_indexAddr el_42 rfl rfl (by omega)) ?_
    refine rund_ev hsr5 rfl (ev_fieldAddr fld_87_1 rfl) ?_
    refine rund_ev hsr5 rfl (ev_fieldAddr fld_85_1 rfl) ?_
    refine rund_ev hsr5 rfl (ev_load1 cell_22 rfl (fun wz hz => ((hcA.ext (e.trans hz)).seg _ 32 (by omega) (rmark_seg hkA)).pick 1 rfl rfl)) ?_
    refine rund_ev hsr5 rfl (ev_lenL sl_22 rfl) ?_
    refine rund_ev hsr5 rfl (ev_mulK (_) rfl rfl (rfl)) ?_
    refine rund_ev hsr5 rfl (ev_addK (_) rfl rfl (rfl)) ?_
    refine rund_ev hsr5 rfl (ev_fieldAddr fld_44_1 rfl) ?_
    refine rund_ev hsr5 rfl (ev_load1 cell_42 rfl (fun wz hz => cell_blk (hz.at hb1) rfl)) ?_
    refine rund_ev hsr5 rfl (ev_move rfl) ?_
    refine rund_ev hsr5 rfl (ev_indexAddr el_42 rfl rfl (by omega)) ?_
    refine rund_ev hsr5 rfl (ev_fieldAddr fld_87_1 rfl) ?_
    refine rund_ev hsr5 rfl (ev_fieldAddr fld_85_2 rfl) ?_
    refine rund_ev hsr5 rfl (ev_load1 cell_22 rfl (fun wz hz => ((hcA.ext (e.trans hz)).seg _ 32 (by omega) (rmark_seg hkA)).pick 2 rfl rfl)) ?_
    refine rund_ev hsr5 rfl (ev_lenL sl_22 rfl) ?_
    refine rund_ev hsr5 rfl (ev_mulK (_) rfl rfl (rfl)) ?_
    refine rund_ev hsr5 rfl (ev_addK (_) rfl rfl (rfl)) ?_
    refine rund_ev hsr5 rfl (ev_assign rfl) ?_
    refine rund_nil ?_
    replace e := e.trans er5
    replace hb1 := er5.at hb1
    refine run_inBlock ?_
    refine run_region rfl ?_
    refine runl_ev (ev_move rfl) ?_
    refine runl_ev (ev_add rfl rfl (by omega) (by omega)) ?_
    refine runl_ev (ev_assign rfl) ?_
    refine runl_nil ?_
    exact IH (k + 1, _) _ _ (by simp only; omega) ⟨rfl, rfl, rfl, trivial⟩ ⟨hk1, hb1, e⟩
  · refine run_exit rfl ?_
    refine run_seq ?_
    refine run_region rfl ?_
    refine runl_ev (ev_move rfl) ?_
    refine runl_ev (ev_gtr rfl rfl) ?_
    refine runl_ev (ev_assign rfl) ?_
    refine runl_nil ?_
    refine run_ret_any Try.func12 (res1 Try.results12 rfl) ?_
    exact ⟨_, rfl, e⟩
theorem lawEnvelopes_any (x : EnvP) (cs : List Value) (w : World) (hx : REnv w x cs) (hmn : x.marks.length ≤ 1048576) (l : List UInt8) (a : Option Addr) (n c : Nat) (hl : SlAt 1 RByte w (.slice a n c) l) (hc : l.length ≤ c) (hln : l.length ≤ 1048576) :
    Ret Try.prog 4 [.agg ⟨cs⟩, .slice a n c] w fun v w' => v = .bool true ∧ Ext w w' := by
  have e := ExtB.refl (fun _ => False) w
  have hl0 := hl
  obtain ⟨rfl, -⟩ := hl.at
  have hcl := renv_len hx
  have h32 := renv_32 hx
  refine ret_of_run Try.func4 rfl Try.ntmps4 rfl ?_
  refine run_seq ?_
  refine run_region rfl ?_
  refine runl_op (t_boxA rfl) ?_
  rintro _ w2 ⟨b2, rfl, hb2, e2, n2, l2⟩
  have z2 := e2.size
  replace e := e.trans e2
  refine runl_ev (ev_assign rfl) ?_
  refine runl_nil ?_
  refine run_seq ?_
  refine run_seq ?_
  refine run_region rfl ?_
  refine runl_ev (ev_loadA agg_44 hcl rfl (eqw (cells_all hb2))) ?_
  refine runl_op (t_call call_12 rfl (large_any x _ _ (REnv.stable _ _ _ _ e hx) (by omega))) ?_
  rintro _ w14 ⟨lb, rfl, e14⟩
  have z14 := e14.size
  replace e := e.trans e14
  replace hb2 := e14.at hb2
  cases lb
  · refine runl_ev (ev_move rfl) ?_
    refine runl_ev_g rfl rfl (rfl) (ev_move rfl) ?_
    refine runl_ev_g rfl rfl (rfl) (ev_lenL sl_28 rfl) ?_
    refine runl_ev_g rfl rfl (rfl) (ev_gtr rfl rfl) ?_
    refine runl_ev (ev_pick rfl rfl rfl (if_neg (by simp))) ?_
    refine runl_nil ?_
    refine run_dcond rfl (fun h0 => ?_) (fun h0 => ?_)
    · refine run_seq ?_
      refine run_region rfl ?_
      refine runl_ev (ev_assign rfl) ?_
      refine runl_nil ?_
      refine run_ret_any Try.func4 (res1 Try.results4 rfl) ?_
      exact ⟨rfl, e⟩
    · refine run_skip ?_
      refine run_seq ?_
      refine run_region rfl ?_
      refine runl_ev (ev_loadA agg_44 hcl rfl (eqw (cells_all hb2))) ?_
      refine runl_op (t_call call_13 rfl (encenv_any x _ _ (REnv.stable _ _ _ _ e hx) (by omega) (fun hm => by have := encEnv_len hm h32; omega))) ?_
      rintro _ w22 ⟨p22, rfl, o22⟩
      have e22 := o22.ext
      obtain ⟨a22, c22, rfl, hc22, sl22⟩ := o22.sl
      have x22 := ExtB.refl (fun _ => False) w22
      have z22 := e22.size
      replace e := e.trans e22
      replace hb2 := e22.at hb2
      refine runl_ev (ev_move rfl) ?_
      refine runl_ev (ev_extract rfl rfl) ?_
      refine runl_ev (ev_extract rfl rfl) ?_
      refine runl_ev (ev_assign rfl) ?_
      refine runl_ev (ev_assign rfl) ?_
      refine runl_nil ?_
      refine run_seq ?_
      refine run_region rfl ?_
      refine runl_ev (ev_loadA agg_44 hcl rfl (eqw (cells_all hb2))) ?_
      refine runl_op (t_call call_14 rfl (rencenv_any x _ _ (REnv.stable _ _ _ _ e hx) (by omega) (fun hm => by have := encEnv_len hm h32; omega))) ?_
      rintro _ w27 ⟨p27, rfl, o27⟩
      have e27 := o27.ext
      obtain ⟨a27, c27, rfl, hc27, sl27⟩ := o27.sl
      have x27 := ExtB.refl (fun _ => False) w27
      have z27 := e27.size
      replace e := e.trans e27
      replace hb2 := e27.at hb2
      replace x22 := x22.trans e27
      refine runl_ev (ev_move rfl) ?_
      refine runl_ev (ev_extract rfl rfl) ?_
      refine runl_ev (ev_extract rfl rfl) ?_
      refine runl_ev (ev_assign rfl) ?_
      refine runl_ev (ev_assign rfl) ?_
      refine runl_nil ?_
      refine run_seq ?_
      refine run_region rfl ?_
      refine runl_op (t_buildSlice0 Try.underlying28 sz_5) ?_
      rintro _ w31 ⟨b31, rfl, hb31, e31, n31, l31⟩
      have z31 := e31.size
      replace e := e.trans e31
      replace hb2 := e31.at hb2
      replace x22 := x22.trans e31
      replace x27 := x27.trans e31
      refine runl_ev (ev_move rfl) ?_
      refine runl_op (t_appendL (l := l) (R := RByte) ef_28 rfl rfl (own_lit (n := 0) hb31 (by unfold maxLen; omega) rfl) (hl0.ext RByte.stable e) rbyte_len (fun x cs h => rbyte_one x cs h) (by unfold maxLen; omega) (by omega)) ?_
      rintro v33 w33 ⟨n33, g33, hnl33, hnp33, ap33⟩
      have ow33 := OwnG.app flat_byte (l := []) (xs := []) (w := w) (by omega) (.inr (by omega)) (by omega) pn rfl hnp33 ap33 rfl rfl
      rw [List.nil_append] at ow33
      obtain ⟨a33, c33, rfl, hc33, sl33, -⟩ := ow33.sl
      have z33 := ap33.ext.size
      replace e := e.newG ap33.ext (by omega)
      replace hb2 := ap33.ext.atG hb2 (by omega)
      replace x22 := x22.newG ap33.ext (by omega)
      replace x27 := x27.newG ap33.ext (by omega)
      refine runl_op (t_call call_15 rfl (decenv_any l _ a33 _ c33 sl33 (by omega))) ?_
      rintro _ w34 ⟨c34, rfl, kf34, e34⟩
      rw [dec_env] at kf34 ⊢
      have hc34 := renv_len kf34.r
      have x34 := ExtB.refl (fun _ => False) w34
      have z34 := e34.size
      replace e := e.trans e34
      replace hb2 := e34.at hb2
      replace x22 := x22.trans e34
      replace x27 := x27.trans e34
      refine runl_ev (ev_move rfl) ?_
      refine runl_ev (ev_extract rfl rfl) ?_
      refine runl_ev (ev_extract rfl rfl) ?_
      refine runl_op (t_alloc zero_44 rfl) ?_
      rintro _ w9 ⟨b9, rfl, hb9, e9, n9, l9⟩
      have z9 := e9.size
      replace e := e.trans e9
      replace hb2 := e9.at hb2
      replace x22 := x22.trans e9
      replace x27 := x27.trans e9
      replace x34 := x34.trans e9
      refine runl_do (t_storeW sz_44 rfl rfl hc34 rfl hb9 (renv_one kf34.r)) ?_
      rintro _ v5_8 ⟨hq5_8, e5_8, z5_8⟩
      replace e := e.new1 e5_8 (by omega)
      replace hb2 := e5_8.at1 hb2 (by omega)
      replace x22 := x22.new1 e5_8 (by omega)
      replace x27 := x27.new1 e5_8 (by omega)
      replace x34 := x34.new1 e5_8 (by omega)
      replace hb9 := hq5_8
      clear hq5_8
      refine runl_ev (ev_assign rfl) ?_
      refine runl_nil ?_
      refine run_seq ?_
      refine run_region rfl ?_
      refine runl_ev (ev_move rfl) ?_
      refine runl_op (t_call call_16 rfl (qdecenv_any l _ a _ c (hl0.ext RByte.stable e) hc (by omega))) ?_
      rintro _ w39 h39
      have hcnt : ∀ y, decR 6 RS.envQ isEnvP (fun x => encN 6 ++ encEnv x) l = some y → isEnvP y = true := fun y hy => by
        unfold decR at hy
        split at hy
        · rename_i hh; cases hy; simp only [Bool.and_eq_true] at hh; exact hh.2.1
        · cases hy
      generalize decR 6 RS.envQ isEnvP (fun x => encN 6 ++ encEnv x) l = dd at kf34 hcnt h39 ⊢
      obtain ⟨c39, rfl, kf39, e39⟩ := h39
      have hc39 := renv_len kf39.r
      have x39 := ExtB.refl (fun _ => False) w39
      have z39 := e39.size
      replace e := e.trans e39
      replace hb2 := e39.at hb2
      replace x22 := x22.trans e39
      replace x27 := x27.trans e39
      replace x34 := x34.trans e39
      replace hb9 := e39.at hb9
      refine runl_ev (ev_move rfl) ?_
      refine runl_ev (ev_extract rfl rfl) ?_
      refine runl_ev (ev_extract rfl rfl) ?_
      refine runl_op (t_alloc zero_44 rfl) ?_
      rintro _ w11 ⟨b11, rfl, hb11, e11, n11, l11⟩
      have z11 := e11.size
      replace e := e.trans e11
      replace hb2 := e11.at hb2
      replace x22 := x22.trans e11
      replace x27 := x27.trans e11
      replace x34 := x34.trans e11
      replace hb9 := e11.at hb9
      replace x39 := x39.trans e11
      refine runl_do (t_storeW sz_44 rfl rfl hc39 rfl hb11 (renv_one kf39.r)) ?_
      rintro _ v6_6 ⟨hq6_6, e6_6, z6_6⟩
      replace e := e.new1 e6_6 (by omega)
      replace hb2 := e6_6.at1 hb2 (by omega)
      replace x22 := x22.new1 e6_6 (by omega)
      replace x27 := x27.new1 e6_6 (by omega)
      replace x34 := x34.new1 e6_6 (by omega)
      replace hb9 := e6_6.at1 hb9 (by omega)
      replace x39 := x39.new1 e6_6 (by omega)
      replace hb11 := hq6_6
      clear hq6_6
      refine runl_ev (ev_assign rfl) ?_
      refine runl_nil ?_
      refine run_seq ?_
      have hmd : (dd.getD .zero).marks.length ≤ 1099511627776 ∧ ∀ m ∈ (dd.getD .zero).marks, m.sig.chains.length ≤ 1099511627776 ∧ m.sig.path.length ≤ 1099511627776 := by
        cases hq : dd with
        | none => exact ⟨Nat.zero_le _, fun m hm => by cases hm⟩
        | some y =>
          have hy := hcnt y hq
          unfold isEnvP at hy
          simp only [Bool.and_eq_true, decide_eq_true_eq, List.all_eq_true] at hy
          obtain ⟨q1, q2, q3⟩ := hy
          refine ⟨by show y.marks.length ≤ _; omega, fun m hm => ?_⟩
          have := q3 m hm
          unfold isSigP at this
          simp only [Bool.and_eq_true, decide_eq_true_eq] at this
          omega
      refine run_region rfl ?_
      refine runl_ev (ev_move rfl) ?_
      refine runl_ev (ev_convB (encP 6 isEnvP encEnv x) Try.underlying28 Try.underlying5 Try.underlying9 rfl (eqw (sl22.ext RByte.stable x22))) ?_
      refine runl_ev (ev_move rfl) ?_
      refine runl_ev (ev_convB (encP 6 isEnvP encEnv x) Try.underlying28 Try.underlying5 Try.underlying9 rfl (eqw (sl27.ext RByte.stable x27))) ?_
      refine runl_ev (ev_eqlS rfl rfl) ?_
      refine runl_ev (ev_move rfl) ?_
      refine runl_ev_g rfl rfl (by simp) (ev_move rfl) ?_
      refine runl_ev_g rfl rfl (by simp) (ev_move rfl) ?_
      refine runl_ev_g rfl rfl (by simp) (ev_eqlI rfl rfl) ?_
      refine runl_ev (ev_pick rfl rfl rfl (if_pos (by simp))) ?_
      refine runl_ev (ev_move rfl) ?_
      refine runl_ev_g rfl rfl (by simp) (ev_loadA agg_44 hc34 rfl (eqw (cells_all hb9))) ?_
      refine runl_ev_g rfl rfl (by simp) (ev_loadA agg_44 hc39 rfl (eqw (cells_all hb11))) ?_
      refine runl_op_g rfl rfl (by simp) (t_call call_17 rfl (qsameenv_any _ _ _ _ (REnv.stable _ _ _ _ x34 kf34.r) (REnv.stable _ _ _ _ x39 kf39.r) hmd.1 hmd.2)) ?_
      rintro _ w55 ⟨rfl, e55⟩
      have z55 := e55.size
      replace e := e.trans e55
      replace hb2 := e55.at hb2
      replace x22 := x22.trans e55
      replace x27 := x27.trans e55
      replace x34 := x34.trans e55
      replace hb9 := e55.at hb9
      replace x39 := x39.trans e55
      replace hb11 := e55.at hb11
      refine runl_ev (ev_pick rfl rfl rfl (if_pos (by simp))) ?_
      refine runl_ev (ev_move rfl) ?_
      refine runl_ev_g rfl rfl (rfl) (ev_move rfl) ?_
      refine runl_ev_g rfl rfl (rfl) (ev_move rfl) ?_
      refine runl_ev_g rfl rfl (rfl) (ev_eqlI rfl rfl) ?_
      refine runl_ev (ev_pick rfl rfl rfl (if_pos (rfl))) ?_
      refine runl_ev (ev_move rfl) ?_
      refine runl_op_g rfl rfl (by simp) (t_call call_11 rfl (known_any _)) ?_
      rintro _ w63 ⟨rfl, e63⟩
      have z63 := e63.size
      replace e := e.trans e63
      replace hb2 := e63.at hb2
      replace x22 := x22.trans e63
      replace x27 := x27.trans e63
      replace x34 := x34.trans e63
      replace hb9 := e63.at hb9
      replace x39 := x39.trans e63
      replace hb11 := e63.at hb11
      refine runl_ev (ev_pick rfl rfl rfl (if_pos (by simp))) ?_
      refine runl_ev (ev_assign rfl) ?_
      refine runl_nil ?_
      refine run_ret_any Try.func4 (res1 Try.results4 rfl) ?_
      exact ⟨rfl, e⟩
  · refine runl_ev (ev_move rfl) ?_
    refine runl_no_g rfl rfl (rfl) ?_
    refine runl_no_g rfl rfl (rfl) ?_
    refine runl_no_g rfl rfl (rfl) ?_
    refine runl_ev (ev_pick rfl rfl rfl (if_pos (rfl))) ?_
    refine runl_nil ?_
    refine run_cond_true rfl (rfl) ?_
    refine run_seq ?_
    refine run_region rfl ?_
    refine runl_ev (ev_assign rfl) ?_
    refine runl_nil ?_
    refine run_ret_any Try.func4 (res1 Try.results4 rfl) ?_
    exact ⟨rfl, e⟩
end Go.Proofs.Ytcmbiaibocdfeaa

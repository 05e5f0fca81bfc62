/- The walks of what encodes signatures, marks, envelopes. -/
import Derived.Test.YtcmbiaibocdfeaaWireE
import Derived.Test.YtcmbiaibocdfeaaWire3
import Derived.Test.YtcmbiaibocdfeaaWire4
namespace Go.Proofs.Ytcmbiaibocdfeaa
open Go Go.Fw
set_option maxRecDepth 100000

theorem kis_any (s : SigP) (cs : List Value) (w : World) (hs : RSig w s cs) : Ret Try.prog 70 [.agg ⟨cs⟩] w fun r w' => r = .bool (isSigP s) ∧ Ext w w' := by
  have e := ExtB.refl (fun _ => False) w
  obtain ⟨a, c, a2, c2, rfl, h1, h2⟩ := hs
  refine ret_of_run Try.func70 rfl Try.ntmps70 rfl ?_
  refine run_seq ?_
  refine run_region rfl ?_
  refine runl_op (t_boxA rfl) ?_
  rintro _ w1 ⟨b1, rfl, hb1, e1, n1, l1⟩
  have z1 := e1.size
  replace e := e.trans e1
  refine runl_ev (ev_assign rfl) ?_
  refine runl_nil ?_
  refine run_seq ?_
  have hcs : ¬ 0 ≤ s.leaf ∨ (0 ≤ s.leaf ∧ ¬ s.leaf < 16) ∨ (0 ≤ s.leaf ∧ s.leaf < 16 ∧ ¬ (s.chains.length : Int) = 36) ∨ (0 ≤ s.leaf ∧ s.leaf < 16 ∧ (s.chains.length : Int) = 36) := by omega
  rcases hcs with q1 | ⟨q1, q2⟩ | ⟨q1, q2, q3⟩ | ⟨q1, q2, q3⟩
  · refine run_region rfl ?_
    refine runl_ev (ev_fieldAddr fld_85_0 rfl) ?_
    refine runl_ev (ev_load1 cell_3 rfl (eqw (cell_blk hb1 rfl))) ?_
    refine runl_ev (ev_geq rfl rfl) ?_
    refine runl_ev (ev_move rfl) ?_
    refine runl_no_g rfl rfl (decide_eq_false q1) ?_
    refine runl_no_g rfl rfl (decide_eq_false q1) ?_
    refine runl_no_g rfl rfl (decide_eq_false q1) ?_
    refine runl_ev (ev_pick rfl rfl rfl (if_neg (by rw [decide_eq_false q1]; simp))) ?_
    refine runl_ev (ev_move rfl) ?_
    refine runl_no_g rfl rfl (rfl) ?_
    refine runl_no_g rfl rfl (rfl) ?_
    refine runl_no_g rfl rfl (rfl) ?_
    refine runl_no_g rfl rfl (rfl) ?_
    refine runl_ev (ev_pick rfl rfl rfl (if_neg (by simp))) ?_
    refine runl_ev (ev_move rfl) ?_
    refine runl_no_g rfl rfl (rfl) ?_
    refine runl_no_g rfl rfl (rfl) ?_
    refine runl_no_g rfl rfl (rfl) ?_
    refine runl_no_g rfl rfl (rfl) ?_
    refine runl_ev (ev_pick rfl rfl rfl (if_neg (by simp))) ?_
    refine runl_ev (ev_assign rfl) ?_
    refine runl_nil ?_
    refine run_ret_any Try.func70 (res1 Try.results70 rfl) ?_
    exact ⟨by rw [isSigP, decide_eq_false q1]; rfl, e⟩
  · refine run_region rfl ?_
    refine runl_ev (ev_fieldAddr fld_85_0 rfl) ?_
    refine runl_ev (ev_load1 cell_3 rfl (eqw (cell_blk hb1 rfl))) ?_
    refine runl_ev (ev_geq rfl rfl) ?_
    refine runl_ev (ev_move rfl) ?_
    refine runl_ev_g rfl rfl (decide_eq_true q1) (ev_fieldAddr fld_85_0 rfl) ?_
    refine runl_ev_g rfl rfl (decide_eq_true q1) (ev_load1 cell_3 rfl (eqw (cell_blk hb1 rfl))) ?_
    refine runl_ev_g rfl rfl (decide_eq_true q1) (ev_lss rfl rfl) ?_
    refine runl_ev (ev_pick rfl rfl rfl (if_pos (decide_eq_true q1))) ?_
    refine runl_ev (ev_move rfl) ?_
    refine runl_no_g rfl rfl (decide_eq_false q2) ?_
    refine runl_no_g rfl rfl (decide_eq_false q2) ?_
    refine runl_no_g rfl rfl (decide_eq_false q2) ?_
    refine runl_no_g rfl rfl (decide_eq_false q2) ?_
    refine runl_ev (ev_pick rfl rfl rfl (if_neg (by rw [decide_eq_false q2]; simp))) ?_
    refine runl_ev (ev_move rfl) ?_
    refine runl_no_g rfl rfl (rfl) ?_
    refine runl_no_g rfl rfl (rfl) ?_
    refine runl_no_g rfl rfl (rfl) ?_
    refine runl_no_g rfl rfl (rfl) ?_
    refine runl_ev (ev_pick rfl rfl rfl (if_neg (by simp))) ?_
    refine runl_ev (ev_assign rfl) ?_
    refine runl_nil ?_
    refine run_ret_any Try.func70 (res1 Try.results70 rfl) ?_
    exact ⟨by rw [isSigP, decide_eq_true q1, decide_eq_false q2]; rfl, e⟩
  · refine run_region rfl ?_
    refine runl_ev (ev_fieldAddr fld_85_0 rfl) ?_
    refine runl_ev (ev_load1 cell_3 rfl (eqw (cell_blk hb1 rfl))) ?_
    refine runl_ev (ev_geq rfl rfl) ?_
    refine runl_ev (ev_move rfl) ?_
    refine runl_ev_g rfl rfl (decide_eq_true q1) (ev_fieldAddr fld_85_0 rfl) ?_
    refine runl_ev_g rfl rfl (decide_eq_true q1) (ev_load1 cell_3 rfl (eqw (cell_blk hb1 rfl))) ?_
    refine runl_ev_g rfl rfl (decide_eq_true q1) (ev_lss rfl rfl) ?_
    refine runl_ev (ev_pick rfl rfl rfl (if_pos (decide_eq_true q1))) ?_
    refine runl_ev (ev_move rfl) ?_
    refine runl_ev_g rfl rfl (decide_eq_true q2) (ev_fieldAddr fld_85_1 rfl) ?_
    refine runl_ev_g rfl rfl (decide_eq_true q2) (ev_load1 cell_22 rfl (eqw (cell_blk hb1 rfl))) ?_
    refine runl_ev_g rfl rfl (decide_eq_true q2) (ev_lenL sl_22 rfl) ?_
    refine runl_ev_g rfl rfl (decide_eq_true q2) (ev_eqlI rfl rfl) ?_
    refine runl_ev (ev_pick rfl rfl rfl (if_pos (decide_eq_true q2))) ?_
    refine runl_ev (ev_move rfl) ?_
    refine runl_no_g rfl rfl (decide_eq_false q3) ?_
    refine runl_no_g rfl rfl (decide_eq_false q3) ?_
    refine runl_no_g rfl rfl (decide_eq_false q3) ?_
    refine runl_no_g rfl rfl (decide_eq_false q3) ?_
    refine runl_ev (ev_pick rfl rfl rfl (if_neg (by rw [decide_eq_false q3]; simp))) ?_
    refine runl_ev (ev_assign rfl) ?_
    refine runl_nil ?_
    refine run_ret_any Try.func70 (res1 Try.results70 rfl) ?_
    exact ⟨by rw [isSigP, decide_eq_true q1, decide_eq_true q2, decide_eq_false (by omega : ¬ s.chains.length = 36)]; rfl, e⟩
  · refine run_region rfl ?_
    refine runl_ev (ev_fieldAddr fld_85_0 rfl) ?_
    refine runl_ev (ev_load1 cell_3 rfl (eqw (cell_blk hb1 rfl))) ?_
    refine runl_ev (ev_geq rfl rfl) ?_
    refine runl_ev (ev_move rfl) ?_
    refine runl_ev_g rfl rfl (decide_eq_true q1) (ev_fieldAddr fld_85_0 rfl) ?_
    refine runl_ev_g rfl rfl (decide_eq_true q1) (ev_load1 cell_3 rfl (eqw (cell_blk hb1 rfl))) ?_
    refine runl_ev_g rfl rfl (decide_eq_true q1) (ev_lss rfl rfl) ?_
    refine runl_ev (ev_pick rfl rfl rfl (if_pos (decide_eq_true q1))) ?_
    refine runl_ev (ev_move rfl) ?_
    refine runl_ev_g rfl rfl (decide_eq_true q2) (ev_fieldAddr fld_85_1 rfl) ?_
    refine runl_ev_g rfl rfl (decide_eq_true q2) (ev_load1 cell_22 rfl (eqw (cell_blk hb1 rfl))) ?_
    refine runl_ev_g rfl rfl (decide_eq_true q2) (ev_lenL sl_22 rfl) ?_
    refine runl_ev_g rfl rfl (decide_eq_true q2) (ev_eqlI rfl rfl) ?_
    refine runl_ev (ev_pick rfl rfl rfl (if_pos (decide_eq_true q2))) ?_
    refine runl_ev (ev_move rfl) ?_
    refine runl_ev_g rfl rfl (decide_eq_true q3) (ev_fieldAddr fld_85_2 rfl) ?_
    refine runl_ev_g rfl rfl (decide_eq_true q3) (ev_load1 cell_22 rfl (eqw (cell_blk hb1 rfl))) ?_
    refine runl_ev_g rfl rfl (decide_eq_true q3) (ev_lenL sl_22 rfl) ?_
    refine runl_ev_g rfl rfl (decide_eq_true q3) (ev_eqlI rfl rfl) ?_
    refine runl_ev (ev_pick rfl rfl rfl (if_pos (decide_eq_true q3))) ?_
    refine runl_ev (ev_assign rfl) ?_
    refine runl_nil ?_
    refine run_ret_any Try.func70 (res1 Try.results70 rfl) ?_
    refine ⟨?_, e⟩
    rw [isSigP, decide_eq_true q1, decide_eq_true q2, decide_eq_true (by omega : s.chains.length = 36)]
    congr 1
    exact decide_eq_decide.2 (by omega)
theorem qis_any (s : SigP) (cs : List Value) (w : World) (hs : RSig w s cs) : Ret Try.prog 73 [.agg ⟨cs⟩] w fun r w' => r = .bool (isSigP s) ∧ Ext w w' := by
  have e := ExtB.refl (fun _ => False) w
  obtain ⟨a, c, a2, c2, rfl, h1, h2⟩ := hs
  refine ret_of_run Try.func73 rfl Try.ntmps73 rfl ?_
  refine run_seq ?_
  refine run_region rfl ?_
  refine runl_op (t_boxA rfl) ?_
  rintro _ w1 ⟨b1, rfl, hb1, e1, n1, l1⟩
  have z1 := e1.size
  replace e := e.trans e1
  refine runl_ev (ev_assign rfl) ?_
  refine runl_nil ?_
  refine run_seq ?_
  have hcs : ¬ 0 ≤ s.leaf ∨ (0 ≤ s.leaf ∧ ¬ s.leaf < 16) ∨ (0 ≤ s.leaf ∧ s.leaf < 16 ∧ ¬ (s.chains.length : Int) = 36) ∨ (0 ≤ s.leaf ∧ s.leaf < 16 ∧ (s.chains.length : Int) = 36) := by omega
  rcases hcs with q1 | ⟨q1, q2⟩ | ⟨q1, q2, q3⟩ | ⟨q1, q2, q3⟩
  · refine run_region rfl ?_
    refine runl_ev (ev_fieldAddr fld_85_0 rfl) ?_
    refine runl_ev (ev_load1 cell_3 rfl (eqw (cell_blk hb1 rfl))) ?_
    refine runl_ev (ev_geq rfl rfl) ?_
    refine runl_ev (ev_move rfl) ?_
    refine runl_no_g rfl rfl (decide_eq_false q1) ?_
    refine runl_no_g rfl rfl (decide_eq_false q1) ?_
    refine runl_no_g rfl rfl (decide_eq_false q1) ?_
    refine runl_ev (ev_pick rfl rfl rfl (if_neg (by rw [decide_eq_false q1]; simp))) ?_
    refine runl_ev (ev_move rfl) ?_
    refine runl_no_g rfl rfl (rfl) ?_
    refine runl_no_g rfl rfl (rfl) ?_
    refine runl_no_g rfl rfl (rfl) ?_
    refine runl_no_g rfl rfl (rfl) ?_
    refine runl_ev (ev_pick rfl rfl rfl (if_neg (by simp))) ?_
    refine runl_ev (ev_move rfl) ?_
    refine runl_no_g rfl rfl (rfl) ?_
    refine runl_no_g rfl rfl (rfl) ?_
    refine runl_no_g rfl rfl (rfl) ?_
    refine runl_no_g rfl rfl (rfl) ?_
    refine runl_ev (ev_pick rfl rfl rfl (if_neg (by simp))) ?_
    refine runl_ev (ev_assign rfl) ?_
    refine runl_nil ?_
    refine run_ret_any Try.func73 (res1 Try.results73 rfl) ?_
    exact ⟨by rw [isSigP, decide_eq_false q1]; rfl, e⟩
  · refine run_region rfl ?_
    refine runl_ev (ev_fieldAddr fld_85_0 rfl) ?_
    refine runl_ev (ev_load1 cell_3 rfl (eqw (cell_blk hb1 rfl))) ?_
    refine runl_ev (ev_geq rfl rfl) ?_
    refine runl_ev (ev_move rfl) ?_
    refine runl_ev_g rfl rfl (decide_eq_true q1) (ev_fieldAddr fld_85_0 rfl) ?_
    refine runl_ev_g rfl rfl (decide_eq_true q1) (ev_load1 cell_3 rfl (eqw (cell_blk hb1 rfl))) ?_
    refine runl_ev_g rfl rfl (decide_eq_true q1) (ev_lss rfl rfl) ?_
    refine runl_ev (ev_pick rfl rfl rfl (if_pos (decide_eq_true q1))) ?_
    refine runl_ev (ev_move rfl) ?_
    refine runl_no_g rfl rfl (decide_eq_false q2) ?_
    refine runl_no_g rfl rfl (decide_eq_false q2) ?_
    refine runl_no_g rfl rfl (decide_eq_false q2) ?_
    refine runl_no_g rfl rfl (decide_eq_false q2) ?_
    refine runl_ev (ev_pick rfl rfl rfl (if_neg (by rw [decide_eq_false q2]; simp))) ?_
    refine runl_ev (ev_move rfl) ?_
    refine runl_no_g rfl rfl (rfl) ?_
    refine runl_no_g rfl rfl (rfl) ?_
    refine runl_no_g rfl rfl (rfl) ?_
    refine runl_no_g rfl rfl (rfl) ?_
    refine runl_ev (ev_pick rfl rfl rfl (if_neg (by simp))) ?_
    refine runl_ev (ev_assign rfl) ?_
    refine runl_nil ?_
    refine run_ret_any Try.func73 (res1 Try.results73 rfl) ?_
    exact ⟨by rw [isSigP, decide_eq_true q1, decide_eq_false q2]; rfl, e⟩
  · refine run_region rfl ?_
    refine runl_ev (ev_fieldAddr fld_85_0 rfl) ?_
    refine runl_ev (ev_load1 cell_3 rfl (eqw (cell_blk hb1 rfl))) ?_
    refine runl_ev (ev_geq rfl rfl) ?_
    refine runl_ev (ev_move rfl) ?_
    refine runl_ev_g rfl rfl (decide_eq_true q1) (ev_fieldAddr fld_85_0 rfl) ?_
    refine runl_ev_g rfl rfl (decide_eq_true q1) (ev_load1 cell_3 rfl (eqw (cell_blk hb1 rfl))) ?_
    refine runl_ev_g rfl rfl (decide_eq_true q1) (ev_lss rfl rfl) ?_
    refine runl_ev (ev_pick rfl rfl rfl (if_pos (decide_eq_true q1))) ?_
    refine runl_ev (ev_move rfl) ?_
    refine runl_ev_g rfl rfl (decide_eq_true q2) (ev_fieldAddr fld_85_1 rfl) ?_
    refine runl_ev_g rfl rfl (decide_eq_true q2) (ev_load1 cell_22 rfl (eqw (cell_blk hb1 rfl))) ?_
    refine runl_ev_g rfl rfl (decide_eq_true q2) (ev_lenL sl_22 rfl) ?_
    refine runl_ev_g rfl rfl (decide_eq_true q2) (ev_eqlI rfl rfl) ?_
    refine runl_ev (ev_pick rfl rfl rfl (if_pos (decide_eq_true q2))) ?_
    refine runl_ev (ev_move rfl) ?_
    refine runl_no_g rfl rfl (decide_eq_false q3) ?_
    refine runl_no_g rfl rfl (decide_eq_false q3) ?_
    refine runl_no_g rfl rfl (decide_eq_false q3) ?_
    refine runl_no_g rfl rfl (decide_eq_false q3) ?_
    refine runl_ev (ev_pick rfl rfl rfl (if_neg (by rw [decide_eq_false q3]; simp))) ?_
    refine runl_ev (ev_assign rfl) ?_
    refine runl_nil ?_
    refine run_ret_any Try.func73 (res1 Try.results73 rfl) ?_
    exact ⟨by rw [isSigP, decide_eq_true q1, decide_eq_true q2, decide_eq_false (by omega : ¬ s.chains.length = 36)]; rfl, e⟩
  · refine run_region rfl ?_
    refine runl_ev (ev_fieldAddr fld_85_0 rfl) ?_
    refine runl_ev (ev_load1 cell_3 rfl (eqw (cell_blk hb1 rfl))) ?_
    refine runl_ev (ev_geq rfl rfl) ?_
    refine runl_ev (ev_move rfl) ?_
    refine runl_ev_g rfl rfl (decide_eq_true q1) (ev_fieldAddr fld_85_0 rfl) ?_
    refine runl_ev_g rfl rfl (decide_eq_true q1) (ev_load1 cell_3 rfl (eqw (cell_blk hb1 rfl))) ?_
    refine runl_ev_g rfl rfl (decide_eq_true q1) (ev_lss rfl rfl) ?_
    refine runl_ev (ev_pick rfl rfl rfl (if_pos (decide_eq_true q1))) ?_
    refine runl_ev (ev_move rfl) ?_
    refine runl_ev_g rfl rfl (decide_eq_true q2) (ev_fieldAddr fld_85_1 rfl) ?_
    refine runl_ev_g rfl rfl (decide_eq_true q2) (ev_load1 cell_22 rfl (eqw (cell_blk hb1 rfl))) ?_
    refine runl_ev_g rfl rfl (decide_eq_true q2) (ev_lenL sl_22 rfl) ?_
    refine runl_ev_g rfl rfl (decide_eq_true q2) (ev_eqlI rfl rfl) ?_
    refine runl_ev (ev_pick rfl rfl rfl (if_pos (decide_eq_true q2))) ?_
    refine runl_ev (ev_move rfl) ?_
    refine runl_ev_g rfl rfl (decide_eq_true q3) (ev_fieldAddr fld_85_2 rfl) ?_
    refine runl_ev_g rfl rfl (decide_eq_true q3) (ev_load1 cell_22 rfl (eqw (cell_blk hb1 rfl))) ?_
    refine runl_ev_g rfl rfl (decide_eq_true q3) (ev_lenL sl_22 rfl) ?_
    refine runl_ev_g rfl rfl (decide_eq_true q3) (ev_eqlI rfl rfl) ?_
    refine runl_ev (ev_pick rfl rfl rfl (if_pos (decide_eq_true q3))) ?_
    refine runl_ev (ev_assign rfl) ?_
    refine runl_nil ?_
    refine run_ret_any Try.func73 (res1 Try.results73 rfl) ?_
    refine ⟨?_, e⟩
    rw [isSigP, decide_eq_true q1, decide_eq_true q2, decide_eq_true (by omega : s.chains.length = 36)]
    congr 1
    exact decide_eq_decide.2 (by omega)
theorem isenv1_any (m : MarkP) (cs : List Value) (w : World) (hm : RMark w m cs) : Ret Try.prog 69 [.agg ⟨cs⟩] w fun r w' => r = .bool (!isSigP m.sig) ∧ Ext w w' := by
  have e := ExtB.refl (fun _ => False) w
  have hml := rmark_len _ _ _ hm
  obtain ⟨sc, rfl, hk, hs⟩ := hm
  refine ret_of_run Try.func69 rfl Try.ntmps69 rfl ?_
  refine run_seq ?_
  refine run_region rfl ?_
  refine runl_op (t_boxA rfl) ?_
  rintro _ w1 ⟨b1, rfl, hb1, e1, n1, l1⟩
  have z1 := e1.size
  replace e := e.trans e1
  refine runl_ev (ev_assign rfl) ?_
  refine runl_nil ?_
  refine run_seq ?_
  refine run_region rfl ?_
  refine runl_ev (ev_fieldAddr fld_87_1 rfl) ?_
  refine runl_ev (ev_loadA agg_85 (rsig_len _ _ _ hs) rfl (eqw ((cells_all hb1).seg sc 32 rfl (rmark_seg hk)))) ?_
  refine runl_op (t_call call_70 rfl (kis_any m.sig sc _ (RSig.stable _ _ _ _ e hs))) ?_
  rintro _ w5 ⟨rfl, e5⟩
  have z5 := e5.size
  replace e := e.trans e5
  replace hb1 := e5.at hb1
  refine runl_ev (ev_not rfl) ?_
  refine runl_ev (ev_assign rfl) ?_
  refine runl_nil ?_
  refine run_ret_any Try.func69 (res1 Try.results69 rfl) ?_
  exact ⟨rfl, e⟩
theorem idxM_any (l : List MarkP) (w : World) (a : Option Addr) (n c : Nat) (hl : SlAt 35 RMark w (.slice a n c) l) (hn : l.length ≤ 2199023255552) :
    Ret Try.prog 83 [.slice a n c, .func (.func 69) #[] #[]] w fun r w' => r = .int .i64 (idxOf (fun m => !isSigP m.sig) l) ∧ Ext w w' := by
  have e := ExtB.refl (fun _ => False) w
  obtain ⟨rfl, hat⟩ := hl.at
  refine ret_of_run Try.func83 rfl Try.ntmps83 rfl ?_
  refine run_seq ?_
  refine run_region rfl ?_
  refine runl_ev (ev_assign rfl) ?_
  refine runl_nil ?_
  refine run_seq ?_
  refine run_seq ?_
  refine run_region rfl ?_
  refine runl_ev (ev_move rfl) ?_
  refine runl_ev (ev_lenL sl_42 rfl) ?_
  refine runl_ev (ev_move rfl) ?_
  refine runl_nil ?_
  refine run_block ?_
  refine run_loop (ι := Nat) (fun k => [(0, .slice a l.length c), (1, .func (.func 69) #[] #[]), (7, .int .i64 (l.length : Int)), (8, .int .i64 (k : Int))]) (fun k w' => k ≤ l.length ∧ (∀ j x, j < k → l[j]? = some x → (!isSigP x.sig) = false) ∧ Ext w w') (fun k => l.length - k) (0) ⟨rfl, rfl, rfl, rfl, trivial⟩ (⟨Nat.zero_le _, fun j _ hj => by omega, e⟩) ?_
  clear e
  intro k w1 ⟨hk, hno, e⟩ IH
  refine run_seq ?_
  refine run_region rfl ?_
  refine runl_ev (ev_lss rfl rfl) ?_
  refine runl_nil ?_
  refine run_seq ?_
  refine run_dcond rfl (fun h0 => ?_) (fun h0 => ?_)
  · have hk1 : k < l.length := by omega
    obtain ⟨b1, o1, cs1, rfl, hr1, hc1⟩ := hat k hk1
    refine run_skip ?_
    refine run_seq ?_
    refine run_block ?_
    refine run_seq ?_
    refine run_region rfl ?_
    refine runl_ev (ev_move rfl) ?_
    refine runl_ev (ev_assign rfl) ?_
    refine runl_nil ?_
    refine run_seq ?_
    refine run_region rfl ?_
    refine runl_ev (ev_move rfl) ?_
    refine runl_ev (ev_move rfl) ?_
    refine runl_ev (ev_move rfl) ?_
    refine runl_ev (ev_indexAddr el_42 rfl rfl (by omega)) ?_
    refine runl_ev (ev_loadA agg_87 (rmark_len _ _ _ hr1) rfl (eqw (hc1.ext e))) ?_
    refine runl_op (t_callv call_69 rfl rfl (isenv1_any l[k] cs1 _ (RMark.stable _ _ _ _ e hr1))) ?_
    rintro _ w16 ⟨rfl, e16⟩
    have z16 := e16.size
    replace e := e.trans e16
    refine runl_nil ?_
    refine run_cond_split rfl (fun h1 => ?_) (fun h1 => ?_)
    · refine run_seq ?_
      refine run_region rfl ?_
      refine runl_ev (ev_move rfl) ?_
      refine runl_ev (ev_assign rfl) ?_
      refine runl_nil ?_
      refine run_ret_any Try.func83 (res1 Try.results83 rfl) ?_
      exact ⟨by rw [idxOf_hit (p := fun m => !isSigP m.sig) hk1 hno h1], e⟩
    · refine run_skip ?_
      refine run_inBlock ?_
      refine run_region rfl ?_
      refine runl_ev (ev_add rfl rfl (by omega) (by omega)) ?_
      refine runl_ev (ev_move rfl) ?_
      refine runl_nil ?_
      exact IH (k + 1) _ _ (by omega) ⟨rfl, rfl, rfl, rfl, trivial⟩ ⟨by omega, idxOf_snoc (p := fun m => !isSigP m.sig) hk1 hno h1, e⟩
  · obtain rfl : k = l.length := by omega
    refine run_exit rfl ?_
    refine run_seq ?_
    refine run_region rfl ?_
    refine runl_ev (ev_assign rfl) ?_
    refine runl_nil ?_
    refine run_ret_any Try.func83 (res1 Try.results83 rfl) ?_
    exact ⟨by rw [idxOf_none (p := fun m => !isSigP m.sig) (fun j x hj hx => hno j x hj hx)], e⟩
theorem hasM_any (l : List MarkP) (w : World) (a : Option Addr) (n c : Nat) (hl : SlAt 35 RMark w (.slice a n c) l) (hn : l.length ≤ 2199023255552) :
    Ret Try.prog 68 [.slice a n c, .func (.func 69) #[] #[]] w fun r w' => r = .bool (!(l.all fun m => isSigP m.sig)) ∧ Ext w w' := by
  have e := ExtB.refl (fun _ => False) w
  refine ret_of_run Try.func68 rfl Try.ntmps68 rfl ?_
  refine run_seq ?_
  refine run_region rfl ?_
  refine runl_ev (ev_assign rfl) ?_
  refine runl_nil ?_
  refine run_seq ?_
  refine run_region rfl ?_
  refine runl_ev (ev_move rfl) ?_
  refine runl_ev (ev_move rfl) ?_
  refine runl_op (t_call call_83 rfl (idxM_any l _ _ _ _ (hl.ext RMark.stable e) hn)) ?_
  rintro _ w7 ⟨rfl, e7⟩
  have z7 := e7.size
  replace e := e.trans e7
  refine runl_ev (ev_geq rfl rfl) ?_
  refine runl_ev (ev_assign rfl) ?_
  refine runl_nil ?_
  refine run_ret_any Try.func68 (res1 Try.results68 rfl) ?_
  exact ⟨congrArg Value.bool (idx_all (p := fun m : MarkP => isSigP m.sig)), e⟩
theorem isenv_any (x : EnvP) (cs : List Value) (w : World) (hx : REnv w x cs) (hn : x.marks.length ≤ 2199023255552) : Ret Try.prog 34 [.agg ⟨cs⟩] w fun r w' => r = .bool (isEnvP x) ∧ Ext w w' := by
  have e := ExtB.refl (fun _ => False) w
  obtain ⟨a, c, a2, c2, rfl, hb, hm⟩ := hx
  refine ret_of_run Try.func34 rfl Try.ntmps34 rfl ?_
  refine run_seq ?_
  refine run_region rfl ?_
  refine runl_op (t_boxA rfl) ?_
  rintro _ w1 ⟨b1, rfl, hb1, e1, n1, l1⟩
  have z1 := e1.size
  replace e := e.trans e1
  refine runl_ev (ev_assign rfl) ?_
  refine runl_nil ?_
  refine run_seq ?_
  have hcs : ¬ (x.body.length : Int) ≤ 8192 ∨ ((x.body.length : Int) ≤ 8192 ∧ ¬ (x.marks.length : Int) ≤ 4) ∨ ((x.body.length : Int) ≤ 8192 ∧ (x.marks.length : Int) ≤ 4) := by omega
  rcases hcs with q1 | ⟨q1, q2⟩ | ⟨q1, q2⟩
  · refine run_region rfl ?_
    refine runl_ev (ev_fieldAddr fld_44_0 rfl) ?_
    refine runl_ev (ev_load1 cell_28 rfl (eqw (cell_blk hb1 rfl))) ?_
    refine runl_ev (ev_lenL sl_28 rfl) ?_
    refine runl_ev (ev_leq rfl rfl) ?_
    refine runl_ev (ev_move rfl) ?_
    refine runl_no_g rfl rfl (decide_eq_false q1) ?_
    refine runl_no_g rfl rfl (decide_eq_false q1) ?_
    refine runl_no_g rfl rfl (decide_eq_false q1) ?_
    refine runl_no_g rfl rfl (decide_eq_false q1) ?_
    refine runl_ev (ev_pick rfl rfl rfl (if_neg (by rw [decide_eq_false q1]; simp))) ?_
    refine runl_ev (ev_move rfl) ?_
    refine runl_no_g rfl rfl (rfl) ?_
    refine runl_no_g rfl rfl (rfl) ?_
    refine runl_no_g rfl rfl (rfl) ?_
    refine runl_no_g rfl rfl (rfl) ?_
    refine runl_ev (ev_pick rfl rfl rfl (if_neg (by simp))) ?_
    refine runl_ev (ev_assign rfl) ?_
    refine runl_nil ?_
    refine run_ret_any Try.func34 (res1 Try.results34 rfl) ?_
    exact ⟨by rw [isEnvP, decide_eq_false (by omega : ¬ x.body.length ≤ 8192)]; rfl, e⟩
  · refine run_region rfl ?_
    refine runl_ev (ev_fieldAddr fld_44_0 rfl) ?_
    refine runl_ev (ev_load1 cell_28 rfl (eqw (cell_blk hb1 rfl))) ?_
    refine runl_ev (ev_lenL sl_28 rfl) ?_
    refine runl_ev (ev_leq rfl rfl) ?_
    refine runl_ev (ev_move rfl) ?_
    refine runl_ev_g rfl rfl (decide_eq_true q1) (ev_fieldAddr fld_44_1 rfl) ?_
    refine runl_ev_g rfl rfl (decide_eq_true q1) (ev_load1 cell_42 rfl (eqw (cell_blk hb1 rfl))) ?_
    refine runl_ev_g rfl rfl (decide_eq_true q1) (ev_lenL sl_42 rfl) ?_
    refine runl_ev_g rfl rfl (decide_eq_true q1) (ev_leq rfl rfl) ?_
    refine runl_ev (ev_pick rfl rfl rfl (if_pos (decide_eq_true q1))) ?_
    refine runl_ev (ev_move rfl) ?_
    refine runl_no_g rfl rfl (decide_eq_false q2) ?_
    refine runl_no_g rfl rfl (decide_eq_false q2) ?_
    refine runl_no_g rfl rfl (decide_eq_false q2) ?_
    refine runl_no_g rfl rfl (decide_eq_false q2) ?_
    refine runl_ev (ev_pick rfl rfl rfl (if_neg (by rw [decide_eq_false q2]; simp))) ?_
    refine runl_ev (ev_assign rfl) ?_
    refine runl_nil ?_
    refine run_ret_any Try.func34 (res1 Try.results34 rfl) ?_
    exact ⟨by rw [isEnvP, decide_eq_true (by omega : x.body.length ≤ 8192), decide_eq_false (by omega : ¬ x.marks.length ≤ 4)]; rfl, e⟩
  · refine run_region rfl ?_
    refine runl_ev (ev_fieldAddr fld_44_0 rfl) ?_
    refine runl_ev (ev_load1 cell_28 rfl (eqw (cell_blk hb1 rfl))) ?_
    refine runl_ev (ev_lenL sl_28 rfl) ?_
    refine runl_ev (ev_leq rfl rfl) ?_
    refine runl_ev (ev_move rfl) ?_
    refine runl_ev_g rfl rfl (decide_eq_true q1) (ev_fieldAddr fld_44_1 rfl) ?_
    refine runl_ev_g rfl rfl (decide_eq_true q1) (ev_load1 cell_42 rfl (eqw (cell_blk hb1 rfl))) ?_
    refine runl_ev_g rfl rfl (decide_eq_true q1) (ev_lenL sl_42 rfl) ?_
    refine runl_ev_g rfl rfl (decide_eq_true q1) (ev_leq rfl rfl) ?_
    refine runl_ev (ev_pick rfl rfl rfl (if_pos (decide_eq_true q1))) ?_
    refine runl_ev (ev_move rfl) ?_
    refine runl_ev_g rfl rfl (decide_eq_true q2) (ev_fieldAddr fld_44_1 rfl) ?_
    refine runl_ev_g rfl rfl (decide_eq_true q2) (ev_load1 cell_42 rfl (eqw (cell_blk hb1 rfl))) ?_
    refine runl_op_g rfl rfl (decide_eq_true q2) (t_call call_68 rfl (hasM_any x.marks _ _ _ _ (hm.ext RMark.stable e) hn)) ?_
    rintro _ w16 ⟨rfl, e16⟩
    have z16 := e16.size
    replace e := e.trans e16
    replace hb1 := e16.at hb1
    refine runl_ev_g rfl rfl (decide_eq_true q2) (ev_not rfl) ?_
    refine runl_ev (ev_pick rfl rfl rfl (if_pos (decide_eq_true q2))) ?_
    refine runl_ev (ev_assign rfl) ?_
    refine runl_nil ?_
    refine run_ret_any Try.func34 (res1 Try.results34 rfl) ?_
    exact ⟨by rw [isEnvP, decide_eq_true (by omega : x.body.length ≤ 8192), decide_eq_true (by omega : x.marks.length ≤ 4), Bool.not_not]; rfl, e⟩
theorem grow_any (n : Nat) (w : World) (hn : n ≤ 1000000) : Ret Try.prog 88 [.slice none 0 0, .int .i64 (n : Int)] w (OwnL 81 32 RHash w []) := by
  have e := ExtB.refl (fun _ => False) w
  refine ret_of_run Try.func88 rfl Try.ntmps88 rfl ?_
  refine run_seq ?_
  refine run_region rfl ?_
  refine runl_ev (ev_assign rfl) ?_
  refine runl_nil ?_
  refine run_seq ?_
  refine run_seq ?_
  refine run_region rfl ?_
  refine runl_ev (ev_move rfl) ?_
  refine runl_ev (ev_lss rfl rfl) ?_
  refine runl_nil ?_
  refine run_cond_false rfl (decide_eq_false (by omega)) ?_
  refine run_skip ?_
  refine run_seq ?_
  refine run_seq ?_
  refine run_region rfl ?_
  refine runl_ev (ev_move rfl) ?_
  refine runl_ev (ev_move rfl) ?_
  refine runl_ev (ev_capL sl_22 rfl) ?_
  refine runl_ev (ev_move rfl) ?_
  refine runl_ev (ev_lenL sl_22 rfl) ?_
  refine runl_ev (ev_sub rfl rfl (by omega) (by omega)) ?_
  refine runl_ev (ev_sub rfl rfl (by omega) (by omega)) ?_
  refine runl_ev (ev_assign rfl) ?_
  refine runl_nil ?_
  refine run_seq ?_
  refine run_region rfl ?_
  refine runl_ev (ev_move rfl) ?_
  refine runl_ev (ev_gtr rfl rfl) ?_
  refine runl_nil ?_
  refine run_dcond rfl (fun h1 => ?_) (fun h1 => ?_)
  · refine run_region rfl ?_
    refine runl_ev (ev_move rfl) ?_
    refine runl_ev (ev_move rfl) ?_
    refine runl_ev (ev_capL sl_22 rfl) ?_
    refine runl_ev (ev_sliceL_hi (n := 0) el_22 rfl rfl (by omega)) ?_
    refine runl_ev (ev_move rfl) ?_
    refine runl_op (t_appendZ (n := n) ef_22 Try.underlying3 rfl (by show some (Value.int .i64 ((n : Int) - (0 - 0))) = _; rw [show (n : Int) - (0 - 0) = (n : Int) by omega]) (by omega) (by unfold maxLen; omega) (by omega)) ?_
    rintro _ w22 ⟨b22, cap22, c22, rfl, hb22, hge22, hle22, hcl22, e22, n22, l22⟩
    have z22 := e22.size
    replace e := e.trans e22
    refine runl_ev (ev_move rfl) ?_
    refine runl_ev (ev_lenL sl_22 rfl) ?_
    refine runl_ev (ev_sliceL_hi (n := 0) el_22 rfl rfl (by omega)) ?_
    refine runl_ev (ev_assign rfl) ?_
    refine runl_nil ?_
    refine run_seq ?_
    refine run_region rfl ?_
    refine runl_ev (ev_move rfl) ?_
    refine runl_ev (ev_assign rfl) ?_
    refine runl_nil ?_
    refine run_ret_any Try.func88 (res1 Try.results88 rfl) ?_
    refine ⟨[], b22, ?_, trivial, e, .inr (by omega), by omega⟩
    rw [if_neg (by omega)]
    exact own_blk hb22 (Nat.zero_le _) hle22 hcl22 (by simp)
  · refine run_skip ?_
    refine run_seq ?_
    refine run_region rfl ?_
    refine runl_ev (ev_move rfl) ?_
    refine runl_ev (ev_assign rfl) ?_
    refine runl_nil ?_
    refine run_ret_any Try.func88 (res1 Try.results88 rfl) ?_
    exact OwnL.nil _ _ e
end Go.Proofs.Ytcmbiaibocdfeaa

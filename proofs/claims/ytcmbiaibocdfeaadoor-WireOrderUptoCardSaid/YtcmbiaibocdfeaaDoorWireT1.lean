/- The walks of what encodes targets. -/
import Derived.Test.YtcmbiaibocdfeaaDoorWireT
import Derived.Test.YtcmbiaibocdfeaaDoorWireS3
namespace Go.Proofs.YtcmbiaibocdfeaaDoor
open Go Go.Fw
set_option maxRecDepth 100000

theorem istarget_any (t : Tgt) (ht : t.wf) (w : World) : Ret Tryd.prog 68 [.agg ⟨t.cells⟩] w fun r w' => r = .bool (isTgtB t) ∧ Ext w w' := by
  have e := ExtB.refl (fun _ => False) w
  refine ret_of_run Tryd.func68 rfl Tryd.ntmps68 rfl ?_
  refine run_seq ?_
  refine run_region rfl ?_
  refine runl_op (t_boxA rfl) ?_
  rintro _ w1 ⟨b1, rfl, hb1, e1, n1, l1⟩
  have z1 := e1.size
  replace e := e.trans e1
  refine runl_ev (ev_assign rfl) ?_
  refine runl_nil ?_
  refine run_seq ?_
  have hcs : nameB t.name = false ∨ (nameB t.name = true ∧ ¬ 0 ≤ t.size) ∨ (nameB t.name = true ∧ 0 ≤ t.size ∧ ¬ t.size ≤ 512) ∨ (nameB t.name = true ∧ 0 ≤ t.size ∧ t.size ≤ 512 ∧ nameB t.hw = false) ∨ (nameB t.name = true ∧ 0 ≤ t.size ∧ t.size ≤ 512 ∧ nameB t.hw = true ∧ numB t.ctr = false) ∨ (nameB t.name = true ∧ 0 ≤ t.size ∧ t.size ≤ 512 ∧ nameB t.hw = true ∧ numB t.ctr = true ∧ t.ecu = ⟨#[]⟩) ∨ (nameB t.name = true ∧ 0 ≤ t.size ∧ t.size ≤ 512 ∧ nameB t.hw = true ∧ numB t.ctr = true ∧ ¬ t.ecu = ⟨#[]⟩) := by
    by_cases h6 : t.ecu = ⟨#[]⟩ <;> by_cases h2 : 0 ≤ t.size <;> by_cases h3 : t.size ≤ 512 <;> cases nameB t.name <;> cases nameB t.hw <;> cases numB t.ctr <;> simp [h2, h3, h6]
  rcases hcs with q1 | ⟨q1, q2⟩ | ⟨q1, q2, q3⟩ | ⟨q1, q2, q3, q4⟩ | ⟨q1, q2, q3, q4, q5⟩ | ⟨q1, q2, q3, q4, q5, q6⟩ | ⟨q1, q2, q3, q4, q5, q6⟩
  · refine run_region rfl ?_
    refine runl_ev (ev_fieldAddr fld_48_0 rfl) ?_
    refine runl_ev (ev_load1 cell_9 rfl (eqw (cell_blk hb1 rfl))) ?_
    refine runl_op (t_call call_7 rfl (name_any _ _)) ?_
    rintro _ w5 ⟨rfl, e5⟩
    have z5 := e5.size
    replace e := e.trans e5
    replace hb1 := e5.at hb1
    refine runl_ev (ev_move rfl) ?_
    refine runl_no_g rfl rfl (q1) ?_
    refine runl_no_g rfl rfl (q1) ?_
    refine runl_no_g rfl rfl (q1) ?_
    refine runl_ev (ev_pick rfl rfl rfl (if_neg (by rw [q1]; simp))) ?_
    refine runl_ev (ev_move rfl) ?_
    refine runl_no_g rfl rfl (rfl) ?_
    refine runl_no_g rfl rfl (rfl) ?_
    refine runl_no_g rfl rfl (rfl) ?_
    refine runl_ev (ev_pick rfl rfl rfl (if_neg (by simp))) ?_
    refine runl_ev (ev_move rfl) ?_
    refine runl_no_g rfl rfl (rfl) ?_
    refine runl_no_g rfl rfl (rfl) ?_
    refine runl_no_g rfl rfl (rfl) ?_
    refine runl_ev (ev_pick rfl rfl rfl (if_neg (by simp))) ?_
    refine runl_ev (ev_move rfl) ?_
    refine runl_no_g rfl rfl (rfl) ?_
    refine runl_no_g rfl rfl (rfl) ?_
    refine runl_no_g rfl rfl (rfl) ?_
    refine runl_ev (ev_pick rfl rfl rfl (if_neg (by simp))) ?_
    refine runl_ev (ev_move rfl) ?_
    refine runl_no_g rfl rfl (rfl) ?_
    refine runl_no_g rfl rfl (rfl) ?_
    refine runl_no_g rfl rfl (rfl) ?_
    refine runl_no_g rfl rfl (rfl) ?_
    refine runl_no_u rfl rfl ?_
    refine runl_no_u rfl rfl ?_
    refine runl_no_u rfl rfl ?_
    refine runl_no_g rfl rfl (rfl) ?_
    refine runl_ev (ev_pick rfl rfl rfl (if_neg (by simp))) ?_
    refine runl_ev (ev_assign rfl) ?_
    refine runl_nil ?_
    refine run_ret_any Tryd.func68 (res1 Tryd.results68 rfl) ?_
    exact ⟨by rw [isTgtB, q1] <;> rfl, e⟩
  · refine run_region rfl ?_
    refine runl_ev (ev_fieldAddr fld_48_0 rfl) ?_
    refine runl_ev (ev_load1 cell_9 rfl (eqw (cell_blk hb1 rfl))) ?_
    refine runl_op (t_call call_7 rfl (name_any _ _)) ?_
    rintro _ w5 ⟨rfl, e5⟩
    have z5 := e5.size
    replace e := e.trans e5
    replace hb1 := e5.at hb1
    refine runl_ev (ev_move rfl) ?_
    refine runl_ev_g rfl rfl (q1) (ev_fieldAddr fld_48_1 rfl) ?_
    refine runl_ev_g rfl rfl (q1) (ev_load1 cell_3 rfl (eqw ((cells_all hb1).pick 1 rfl (Tgt.c1 t)))) ?_
    refine runl_ev_g rfl rfl (q1) (ev_geq rfl rfl) ?_
    refine runl_ev (ev_pick rfl rfl rfl (if_pos (q1))) ?_
    refine runl_ev (ev_move rfl) ?_
    refine runl_no_g rfl rfl (decide_eq_false q2) ?_
    refine runl_no_g rfl rfl (decide_eq_false q2) ?_
    refine runl_no_g rfl rfl (decide_eq_false q2) ?_
    refine runl_ev (ev_pick rfl rfl rfl (if_neg (by rw [decide_eq_false q2]; simp))) ?_
    refine runl_ev (ev_move rfl) ?_
    refine runl_no_g rfl rfl (rfl) ?_
    refine runl_no_g rfl rfl (rfl) ?_
    refine runl_no_g rfl rfl (rfl) ?_
    refine runl_ev (ev_pick rfl rfl rfl (if_neg (by simp))) ?_
    refine runl_ev (ev_move rfl) ?_
    refine runl_no_g rfl rfl (rfl) ?_
    refine runl_no_g rfl rfl (rfl) ?_
    refine runl_no_g rfl rfl (rfl) ?_
    refine runl_ev (ev_pick rfl rfl rfl (if_neg (by simp))) ?_
    refine runl_ev (ev_move rfl) ?_
    refine runl_no_g rfl rfl (rfl) ?_
    refine runl_no_g rfl rfl (rfl) ?_
    refine runl_no_g rfl rfl (rfl) ?_
    refine runl_no_g rfl rfl (rfl) ?_
    refine runl_no_u rfl rfl ?_
    refine runl_no_u rfl rfl ?_
    refine runl_no_u rfl rfl ?_
    refine runl_no_g rfl rfl (rfl) ?_
    refine runl_ev (ev_pick rfl rfl rfl (if_neg (by simp))) ?_
    refine runl_ev (ev_assign rfl) ?_
    refine runl_nil ?_
    refine run_ret_any Tryd.func68 (res1 Tryd.results68 rfl) ?_
    exact ⟨by rw [isTgtB, q1, decide_eq_false q2] <;> rfl, e⟩
  · refine run_region rfl ?_
    refine runl_ev (ev_fieldAddr fld_48_0 rfl) ?_
    refine runl_ev (ev_load1 cell_9 rfl (eqw (cell_blk hb1 rfl))) ?_
    refine runl_op (t_call call_7 rfl (name_any _ _)) ?_
    rintro _ w5 ⟨rfl, e5⟩
    have z5 := e5.size
    replace e := e.trans e5
    replace hb1 := e5.at hb1
    refine runl_ev (ev_move rfl) ?_
    refine runl_ev_g rfl rfl (q1) (ev_fieldAddr fld_48_1 rfl) ?_
    refine runl_ev_g rfl rfl (q1) (ev_load1 cell_3 rfl (eqw ((cells_all hb1).pick 1 rfl (Tgt.c1 t)))) ?_
    refine runl_ev_g rfl rfl (q1) (ev_geq rfl rfl) ?_
    refine runl_ev (ev_pick rfl rfl rfl (if_pos (q1))) ?_
    refine runl_ev (ev_move rfl) ?_
    refine runl_ev_g rfl rfl (decide_eq_true q2) (ev_fieldAddr fld_48_1 rfl) ?_
    refine runl_ev_g rfl rfl (decide_eq_true q2) (ev_load1 cell_3 rfl (eqw ((cells_all hb1).pick 1 rfl (Tgt.c1 t)))) ?_
    refine runl_ev_g rfl rfl (decide_eq_true q2) (ev_leq rfl rfl) ?_
    refine runl_ev (ev_pick rfl rfl rfl (if_pos (decide_eq_true q2))) ?_
    refine runl_ev (ev_move rfl) ?_
    refine runl_no_g rfl rfl (decide_eq_false q3) ?_
    refine runl_no_g rfl rfl (decide_eq_false q3) ?_
    refine runl_no_g rfl rfl (decide_eq_false q3) ?_
    refine runl_ev (ev_pick rfl rfl rfl (if_neg (by rw [decide_eq_false q3]; simp))) ?_
    refine runl_ev (ev_move rfl) ?_
    refine runl_no_g rfl rfl (rfl) ?_
    refine runl_no_g rfl rfl (rfl) ?_
    refine runl_no_g rfl rfl (rfl) ?_
    refine runl_ev (ev_pick rfl rfl rfl (if_neg (by simp))) ?_
    refine runl_ev (ev_move rfl) ?_
    refine runl_no_g rfl rfl (rfl) ?_
    refine runl_no_g rfl rfl (rfl) ?_
    refine runl_no_g rfl rfl (rfl) ?_
    refine runl_no_g rfl rfl (rfl) ?_
    refine runl_no_u rfl rfl ?_
    refine runl_no_u rfl rfl ?_
    refine runl_no_u rfl rfl ?_
    refine runl_no_g rfl rfl (rfl) ?_
    refine runl_ev (ev_pick rfl rfl rfl (if_neg (by simp))) ?_
    refine runl_ev (ev_assign rfl) ?_
    refine runl_nil ?_
    refine run_ret_any Tryd.func68 (res1 Tryd.results68 rfl) ?_
    exact ⟨by rw [isTgtB, q1, decide_eq_true q2, decide_eq_false q3] <;> rfl, e⟩
  · refine run_region rfl ?_
    refine runl_ev (ev_fieldAddr fld_48_0 rfl) ?_
    refine runl_ev (ev_load1 cell_9 rfl (eqw (cell_blk hb1 rfl))) ?_
    refine runl_op (t_call call_7 rfl (name_any _ _)) ?_
    rintro _ w5 ⟨rfl, e5⟩
    have z5 := e5.size
    replace e := e.trans e5
    replace hb1 := e5.at hb1
    refine runl_ev (ev_move rfl) ?_
    refine runl_ev_g rfl rfl (q1) (ev_fieldAddr fld_48_1 rfl) ?_
    refine runl_ev_g rfl rfl (q1) (ev_load1 cell_3 rfl (eqw ((cells_all hb1).pick 1 rfl (Tgt.c1 t)))) ?_
    refine runl_ev_g rfl rfl (q1) (ev_geq rfl rfl) ?_
    refine runl_ev (ev_pick rfl rfl rfl (if_pos (q1))) ?_
    refine runl_ev (ev_move rfl) ?_
    refine runl_ev_g rfl rfl (decide_eq_true q2) (ev_fieldAddr fld_48_1 rfl) ?_
    refine runl_ev_g rfl rfl (decide_eq_true q2) (ev_load1 cell_3 rfl (eqw ((cells_all hb1).pick 1 rfl (Tgt.c1 t)))) ?_
    refine runl_ev_g rfl rfl (decide_eq_true q2) (ev_leq rfl rfl) ?_
    refine runl_ev (ev_pick rfl rfl rfl (if_pos (decide_eq_true q2))) ?_
    refine runl_ev (ev_move rfl) ?_
    refine runl_ev_g rfl rfl (decide_eq_true q3) (ev_fieldAddr fld_48_3 rfl) ?_
    refine runl_ev_g rfl rfl (decide_eq_true q3) (ev_load1 cell_9 rfl (eqw ((cells_all hb1).pick 34 rfl (Tgt.c34 ht)))) ?_
    refine runl_op_g rfl rfl (decide_eq_true q3) (t_call call_7 rfl (name_any _ _)) ?_
    rintro _ w19 ⟨rfl, e19⟩
    have z19 := e19.size
    replace e := e.trans e19
    replace hb1 := e19.at hb1
    refine runl_ev (ev_pick rfl rfl rfl (if_pos (decide_eq_true q3))) ?_
    refine runl_ev (ev_move rfl) ?_
    refine runl_no_g rfl rfl (q4) ?_
    refine runl_no_g rfl rfl (q4) ?_
    refine runl_no_g rfl rfl (q4) ?_
    refine runl_ev (ev_pick rfl rfl rfl (if_neg (by rw [q4]; simp))) ?_
    refine runl_ev (ev_move rfl) ?_
    refine runl_no_g rfl rfl (rfl) ?_
    refine runl_no_g rfl rfl (rfl) ?_
    refine runl_no_g rfl rfl (rfl) ?_
    refine runl_no_g rfl rfl (rfl) ?_
    refine runl_no_u rfl rfl ?_
    refine runl_no_u rfl rfl ?_
    refine runl_no_u rfl rfl ?_
    refine runl_no_g rfl rfl (rfl) ?_
    refine runl_ev (ev_pick rfl rfl rfl (if_neg (by simp))) ?_
    refine runl_ev (ev_assign rfl) ?_
    refine runl_nil ?_
    refine run_ret_any Tryd.func68 (res1 Tryd.results68 rfl) ?_
    exact ⟨by rw [isTgtB, q1, decide_eq_true q2, decide_eq_true q3, q4] <;> rfl, e⟩
  · refine run_region rfl ?_
    refine runl_ev (ev_fieldAddr fld_48_0 rfl) ?_
    refine runl_ev (ev_load1 cell_9 rfl (eqw (cell_blk hb1 rfl))) ?_
    refine runl_op (t_call call_7 rfl (name_any _ _)) ?_
    rintro _ w5 ⟨rfl, e5⟩
    have z5 := e5.size
    replace e := e.trans e5
    replace hb1 := e5.at hb1
    refine runl_ev (ev_move rfl) ?_
    refine runl_ev_g rfl rfl (q1) (ev_fieldAddr fld_48_1 rfl) ?_
    refine runl_ev_g rfl rfl (q1) (ev_load1 cell_3 rfl (eqw ((cells_all hb1).pick 1 rfl (Tgt.c1 t)))) ?_
    refine runl_ev_g rfl rfl (q1) (ev_geq rfl rfl) ?_
    refine runl_ev (ev_pick rfl rfl rfl (if_pos (q1))) ?_
    refine runl_ev (ev_move rfl) ?_
    refine runl_ev_g rfl rfl (decide_eq_true q2) (ev_fieldAddr fld_48_1 rfl) ?_
    refine runl_ev_g rfl rfl (decide_eq_true q2) (ev_load1 cell_3 rfl (eqw ((cells_all hb1).pick 1 rfl (Tgt.c1 t)))) ?_
    refine runl_ev_g rfl rfl (decide_eq_true q2) (ev_leq rfl rfl) ?_
    refine runl_ev (ev_pick rfl rfl rfl (if_pos (decide_eq_true q2))) ?_
    refine runl_ev (ev_move rfl) ?_
    refine runl_ev_g rfl rfl (decide_eq_true q3) (ev_fieldAddr fld_48_3 rfl) ?_
    refine runl_ev_g rfl rfl (decide_eq_true q3) (ev_load1 cell_9 rfl (eqw ((cells_all hb1).pick 34 rfl (Tgt.c34 ht)))) ?_
    refine runl_op_g rfl rfl (decide_eq_true q3) (t_call call_7 rfl (name_any _ _)) ?_
    rintro _ w19 ⟨rfl, e19⟩
    have z19 := e19.size
    replace e := e.trans e19
    replace hb1 := e19.at hb1
    refine runl_ev (ev_pick rfl rfl rfl (if_pos (decide_eq_true q3))) ?_
    refine runl_ev (ev_move rfl) ?_
    refine runl_ev_g rfl rfl (q4) (ev_fieldAddr fld_48_4 rfl) ?_
    refine runl_ev_g rfl rfl (q4) (ev_load1 cell_3 rfl (eqw ((cells_all hb1).pick 35 rfl (Tgt.c35 ht)))) ?_
    refine runl_op_g rfl rfl (q4) (t_call call_55 rfl (isnum_any _ _)) ?_
    rintro _ w24 ⟨rfl, e24⟩
    have z24 := e24.size
    replace e := e.trans e24
    replace hb1 := e24.at hb1
    refine runl_ev (ev_pick rfl rfl rfl (if_pos (q4))) ?_
    refine runl_ev (ev_move rfl) ?_
    refine runl_no_g rfl rfl (q5) ?_
    refine runl_no_g rfl rfl (q5) ?_
    refine runl_no_g rfl rfl (q5) ?_
    refine runl_no_g rfl rfl (q5) ?_
    refine runl_no_u rfl rfl ?_
    refine runl_no_u rfl rfl ?_
    refine runl_no_u rfl rfl ?_
    refine runl_no_g rfl rfl (q5) ?_
    refine runl_ev (ev_pick rfl rfl rfl (if_neg (by rw [q5]; simp))) ?_
    refine runl_ev (ev_assign rfl) ?_
    refine runl_nil ?_
    refine run_ret_any Tryd.func68 (res1 Tryd.results68 rfl) ?_
    exact ⟨by rw [isTgtB, q1, decide_eq_true q2, decide_eq_true q3, q4, q5] <;> rfl, e⟩
  · refine run_region rfl ?_
    refine runl_ev (ev_fieldAddr fld_48_0 rfl) ?_
    refine runl_ev (ev_load1 cell_9 rfl (eqw (cell_blk hb1 rfl))) ?_
    refine runl_op (t_call call_7 rfl (name_any _ _)) ?_
    rintro _ w5 ⟨rfl, e5⟩
    have z5 := e5.size
    replace e := e.trans e5
    replace hb1 := e5.at hb1
    refine runl_ev (ev_move rfl) ?_
    refine runl_ev_g rfl rfl (q1) (ev_fieldAddr fld_48_1 rfl) ?_
    refine runl_ev_g rfl rfl (q1) (ev_load1 cell_3 rfl (eqw ((cells_all hb1).pick 1 rfl (Tgt.c1 t)))) ?_
    refine runl_ev_g rfl rfl (q1) (ev_geq rfl rfl) ?_
    refine runl_ev (ev_pick rfl rfl rfl (if_pos (q1))) ?_
    refine runl_ev (ev_move rfl) ?_
    refine runl_ev_g rfl rfl (decide_eq_true q2) (ev_fieldAddr fld_48_1 rfl) ?_
    refine runl_ev_g rfl rfl (decide_eq_true q2) (ev_load1 cell_3 rfl (eqw ((cells_all hb1).pick 1 rfl (Tgt.c1 t)))) ?_
    refine runl_ev_g rfl rfl (decide_eq_true q2) (ev_leq rfl rfl) ?_
    refine runl_ev (ev_pick rfl rfl rfl (if_pos (decide_eq_true q2))) ?_
    refine runl_ev (ev_move rfl) ?_
    refine runl_ev_g rfl rfl (decide_eq_true q3) (ev_fieldAddr fld_48_3 rfl) ?_
    refine runl_ev_g rfl rfl (decide_eq_true q3) (ev_load1 cell_9 rfl (eqw ((cells_all hb1).pick 34 rfl (Tgt.c34 ht)))) ?_
    refine runl_op_g rfl rfl (decide_eq_true q3) (t_call call_7 rfl (name_any _ _)) ?_
    rintro _ w19 ⟨rfl, e19⟩
    have z19 := e19.size
    replace e := e.trans e19
    replace hb1 := e19.at hb1
    refine runl_ev (ev_pick rfl rfl rfl (if_pos (decide_eq_true q3))) ?_
    refine runl_ev (ev_move rfl) ?_
    refine runl_ev_g rfl rfl (q4) (ev_fieldAddr fld_48_4 rfl) ?_
    refine runl_ev_g rfl rfl (q4) (ev_load1 cell_3 rfl (eqw ((cells_all hb1).pick 35 rfl (Tgt.c35 ht)))) ?_
    refine runl_op_g rfl rfl (q4) (t_call call_55 rfl (isnum_any _ _)) ?_
    rintro _ w24 ⟨rfl, e24⟩
    have z24 := e24.size
    replace e := e.trans e24
    replace hb1 := e24.at hb1
    refine runl_ev (ev_pick rfl rfl rfl (if_pos (q4))) ?_
    refine runl_ev (ev_move rfl) ?_
    refine runl_ev_g rfl rfl (q5) (ev_fieldAddr fld_48_5 rfl) ?_
    refine runl_ev_g rfl rfl (q5) (ev_load1 cell_9 rfl (eqw ((cells_all hb1).pick 36 rfl (Tgt.c36 ht)))) ?_
    refine runl_ev_g rfl rfl (q5) (ev_eqlS rfl rfl) ?_
    refine runl_ev_g rfl rfl (q5) (ev_move rfl) ?_
    refine runl_no_g rfl rfl (decide_eq_true q6) ?_
    refine runl_no_g rfl rfl (decide_eq_true q6) ?_
    refine runl_no_g rfl rfl (decide_eq_true q6) ?_
    refine runl_ev_g rfl rfl (q5) (ev_pick rfl rfl rfl (if_pos (decide_eq_true q6))) ?_
    refine runl_ev (ev_pick rfl rfl rfl (if_pos (q5))) ?_
    refine runl_ev (ev_assign rfl) ?_
    refine runl_nil ?_
    refine run_ret_any Tryd.func68 (res1 Tryd.results68 rfl) ?_
    exact ⟨by rw [isTgtB, q1, decide_eq_true q2, decide_eq_true q3, q4, q5, decide_eq_true q6] <;> rfl, e⟩
  · refine run_region rfl ?_
    refine runl_ev (ev_fieldAddr fld_48_0 rfl) ?_
    refine runl_ev (ev_load1 cell_9 rfl (eqw (cell_blk hb1 rfl))) ?_
    refine runl_op (t_call call_7 rfl (name_any _ _)) ?_
    rintro _ w5 ⟨rfl, e5⟩
    have z5 := e5.size
    replace e := e.trans e5
    replace hb1 := e5.at hb1
    refine runl_ev (ev_move rfl) ?_
    refine runl_ev_g rfl rfl (q1) (ev_fieldAddr fld_48_1 rfl) ?_
    refine runl_ev_g rfl rfl (q1) (ev_load1 cell_3 rfl (eqw ((cells_all hb1).pick 1 rfl (Tgt.c1 t)))) ?_
    refine runl_ev_g rfl rfl (q1) (ev_geq rfl rfl) ?_
    refine runl_ev (ev_pick rfl rfl rfl (if_pos (q1))) ?_
    refine runl_ev (ev_move rfl) ?_
    refine runl_ev_g rfl rfl (decide_eq_true q2) (ev_fieldAddr fld_48_1 rfl) ?_
    refine runl_ev_g rfl rfl (decide_eq_true q2) (ev_load1 cell_3 rfl (eqw ((cells_all hb1).pick 1 rfl (Tgt.c1 t)))) ?_
    refine runl_ev_g rfl rfl (decide_eq_true q2) (ev_leq rfl rfl) ?_
    refine runl_ev (ev_pick rfl rfl rfl (if_pos (decide_eq_true q2))) ?_
    refine runl_ev (ev_move rfl) ?_
    refine runl_ev_g rfl rfl (decide_eq_true q3) (ev_fieldAddr fld_48_3 rfl) ?_
    refine runl_ev_g rfl rfl (decide_eq_true q3) (ev_load1 cell_9 rfl (eqw ((cells_all hb1).pick 34 rfl (Tgt.c34 ht)))) ?_
    refine runl_op_g rfl rfl (decide_eq_true q3) (t_call call_7 rfl (name_any _ _)) ?_
    rintro _ w19 ⟨rfl, e19⟩
    have z19 := e19.size
    replace e := e.trans e19
    replace hb1 := e19.at hb1
    refine runl_ev (ev_pick rfl rfl rfl (if_pos (decide_eq_true q3))) ?_
    refine runl_ev (ev_move rfl) ?_
    refine runl_ev_g rfl rfl (q4) (ev_fieldAddr fld_48_4 rfl) ?_
    refine runl_ev_g rfl rfl (q4) (ev_load1 cell_3 rfl (eqw ((cells_all hb1).pick 35 rfl (Tgt.c35 ht)))) ?_
    refine runl_op_g rfl rfl (q4) (t_call call_55 rfl (isnum_any _ _)) ?_
    rintro _ w24 ⟨rfl, e24⟩
    have z24 := e24.size
    replace e := e.trans e24
    replace hb1 := e24.at hb1
    refine runl_ev (ev_pick rfl rfl rfl (if_pos (q4))) ?_
    refine runl_ev (ev_move rfl) ?_
    refine runl_ev_g rfl rfl (q5) (ev_fieldAddr fld_48_5 rfl) ?_
    refine runl_ev_g rfl rfl (q5) (ev_load1 cell_9 rfl (eqw ((cells_all hb1).pick 36 rfl (Tgt.c36 ht)))) ?_
    refine runl_ev_g rfl rfl (q5) (ev_eqlS rfl rfl) ?_
    refine runl_ev_g rfl rfl (q5) (ev_move rfl) ?_
    refine runl_ev_g rfl rfl (decide_eq_false q6) (ev_fieldAddr fld_48_5 rfl) ?_
    refine runl_ev_g rfl rfl (decide_eq_false q6) (ev_load1 cell_9 rfl (eqw ((cells_all hb1).pick 36 rfl (Tgt.c36 ht)))) ?_
    refine runl_op_g rfl rfl (decide_eq_false q6) (t_call call_7 rfl (name_any _ _)) ?_
    rintro _ w33 ⟨rfl, e33⟩
    have z33 := e33.size
    replace e := e.trans e33
    replace hb1 := e33.at hb1
    refine runl_ev_g rfl rfl (q5) (ev_pick rfl rfl rfl (if_neg (by rw [decide_eq_false q6]; simp))) ?_
    refine runl_ev (ev_pick rfl rfl rfl (if_pos (q5))) ?_
    refine runl_ev (ev_assign rfl) ?_
    refine runl_nil ?_
    refine run_ret_any Tryd.func68 (res1 Tryd.results68 rfl) ?_
    exact ⟨by rw [isTgtB, q1, decide_eq_true q2, decide_eq_true q3, q4, q5, decide_eq_false q6] <;> rfl, e⟩
theorem qistarget_any (t : Tgt) (ht : t.wf) (w : World) (hs1 : t.name.size ≤ 1099511627776) (hs2 : t.hw.size ≤ 1099511627776) (hs3 : t.ecu.size ≤ 1099511627776) : Ret Tryd.prog 16 [.agg ⟨t.cells⟩] w fun r w' => r = .bool (isTgtB t) ∧ Ext w w' := by
  have e := ExtB.refl (fun _ => False) w
  refine ret_of_run Tryd.func16 rfl Tryd.ntmps16 rfl ?_
  refine run_seq ?_
  refine run_region rfl ?_
  refine runl_op (t_boxA rfl) ?_
  rintro _ w1 ⟨b1, rfl, hb1, e1, n1, l1⟩
  have z1 := e1.size
  replace e := e.trans e1
  refine runl_ev (ev_assign rfl) ?_
  refine runl_nil ?_
  refine run_seq ?_
  have hcs : nameB t.name = false ∨ (nameB t.name = true ∧ ¬ 0 ≤ t.size) ∨ (nameB t.name = true ∧ 0 ≤ t.size ∧ ¬ t.size ≤ 512) ∨ (nameB t.name = true ∧ 0 ≤ t.size ∧ t.size ≤ 512 ∧ nameB t.hw = false) ∨ (nameB t.name = true ∧ 0 ≤ t.size ∧ t.size ≤ 512 ∧ nameB t.hw = true ∧ numB t.ctr = false) ∨ (nameB t.name = true ∧ 0 ≤ t.size ∧ t.size ≤ 512 ∧ nameB t.hw = true ∧ numB t.ctr = true ∧ t.ecu = ⟨#[]⟩) ∨ (nameB t.name = true ∧ 0 ≤ t.size ∧ t.size ≤ 512 ∧ nameB t.hw = true ∧ numB t.ctr = true ∧ ¬ t.ecu = ⟨#[]⟩) := by
    by_cases h6 : t.ecu = ⟨#[]⟩ <;> by_cases h2 : 0 ≤ t.size <;> by_cases h3 : t.size ≤ 512 <;> cases nameB t.name <;> cases nameB t.hw <;> cases numB t.ctr <;> simp [h2, h3, h6]
  rcases hcs with q1 | ⟨q1, q2⟩ | ⟨q1, q2, q3⟩ | ⟨q1, q2, q3, q4⟩ | ⟨q1, q2, q3, q4, q5⟩ | ⟨q1, q2, q3, q4, q5, q6⟩ | ⟨q1, q2, q3, q4, q5, q6⟩
  · refine run_region rfl ?_
    refine runl_ev (ev_fieldAddr fld_48_0 rfl) ?_
    refine runl_ev (ev_load1 cell_9 rfl (eqw (cell_blk hb1 rfl))) ?_
    refine runl_op (t_call call_15 rfl (qname_any _ _ hs1)) ?_
    rintro _ w5 ⟨rfl, e5⟩
    have z5 := e5.size
    replace e := e.trans e5
    replace hb1 := e5.at hb1
    refine runl_ev (ev_move rfl) ?_
    refine runl_no_g rfl rfl (q1) ?_
    refine runl_no_g rfl rfl (q1) ?_
    refine runl_no_g rfl rfl (q1) ?_
    refine runl_ev (ev_pick rfl rfl rfl (if_neg (by rw [q1]; simp))) ?_
    refine runl_ev (ev_move rfl) ?_
    refine runl_no_g rfl rfl (rfl) ?_
    refine runl_no_g rfl rfl (rfl) ?_
    refine runl_no_g rfl rfl (rfl) ?_
    refine runl_ev (ev_pick rfl rfl rfl (if_neg (by simp))) ?_
    refine runl_ev (ev_move rfl) ?_
    refine runl_no_g rfl rfl (rfl) ?_
    refine runl_no_g rfl rfl (rfl) ?_
    refine runl_no_g rfl rfl (rfl) ?_
    refine runl_ev (ev_pick rfl rfl rfl (if_neg (by simp))) ?_
    refine runl_ev (ev_move rfl) ?_
    refine runl_no_g rfl rfl (rfl) ?_
    refine runl_no_g rfl rfl (rfl) ?_
    refine runl_no_g rfl rfl (rfl) ?_
    refine runl_no_g rfl rfl (rfl) ?_
    refine runl_ev (ev_pick rfl rfl rfl (if_neg (by simp))) ?_
    refine runl_ev (ev_move rfl) ?_
    refine runl_no_g rfl rfl (rfl) ?_
    refine runl_no_g rfl rfl (rfl) ?_
    refine runl_no_g rfl rfl (rfl) ?_
    refine runl_no_g rfl rfl (rfl) ?_
    refine runl_no_u rfl rfl ?_
    refine runl_no_u rfl rfl ?_
    refine runl_no_u rfl rfl ?_
    refine runl_no_g rfl rfl (rfl) ?_
    refine runl_ev (ev_pick rfl rfl rfl (if_neg (by simp))) ?_
    refine runl_ev (ev_assign rfl) ?_
    refine runl_nil ?_
    refine run_ret_any Tryd.func16 (res1 Tryd.results16 rfl) ?_
    exact ⟨by rw [isTgtB, q1] <;> rfl, e⟩
  · refine run_region rfl ?_
    refine runl_ev (ev_fieldAddr fld_48_0 rfl) ?_
    refine runl_ev (ev_load1 cell_9 rfl (eqw (cell_blk hb1 rfl))) ?_
    refine runl_op (t_call call_15 rfl (qname_any _ _ hs1)) ?_
    rintro _ w5 ⟨rfl, e5⟩
    have z5 := e5.size
    replace e := e.trans e5
    replace hb1 := e5.at hb1
    refine runl_ev (ev_move rfl) ?_
    refine runl_ev_g rfl rfl (q1) (ev_fieldAddr fld_48_1 rfl) ?_
    refine runl_ev_g rfl rfl (q1) (ev_load1 cell_3 rfl (eqw ((cells_all hb1).pick 1 rfl (Tgt.c1 t)))) ?_
    refine runl_ev_g rfl rfl (q1) (ev_geq rfl rfl) ?_
    refine runl_ev (ev_pick rfl rfl rfl (if_pos (q1))) ?_
    refine runl_ev (ev_move rfl) ?_
    refine runl_no_g rfl rfl (decide_eq_false q2) ?_
    refine runl_no_g rfl rfl (decide_eq_false q2) ?_
    refine runl_no_g rfl rfl (decide_eq_false q2) ?_
    refine runl_ev (ev_pick rfl rfl rfl (if_neg (by rw [decide_eq_false q2]; simp))) ?_
    refine runl_ev (ev_move rfl) ?_
    refine runl_no_g rfl rfl (rfl) ?_
    refine runl_no_g rfl rfl (rfl) ?_
    refine runl_no_g rfl rfl (rfl) ?_
    refine runl_ev (ev_pick rfl rfl rfl (if_neg (by simp))) ?_
    refine runl_ev (ev_move rfl) ?_
    refine runl_no_g rfl rfl (rfl) ?_
    refine runl_no_g rfl rfl (rfl) ?_
    refine runl_no_g rfl rfl (rfl) ?_
    refine runl_no_g rfl rfl (rfl) ?_
    refine runl_ev (ev_pick rfl rfl rfl (if_neg (by simp))) ?_
    refine runl_ev (ev_move rfl) ?_
    refine runl_no_g rfl rfl (rfl) ?_
    refine runl_no_g rfl rfl (rfl) ?_
    refine runl_no_g rfl rfl (rfl) ?_
    refine runl_no_g rfl rfl (rfl) ?_
    refine runl_no_u rfl rfl ?_
    refine runl_no_u rfl rfl ?_
    refine runl_no_u rfl rfl ?_
    refine runl_no_g rfl rfl (rfl) ?_
    refine runl_ev (ev_pick rfl rfl rfl (if_neg (by simp))) ?_
    refine runl_ev (ev_assign rfl) ?_
    refine runl_nil ?_
    refine run_ret_any Tryd.func16 (res1 Tryd.results16 rfl) ?_
    exact ⟨by rw [isTgtB, q1, decide_eq_false q2] <;> rfl, e⟩
  · refine run_region rfl ?_
    refine runl_ev (ev_fieldAddr fld_48_0 rfl) ?_
    refine runl_ev (ev_load1 cell_9 rfl (eqw (cell_blk hb1 rfl))) ?_
    refine runl_op (t_call call_15 rfl (qname_any _ _ hs1)) ?_
    rintro _ w5 ⟨rfl, e5⟩
    have z5 := e5.size
    replace e := e.trans e5
    replace hb1 := e5.at hb1
    refine runl_ev (ev_move rfl) ?_
    refine runl_ev_g rfl rfl (q1) (ev_fieldAddr fld_48_1 rfl) ?_
    refine runl_ev_g rfl rfl (q1) (ev_load1 cell_3 rfl (eqw ((cells_all hb1).pick 1 rfl (Tgt.c1 t)))) ?_
    refine runl_ev_g rfl rfl (q1) (ev_geq rfl rfl) ?_
    refine runl_ev (ev_pick rfl rfl rfl (if_pos (q1))) ?_
    refine runl_ev (ev_move rfl) ?_
    refine runl_ev_g rfl rfl (decide_eq_true q2) (ev_fieldAddr fld_48_1 rfl) ?_
    refine runl_ev_g rfl rfl (decide_eq_true q2) (ev_load1 cell_3 rfl (eqw ((cells_all hb1).pick 1 rfl (Tgt.c1 t)))) ?_
    refine runl_ev_g rfl rfl (decide_eq_true q2) (ev_leq rfl rfl) ?_
    refine runl_ev (ev_pick rfl rfl rfl (if_pos (decide_eq_true q2))) ?_
    refine runl_ev (ev_move rfl) ?_
    refine runl_no_g rfl rfl (decide_eq_false q3) ?_
    refine runl_no_g rfl rfl (decide_eq_false q3) ?_
    refine runl_no_g rfl rfl (decide_eq_false q3) ?_
    refine runl_ev (ev_pick rfl rfl rfl (if_neg (by rw [decide_eq_false q3]; simp))) ?_
    refine runl_ev (ev_move rfl) ?_
    refine runl_no_g rfl rfl (rfl) ?_
    refine runl_no_g rfl rfl (rfl) ?_
    refine runl_no_g rfl rfl (rfl) ?_
    refine runl_no_g rfl rfl (rfl) ?_
    refine runl_ev (ev_pick rfl rfl rfl (if_neg (by simp))) ?_
    refine runl_ev (ev_move rfl) ?_
    refine runl_no_g rfl rfl (rfl) ?_
    refine runl_no_g rfl rfl (rfl) ?_
    refine runl_no_g rfl rfl (rfl) ?_
    refine runl_no_g rfl rfl (rfl) ?_
    refine runl_no_u rfl rfl ?_
    refine runl_no_u rfl rfl ?_
    refine runl_no_u rfl rfl ?_
    refine runl_no_g rfl rfl (rfl) ?_
    refine runl_ev (ev_pick rfl rfl rfl (if_neg (by simp))) ?_
    refine runl_ev (ev_assign rfl) ?_
    refine runl_nil ?_
    refine run_ret_any Tryd.func16 (res1 Tryd.results16 rfl) ?_
    exact ⟨by rw [isTgtB, q1, decide_eq_true q2, decide_eq_false q3] <;> rfl, e⟩
  · refine run_region rfl ?_
    refine runl_ev (ev_fieldAddr fld_48_0 rfl) ?_
    refine runl_ev (ev_load1 cell_9 rfl (eqw (cell_blk hb1 rfl))) ?_
    refine runl_op (t_call call_15 rfl (qname_any _ _ hs1)) ?_
    rintro _ w5 ⟨rfl, e5⟩
    have z5 := e5.size
    replace e := e.trans e5
    replace hb1 := e5.at hb1
    refine runl_ev (ev_move rfl) ?_
    refine runl_ev_g rfl rfl (q1) (ev_fieldAddr fld_48_1 rfl) ?_
    refine runl_ev_g rfl rfl (q1) (ev_load1 cell_3 rfl (eqw ((cells_all hb1).pick 1 rfl (Tgt.c1 t)))) ?_
    refine runl_ev_g rfl rfl (q1) (ev_geq rfl rfl) ?_
    refine runl_ev (ev_pick rfl rfl rfl (if_pos (q1))) ?_
    refine runl_ev (ev_move rfl) ?_
    refine runl_ev_g rfl rfl (decide_eq_true q2) (ev_fieldAddr fld_48_1 rfl) ?_
    refine runl_ev_g rfl rfl (decide_eq_true q2) (ev_load1 cell_3 rfl (eqw ((cells_all hb1).pick 1 rfl (Tgt.c1 t)))) ?_
    refine runl_ev_g rfl rfl (decide_eq_true q2) (ev_leq rfl rfl) ?_
    refine runl_ev (ev_pick rfl rfl rfl (if_pos (decide_eq_true q2))) ?_
    refine runl_ev (ev_move rfl) ?_
    refine runl_ev_g rfl rfl (decide_eq_true q3) (ev_fieldAddr fld_48_3 rfl) ?_
    refine runl_ev_g rfl rfl (decide_eq_true q3) (ev_load1 cell_9 rfl (eqw ((cells_all hb1).pick 34 rfl (Tgt.c34 ht)))) ?_
    refine runl_op_g rfl rfl (decide_eq_true q3) (t_call call_15 rfl (qname_any _ _ hs2)) ?_
    rintro _ w19 ⟨rfl, e19⟩
    have z19 := e19.size
    replace e := e.trans e19
    replace hb1 := e19.at hb1
    refine runl_ev (ev_pick rfl rfl rfl (if_pos (decide_eq_true q3))) ?_
    refine runl_ev (ev_move rfl) ?_
    refine runl_no_g rfl rfl (q4) ?_
    refine runl_no_g rfl rfl (q4) ?_
    refine runl_no_g rfl rfl (q4) ?_
    refine runl_no_g rfl rfl (q4) ?_
    refine runl_ev (ev_pick rfl rfl rfl (if_neg (by rw [q4]; simp))) ?_
    refine runl_ev (ev_move rfl) ?_
    refine runl_no_g rfl rfl (rfl) ?_
    refine runl_no_g rfl rfl (rfl) ?_
    refine runl_no_g rfl rfl (rfl) ?_
    refine runl_no_g rfl rfl (rfl) ?_
    refine runl_no_u rfl rfl ?_
    refine runl_no_u rfl rfl ?_
    refine runl_no_u rfl rfl ?_
    refine runl_no_g rfl rfl (rfl) ?_
    refine runl_ev (ev_pick rfl rfl rfl (if_neg (by simp))) ?_
    refine runl_ev (ev_assign rfl) ?_
    refine runl_nil ?_
    refine run_ret_any Tryd.func16 (res1 Tryd.results16 rfl) ?_
    exact ⟨by rw [isTgtB, q1, decide_eq_true q2, decide_eq_true q3, q4] <;> rfl, e⟩
  · refine run_region rfl ?_
    refine runl_ev (ev_fieldAddr fld_48_0 rfl) ?_
    refine runl_ev (ev_load1 cell_9 rfl (eqw (cell_blk hb1 rfl))) ?_
    refine runl_op (t_call call_15 rfl (qname_any _ _ hs1)) ?_
    rintro _ w5 ⟨rfl, e5⟩
    have z5 := e5.size
    replace e := e.trans e5
    replace hb1 := e5.at hb1
    refine runl_ev (ev_move rfl) ?_
    refine runl_ev_g rfl rfl (q1) (ev_fieldAddr fld_48_1 rfl) ?_
    refine runl_ev_g rfl rfl (q1) (ev_load1 cell_3 rfl (eqw ((cells_all hb1).pick 1 rfl (Tgt.c1 t)))) ?_
    refine runl_ev_g rfl rfl (q1) (ev_geq rfl rfl) ?_
    refine runl_ev (ev_pick rfl rfl rfl (if_pos (q1))) ?_
    refine runl_ev (ev_move rfl) ?_
    refine runl_ev_g rfl rfl (decide_eq_true q2) (ev_fieldAddr fld_48_1 rfl) ?_
    refine runl_ev_g rfl rfl (decide_eq_true q2) (ev_load1 cell_3 rfl (eqw ((cells_all hb1).pick 1 rfl (Tgt.c1 t)))) ?_
    refine runl_ev_g rfl rfl (decide_eq_true q2) (ev_leq rfl rfl) ?_
    refine runl_ev (ev_pick rfl rfl rfl (if_pos (decide_eq_true q2))) ?_
    refine runl_ev (ev_move rfl) ?_
    refine runl_ev_g rfl rfl (decide_eq_true q3) (ev_fieldAddr fld_48_3 rfl) ?_
    refine runl_ev_g rfl rfl (decide_eq_true q3) (ev_load1 cell_9 rfl (eqw ((cells_all hb1).pick 34 rfl (Tgt.c34 ht)))) ?_
    refine runl_op_g rfl rfl (decide_eq_true q3) (t_call call_15 rfl (qname_any _ _ hs2)) ?_
    rintro _ w19 ⟨rfl, e19⟩
    have z19 := e19.size
    replace e := e.trans e19
    replace hb1 := e19.at hb1
    refine runl_ev (ev_pick rfl rfl rfl (if_pos (decide_eq_true q3))) ?_
    refine runl_ev (ev_move rfl) ?_
    refine runl_ev_g rfl rfl (q4) (ev_fieldAddr fld_48_4 rfl) ?_
    refine runl_ev_g rfl rfl (q4) (ev_load1 cell_3 rfl (eqw ((cells_all hb1).pick 35 rfl (Tgt.c35 ht)))) ?_
    refine runl_op_g rfl rfl (q4) (t_buildSlice (out := [.int .i64 t.ctr]) Tryd.underlying111 sz_3 zero_3 rfl rfl (by decide) (by decide) rfl (rfl)) ?_
    rintro _ w24 ⟨b24, rfl, hb24, e24, n24, l24⟩
    have z24 := e24.size
    replace e := e.trans e24
    replace hb1 := e24.at hb1
    refine runl_op_g rfl rfl (q4) (t_call call_38 rfl (rnums_any [t.ctr] _ _ _ _ (sl_lit (l := [t.ctr]) (R := RInt) hb24 (pc rfl pn)) (by simp))) ?_
    rintro _ w25 ⟨rfl, e25⟩
    rw [show [t.ctr].all numB = numB t.ctr by simp]
    have z25 := e25.size
    replace e := e.trans e25
    replace hb1 := e25.at hb1
    replace hb24 := e25.at hb24
    refine runl_ev (ev_pick rfl rfl rfl (if_pos (q4))) ?_
    refine runl_ev (ev_move rfl) ?_
    refine runl_no_g rfl rfl (q5) ?_
    refine runl_no_g rfl rfl (q5) ?_
    refine runl_no_g rfl rfl (q5) ?_
    refine runl_no_g rfl rfl (q5) ?_
    refine runl_no_u rfl rfl ?_
    refine runl_no_u rfl rfl ?_
    refine runl_no_u rfl rfl ?_
    refine runl_no_g rfl rfl (q5) ?_
    refine runl_ev (ev_pick rfl rfl rfl (if_neg (by rw [q5]; simp))) ?_
    refine runl_ev (ev_assign rfl) ?_
    refine runl_nil ?_
    refine run_ret_any Tryd.func16 (res1 Tryd.results16 rfl) ?_
    exact ⟨by rw [isTgtB, q1, decide_eq_true q2, decide_eq_true q3, q4, q5] <;> rfl, e⟩
  · refine run_region rfl ?_
    refine runl_ev (ev_fieldAddr fld_48_0 rfl) ?_
    refine runl_ev (ev_load1 cell_9 rfl (eqw (cell_blk hb1 rfl))) ?_
    refine runl_op (t_call call_15 rfl (qname_any _ _ hs1)) ?_
    rintro _ w5 ⟨rfl, e5⟩
    have z5 := e5.size
    replace e := e.trans e5
    replace hb1 := e5.at hb1
    refine runl_ev (ev_move rfl) ?_
    refine runl_ev_g rfl rfl (q1) (ev_fieldAddr fld_48_1 rfl) ?_
    refine runl_ev_g rfl rfl (q1) (ev_load1 cell_3 rfl (eqw ((cells_all hb1).pick 1 rfl (Tgt.c1 t)))) ?_
    refine runl_ev_g rfl rfl (q1) (ev_geq rfl rfl) ?_
    refine runl_ev (ev_pick rfl rfl rfl (if_pos (q1))) ?_
    refine runl_ev (ev_move rfl) ?_
    refine runl_ev_g rfl rfl (decide_eq_true q2) (ev_fieldAddr fld_48_1 rfl) ?_
    refine runl_ev_g rfl rfl (decide_eq_true q2) (ev_load1 cell_3 rfl (eqw ((cells_all hb1).pick 1 rfl (Tgt.c1 t)))) ?_
    refine runl_ev_g rfl rfl (decide_eq_true q2) (ev_leq rfl rfl) ?_
    refine runl_ev (ev_pick rfl rfl rfl (if_pos (decide_eq_true q2))) ?_
    refine runl_ev (ev_move rfl) ?_
    refine runl_ev_g rfl rfl (decide_eq_true q3) (ev_fieldAddr fld_48_3 rfl) ?_
    refine runl_ev_g rfl rfl (decide_eq_true q3) (ev_load1 cell_9 rfl (eqw ((cells_all hb1).pick 34 rfl (Tgt.c34 ht)))) ?_
    refine runl_op_g rfl rfl (decide_eq_true q3) (t_call call_15 rfl (qname_any _ _ hs2)) ?_
    rintro _ w19 ⟨rfl, e19⟩
    have z19 := e19.size
    replace e := e.trans e19
    replace hb1 := e19.at hb1
    refine runl_ev (ev_pick rfl rfl rfl (if_pos (decide_eq_true q3))) ?_
    refine runl_ev (ev_move rfl) ?_
    refine runl_ev_g rfl rfl (q4) (ev_fieldAddr fld_48_4 rfl) ?_
    refine runl_ev_g rfl rfl (q4) (ev_load1 cell_3 rfl (eqw ((cells_all hb1).pick 35 rfl (Tgt.c35 ht)))) ?_
    refine runl_op_g rfl rfl (q4) (t_buildSlice (out := [.int .i64 t.ctr]) Tryd.underlying111 sz_3 zero_3 rfl rfl (by decide) (by decide) rfl (rfl)) ?_
    rintro _ w24 ⟨b24, rfl, hb24, e24, n24, l24⟩
    have z24 := e24.size
    replace e := e.trans e24
    replace hb1 := e24.at hb1
    refine runl_op_g rfl rfl (q4) (t_call call_38 rfl (rnums_any [t.ctr] _ _ _ _ (sl_lit (l := [t.ctr]) (R := RInt) hb24 (pc rfl pn)) (by simp))) ?_
    rintro _ w25 ⟨rfl, e25⟩
    rw [show [t.ctr].all numB = numB t.ctr by simp]
    have z25 := e25.size
    replace e := e.trans e25
    replace hb1 := e25.at hb1
    replace hb24 := e25.at hb24
    refine runl_ev (ev_pick rfl rfl rfl (if_pos (q4))) ?_
    refine runl_ev (ev_move rfl) ?_
    refine runl_ev_g rfl rfl (q5) (ev_fieldAddr fld_48_5 rfl) ?_
    refine runl_ev_g rfl rfl (q5) (ev_load1 cell_9 rfl (eqw ((cells_all hb1).pick 36 rfl (Tgt.c36 ht)))) ?_
    refine runl_ev_g rfl rfl (q5) (ev_eqlS rfl rfl) ?_
    refine runl_ev_g rfl rfl (q5) (ev_move rfl) ?_
    refine runl_no_g rfl rfl (decide_eq_true q6) ?_
    refine runl_no_g rfl rfl (decide_eq_true q6) ?_
    refine runl_no_g rfl rfl (decide_eq_true q6) ?_
    refine runl_ev_g rfl rfl (q5) (ev_pick rfl rfl rfl (if_pos (decide_eq_true q6))) ?_
    refine runl_ev (ev_pick rfl rfl rfl (if_pos (q5))) ?_
    refine runl_ev (ev_assign rfl) ?_
    refine runl_nil ?_
    refine run_ret_any Tryd.func16 (res1 Tryd.results16 rfl) ?_
    exact ⟨by rw [isTgtB, q1, decide_eq_true q2, decide_eq_true q3, q4, q5, decide_eq_true q6] <;> rfl, e⟩
  · refine run_region rfl ?_
    refine runl_ev (ev_fieldAddr fld_48_0 rfl) ?_
    refine runl_ev (ev_load1 cell_9 rfl (eqw (cell_blk hb1 rfl))) ?_
    refine runl_op (t_call call_15 rfl (qname_any _ _ hs1)) ?_
    rintro _ w5 ⟨rfl, e5⟩
    have z5 := e5.size
    replace e := e.trans e5
    replace hb1 := e5.at hb1
    refine runl_ev (ev_move rfl) ?_
    refine runl_ev_g rfl rfl (q1) (ev_fieldAddr fld_48_1 rfl) ?_
    refine runl_ev_g rfl rfl (q1) (ev_load1 cell_3 rfl (eqw ((cells_all hb1).pick 1 rfl (Tgt.c1 t)))) ?_
    refine runl_ev_g rfl rfl (q1) (ev_geq rfl rfl) ?_
    refine runl_ev (ev_pick rfl rfl rfl (if_pos (q1))) ?_
    refine runl_ev (ev_move rfl) ?_
    refine runl_ev_g rfl rfl (decide_eq_true q2) (ev_fieldAddr fld_48_1 rfl) ?_
    refine runl_ev_g rfl rfl (decide_eq_true q2) (ev_load1 cell_3 rfl (eqw ((cells_all hb1).pick 1 rfl (Tgt.c1 t)))) ?_
    refine runl_ev_g rfl rfl (decide_eq_true q2) (ev_leq rfl rfl) ?_
    refine runl_ev (ev_pick rfl rfl rfl (if_pos (decide_eq_true q2))) ?_
    refine runl_ev (ev_move rfl) ?_
    refine runl_ev_g rfl rfl (decide_eq_true q3) (ev_fieldAddr fld_48_3 rfl) ?_
    refine runl_ev_g rfl rfl (decide_eq_true q3) (ev_load1 cell_9 rfl (eqw ((cells_all hb1).pick 34 rfl (Tgt.c34 ht)))) ?_
    refine runl_op_g rfl rfl (decide_eq_true q3) (t_call call_15 rfl (qname_any _ _ hs2)) ?_
    rintro _ w19 ⟨rfl, e19⟩
    have z19 := e19.size
    replace e := e.trans e19
    replace hb1 := e19.at hb1
    refine runl_ev (ev_pick rfl rfl rfl (if_pos (decide_eq_true q3))) ?_
    refine runl_ev (ev_move rfl) ?_
    refine runl_ev_g rfl rfl (q4) (ev_fieldAddr fld_48_4 rfl) ?_
    refine runl_ev_g rfl rfl (q4) (ev_load1 cell_3 rfl (eqw ((cells_all hb1).pick 35 rfl (Tgt.c35 ht)))) ?_
    refine runl_op_g rfl rfl (q4) (t_buildSlice (out := [.int .i64 t.ctr]) Tryd.underlying111 sz_3 zero_3 rfl rfl (by decide) (by decide) rfl (rfl)) ?_
    rintro _ w24 ⟨b24, rfl, hb24, e24, n24, l24⟩
    have z24 := e24.size
    replace e := e.trans e24
    replace hb1 := e24.at hb1
    refine runl_op_g rfl rfl (q4) (t_call call_38 rfl (rnums_any [t.ctr] _ _ _ _ (sl_lit (l := [t.ctr]) (R := RInt) hb24 (pc rfl pn)) (by simp))) ?_
    rintro _ w25 ⟨rfl, e25⟩
    rw [show [t.ctr].all numB = numB t.ctr by simp]
    have z25 := e25.size
    replace e := e.trans e25
    replace hb1 := e25.at hb1
    replace hb24 := e25.at hb24
    refine runl_ev (ev_pick rfl rfl rfl (if_pos (q4))) ?_
    refine runl_ev (ev_move rfl) ?_
    refine runl_ev_g rfl rfl (q5) (ev_fieldAddr fld_48_5 rfl) ?_
    refine runl_ev_g rfl rfl (q5) (ev_load1 cell_9 rfl (eqw ((cells_all hb1).pick 36 rfl (Tgt.c36 ht)))) ?_
    refine runl_ev_g rfl rfl (q5) (ev_eqlS rfl rfl) ?_
    refine runl_ev_g rfl rfl (q5) (ev_move rfl) ?_
    refine runl_ev_g rfl rfl (decide_eq_false q6) (ev_fieldAddr fld_48_5 rfl) ?_
    refine runl_ev_g rfl rfl (decide_eq_false q6) (ev_load1 cell_9 rfl (eqw ((cells_all hb1).pick 36 rfl (Tgt.c36 ht)))) ?_
    refine runl_op_g rfl rfl (decide_eq_false q6) (t_call call_15 rfl (qname_any _ _ hs3)) ?_
    rintro _ w34 ⟨rfl, e34⟩
    have z34 := e34.size
    replace e := e.trans e34
    replace hb1 := e34.at hb1
    replace hb24 := e34.at hb24
    refine runl_ev_g rfl rfl (q5) (ev_pick rfl rfl rfl (if_neg (by rw [decide_eq_false q6]; simp))) ?_
    refine runl_ev (ev_pick rfl rfl rfl (if_pos (q5))) ?_
    refine runl_ev (ev_assign rfl) ?_
    refine runl_nil ?_
    refine run_ret_any Tryd.func16 (res1 Tryd.results16 rfl) ?_
    exact ⟨by rw [isTgtB, q1, decide_eq_true q2, decide_eq_true q3, q4, q5, decide_eq_false q6] <;> rfl, e⟩
theorem rises_any (a b : Tgt) (ha : a.wf) (hb : b.wf) (w : World) : Ret Tryd.prog 69 [.agg ⟨a.cells⟩, .agg ⟨b.cells⟩] w fun r w' => r = .bool (riseB a b) ∧ Ext w w' := by
  have e := ExtB.refl (fun _ => False) w
  refine ret_of_run Tryd.func69 rfl Tryd.ntmps69 rfl ?_
  refine run_seq ?_
  refine run_region rfl ?_
  refine runl_op (t_boxA rfl) ?_
  rintro _ w2 ⟨b2, rfl, hb2, e2, n2, l2⟩
  have z2 := e2.size
  replace e := e.trans e2
  refine runl_op (t_boxA rfl) ?_
  rintro _ w3 ⟨b3, rfl, hb3, e3, n3, l3⟩
  have z3 := e3.size
  replace e := e.trans e3
  replace hb2 := e3.at hb2
  refine runl_ev (ev_assign rfl) ?_
  refine runl_nil ?_
  refine run_seq ?_
  have hcs : strLt a.name b.name = true ∨ (strLt a.name b.name = false ∧ a.name = b.name) ∨ (strLt a.name b.name = false ∧ ¬ a.name = b.name) := by
    by_cases h2 : a.name = b.name <;> cases strLt a.name b.name <;> simp [h2]
  rcases hcs with q1 | ⟨q1, q2⟩ | ⟨q1, q2⟩
  · refine run_region rfl ?_
    refine runl_ev (ev_fieldAddr fld_48_0 rfl) ?_
    refine runl_ev (ev_load1 cell_9 rfl (eqw (cell_blk hb2 rfl))) ?_
    refine runl_ev (ev_fieldAddr fld_48_0 rfl) ?_
    refine runl_ev (ev_load1 cell_9 rfl (eqw (cell_blk hb3 rfl))) ?_
    refine runl_ev (ev_lssS rfl rfl) ?_
    refine runl_ev (ev_move rfl) ?_
    refine runl_no_g rfl rfl (q1) ?_
    refine runl_no_g rfl rfl (q1) ?_
    refine runl_no_g rfl rfl (q1) ?_
    refine runl_no_g rfl rfl (q1) ?_
    refine runl_no_g rfl rfl (q1) ?_
    refine runl_no_g rfl rfl (q1) ?_
    refine runl_no_u rfl rfl ?_
    refine runl_no_u rfl rfl ?_
    refine runl_no_u rfl rfl ?_
    refine runl_no_u rfl rfl ?_
    refine runl_no_u rfl rfl ?_
    refine runl_no_g rfl rfl (q1) ?_
    refine runl_ev (ev_pick rfl rfl rfl (if_pos (q1))) ?_
    refine runl_ev (ev_assign rfl) ?_
    refine runl_nil ?_
    refine run_ret_any Tryd.func69 (res1 Tryd.results69 rfl) ?_
    exact ⟨by rw [riseB, q1] <;> rfl, e⟩
  · refine run_region rfl ?_
    refine runl_ev (ev_fieldAddr fld_48_0 rfl) ?_
    refine runl_ev (ev_load1 cell_9 rfl (eqw (cell_blk hb2 rfl))) ?_
    refine runl_ev (ev_fieldAddr fld_48_0 rfl) ?_
    refine runl_ev (ev_load1 cell_9 rfl (eqw (cell_blk hb3 rfl))) ?_
    refine runl_ev (ev_lssS rfl rfl) ?_
    refine runl_ev (ev_move rfl) ?_
    refine runl_ev_g rfl rfl (q1) (ev_fieldAddr fld_48_0 rfl) ?_
    refine runl_ev_g rfl rfl (q1) (ev_load1 cell_9 rfl (eqw (cell_blk hb2 rfl))) ?_
    refine runl_ev_g rfl rfl (q1) (ev_fieldAddr fld_48_0 rfl) ?_
    refine runl_ev_g rfl rfl (q1) (ev_load1 cell_9 rfl (eqw (cell_blk hb3 rfl))) ?_
    refine runl_ev_g rfl rfl (q1) (ev_eqlS rfl rfl) ?_
    refine runl_ev_g rfl rfl (q1) (ev_move rfl) ?_
    refine runl_ev_g rfl rfl (decide_eq_true q2) (ev_fieldAddr fld_48_5 rfl) ?_
    refine runl_ev_g rfl rfl (decide_eq_true q2) (ev_load1 cell_9 rfl (eqw ((cells_all hb2).pick 36 rfl (Tgt.c36 ha)))) ?_
    refine runl_ev_g rfl rfl (decide_eq_true q2) (ev_fieldAddr fld_48_5 rfl) ?_
    refine runl_ev_g rfl rfl (decide_eq_true q2) (ev_load1 cell_9 rfl (eqw ((cells_all hb3).pick 36 rfl (Tgt.c36 hb)))) ?_
    refine runl_ev_g rfl rfl (decide_eq_true q2) (ev_lssS rfl rfl) ?_
    refine runl_ev_g rfl rfl (q1) (ev_pick rfl rfl rfl (if_pos (decide_eq_true q2))) ?_
    refine runl_ev (ev_pick rfl rfl rfl (if_neg (by rw [q1]; simp))) ?_
    refine runl_ev (ev_assign rfl) ?_
    refine runl_nil ?_
    refine run_ret_any Tryd.func69 (res1 Tryd.results69 rfl) ?_
    exact ⟨by rw [riseB, q1, decide_eq_true q2] <;> rfl, e⟩
  · refine run_region rfl ?_
    refine runl_ev (ev_fieldAddr fld_48_0 rfl) ?_
    refine runl_ev (ev_load1 cell_9 rfl (eqw (cell_blk hb2 rfl))) ?_
    refine runl_ev (ev_fieldAddr fld_48_0 rfl) ?_
    refine runl_ev (ev_load1 cell_9 rfl (eqw (cell_blk hb3 rfl))) ?_
    refine runl_ev (ev_lssS rfl rfl) ?_
    refine runl_ev (ev_move rfl) ?_
    refine runl_ev_g rfl rfl (q1) (ev_fieldAddr fld_48_0 rfl) ?_
    refine runl_ev_g rfl rfl (q1) (ev_load1 cell_9 rfl (eqw (cell_blk hb2 rfl))) ?_
    refine runl_ev_g rfl rfl (q1) (ev_fieldAddr fld_48_0 rfl) ?_
    refine runl_ev_g rfl rfl (q1) (ev_load1 cell_9 rfl (eqw (cell_blk hb3 rfl))) ?_
    refine runl_ev_g rfl rfl (q1) (ev_eqlS rfl rfl) ?_
    refine runl_ev_g rfl rfl (q1) (ev_move rfl) ?_
    refine runl_no_g rfl rfl (decide_eq_false q2) ?_
    refine runl_no_g rfl rfl (decide_eq_false q2) ?_
    refine runl_no_g rfl rfl (decide_eq_false q2) ?_
    refine runl_no_g rfl rfl (decide_eq_false q2) ?_
    refine runl_no_g rfl rfl (decide_eq_false q2) ?_
    refine runl_ev_g rfl rfl (q1) (ev_pick rfl rfl rfl (if_neg (by rw [decide_eq_false q2]; simp))) ?_
    refine runl_ev (ev_pick rfl rfl rfl (if_neg (by rw [q1]; simp))) ?_
    refine runl_ev (ev_assign rfl) ?_
    refine runl_nil ?_
    refine run_ret_any Tryd.func69 (res1 Tryd.results69 rfl) ?_
    exact ⟨by rw [riseB, q1, decide_eq_false q2] <;> rfl, e⟩
theorem wtarget_any {l : List UInt8} {w0 w : World} {wb : Nat} {g : Int} {v : Value} {T : TypeId} (st : WSt T 5 w0 w wb g v l) (t : Tgt) (ht : t.wf) (hb : l.length + (encTgt t).length ≤ 1099511627776) : Ret Tryd.prog 43 [.pointer (some ⟨wb, 0, none⟩), .agg ⟨t.cells⟩] w (WP T 5 w0 w wb g l (encTgt t)) := by
  have e := ExtB.refl (fun _ => False) w
  have lwb := lt_of_at st.hw
  have hgl := st.hgl
  have h32 : t.sum.length = 32 := ht
  unfold encTgt at hb ⊢
  simp only [List.length_append] at hb
  refine ret_of_run Tryd.func43 rfl Tryd.ntmps43 rfl ?_
  refine run_seq ?_
  refine run_region rfl ?_
  refine runl_op (t_boxA rfl) ?_
  rintro _ w3 ⟨b3, rfl, hb3, e3, n3, l3⟩
  have z3 := e3.size
  replace e := e.trans e3
  refine runl_nil ?_
  refine run_seq ?_
  refine run_region rfl ?_
  refine runl_ev (ev_move rfl) ?_
  refine runl_ev (ev_fieldAddr fld_48_0 rfl) ?_
  refine runl_ev (ev_load1 cell_9 rfl (eqw (cell_blk hb3 rfl))) ?_
  refine runl_op (t_call call_41 rfl (wtext_any (st.up e) t.name (by omega))) ?_
  rintro _ w7 ⟨rfl, v7, g7, p7⟩
  have q7 := p7.from e
  have z7 := q7.extB.size
  have zz7 := p7.extB.size
  have hx7 : (b3 : Int) ≠ g7 := by rcases p7.new with h | h <;> omega
  replace hb3 := p7.extB.at hb3 (fun h => by rcases h with h | h <;> omega)
  clear e
  have e := ExtB.refl (fun _ => False) w7
  have hgl7 := q7.st.hgl
  have lwb7 := lt_of_at q7.st.hw
  refine runl_nil ?_
  refine run_seq ?_
  refine run_draw mo (fun w' => Ext w7 w') [6] [(true, 0), (true, 1), (true, 2), (true, 3), (true, 4), (false, 5), (false, 6)] (by kernel_rfl) ?_
  intro wr2 er2
  have zr2 := er2.size
  have hsr2 := er2
  have ep := e.trans er2
  have hb3p := er2.at hb3
  refine rund_ev hsr2 rfl (ev_move rfl) ?_
  refine rund_ev hsr2 rfl (ev_nilCheck rfl) ?_
  refine rund_ev hsr2 rfl (ev_fieldAddr fld_64_0 rfl) ?_
  refine rund_ev hsr2 rfl (ev_fieldAddr fld_48_1 rfl) ?_
  refine rund_ev hsr2 rfl (ev_load1 cell_3 rfl (fun wz hz => cell_blk (hz.at hb3) (Tgt.c1 t))) ?_
  refine rund_op rfl (t_buildSlice (out := [.int .i64 t.size]) Tryd.underlying111 sz_3 zero_3 rfl rfl (by decide) (by decide) rfl (rfl)) ?_
  rintro _ w13 ⟨b13, rfl, hb13, e13, n13, l13⟩
  have z13 := e13.size
  replace ep := ep.trans e13
  replace hb3p := e13.at hb3p
  have hs13 := hsr2.trans e13
  refine ⟨hs13, ?_⟩
  have hb13p := hb13
  refine rund_opT rfl rfl (t_call call_22 rfl (wnums_any (q7.st.up ep) [t.size] _ _ _ (sl_lit (l := [t.size]) (R := RInt) hb13p (pc rfl pn)) (fun b o h => by cases h; exact ⟨by omega, by omega⟩) (by simp) (by rw [encNs_one]; simp only [List.length_append]; omega))) ?_
  rintro _ w14 ⟨rfl, v14, g14, p14⟩
  rw [encNs_one] at p14
  have q14 := q7.trans st.hgl (p14.from ep)
  have z14 := q14.extB.size
  have zz14 := p14.extB.size
  have hx14 : (b3 : Int) ≠ g14 := by rcases p14.new with h | h <;> omega
  replace hb3p := p14.extB.at hb3p (fun h => by rcases h with h | h <;> omega)
  refine rund_nil ?_
  replace hb3 := hb3p
  clear hb3p
  refine run_seq ?_
  refine run_region rfl ?_
  refine runl_ev (ev_move rfl) ?_
  refine runl_ev (ev_fieldAddr fld_48_2 rfl) ?_
  refine runl_ev (ev_loadA agg_29 (by rw [hcells_length]; exact ht) rfl (eqw ((cells_all hb3).seg (hcells t.sum) 2 (by omega) (Tgt.sumdrop' ht)))) ?_
  refine runl_op (t_call call_23 rfl (whash_any q14.st t.sum ht (by simp only [List.length_append]; omega))) ?_
  rintro _ w18 ⟨rfl, v18, g18, p18⟩
  have q18 := q14.trans st.hgl p18
  have z18 := q18.extB.size
  have zz18 := p18.extB.size
  have hx18 : (b3 : Int) ≠ g18 := by rcases p18.new with h | h <;> omega
  have hgl14 := q14.st.hgl
  have lwb14 := lt_of_at q14.st.hw
  replace hb3 := p18.extB.at hb3 (fun h => by rcases h with h | h <;> omega)
  refine runl_nil ?_
  refine run_seq ?_
  refine run_region rfl ?_
  refine runl_ev (ev_move rfl) ?_
  refine runl_ev (ev_fieldAddr fld_48_3 rfl) ?_
  refine runl_ev (ev_load1 cell_9 rfl (eqw ((cells_all hb3).pick 34 rfl (Tgt.c34 ht)))) ?_
  refine runl_op (t_call call_41 rfl (wtext_any q18.st t.hw (by simp only [List.length_append]; omega))) ?_
  rintro _ w22 ⟨rfl, v22, g22, p22⟩
  have q22 := q18.trans st.hgl p22
  have z22 := q22.extB.size
  have zz22 := p22.extB.size
  have hx22 : (b3 : Int) ≠ g22 := by rcases p22.new with h | h <;> omega
  have hgl18 := q18.st.hgl
  have lwb18 := lt_of_at q18.st.hw
  replace hb3 := p22.extB.at hb3 (fun h => by rcases h with h | h <;> omega)
  have e := ExtB.refl (fun _ => False) w22
  have hgl22 := q22.st.hgl
  have lwb22 := lt_of_at q22.st.hw
  refine runl_nil ?_
  refine run_seq ?_
  refine run_draw mo (fun w' => Ext w22 w') [6] [(true, 0), (true, 1), (true, 2), (true, 3), (true, 4), (false, 5), (false, 6)] (by kernel_rfl) ?_
  intro wr5 er5
  have zr5 := er5.size
  have hsr5 := er5
  have hb3p := er5.at hb3
  have ep := e.trans er5
  refine rund_ev hsr5 rfl (ev_move rfl) ?_
  refine rund_ev hsr5 rfl (ev_nilCheck rfl) ?_
  refine rund_ev hsr5 rfl (ev_fieldAddr fld_64_0 rfl) ?_
  refine rund_ev hsr5 rfl (ev_fieldAddr fld_48_4 rfl) ?_
  refine rund_ev hsr5 rfl (ev_load1 cell_3 rfl (fun wz hz => (cells_all (hz.at hb3)).pick 35 rfl (Tgt.c35 ht))) ?_
  refine rund_op rfl (t_buildSlice (out := [.int .i64 t.ctr]) Tryd.underlying111 sz_3 zero_3 rfl rfl (by decide) (by decide) rfl (rfl)) ?_
  rintro _ w28 ⟨b28, rfl, hb28, e28, n28, l28⟩
  have z28 := e28.size
  replace hb3p := e28.at hb3p
  replace ep := ep.trans e28
  have hs28 := hsr5.trans e28
  refine ⟨hs28, ?_⟩
  have hb28p := hb28
  refine rund_opT rfl rfl (t_call call_22 rfl (wnums_any (q22.st.up ep) [t.ctr] _ _ _ (sl_lit (l := [t.ctr]) (R := RInt) hb28p (pc rfl pn)) (fun b o h => by cases h; exact ⟨by omega, by omega⟩) (by simp) (by rw [encNs_one]; simp only [List.length_append]; omega))) ?_
  rintro _ w29 ⟨rfl, v29, g29, p29⟩
  rw [encNs_one] at p29
  have q29 := q22.trans st.hgl (p29.from ep)
  have z29 := q29.extB.size
  have zz29 := p29.extB.size
  have hx29 : (b3 : Int) ≠ g29 := by rcases p29.new with h | h <;> omega
  replace hb3p := p29.extB.at hb3p (fun h => by rcases h with h | h <;> omega)
  refine rund_nil ?_
  replace hb3 := hb3p
  clear hb3p
  refine run_region rfl ?_
  refine runl_ev (ev_move rfl) ?_
  refine runl_ev (ev_fieldAddr fld_48_5 rfl) ?_
  refine runl_ev (ev_load1 cell_9 rfl (eqw ((cells_all hb3).pick 36 rfl (Tgt.c36 ht)))) ?_
  refine runl_op (t_call call_41 rfl (wtext_any q29.st t.ecu (by simp only [List.length_append]; omega))) ?_
  rintro _ w33 ⟨rfl, v33, g33, p33⟩
  have q33 := q29.trans st.hgl p33
  have z33 := q33.extB.size
  refine runl_nil ?_
  refine run_end_any Tryd.func43 (res0 Tryd.results43) ?_
  simp only [List.append_assoc] at q33
  exact ⟨rfl, v33, g33, q33⟩
theorem wrowsT_any {l : List UInt8} {w0 w : World} {wb : Nat} {g : Int} {v : Value} {T : TypeId} (st : WSt T 5 w0 w wb g v l) (xs : List Tgt) (a : Option Addr) (n c : Nat) (hs : SlAt 37 RTgt w0 (.slice a n c) xs) (hxl : xs.length ≤ 1099511627776) (hb : l.length + (encN xs.length ++ xs.flatMap encTgt).length ≤ 1099511627776) :
    Ret Tryd.prog 42 [.pointer (some ⟨wb, 0, none⟩), .func (.func 43) #[] #[], .slice a n c] w (WP T 5 w0 w wb g l (encN xs.length ++ xs.flatMap encTgt)) := by
  have e := ExtB.refl (fun _ => False) w
  have lwb := lt_of_at st.hw
  have hgl := st.hgl
  have hs0 := hs
  obtain ⟨rfl, hat⟩ := hs.at
  rw [List.length_append] at hb
  refine ret_of_run Tryd.func42 rfl Tryd.ntmps42 rfl ?_
  refine run_seq ?_
  refine run_region rfl ?_
  refine runl_ev (ev_move rfl) ?_
  refine runl_ev (ev_nilCheck rfl) ?_
  refine runl_ev (ev_fieldAddr fld_64_0 rfl) ?_
  refine runl_ev (ev_move rfl) ?_
  refine runl_ev (ev_lenL sl_51 rfl) ?_
  refine runl_op (t_buildSlice (out := [.int .i64 (xs.length : Int)]) Tryd.underlying111 sz_3 zero_3 rfl rfl (by decide) (by decide) rfl (rfl)) ?_
  rintro _ w13 ⟨b13, rfl, hb13, e13, n13, l13⟩
  have z13 := e13.size
  replace e := e.trans e13
  refine runl_op (t_call call_22 rfl (wnums_any (st.up e) [(xs.length : Int)] _ _ _ (sl_lit (l := [(xs.length : Int)]) (R := RInt) hb13 (pc rfl pn)) (fun b o h => by cases h; exact ⟨by omega, by omega⟩) (by simp) (by rw [encNs_one]; omega))) ?_
  rintro _ w14 ⟨rfl, v14, g14, p14⟩
  have q14 := p14.from e
  rw [encNs_one] at q14
  have z14 := q14.extB.size
  refine runl_nil ?_
  refine run_seq ?_
  refine run_region rfl ?_
  refine runl_ev (ev_move rfl) ?_
  refine runl_ev (ev_lenL sl_51 rfl) ?_
  refine runl_ev (ev_move rfl) ?_
  refine runl_nil ?_
  refine run_block ?_
  refine run_loop (ι := Nat × Value × Int) (fun x => [(0, .pointer (some ⟨wb, 0, none⟩)), (1, .func (.func 43) #[] #[]), (15, .slice a xs.length c), (16, .int .i64 (xs.length : Int)), (17, .int .i64 (x.1 : Int))]) (fun x w' => x.1 ≤ xs.length ∧ WPost T 5 w0 w wb g l (encN xs.length ++ (xs.take x.1).flatMap encTgt) x.2.1 x.2.2 w') (fun x => xs.length - x.1) ((0, v14, g14)) ⟨rfl, rfl, rfl, rfl, rfl, trivial⟩ (⟨Nat.zero_le _, by simpa using q14⟩) ?_
  clear q14 p14 e
  intro ⟨k, v1, g1⟩ w1 ⟨hk, po⟩ IH
  simp only at hk po
  have e := ExtB.refl (fun _ => False) w1
  have lwb1 := lt_of_at po.st.hw
  have hgl1 := po.st.hgl
  have hpz := po.extB.size
  refine run_seq ?_
  refine run_region rfl ?_
  refine runl_ev (ev_lss rfl rfl) ?_
  refine runl_nil ?_
  refine run_seq ?_
  refine run_dcond rfl (fun h0 => ?_) (fun h0 => ?_)
  · have hk1 : k < xs.length := by omega
    obtain ⟨b1, o1, cs1, rfl, hr1, hc1⟩ := hat k hk1
    have hcl1 := rtgt_len _ _ _ hr1
    have hone1 := rtgt_one _ _ hr1
    have htk := flat_take (f := encTgt) hk1
    have htl := flat_take_le (f := encTgt) (l := xs) (k + 1)
    rw [htk, List.length_append] at htl
    have htl0 : (l ++ (encN (xs.length : Int) ++ (xs.take k).flatMap encTgt)).length = l.length + (encN (xs.length : Int)).length + ((xs.take k).flatMap encTgt).length := by simp only [List.length_append]; omega
    obtain ⟨hwf1, rfl⟩ := hr1
    refine run_skip ?_
    refine run_seq ?_
    refine run_block ?_
    refine run_seq ?_
    refine run_region rfl ?_
    refine runl_ev (ev_indexAddr el_51 rfl rfl (by omega)) ?_
    refine runl_ev (ev_loadA agg_48 hcl1 rfl (eqw (hc1.ext (po.st.ext.trans e)))) ?_
    refine runl_op (t_alloc zero_48 rfl) ?_
    rintro _ w7 ⟨b7, rfl, hb7, e7, n7, l7⟩
    have z7 := e7.size
    replace e := e.trans e7
    refine runl_do (t_storeW sz_48 rfl rfl hcl1 rfl hb7 (hone1)) ?_
    rintro _ v3_3 ⟨hq3_3, e3_3, z3_3⟩
    replace e := e.new1 e3_3 (by omega)
    replace hb7 := hq3_3
    clear hq3_3
    refine runl_nil ?_
    refine run_region rfl ?_
    refine runl_ev (ev_move rfl) ?_
    refine runl_ev (ev_move rfl) ?_
    refine runl_ev (ev_loadA agg_48 hcl1 rfl (eqw (cells_all hb7))) ?_
    refine runl_op (t_callv call_43 rfl rfl (wtarget_any (po.st.up e) xs[k] hwf1 (by omega))) ?_
    rintro _ w24 ⟨rfl, v24, g24, p24⟩
    have q24 := po.trans hgl (p24.from e)
    have z24 := q24.extB.size
    refine runl_nil ?_
    refine run_inBlock ?_
    refine run_region rfl ?_
    refine runl_ev (ev_add rfl rfl (by omega) (by omega)) ?_
    refine runl_ev (ev_move rfl) ?_
    refine runl_nil ?_
    refine IH (k + 1, v24, g24) _ _ (by simp only; omega) ⟨rfl, rfl, rfl, rfl, rfl, trivial⟩ ⟨hk1, ?_⟩
    simp only
    rw [htk, ← List.append_assoc]
    exact q24
  · obtain rfl : k = xs.length := by omega
    rw [List.take_length] at po
    refine run_exit rfl ?_
    refine run_end_any Tryd.func42 (res0 Tryd.results42) ?_
    exact ⟨rfl, v1, g1, po⟩
theorem wrowsD_any {l : List UInt8} {w0 w : World} {wb : Nat} {g : Int} {v : Value} {T : TypeId} (st : WSt T 5 w0 w wb g v l) (fd : FuncId) (hb : l.length + (encN 0).length ≤ 1099511627776) : Ret Tryd.prog 44 [.pointer (some ⟨wb, 0, none⟩), .func (.func fd) #[] #[], .slice none 0 0] w (WP T 5 w0 w wb g l (encN 0)) := by
  have e := ExtB.refl (fun _ => False) w
  have lwb := lt_of_at st.hw
  have hgl := st.hgl
  refine ret_of_run Tryd.func44 rfl Tryd.ntmps44 rfl ?_
  refine run_seq ?_
  refine run_region rfl ?_
  refine runl_ev (ev_move rfl) ?_
  refine runl_ev (ev_nilCheck rfl) ?_
  refine runl_ev (ev_fieldAddr fld_64_0 rfl) ?_
  refine runl_ev (ev_move rfl) ?_
  refine runl_ev (ev_lenL sl_52 rfl) ?_
  refine runl_op (t_buildSlice (out := [.int .i64 0]) Tryd.underlying111 sz_3 zero_3 rfl rfl (by decide) (by decide) rfl (rfl)) ?_
  rintro _ w13 ⟨b13, rfl, hb13, e13, n13, l13⟩
  have z13 := e13.size
  replace e := e.trans e13
  refine runl_op (t_call call_22 rfl (wnums_any (st.up e) [0] _ _ _ (sl_lit (l := [0]) (R := RInt) hb13 (pc rfl pn)) (fun b o h => by cases h; exact ⟨by omega, by omega⟩) (by simp) (by rw [encNs_one]; omega))) ?_
  rintro _ w14 ⟨rfl, v14, g14, p14⟩
  have q14 := p14.from e
  rw [encNs_one] at q14
  have z14 := q14.extB.size
  refine runl_nil ?_
  refine run_seq ?_
  refine run_region rfl ?_
  refine runl_ev (ev_move rfl) ?_
  refine runl_ev (ev_lenL sl_52 rfl) ?_
  refine runl_ev (ev_move rfl) ?_
  refine runl_nil ?_
  refine run_block ?_
  refine run_loop (ι := Unit) (fun _ => [(16, .int .i64 0), (17, .int .i64 0)]) (fun _ w' => WPost T 5 w0 w wb g l (encN 0) v14 g14 w') (fun _ => 0) (()) ⟨rfl, rfl, trivial⟩ (q14) ?_
  clear q14 p14
  intro _ w1 q14 IH
  refine run_seq ?_
  refine run_region rfl ?_
  refine runl_ev (ev_lss rfl rfl) ?_
  refine runl_nil ?_
  refine run_seq ?_
  refine run_cond_false rfl (by decide) ?_
  refine run_exit rfl ?_
  refine run_end_any Tryd.func44 (res0 Tryd.results44) ?_
  exact ⟨rfl, v14, g14, q14⟩
end Go.Proofs.YtcmbiaibocdfeaaDoor

/- The walks of which targets may be, of what encodes them, and of the law on order. -/
import Derived.Test.YtcmbiaibocdfeaaDoorWireT1
namespace Go.Proofs.YtcmbiaibocdfeaaDoor
open Go Go.Fw
set_option maxRecDepth 100000

theorem istgs_any (x : List Tgt) (a : Option Addr) (c : Nat) (w : World) (hl : SlAt 37 RTgt w (.slice a x.length c) x) (hn : x.length ≤ 16) : Ret Tryd.prog 39 [.agg ⟨[.string ⟨#[116]⟩, .int .i64 1, .int .i64 0, .slice a x.length c, .slice none 0 0]⟩] w fun v w' => v = .bool (isTgsB x) ∧ Ext w w' := by
  have e := ExtB.refl (fun _ => False) w
  refine ret_of_run Tryd.func39 rfl Tryd.ntmps39 rfl ?_
  refine run_seq ?_
  refine run_region rfl ?_
  refine runl_op (t_boxA rfl) ?_
  rintro _ w1 ⟨b1, rfl, hb1, e1, n1, l1⟩
  have z1 := e1.size
  replace e := e.trans e1
  refine runl_ev (ev_assign rfl) ?_
  refine runl_nil ?_
  refine run_seq ?_
  refine run_seq ?_
  refine run_region rfl ?_
  refine runl_ev (ev_fieldAddr fld_54_0 rfl) ?_
  refine runl_ev (ev_load1 cell_9 rfl (eqw (cell_blk hb1 rfl))) ?_
  refine runl_op (t_call call_7 rfl (name_any _ _)) ?_
  rintro _ w9 ⟨rfl, e9⟩
  rw [name_t]
  have z9 := e9.size
  replace e := e.trans e9
  replace hb1 := e9.at hb1
  refine runl_ev (ev_not rfl) ?_
  refine runl_ev (ev_move rfl) ?_
  refine runl_ev_g rfl rfl (rfl) (ev_fieldAddr fld_54_1 rfl) ?_
  refine runl_ev_g rfl rfl (rfl) (ev_load1 cell_3 rfl (eqw (cell_blk hb1 rfl))) ?_
  refine runl_op_g rfl rfl (rfl) (t_call call_54 rfl (isver_any _ _)) ?_
  rintro _ w14 ⟨rfl, e14⟩
  rw [show verB 1 = true by decide]
  have z14 := e14.size
  replace e := e.trans e14
  replace hb1 := e14.at hb1
  refine runl_ev_g rfl rfl (rfl) (ev_not rfl) ?_
  refine runl_ev (ev_pick rfl rfl rfl (if_neg (by simp))) ?_
  refine runl_ev (ev_move rfl) ?_
  refine runl_ev_g rfl rfl (rfl) (ev_fieldAddr fld_54_2 rfl) ?_
  refine runl_ev_g rfl rfl (rfl) (ev_load1 cell_3 rfl (eqw (cell_blk hb1 rfl))) ?_
  refine runl_op_g rfl rfl (rfl) (t_call call_55 rfl (isnum_any _ _)) ?_
  rintro _ w20 ⟨rfl, e20⟩
  rw [show numB 0 = true by decide]
  have z20 := e20.size
  replace e := e.trans e20
  replace hb1 := e20.at hb1
  refine runl_ev_g rfl rfl (rfl) (ev_not rfl) ?_
  refine runl_ev (ev_pick rfl rfl rfl (if_neg (by simp))) ?_
  refine runl_ev (ev_move rfl) ?_
  refine runl_ev_g rfl rfl (rfl) (ev_fieldAddr fld_54_3 rfl) ?_
  refine runl_ev_g rfl rfl (rfl) (ev_load1 cell_51 rfl (eqw (cell_blk hb1 rfl))) ?_
  refine runl_ev_g rfl rfl (rfl) (ev_lenL sl_51 rfl) ?_
  refine runl_ev_g rfl rfl (rfl) (ev_gtr rfl rfl) ?_
  refine runl_ev (ev_pick rfl rfl rfl (if_neg (by simp))) ?_
  refine runl_ev (ev_move rfl) ?_
  refine runl_ev_g rfl rfl (decide_eq_false (by omega)) (ev_fieldAddr fld_54_4 rfl) ?_
  refine runl_ev_g rfl rfl (decide_eq_false (by omega)) (ev_load1 cell_52 rfl (eqw (cell_blk hb1 rfl))) ?_
  refine runl_ev_g rfl rfl (decide_eq_false (by omega)) (ev_lenL sl_52 rfl) ?_
  refine runl_ev_g rfl rfl (decide_eq_false (by omega)) (ev_gtr rfl rfl) ?_
  refine runl_ev (ev_pick rfl rfl rfl (if_neg (by simp; omega))) ?_
  refine runl_nil ?_
  refine run_cond_false rfl (rfl) ?_
  refine run_skip ?_
  refine run_seq ?_
  refine run_seq ?_
  refine run_region rfl ?_
  refine runl_ev (ev_fieldAddr fld_54_3 rfl) ?_
  refine runl_ev (ev_load1 cell_51 rfl (eqw (cell_blk hb1 rfl))) ?_
  refine runl_ev (ev_lenL sl_51 rfl) ?_
  refine runl_ev (ev_move rfl) ?_
  refine runl_nil ?_
  refine run_block ?_
  refine run_loop (ι := Nat) (fun k => [(1, .pointer (some ⟨b1, 0, none⟩)), (36, .slice a x.length c), (37, .int .i64 (x.length : Int)), (38, .int .i64 (k : Int))]) (fun k w' => k ≤ x.length ∧ (List.range k).all (tgtAt x) = true ∧ w'.heap[b1]? = some (.cells ⟨[.string ⟨#[116]⟩, .int .i64 1, .int .i64 0, .slice a x.length c, .slice none 0 0]⟩ 54 (0, 0)) ∧ Ext w w') (fun k => x.length - k) (0) ⟨rfl, rfl, rfl, rfl, trivial⟩ (⟨Nat.zero_le _, rfl, hb1, e⟩) ?_
  clear e hb1
  intro k w1 ⟨hk, hall, hb1, e⟩ IH
  have lb1 := lt_of_at hb1
  refine run_seq ?_
  refine run_region rfl ?_
  refine runl_ev (ev_lss rfl rfl) ?_
  refine runl_nil ?_
  refine run_seq ?_
  refine run_dcond rfl (fun h1 => ?_) (fun h1 => ?_)
  · have hk1 : k < x.length := by omega
    obtain ⟨bA, oA, cA, rfl, ⟨hwA, rfl⟩, hcA⟩ := hl.at.2 k hk1
    have hpa := tgtAt_eq hk1
    have hcl := Tgt.cells_length hwA
    refine run_skip ?_
    refine run_seq ?_
    refine run_block ?_
    refine run_seq ?_
    refine run_region rfl ?_
    refine runl_ev (ev_move rfl) ?_
    refine runl_ev (ev_indexAddr el_51 rfl rfl (by omega)) ?_
    refine runl_ev (ev_loadA agg_48 hcl rfl (eqw (hcA.ext e))) ?_
    refine runl_op (t_alloc zero_48 rfl) ?_
    rintro _ w4 ⟨b4, rfl, hb4, e4, n4, l4⟩
    have z4 := e4.size
    replace e := e.trans e4
    replace hb1 := e4.at hb1
    refine runl_ev (ev_assign rfl) ?_
    refine runl_do (t_storeW sz_48 rfl rfl hcl rfl hb4 ((Tgt.one _))) ?_
    rintro _ v5_5 ⟨hq5_5, e5_5, z5_5⟩
    replace e := e.new1 e5_5 (by omega)
    replace hb1 := e5_5.at1 hb1 (by omega)
    replace hb4 := hq5_5
    clear hq5_5
    refine runl_nil ?_
    refine run_seq ?_
    have hcs : isTgtB x[k] = false ∨ (isTgtB x[k] = true ∧ k = 0) ∨ (isTgtB x[k] = true ∧ 0 < k) := by
      cases isTgtB x[k] <;> simp <;> omega
    rcases hcs with q1 | ⟨q1, rfl⟩ | ⟨q1, q3⟩
    · have hno : tgtAt x k = false := by rw [hpa, q1]; rfl
      refine run_draw mo (fun w' => Ext v5_5 w') [] [(true, 0), (false, 1), (true, 2), (true, 3), (true, 4), (true, 5), (true, 6), (true, 7), (true, 8), (true, 9), (true, 10), (true, 11), (true, 12), (true, 13), (false, 14), (true, 15), (true, 16), (true, 17)] (by kernel_rfl) ?_
      intro wr6 er6
      have zr6 := er6.size
      have hsr6 := er6
      have ep := e.trans er6
      have hb1p := er6.at hb1
      have hb4p := er6.at hb4
      refine rund_ev hsr6 rfl (ev_loadA agg_48 hcl rfl (fun wz hz => cells_all (hz.at hb4))) ?_
      refine rund_op rfl (t_call call_68 rfl (istarget_any _ hwA _)) ?_
      rintro _ w44 ⟨rfl, e44⟩
      have z44 := e44.size
      replace ep := ep.trans e44
      replace hb1p := e44.at hb1p
      replace hb4p := e44.at hb4p
      have hs44 := hsr6.trans e44
      refine ⟨hs44, ?_⟩
      refine rund_ev hs44 rfl (ev_not rfl) ?_
      refine rund_ev hs44 rfl (ev_move rfl) ?_
      refine rund_no_g hs44 rfl rfl rfl (by rw [q1] <;> rfl) ?_
      refine rund_no_g hs44 rfl rfl rfl (by rw [q1] <;> rfl) ?_
      refine rund_no_g hs44 rfl rfl rfl (by rw [q1] <;> rfl) ?_
      refine rund_no_u hs44 rfl rfl rfl ?_
      refine rund_no_u hs44 rfl rfl rfl ?_
      refine rund_no_u hs44 rfl rfl rfl ?_
      refine rund_no_u hs44 rfl rfl rfl ?_
      refine rund_no_u hs44 rfl rfl rfl ?_
      refine rund_no_u hs44 rfl rfl rfl ?_
      refine rund_no_u hs44 rfl rfl rfl ?_
      refine rund_no_uf rfl rfl rfl hs44 ?_
      refine rund_no_u hs44 rfl rfl rfl ?_
      refine rund_no_g hs44 rfl rfl rfl (by rw [q1] <;> rfl) ?_
      refine rund_ev hs44 rfl (ev_pick rfl rfl rfl (if_pos (by rw [q1] <;> rfl))) ?_
      refine rund_nil ?_
      replace e := ep
      clear ep
      replace hb1 := hb1p
      clear hb1p
      replace hb4 := hb4p
      clear hb4p
      refine run_cond_true rfl (rfl) ?_
      refine run_seq ?_
      refine run_region rfl ?_
      refine runl_ev (ev_assign rfl) ?_
      refine runl_nil ?_
      refine run_ret_any Tryd.func39 (res1 Tryd.results39 rfl) ?_
      exact ⟨by rw [tgs_no hk1 hno], e⟩
    · have hyes : tgtAt x 0 = true := by rw [hpa, q1]; rfl
      refine run_draw mo (fun w' => Ext v5_5 w') [] [(true, 0), (false, 1), (true, 2), (true, 3), (true, 4), (true, 5), (true, 6), (true, 7), (true, 8), (true, 9), (true, 10), (true, 11), (true, 12), (true, 13), (false, 14), (true, 15), (true, 16), (true, 17)] (by kernel_rfl) ?_
      intro wr6 er6
      have zr6 := er6.size
      have hsr6 := er6
      have ep := e.trans er6
      have hb1p := er6.at hb1
      have hb4p := er6.at hb4
      refine rund_ev hsr6 rfl (ev_loadA agg_48 hcl rfl (fun wz hz => cells_all (hz.at hb4))) ?_
      refine rund_op rfl (t_call call_68 rfl (istarget_any _ hwA _)) ?_
      rintro _ w44 ⟨rfl, e44⟩
      have z44 := e44.size
      replace ep := ep.trans e44
      replace hb1p := e44.at hb1p
      replace hb4p := e44.at hb4p
      have hs44 := hsr6.trans e44
      refine ⟨hs44, ?_⟩
      refine rund_ev hs44 rfl (ev_not rfl) ?_
      refine rund_ev hs44 rfl (ev_move rfl) ?_
      refine rund_ev_g hs44 rfl rfl rfl (by rw [q1] <;> rfl) (ev_move rfl) ?_
      refine rund_ev_g hs44 rfl rfl rfl (by rw [q1] <;> rfl) (ev_gtr rfl rfl) ?_
      refine rund_ev_g hs44 rfl rfl rfl (by rw [q1] <;> rfl) (ev_move rfl) ?_
      refine rund_no_g hs44 rfl rfl rfl (by decide) ?_
      refine rund_no_g hs44 rfl rfl rfl (by decide) ?_
      refine rund_no_g hs44 rfl rfl rfl (by decide) ?_
      refine rund_no_g hs44 rfl rfl rfl (by decide) ?_
      refine rund_no_g hs44 rfl rfl rfl (by decide) ?_
      refine rund_no_g hs44 rfl rfl rfl (by decide) ?_
      refine rund_no_g hs44 rfl rfl rfl (by decide) ?_
      refine rund_no_gf rfl rfl rfl (by decide) hs44 ?_
      refine rund_no_g hs44 rfl rfl rfl (by decide) ?_
      refine rund_ev_g hs44 rfl rfl rfl (by rw [q1] <;> rfl) (ev_pick rfl rfl rfl (if_neg (by decide))) ?_
      refine rund_ev hs44 rfl (ev_pick rfl rfl rfl (if_neg (by rw [q1]; simp))) ?_
      refine rund_nil ?_
      replace e := ep
      clear ep
      replace hb1 := hb1p
      clear hb1p
      replace hb4 := hb4p
      clear hb4p
      refine run_cond_false rfl (rfl) ?_
      refine run_skip ?_
      refine run_inBlock ?_
      refine run_region rfl ?_
      refine runl_ev (ev_add rfl rfl (by omega) (by omega)) ?_
      refine runl_ev (ev_move rfl) ?_
      refine runl_nil ?_
      exact IH (0 + 1) _ _ (by omega) ⟨rfl, rfl, rfl, rfl, trivial⟩ ⟨by omega, range_succ_all hall hyes, hb1, e⟩
    · obtain ⟨bB, oB, cB, heB, ⟨hwB, rfl⟩, hcB⟩ := hl.at.2 (k - 1) (by omega)
      cases heB
      have hclB := Tgt.cells_length hwB
      refine run_draw mo (fun w' => Ext v5_5 w') [] [(true, 0), (false, 1), (true, 2), (true, 3), (true, 4), (true, 5), (true, 6), (true, 7), (true, 8), (true, 9), (true, 10), (true, 11), (true, 12), (true, 13), (false, 14), (true, 15), (true, 16), (true, 17)] (by kernel_rfl) ?_
      intro wr6 er6
      have zr6 := er6.size
      have hsr6 := er6
      have ep := e.trans er6
      have hb1p := er6.at hb1
      have hb4p := er6.at hb4
      refine rund_ev hsr6 rfl (ev_loadA agg_48 hcl rfl (fun wz hz => cells_all (hz.at hb4))) ?_
      refine rund_op rfl (t_call call_68 rfl (istarget_any _ hwA _)) ?_
      rintro _ w44 ⟨rfl, e44⟩
      have z44 := e44.size
      replace ep := ep.trans e44
      replace hb1p := e44.at hb1p
      replace hb4p := e44.at hb4p
      have hs44 := hsr6.trans e44
      refine ⟨hs44, ?_⟩
      refine rund_ev hs44 rfl (ev_not rfl) ?_
      refine rund_ev hs44 rfl (ev_move rfl) ?_
      refine rund_ev_g hs44 rfl rfl rfl (by rw [q1] <;> rfl) (ev_move rfl) ?_
      refine rund_ev_g hs44 rfl rfl rfl (by rw [q1] <;> rfl) (ev_gtr rfl rfl) ?_
      refine rund_ev_g hs44 rfl rfl rfl (by rw [q1] <;> rfl) (ev_move rfl) ?_
      refine rund_ev_g hs44 rfl rfl rfl (decide_eq_true (by omega)) (ev_fieldAddr fld_54_3 rfl) ?_
      refine rund_ev_g hs44 rfl rfl rfl (decide_eq_true (by omega)) (ev_load1 cell_51 rfl (fun wz hz => cell_blk (hz.at hb1) rfl)) ?_
      refine rund_ev_g hs44 rfl rfl rfl (decide_eq_true (by omega)) (ev_move rfl) ?_
      refine rund_ev_g hs44 rfl rfl rfl (decide_eq_true (by omega)) (ev_subK (((k - 1 : Nat) : Int)) rfl rfl (by rw [show ((k : Int) - 1) = ((k - 1 : Nat) : Int) by omega]; exact wrap_i64 (by omega) (by omega))) ?_
      refine rund_ev_g hs44 rfl rfl rfl (decide_eq_true (by omega)) (ev_indexAddr (k := k - 1) el_51 rfl rfl (by omega)) ?_
      refine rund_ev_g hs44 rfl rfl rfl (decide_eq_true (by omega)) (ev_loadA agg_48 hclB rfl (fun wz hz => hcB.ext (e.trans hz))) ?_
      refine rund_ev_g hs44 rfl rfl rfl (decide_eq_true (by omega)) (ev_loadA agg_48 hcl rfl (fun wz hz => cells_all (hz.at hb4))) ?_
      refine rund_op_g rfl rfl rfl (decide_eq_true (by omega)) (t_call call_69 rfl (rises_any (x[k - 1]'(by omega)) x[k] hwB hwA _)) ?_
      rintro _ w57 ⟨rfl, e57⟩
      have z57 := e57.size
      replace ep := ep.trans e57
      replace hb1p := e57.at hb1p
      replace hb4p := e57.at hb4p
      have hs57 := hs44.trans e57
      refine ⟨hs57, ?_⟩
      refine rund_ev_g hs57 rfl rfl rfl (decide_eq_true (by omega)) (ev_not rfl) ?_
      refine rund_ev_g hs57 rfl rfl rfl (by rw [q1] <;> rfl) (ev_pick rfl rfl rfl (if_pos (decide_eq_true (by omega)))) ?_
      refine rund_ev hs57 rfl (ev_pick rfl rfl rfl (if_neg (by rw [q1]; simp))) ?_
      refine rund_nil ?_
      replace e := ep
      clear ep
      replace hb1 := hb1p
      clear hb1p
      replace hb4 := hb4p
      clear hb4p
      refine run_cond_split rfl (fun h2 => ?_) (fun h2 => ?_)
      · have hno : tgtAt x k = false := by rw [hpa, q1, decide_eq_false (by omega : ¬ k = 0)]; simpa using h2
        refine run_seq ?_
        refine run_region rfl ?_
        refine runl_ev (ev_assign rfl) ?_
        refine runl_nil ?_
        refine run_ret_any Tryd.func39 (res1 Tryd.results39 rfl) ?_
        exact ⟨by rw [tgs_no hk1 hno], e⟩
      · have hyes : tgtAt x k = true := by rw [hpa, q1, decide_eq_false (by omega : ¬ k = 0)]; simpa using h2
        refine run_skip ?_
        refine run_inBlock ?_
        refine run_region rfl ?_
        refine runl_ev (ev_add rfl rfl (by omega) (by omega)) ?_
        refine runl_ev (ev_move rfl) ?_
        refine runl_nil ?_
        exact IH (k + 1) _ _ (by omega) ⟨rfl, rfl, rfl, rfl, trivial⟩ ⟨by omega, range_succ_all hall hyes, hb1, e⟩
  · obtain rfl : k = x.length := by omega
    refine run_exit rfl ?_
    refine run_seq ?_
    refine run_seq ?_
    refine run_region rfl ?_
    refine runl_ev (ev_fieldAddr fld_54_4 rfl) ?_
    refine runl_ev (ev_load1 cell_52 rfl (eqw (cell_blk hb1 rfl))) ?_
    refine runl_ev (ev_lenL sl_52 rfl) ?_
    refine runl_ev (ev_move rfl) ?_
    refine runl_nil ?_
    refine run_block ?_
    refine run_loop (ι := Unit) (fun _ => [(64, .int .i64 0), (65, .int .i64 0)]) (fun _ w' => Ext w w') (fun _ => 0) (()) ⟨rfl, rfl, trivial⟩ (e) ?_
    clear e hb1
    intro _ w2 e IH
    refine run_seq ?_
    refine run_region rfl ?_
    refine runl_ev (ev_lss rfl rfl) ?_
    refine runl_nil ?_
    refine run_seq ?_
    refine run_cond_false rfl (by decide) ?_
    refine run_exit rfl ?_
    refine run_seq ?_
    refine run_region rfl ?_
    refine runl_ev (ev_assign rfl) ?_
    refine runl_nil ?_
    refine run_ret_any Tryd.func39 (res1 Tryd.results39 rfl) ?_
    exact ⟨by rw [show isTgsB x = true from hall], e⟩
theorem enctgs1_any {l : List UInt8} {w0 w : World} {wb : Nat} {g : Int} {v : Value} {T : TypeId} (st : WSt T 5 w0 w wb g v l) (x : List Tgt) (a : Option Addr) (c : Nat) (xb : Nat) (hx : w0.heap[xb]? = some (.cells ⟨[.string ⟨#[116]⟩, .int .i64 1, .int .i64 0, .slice a x.length c, .slice none 0 0]⟩ 54 (0, 0))) (hl : SlAt 37 RTgt w0 (.slice a x.length c) x) (hn : x.length ≤ 16) (hb : l.length + (encTgs x).length ≤ 1099511627776) :
    Ret Tryd.prog 40 [.pointer (some ⟨wb, 0, none⟩), .pointer (some ⟨xb, 0, none⟩)] w (WP T 5 w0 w wb g l (encTgs x)) := by
  have e := ExtB.refl (fun _ => False) w
  have lwb := lt_of_at st.hw
  have hgl := st.hgl
  have lxb := lt_of_at hx
  have hwb := st.hwb
  have hg0 := st.hg
  replace hx := st.ext.at hx
  unfold encTgs at hb ⊢
  simp only [List.length_append] at hb
  refine ret_of_run Tryd.func40 rfl Tryd.ntmps40 rfl ?_
  refine run_seq ?_
  refine run_region rfl ?_
  refine runl_ev (ev_move rfl) ?_
  refine runl_ev (ev_fieldAddr fld_54_0 rfl) ?_
  refine runl_ev (ev_load1 cell_9 rfl (eqw (cell_blk hx rfl))) ?_
  refine runl_op (t_call call_41 rfl (wtext_any (st.up e) ⟨#[116]⟩ (by omega))) ?_
  rintro _ w6 ⟨rfl, v6, g6, p6⟩
  have q6 := p6.from e
  have z6 := q6.extB.size
  have hx6 : (xb : Int) ≠ g6 := by rcases p6.new with h | h <;> omega
  replace hx := p6.extB.at hx (fun h => by rcases h with h | h <;> omega)
  clear e
  have e := ExtB.refl (fun _ => False) w6
  have hgl6 := q6.st.hgl
  have lwb6 := lt_of_at q6.st.hw
  refine runl_nil ?_
  refine run_seq ?_
  refine run_draw mo (fun w' => Ext w6 w') [8] [(true, 0), (true, 1), (true, 2), (true, 3), (true, 4), (true, 5), (true, 6), (false, 7), (false, 8)] (by kernel_rfl) ?_
  intro wr1 er1
  have zr1 := er1.size
  have hsr1 := er1
  have ep := e.trans er1
  have hxp := er1.at hx
  refine rund_ev hsr1 rfl (ev_move rfl) ?_
  refine rund_ev hsr1 rfl (ev_nilCheck rfl) ?_
  refine rund_ev hsr1 rfl (ev_fieldAddr fld_64_0 rfl) ?_
  refine rund_ev hsr1 rfl (ev_fieldAddr fld_54_1 rfl) ?_
  refine rund_ev hsr1 rfl (ev_load1 cell_3 rfl (fun wz hz => cell_blk (hz.at hx) rfl)) ?_
  refine rund_ev hsr1 rfl (ev_fieldAddr fld_54_2 rfl) ?_
  refine rund_ev hsr1 rfl (ev_load1 cell_3 rfl (fun wz hz => cell_blk (hz.at hx) rfl)) ?_
  refine rund_op rfl (t_buildSlice (out := [.int .i64 1, .int .i64 0]) Tryd.underlying111 sz_3 zero_3 rfl rfl (by decide) (by decide) rfl (rfl)) ?_
  rintro _ w14 ⟨b14, rfl, hb14, e14, n14, l14⟩
  have z14 := e14.size
  replace ep := ep.trans e14
  replace hxp := e14.at hxp
  have hs14 := hsr1.trans e14
  refine ⟨hs14, ?_⟩
  have hb14p := hb14
  refine rund_opT rfl rfl (t_call call_22 rfl (wnums_any (q6.st.up ep) [1, 0] _ _ _ (sl_lit (l := [1, 0]) (R := RInt) hb14p (pc rfl (pc rfl pn))) (fun b o h => by cases h; exact ⟨by omega, by omega⟩) (by simp) (by simp only [List.length_append]; omega))) ?_
  rintro _ w15 ⟨rfl, v15, g15, p15⟩
  have q15 := q6.trans st.hgl (p15.from ep)
  have z15 := q15.extB.size
  have zz15 := p15.extB.size
  have hx15 : (xb : Int) ≠ g15 := by rcases p15.new with h | h <;> omega
  replace hxp := p15.extB.at hxp (fun h => by rcases h with h | h <;> omega)
  refine rund_nil ?_
  replace hx := hxp
  clear hxp
  refine run_seq ?_
  refine run_region rfl ?_
  refine runl_ev (ev_move rfl) ?_
  refine runl_ev (ev_fieldAddr fld_54_3 rfl) ?_
  refine runl_ev (ev_load1 cell_51 rfl (eqw (cell_blk hx rfl))) ?_
  refine runl_op (t_call call_42 rfl (wrowsT_any q15.st x a _ c hl (by omega) (by simp only [List.length_append]; omega))) ?_
  rintro _ w19 ⟨rfl, v19, g19, p19⟩
  have q19 := q15.trans st.hgl p19
  have z19 := q19.extB.size
  have hgl15 := q15.st.hgl
  have lwb15 := lt_of_at q15.st.hw
  replace hx := p19.extB.at hx (fun h => by rcases h with h | h <;> omega)
  refine runl_nil ?_
  refine run_region rfl ?_
  refine runl_ev (ev_move rfl) ?_
  refine runl_ev (ev_fieldAddr fld_54_4 rfl) ?_
  refine runl_ev (ev_load1 cell_52 rfl (eqw (cell_blk hx rfl))) ?_
  refine runl_op (t_call call_44 rfl (wrowsD_any q19.st _ (by simp only [List.length_append]; omega))) ?_
  rintro _ w23 ⟨rfl, v23, g23, p23⟩
  have q23 := q19.trans st.hgl p23
  have z23 := q23.extB.size
  refine runl_nil ?_
  refine run_end_any Tryd.func40 (res0 Tryd.results40) ?_
  simp only [List.append_assoc] at q23 ⊢
  exact ⟨rfl, v23, g23, q23⟩
theorem enctgs_any (x : List Tgt) (a : Option Addr) (c : Nat) (w : World) (hl : SlAt 37 RTgt w (.slice a x.length c) x) (hn : x.length ≤ 16) : Ret Tryd.prog 17 [.agg ⟨[.string ⟨#[116]⟩, .int .i64 1, .int .i64 0, .slice a x.length c, .slice none 0 0]⟩] w fun v w' => ∃ p, v = .tuple #[p, .int .i64 (encE isTgsB x)] ∧ OwnB 5 w (encP 4 isTgsB encTgs x) p w' := by
  have e := ExtB.refl (fun _ => False) w
  have hwf := tgts_wf hl
  refine ret_of_run Tryd.func17 rfl Tryd.ntmps17 rfl ?_
  refine run_seq ?_
  refine run_region rfl ?_
  refine runl_op (t_boxA rfl) ?_
  rintro _ w1 ⟨b1, rfl, hb1, e1, n1, l1⟩
  have z1 := e1.size
  replace e := e.trans e1
  refine runl_ev (ev_assign rfl) ?_
  refine runl_ev (ev_assign rfl) ?_
  refine runl_nil ?_
  refine run_seq ?_
  refine run_region rfl ?_
  refine runl_ev (ev_loadA agg_54 rfl rfl (eqw (cells_all hb1))) ?_
  refine runl_op (t_call call_39 rfl (istgs_any x a c _ (hl.ext RTgt.stable e) hn)) ?_
  rintro _ w5 ⟨rfl, e5⟩
  have z5 := e5.size
  replace e := e.trans e5
  replace hb1 := e5.at hb1
  refine runl_ev (ev_makeFunc rfl rfl) ?_
  refine runl_op (t_call call_19 rfl (encoded_any _ 4 (isTgsB x) 40 [.pointer (some ⟨b1, 0, none⟩)] call_40 (encTgs x) (by have := encN_len 4; omega) (fun hm => by have := encTgs_len hm hwf hn; omega) (fun hm w1 wb g v st => enctgs1_any st x a c b1 hb1 (hl.ext RTgt.stable e) hn (by have := encN_len 4; have := encTgs_len hm hwf hn; omega)))) ?_
  rintro _ w7 ⟨p7, g7, rfl, o7, e7, hg7, hgl7⟩
  have z7 := e7.size
  replace e := e.trans e7
  replace hb1 := e7.at hb1
  refine runl_ev (ev_extract rfl rfl) ?_
  refine runl_ev (ev_extract rfl rfl) ?_
  refine runl_ev (ev_assign rfl) ?_
  refine runl_ev (ev_assign rfl) ?_
  refine runl_nil ?_
  refine run_ret_any Tryd.func17 (res2 Tryd.results17 rfl rfl) ?_
  have hz := e.size
  exact ⟨p7, rfl, ownB_of o7 e (by omega) (by omega)⟩
theorem encE_dec {α : Type} (may : α → Bool) (x : α) (b : Bool) (h : may x = b) : decide (encE may x = 0) = b := by rw [encE_zero]; exact h
theorem riseB_cmp (a b : Tgt) : riseB b a = (strLt b.name a.name || (decide (a.name = b.name) && strLt b.ecu a.ecu)) := by
  unfold riseB
  rw [show decide (b.name = a.name) = decide (a.name = b.name) from decide_eq_decide.2 ⟨fun h => h.symm, fun h => h.symm⟩]

theorem lawOrder_any (a b : Tgt) (n m : ByteArray) (w : World) (ha : a.wf) (hb : b.wf) (hz : (a.name.size ≤ 1048576 ∧ a.hw.size ≤ 1048576 ∧ a.ecu.size ≤ 1048576) ∧ (b.name.size ≤ 1048576 ∧ b.hw.size ≤ 1048576 ∧ b.ecu.size ≤ 1048576) ∧ n.size ≤ 1048576 ∧ m.size ≤ 1048576) :
    Ret Tryd.prog 6 [.agg ⟨a.cells⟩, .agg ⟨b.cells⟩, .string n, .string m] w fun r w' => r = .bool true ∧ Ext w w' := by
  have e := ExtB.refl (fun _ => False) w
  obtain ⟨⟨z1, z2, z3⟩, ⟨z4, z5, z6⟩, z7, z8⟩ := hz
  have hca := Tgt.cells_length ha
  have hcb := Tgt.cells_length hb
  refine ret_of_run Tryd.func6 rfl Tryd.ntmps6 rfl ?_
  refine run_seq ?_
  refine run_region rfl ?_
  refine runl_op (t_boxA rfl) ?_
  rintro _ w4 ⟨b4, rfl, hb4, e4, n4, l4⟩
  have z4 := e4.size
  replace e := e.trans e4
  refine runl_op (t_boxA rfl) ?_
  rintro _ w5 ⟨b5, rfl, hb5, e5, n5, l5⟩
  have z5 := e5.size
  replace e := e.trans e5
  replace hb4 := e5.at hb4
  refine runl_ev (ev_assign rfl) ?_
  refine runl_nil ?_
  refine run_seq ?_
  refine run_seq ?_
  have hcs : isTgtB a = false ∨ (isTgtB a = true ∧ isTgtB b = false) ∨ (isTgtB a = true ∧ isTgtB b = true ∧ nameB n = false) ∨ (isTgtB a = true ∧ isTgtB b = true ∧ nameB n = true ∧ nameB m = false) ∨ (isTgtB a = true ∧ isTgtB b = true ∧ nameB n = true ∧ nameB m = true) := by cases isTgtB a <;> cases isTgtB b <;> cases nameB n <;> cases nameB m <;> simp
  rcases hcs with q1 | ⟨q1, q2⟩ | ⟨q1, q2, q3⟩ | ⟨q1, q2, q3, q4⟩ | ⟨q1, q2, q3, q4⟩
  · refine run_region rfl ?_
    refine runl_ev (ev_loadA agg_48 hca rfl (eqw (cells_all hb4))) ?_
    refine runl_op (t_call call_16 rfl (qistarget_any a ha _ (by omega) (by omega) (by omega))) ?_
    rintro _ w18 ⟨rfl, e18⟩
    have z18 := e18.size
    replace e := e.trans e18
    replace hb4 := e18.at hb4
    replace hb5 := e18.at hb5
    refine runl_ev (ev_not rfl) ?_
    refine runl_ev (ev_move rfl) ?_
    refine runl_no_g rfl rfl (by rw [q1] <;> rfl) ?_
    refine runl_no_g rfl rfl (by rw [q1] <;> rfl) ?_
    refine runl_no_g rfl rfl (by rw [q1] <;> rfl) ?_
    refine runl_ev (ev_pick rfl rfl rfl (if_pos (by rw [q1] <;> rfl))) ?_
    refine runl_ev (ev_move rfl) ?_
    refine runl_no_g rfl rfl (rfl) ?_
    refine runl_no_g rfl rfl (rfl) ?_
    refine runl_no_g rfl rfl (rfl) ?_
    refine runl_ev (ev_pick rfl rfl rfl (if_pos (rfl))) ?_
    refine runl_ev (ev_move rfl) ?_
    refine runl_no_g rfl rfl (rfl) ?_
    refine runl_no_g rfl rfl (rfl) ?_
    refine runl_no_g rfl rfl (rfl) ?_
    refine runl_ev (ev_pick rfl rfl rfl (if_pos (rfl))) ?_
    refine runl_nil ?_
    refine run_cond_true rfl (rfl) ?_
    refine run_seq ?_
    refine run_region rfl ?_
    refine runl_ev (ev_assign rfl) ?_
    refine runl_nil ?_
    refine run_ret_any Tryd.func6 (res1 Tryd.results6 rfl) ?_
    exact ⟨rfl, e⟩
  · refine run_region rfl ?_
    refine runl_ev (ev_loadA agg_48 hca rfl (eqw (cells_all hb4))) ?_
    refine runl_op (t_call call_16 rfl (qistarget_any a ha _ (by omega) (by omega) (by omega))) ?_
    rintro _ w18 ⟨rfl, e18⟩
    have z18 := e18.size
    replace e := e.trans e18
    replace hb4 := e18.at hb4
    replace hb5 := e18.at hb5
    refine runl_ev (ev_not rfl) ?_
    refine runl_ev (ev_move rfl) ?_
    refine runl_ev_g rfl rfl (by rw [q1] <;> rfl) (ev_loadA agg_48 hcb rfl (eqw (cells_all hb5))) ?_
    refine runl_op_g rfl rfl (by rw [q1] <;> rfl) (t_call call_16 rfl (qistarget_any b hb _ (by omega) (by omega) (by omega))) ?_
    rintro _ w22 ⟨rfl, e22⟩
    have z22 := e22.size
    replace e := e.trans e22
    replace hb4 := e22.at hb4
    replace hb5 := e22.at hb5
    refine runl_ev_g rfl rfl (by rw [q1] <;> rfl) (ev_not rfl) ?_
    refine runl_ev (ev_pick rfl rfl rfl (if_neg (by rw [q1]; simp))) ?_
    refine runl_ev (ev_move rfl) ?_
    refine runl_no_g rfl rfl (by rw [q2] <;> rfl) ?_
    refine runl_no_g rfl rfl (by rw [q2] <;> rfl) ?_
    refine runl_no_g rfl rfl (by rw [q2] <;> rfl) ?_
    refine runl_ev (ev_pick rfl rfl rfl (if_pos (by rw [q2] <;> rfl))) ?_
    refine runl_ev (ev_move rfl) ?_
    refine runl_no_g rfl rfl (rfl) ?_
    refine runl_no_g rfl rfl (rfl) ?_
    refine runl_no_g rfl rfl (rfl) ?_
    refine runl_ev (ev_pick rfl rfl rfl (if_pos (rfl))) ?_
    refine runl_nil ?_
    refine run_cond_true rfl (rfl) ?_
    refine run_seq ?_
    refine run_region rfl ?_
    refine runl_ev (ev_assign rfl) ?_
    refine runl_nil ?_
    refine run_ret_any Tryd.func6 (res1 Tryd.results6 rfl) ?_
    exact ⟨rfl, e⟩
  · refine run_region rfl ?_
    refine runl_ev (ev_loadA agg_48 hca rfl (eqw (cells_all hb4))) ?_
    refine runl_op (t_call call_16 rfl (qistarget_any a ha _ (by omega) (by omega) (by omega))) ?_
    rintro _ w18 ⟨rfl, e18⟩
    have z18 := e18.size
    replace e := e.trans e18
    replace hb4 := e18.at hb4
    replace hb5 := e18.at hb5
    refine runl_ev (ev_not rfl) ?_
    refine runl_ev (ev_move rfl) ?_
    refine runl_ev_g rfl rfl (by rw [q1] <;> rfl) (ev_loadA agg_48 hcb rfl (eqw (cells_all hb5))) ?_
    refine runl_op_g rfl rfl (by rw [q1] <;> rfl) (t_call call_16 rfl (qistarget_any b hb _ (by omega) (by omega) (by omega))) ?_
    rintro _ w22 ⟨rfl, e22⟩
    have z22 := e22.size
    replace e := e.trans e22
    replace hb4 := e22.at hb4
    replace hb5 := e22.at hb5
    refine runl_ev_g rfl rfl (by rw [q1] <;> rfl) (ev_not rfl) ?_
    refine runl_ev (ev_pick rfl rfl rfl (if_neg (by rw [q1]; simp))) ?_
    refine runl_ev (ev_move rfl) ?_
    refine runl_ev_g rfl rfl (by rw [q2] <;> rfl) (ev_move rfl) ?_
    refine runl_op_g rfl rfl (by rw [q2] <;> rfl) (t_call call_15 rfl (qname_any n _ (by omega))) ?_
    rintro _ w27 ⟨rfl, e27⟩
    have z27 := e27.size
    replace e := e.trans e27
    replace hb4 := e27.at hb4
    replace hb5 := e27.at hb5
    refine runl_ev_g rfl rfl (by rw [q2] <;> rfl) (ev_not rfl) ?_
    refine runl_ev (ev_pick rfl rfl rfl (if_neg (by rw [q2]; simp))) ?_
    refine runl_ev (ev_move rfl) ?_
    refine runl_no_g rfl rfl (by rw [q3] <;> rfl) ?_
    refine runl_no_g rfl rfl (by rw [q3] <;> rfl) ?_
    refine runl_no_g rfl rfl (by rw [q3] <;> rfl) ?_
    refine runl_ev (ev_pick rfl rfl rfl (if_pos (by rw [q3] <;> rfl))) ?_
    refine runl_nil ?_
    refine run_cond_true rfl (rfl) ?_
    refine run_seq ?_
    refine run_region rfl ?_
    refine runl_ev (ev_assign rfl) ?_
    refine runl_nil ?_
    refine run_ret_any Tryd.func6 (res1 Tryd.results6 rfl) ?_
    exact ⟨rfl, e⟩
  · refine run_region rfl ?_
    refine runl_ev (ev_loadA agg_48 hca rfl (eqw (cells_all hb4))) ?_
    refine runl_op (t_call call_16 rfl (qistarget_any a ha _ (by omega) (by omega) (by omega))) ?_
    rintro _ w18 ⟨rfl, e18⟩
    have z18 := e18.size
    replace e := e.trans e18
    replace hb4 := e18.at hb4
    replace hb5 := e18.at hb5
    refine runl_ev (ev_not rfl) ?_
    refine runl_ev (ev_move rfl) ?_
    refine runl_ev_g rfl rfl (by rw [q1] <;> rfl) (ev_loadA agg_48 hcb rfl (eqw (cells_all hb5))) ?_
    refine runl_op_g rfl rfl (by rw [q1] <;> rfl) (t_call call_16 rfl (qistarget_any b hb _ (by omega) (by omega) (by omega))) ?_
    rintro _ w22 ⟨rfl, e22⟩
    have z22 := e22.size
    replace e := e.trans e22
    replace hb4 := e22.at hb4
    replace hb5 := e22.at hb5
    refine runl_ev_g rfl rfl (by rw [q1] <;> rfl) (ev_not rfl) ?_
    refine runl_ev (ev_pick rfl rfl rfl (if_neg (by rw [q1]; simp))) ?_
    refine runl_ev (ev_move rfl) ?_
    refine runl_ev_g rfl rfl (by rw [q2] <;> rfl) (ev_move rfl) ?_
    refine runl_op_g rfl rfl (by rw [q2] <;> rfl) (t_call call_15 rfl (qname_any n _ (by omega))) ?_
    rintro _ w27 ⟨rfl, e27⟩
    have z27 := e27.size
    replace e := e.trans e27
    replace hb4 := e27.at hb4
    replace hb5 := e27.at hb5
    refine runl_ev_g rfl rfl (by rw [q2] <;> rfl) (ev_not rfl) ?_
    refine runl_ev (ev_pick rfl rfl rfl (if_neg (by rw [q2]; simp))) ?_
    refine runl_ev (ev_move rfl) ?_
    refine runl_ev_g rfl rfl (by rw [q3] <;> rfl) (ev_move rfl) ?_
    refine runl_op_g rfl rfl (by rw [q3] <;> rfl) (t_call call_15 rfl (qname_any m _ (by omega))) ?_
    rintro _ w32 ⟨rfl, e32⟩
    have z32 := e32.size
    replace e := e.trans e32
    replace hb4 := e32.at hb4
    replace hb5 := e32.at hb5
    refine runl_ev_g rfl rfl (by rw [q3] <;> rfl) (ev_not rfl) ?_
    refine runl_ev (ev_pick rfl rfl rfl (if_neg (by rw [q3]; simp))) ?_
    refine runl_nil ?_
    refine run_cond_true rfl (by rw [q4] <;> rfl) ?_
    refine run_seq ?_
    refine run_region rfl ?_
    refine runl_ev (ev_assign rfl) ?_
    refine runl_nil ?_
    refine run_ret_any Tryd.func6 (res1 Tryd.results6 rfl) ?_
    exact ⟨rfl, e⟩
  · refine run_region rfl ?_
    refine runl_ev (ev_loadA agg_48 hca rfl (eqw (cells_all hb4))) ?_
    refine runl_op (t_call call_16 rfl (qistarget_any a ha _ (by omega) (by omega) (by omega))) ?_
    rintro _ w18 ⟨rfl, e18⟩
    have z18 := e18.size
    replace e := e.trans e18
    replace hb4 := e18.at hb4
    replace hb5 := e18.at hb5
    refine runl_ev (ev_not rfl) ?_
    refine runl_ev (ev_move rfl) ?_
    refine runl_ev_g rfl rfl (by rw [q1] <;> rfl) (ev_loadA agg_48 hcb rfl (eqw (cells_all hb5))) ?_
    refine runl_op_g rfl rfl (by rw [q1] <;> rfl) (t_call call_16 rfl (qistarget_any b hb _ (by omega) (by omega) (by omega))) ?_
    rintro _ w22 ⟨rfl, e22⟩
    have z22 := e22.size
    replace e := e.trans e22
    replace hb4 := e22.at hb4
    replace hb5 := e22.at hb5
    refine runl_ev_g rfl rfl (by rw [q1] <;> rfl) (ev_not rfl) ?_
    refine runl_ev (ev_pick rfl rfl rfl (if_neg (by rw [q1]; simp))) ?_
    refine runl_ev (ev_move rfl) ?_
    refine runl_ev_g rfl rfl (by rw [q2] <;> rfl) (ev_move rfl) ?_
    refine runl_op_g rfl rfl (by rw [q2] <;> rfl) (t_call call_15 rfl (qname_any n _ (by omega))) ?_
    rintro _ w27 ⟨rfl, e27⟩
    have z27 := e27.size
    replace e := e.trans e27
    replace hb4 := e27.at hb4
    replace hb5 := e27.at hb5
    refine runl_ev_g rfl rfl (by rw [q2] <;> rfl) (ev_not rfl) ?_
    refine runl_ev (ev_pick rfl rfl rfl (if_neg (by rw [q2]; simp))) ?_
    refine runl_ev (ev_move rfl) ?_
    refine runl_ev_g rfl rfl (by rw [q3] <;> rfl) (ev_move rfl) ?_
    refine runl_op_g rfl rfl (by rw [q3] <;> rfl) (t_call call_15 rfl (qname_any m _ (by omega))) ?_
    rintro _ w32 ⟨rfl, e32⟩
    have z32 := e32.size
    replace e := e.trans e32
    replace hb4 := e32.at hb4
    replace hb5 := e32.at hb5
    refine runl_ev_g rfl rfl (by rw [q3] <;> rfl) (ev_not rfl) ?_
    refine runl_ev (ev_pick rfl rfl rfl (if_neg (by rw [q3]; simp))) ?_
    refine runl_nil ?_
    refine run_cond_false rfl (by rw [q4] <;> rfl) ?_
    refine run_skip ?_
    refine run_seq ?_
    refine run_region rfl ?_
    refine runl_ev (ev_loadA agg_48 hca rfl (eqw (cells_all hb4))) ?_
    refine runl_ev (ev_loadA agg_48 hcb rfl (eqw (cells_all hb5))) ?_
    refine runl_op (t_buildSlice (out := a.cells ++ b.cells) Tryd.underlying51 sz_48 zero_48 rfl rfl (by decide) (by decide) rfl (fill_two rfl rfl hca hcb rfl)) ?_
    rintro _ w38 ⟨b38, rfl, hb38, e38, n38, l38⟩
    have z38 := e38.size
    replace e := e.trans e38
    replace hb4 := e38.at hb4
    replace hb5 := e38.at hb5
    refine runl_ev (ev_build (out := [.string ⟨#[116]⟩, .int .i64 1, .int .i64 0, .slice (some ⟨b38, 0, none⟩) 2 2, .slice none 0 0]) ps_54 zero_54 rfl rfl (rfl)) ?_
    refine runl_op (t_call call_17 rfl (enctgs_any [a, b] _ _ _ (sl_lit (l := [a, b]) (R := RTgt) hb38 (pc (x := a) ⟨ha, by rw [← hca]; exact List.take_left⟩ (pc (x := b) ⟨hb, by rw [← hca, List.drop_left, hca, List.take_of_length_le (by omega)]⟩ pn))) (by simp))) ?_
    rintro _ w40 ⟨p40, rfl, o40⟩
    have e40 := o40.ext
    have hs1 := encE_dec isTgsB [a, b] _ (tgs2 q1 q2)
    generalize encE isTgsB [a, b] = e1 at hs1
    have z40 := e40.size
    replace e := e.trans e40
    replace hb4 := e40.at hb4
    replace hb5 := e40.at hb5
    replace hb38 := e40.at hb38
    refine runl_ev (ev_move rfl) ?_
    refine runl_ev (ev_extract rfl rfl) ?_
    refine runl_ev (ev_extract rfl rfl) ?_
    refine runl_ev (ev_assign rfl) ?_
    refine runl_ev (ev_assign rfl) ?_
    refine runl_nil ?_
    refine run_seq ?_
    refine run_region rfl ?_
    refine runl_ev (ev_loadA agg_48 hcb rfl (eqw (cells_all hb5))) ?_
    refine runl_ev (ev_loadA agg_48 hca rfl (eqw (cells_all hb4))) ?_
    refine runl_op (t_buildSlice (out := b.cells ++ a.cells) Tryd.underlying51 sz_48 zero_48 rfl rfl (by decide) (by decide) rfl (fill_two rfl rfl hcb hca rfl)) ?_
    rintro _ w46 ⟨b46, rfl, hb46, e46, n46, l46⟩
    have z46 := e46.size
    replace e := e.trans e46
    replace hb4 := e46.at hb4
    replace hb5 := e46.at hb5
    refine runl_ev (ev_build (out := [.string ⟨#[116]⟩, .int .i64 1, .int .i64 0, .slice (some ⟨b46, 0, none⟩) 2 2, .slice none 0 0]) ps_54 zero_54 rfl rfl (rfl)) ?_
    refine runl_op (t_call call_17 rfl (enctgs_any [b, a] _ _ _ (sl_lit (l := [b, a]) (R := RTgt) hb46 (pc (x := b) ⟨hb, by rw [← hcb]; exact List.take_left⟩ (pc (x := a) ⟨ha, by rw [← hcb, List.drop_left, hcb, List.take_of_length_le (by omega)]⟩ pn))) (by simp))) ?_
    rintro _ w48 ⟨p48, rfl, o48⟩
    have e48 := o48.ext
    have hs2 := encE_dec isTgsB [b, a] _ (tgs2 q2 q1)
    generalize encE isTgsB [b, a] = e2 at hs2
    have z48 := e48.size
    replace e := e.trans e48
    replace hb4 := e48.at hb4
    replace hb5 := e48.at hb5
    replace hb46 := e48.at hb46
    refine runl_ev (ev_move rfl) ?_
    refine runl_ev (ev_extract rfl rfl) ?_
    refine runl_ev (ev_extract rfl rfl) ?_
    refine runl_ev (ev_assign rfl) ?_
    refine runl_ev (ev_assign rfl) ?_
    refine runl_nil ?_
    refine run_seq ?_
    refine run_region rfl ?_
    refine runl_ev (ev_move rfl) ?_
    refine runl_ev (ev_build (out := [.string n, .int .i64 1]) ps_38 zero_38 rfl rfl (rfl)) ?_
    refine runl_ev (ev_move rfl) ?_
    refine runl_ev (ev_build (out := [.string m, .int .i64 1]) ps_38 zero_38 rfl rfl (rfl)) ?_
    refine runl_op (t_buildSlice (out := [.string n, .int .i64 1, .string m, .int .i64 1]) Tryd.underlying33 sz_38 zero_38 rfl rfl (by decide) (by decide) rfl (rfl)) ?_
    rintro _ w56 ⟨b56, rfl, hb56, e56, n56, l56⟩
    have z56 := e56.size
    replace e := e.trans e56
    replace hb4 := e56.at hb4
    replace hb5 := e56.at hb5
    refine runl_ev (ev_build (out := [.int .i64 1, .int .i64 0, .slice (some ⟨b56, 0, none⟩) 2 2]) ps_35 zero_35 rfl rfl (rfl)) ?_
    refine runl_op (t_call call_10 rfl (encsnap_any ⟨1, 0, [⟨n, 1⟩, ⟨m, 1⟩]⟩ _ _ ⟨_, _, rfl, sl_lit (l := [PinP.mk n 1, PinP.mk m 1]) (R := RPin) hb56 (pc rfl (pc rfl pn))⟩ (by simp))) ?_
    rintro _ w58 ⟨p58, rfl, o58⟩
    have e58 := o58.ext
    have hs3 := encE_dec isSnapP ⟨1, 0, [⟨n, 1⟩, ⟨m, 1⟩]⟩ _ (snap2 q3 q4)
    generalize encE isSnapP ⟨1, 0, [⟨n, 1⟩, ⟨m, 1⟩]⟩ = e3 at hs3
    have z58 := e58.size
    replace e := e.trans e58
    replace hb4 := e58.at hb4
    replace hb5 := e58.at hb5
    replace hb56 := e58.at hb56
    refine runl_ev (ev_move rfl) ?_
    refine runl_ev (ev_extract rfl rfl) ?_
    refine runl_ev (ev_extract rfl rfl) ?_
    refine runl_ev (ev_assign rfl) ?_
    refine runl_ev (ev_assign rfl) ?_
    refine runl_nil ?_
    refine run_cut1 (ι := Unit) (fun _ => [(2, .string n), (3, .string m), (4, .pointer (some ⟨b4, 0, none⟩)), (5, .pointer (some ⟨b5, 0, none⟩)), (10, .int .i64 e1), (12, .int .i64 e2), (14, .int .i64 e3), (15, .bool (riseB a b))]) (fun _ w' => w'.heap[b4]? = some (.cells ⟨a.cells⟩ 48 (0, 0)) ∧ w'.heap[b5]? = some (.cells ⟨b.cells⟩ 48 (0, 0)) ∧ Ext w w') ?_ ?_
    · clear e hb4 hb5
      intro _ w1 ⟨hb4, hb5, e⟩
      refine run_cut1 (ι := Unit) (fun _ => [(2, .string n), (3, .string m), (4, .pointer (some ⟨b4, 0, none⟩)), (5, .pointer (some ⟨b5, 0, none⟩)), (10, .int .i64 e1), (12, .int .i64 e2), (14, .int .i64 e3), (15, .bool (riseB a b)), (16, .bool (riseB b a))]) (fun _ w' => w'.heap[b4]? = some (.cells ⟨a.cells⟩ 48 (0, 0)) ∧ w'.heap[b5]? = some (.cells ⟨b.cells⟩ 48 (0, 0)) ∧ Ext w w') ?_ ?_
      · clear e hb4 hb5
        intro _ w2 ⟨hb4, hb5, e⟩
        refine run_seq ?_
        refine run_region rfl ?_
        refine runl_ev (ev_move rfl) ?_
        refine runl_ev (ev_eqlI rfl rfl) ?_
        refine runl_ev (ev_move rfl) ?_
        refine runl_ev (ev_eqlB Tryd.underlying4 rfl rfl) ?_
        refine runl_ev (ev_move rfl) ?_
        refine runl_ev_g rfl rfl (decide_eq_true hs1) (ev_move rfl) ?_
        refine runl_ev_g rfl rfl (decide_eq_true hs1) (ev_eqlI rfl rfl) ?_
        refine runl_ev_g rfl rfl (decide_eq_true hs1) (ev_move rfl) ?_
        refine runl_ev_g rfl rfl (decide_eq_true hs1) (ev_eqlB Tryd.underlying4 rfl rfl) ?_
        refine runl_ev (ev_pick rfl rfl rfl (if_pos (decide_eq_true hs1))) ?_
        refine runl_ev (ev_move rfl) ?_
        refine runl_ev_g rfl rfl (decide_eq_true hs2) (ev_move rfl) ?_
        refine runl_ev_g rfl rfl (decide_eq_true hs2) (ev_eqlI rfl rfl) ?_
        refine runl_ev_g rfl rfl (decide_eq_true hs2) (ev_move rfl) ?_
        refine runl_ev_g rfl rfl (decide_eq_true hs2) (ev_move rfl) ?_
        refine runl_ev_g rfl rfl (decide_eq_true hs2) (ev_lssS rfl rfl) ?_
        refine runl_ev_g rfl rfl (decide_eq_true hs2) (ev_eqlB Tryd.underlying4 rfl rfl) ?_
        refine runl_ev (ev_pick rfl rfl rfl (if_pos (decide_eq_true hs2))) ?_
        refine runl_ev (ev_move rfl) ?_
        refine runl_op_g rfl rfl (decide_eq_true hs3) (t_call call_8 rfl (known_any _)) ?_
        rintro _ w118 ⟨rfl, e118⟩
        have z118 := e118.size
        replace e := e.trans e118
        replace hb4 := e118.at hb4
        replace hb5 := e118.at hb5
        refine runl_ev (ev_pick rfl rfl rfl (if_pos (decide_eq_true hs3))) ?_
        refine runl_ev (ev_assign rfl) ?_
        refine runl_nil ?_
        refine run_ret_any Tryd.func6 (res1 Tryd.results6 rfl) ?_
        exact ⟨rfl, e⟩
      · intro JJ
        have hcs : strLt b.name a.name = true ∨ (strLt b.name a.name = false ∧ a.name = b.name) ∨ (strLt b.name a.name = false ∧ ¬ a.name = b.name) := by
          by_cases h2 : a.name = b.name <;> cases strLt b.name a.name <;> simp [h2]
        rcases hcs with q1 | ⟨q1, q2⟩ | ⟨q1, q2⟩
        · refine run_region rfl ?_
          refine runl_ev (ev_fieldAddr fld_48_0 rfl) ?_
          refine runl_ev (ev_load1 cell_9 rfl (eqw (cell_blk hb5 rfl))) ?_
          refine runl_ev (ev_fieldAddr fld_48_0 rfl) ?_
          refine runl_ev (ev_load1 cell_9 rfl (eqw (cell_blk hb4 rfl))) ?_
          refine runl_ev (ev_lssS rfl rfl) ?_
          refine runl_ev (ev_move rfl) ?_
          refine runl_no_g rfl rfl (q1) ?_
          refine runl_no_g rfl rfl (q1) ?_
          refine runl_no_g rfl rfl (q1) ?_
          refine runl_no_g rfl rfl (q1) ?_
          refine runl_no_g rfl rfl (q1) ?_
          refine runl_no_g rfl rfl (q1) ?_
          refine runl_no_u rfl rfl ?_
          refine runl_no_u rfl rfl ?_
          refine runl_no_u rfl rfl ?_
          refine runl_no_u rfl rfl ?_
          refine runl_no_u rfl rfl ?_
          refine runl_no_g rfl rfl (q1) ?_
          refine runl_ev (ev_pick rfl rfl rfl (if_pos (q1))) ?_
          refine runl_ev (ev_assign rfl) ?_
          refine runl_nil ?_
          exact JJ () _ _ ⟨rfl, rfl, rfl, rfl, rfl, rfl, rfl, rfl, by show some (Value.bool _) = some (Value.bool _); rw [riseB_cmp, q1] <;> rfl, trivial⟩ ⟨hb4, hb5, e⟩
        · refine run_region rfl ?_
          refine runl_ev (ev_fieldAddr fld_48_0 rfl) ?_
          refine runl_ev (ev_load1 cell_9 rfl (eqw (cell_blk hb5 rfl))) ?_
          refine runl_ev (ev_fieldAddr fld_48_0 rfl) ?_
          refine runl_ev (ev_load1 cell_9 rfl (eqw (cell_blk hb4 rfl))) ?_
          refine runl_ev (ev_lssS rfl rfl) ?_
          refine runl_ev (ev_move rfl) ?_
          refine runl_ev_g rfl rfl (q1) (ev_fieldAddr fld_48_0 rfl) ?_
          refine runl_ev_g rfl rfl (q1) (ev_load1 cell_9 rfl (eqw (cell_blk hb4 rfl))) ?_
          refine runl_ev_g rfl rfl (q1) (ev_fieldAddr fld_48_0 rfl) ?_
          refine runl_ev_g rfl rfl (q1) (ev_load1 cell_9 rfl (eqw (cell_blk hb5 rfl))) ?_
          refine runl_ev_g rfl rfl (q1) (ev_eqlS rfl rfl) ?_
          refine runl_ev_g rfl rfl (q1) (ev_move rfl) ?_
          refine runl_ev_g rfl rfl (decide_eq_true q2) (ev_fieldAddr fld_48_5 rfl) ?_
          refine runl_ev_g rfl rfl (decide_eq_true q2) (ev_load1 cell_9 rfl (eqw ((cells_all hb5).pick 36 rfl (Tgt.c36 hb)))) ?_
          refine runl_ev_g rfl rfl (decide_eq_true q2) (ev_fieldAddr fld_48_5 rfl) ?_
          refine runl_ev_g rfl rfl (decide_eq_true q2) (ev_load1 cell_9 rfl (eqw ((cells_all hb4).pick 36 rfl (Tgt.c36 ha)))) ?_
          refine runl_ev_g rfl rfl (decide_eq_true q2) (ev_lssS rfl rfl) ?_
          refine runl_ev_g rfl rfl (q1) (ev_pick rfl rfl rfl (if_pos (decide_eq_true q2))) ?_
          refine runl_ev (ev_pick rfl rfl rfl (if_neg (by rw [q1]; simp))) ?_
          refine runl_ev (ev_assign rfl) ?_
          refine runl_nil ?_
          exact JJ () _ _ ⟨rfl, rfl, rfl, rfl, rfl, rfl, rfl, rfl, by show some (Value.bool _) = some (Value.bool _); rw [riseB_cmp, q1, decide_eq_true q2] <;> rfl, trivial⟩ ⟨hb4, hb5, e⟩
        · refine run_region rfl ?_
          refine runl_ev (ev_fieldAddr fld_48_0 rfl) ?_
          refine runl_ev (ev_load1 cell_9 rfl (eqw (cell_blk hb5 rfl))) ?_
          refine runl_ev (ev_fieldAddr fld_48_0 rfl) ?_
          refine runl_ev (ev_load1 cell_9 rfl (eqw (cell_blk hb4 rfl))) ?_
          refine runl_ev (ev_lssS rfl rfl) ?_
          refine runl_ev (ev_move rfl) ?_
          refine runl_ev_g rfl rfl (q1) (ev_fieldAddr fld_48_0 rfl) ?_
          refine runl_ev_g rfl rfl (q1) (ev_load1 cell_9 rfl (eqw (cell_blk hb4 rfl))) ?_
          refine runl_ev_g rfl rfl (q1) (ev_fieldAddr fld_48_0 rfl) ?_
          refine runl_ev_g rfl rfl (q1) (ev_load1 cell_9 rfl (eqw (cell_blk hb5 rfl))) ?_
          refine runl_ev_g rfl rfl (q1) (ev_eqlS rfl rfl) ?_
          refine runl_ev_g rfl rfl (q1) (ev_move rfl) ?_
          refine runl_no_g rfl rfl (decide_eq_false q2) ?_
          refine runl_no_g rfl rfl (decide_eq_false q2) ?_
          refine runl_no_g rfl rfl (decide_eq_false q2) ?_
          refine runl_no_g rfl rfl (decide_eq_false q2) ?_
          refine runl_no_g rfl rfl (decide_eq_false q2) ?_
          refine runl_ev_g rfl rfl (q1) (ev_pick rfl rfl rfl (if_neg (by rw [decide_eq_false q2]; simp))) ?_
          refine runl_ev (ev_pick rfl rfl rfl (if_neg (by rw [q1]; simp))) ?_
          refine runl_ev (ev_assign rfl) ?_
          refine runl_nil ?_
          exact JJ () _ _ ⟨rfl, rfl, rfl, rfl, rfl, rfl, rfl, rfl, by show some (Value.bool _) = some (Value.bool _); rw [riseB_cmp, q1, decide_eq_false q2] <;> rfl, trivial⟩ ⟨hb4, hb5, e⟩
    · intro JJ
      have hcs : strLt a.name b.name = true ∨ (strLt a.name b.name = false ∧ a.name = b.name) ∨ (strLt a.name b.name = false ∧ ¬ a.name = b.name) := by
        by_cases h2 : a.name = b.name <;> cases strLt a.name b.name <;> simp [h2]
      rcases hcs with q1 | ⟨q1, q2⟩ | ⟨q1, q2⟩
      · refine run_region rfl ?_
        refine runl_ev (ev_fieldAddr fld_48_0 rfl) ?_
        refine runl_ev (ev_load1 cell_9 rfl (eqw (cell_blk hb4 rfl))) ?_
        refine runl_ev (ev_fieldAddr fld_48_0 rfl) ?_
        refine runl_ev (ev_load1 cell_9 rfl (eqw (cell_blk hb5 rfl))) ?_
        refine runl_ev (ev_lssS rfl rfl) ?_
        refine runl_ev (ev_move rfl) ?_
        refine runl_no_g rfl rfl (q1) ?_
        refine runl_no_g rfl rfl (q1) ?_
        refine runl_no_g rfl rfl (q1) ?_
        refine runl_no_g rfl rfl (q1) ?_
        refine runl_no_g rfl rfl (q1) ?_
        refine runl_no_g rfl rfl (q1) ?_
        refine runl_no_u rfl rfl ?_
        refine runl_no_u rfl rfl ?_
        refine runl_no_u rfl rfl ?_
        refine runl_no_u rfl rfl ?_
        refine runl_no_u rfl rfl ?_
        refine runl_no_g rfl rfl (q1) ?_
        refine runl_ev (ev_pick rfl rfl rfl (if_pos (q1))) ?_
        refine runl_ev (ev_assign rfl) ?_
        refine runl_nil ?_
        exact JJ () _ _ ⟨rfl, rfl, rfl, rfl, rfl, rfl, rfl, by show some (Value.bool _) = some (Value.bool _); rw [riseB, q1] <;> rfl, trivial⟩ ⟨hb4, hb5, e⟩
      · refine run_region rfl ?_
        refine runl_ev (ev_fieldAddr fld_48_0 rfl) ?_
        refine runl_ev (ev_load1 cell_9 rfl (eqw (cell_blk hb4 rfl))) ?_
        refine runl_ev (ev_fieldAddr fld_48_0 rfl) ?_
        refine runl_ev (ev_load1 cell_9 rfl (eqw (cell_blk hb5 rfl))) ?_
        refine runl_ev (ev_lssS rfl rfl) ?_
        refine runl_ev (ev_move rfl) ?_
        refine runl_ev_g rfl rfl (q1) (ev_fieldAddr fld_48_0 rfl) ?_
        refine runl_ev_g rfl rfl (q1) (ev_load1 cell_9 rfl (eqw (cell_blk hb4 rfl))) ?_
        refine runl_ev_g rfl rfl (q1) (ev_fieldAddr fld_48_0 rfl) ?_
        refine runl_ev_g rfl rfl (q1) (ev_load1 cell_9 rfl (eqw (cell_blk hb5 rfl))) ?_
        refine runl_ev_g rfl rfl (q1) (ev_eqlS rfl rfl) ?_
        refine runl_ev_g rfl rfl (q1) (ev_move rfl) ?_
        refine runl_ev_g rfl rfl (decide_eq_true q2) (ev_fieldAddr fld_48_5 rfl) ?_
        refine runl_ev_g rfl rfl (decide_eq_true q2) (ev_load1 cell_9 rfl (eqw ((cells_all hb4).pick 36 rfl (Tgt.c36 ha)))) ?_
        refine runl_ev_g rfl rfl (decide_eq_true q2) (ev_fieldAddr fld_48_5 rfl) ?_
        refine runl_ev_g rfl rfl (decide_eq_true q2) (ev_load1 cell_9 rfl (eqw ((cells_all hb5).pick 36 rfl (Tgt.c36 hb)))) ?_
        refine runl_ev_g rfl rfl (decide_eq_true q2) (ev_lssS rfl rfl) ?_
        refine runl_ev_g rfl rfl (q1) (ev_pick rfl rfl rfl (if_pos (decide_eq_true q2))) ?_
        refine runl_ev (ev_pick rfl rfl rfl (if_neg (by rw [q1]; simp))) ?_
        refine runl_ev (ev_assign rfl) ?_
        refine runl_nil ?_
        exact JJ () _ _ ⟨rfl, rfl, rfl, rfl, rfl, rfl, rfl, by show some (Value.bool _) = some (Value.bool _); rw [riseB, q1, decide_eq_true q2] <;> rfl, trivial⟩ ⟨hb4, hb5, e⟩
      · refine run_region rfl ?_
        refine runl_ev (ev_fieldAddr fld_48_0 rfl) ?_
        refine runl_ev (ev_load1 cell_9 rfl (eqw (cell_blk hb4 rfl))) ?_
        refine runl_ev (ev_fieldAddr fld_48_0 rfl) ?_
        refine runl_ev (ev_load1 cell_9 rfl (eqw (cell_blk hb5 rfl))) ?_
        refine runl_ev (ev_lssS rfl rfl) ?_
        refine runl_ev (ev_move rfl) ?_
        refine runl_ev_g rfl rfl (q1) (ev_fieldAddr fld_48_0 rfl) ?_
        refine runl_ev_g rfl rfl (q1) (ev_load1 cell_9 rfl (eqw (cell_blk hb4 rfl))) ?_
        refine runl_ev_g rfl rfl (q1) (ev_fieldAddr fld_48_0 rfl) ?_
        refine runl_ev_g rfl rfl (q1) (ev_load1 cell_9 rfl (eqw (cell_blk hb5 rfl))) ?_
        refine runl_ev_g rfl rfl (q1) (ev_eqlS rfl rfl) ?_
        refine runl_ev_g rfl rfl (q1) (ev_move rfl) ?_
        refine runl_no_g rfl rfl (decide_eq_false q2) ?_
        refine runl_no_g rfl rfl (decide_eq_false q2) ?_
        refine runl_no_g rfl rfl (decide_eq_false q2) ?_
        refine runl_no_g rfl rfl (decide_eq_false q2) ?_
        refine runl_no_g rfl rfl (decide_eq_false q2) ?_
        refine runl_ev_g rfl rfl (q1) (ev_pick rfl rfl rfl (if_neg (by rw [decide_eq_false q2]; simp))) ?_
        refine runl_ev (ev_pick rfl rfl rfl (if_neg (by rw [q1]; simp))) ?_
        refine runl_ev (ev_assign rfl) ?_
        refine runl_nil ?_
        exact JJ () _ _ ⟨rfl, rfl, rfl, rfl, rfl, rfl, rfl, by show some (Value.bool _) = some (Value.bool _); rw [riseB, q1, decide_eq_false q2] <;> rfl, trivial⟩ ⟨hb4, hb5, e⟩
end Go.Proofs.YtcmbiaibocdfeaaDoor

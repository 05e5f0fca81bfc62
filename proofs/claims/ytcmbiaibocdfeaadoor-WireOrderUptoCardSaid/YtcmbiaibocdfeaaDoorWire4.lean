/- The walks of what tells whether keys, roots and times may be, on both sides. -/
import Derived.Test.YtcmbiaibocdfeaaDoorWireP
import Derived.Test.YtcmbiaibocdfeaaDoorFacts
namespace Go.Proofs.YtcmbiaibocdfeaaDoor
open Go Go.Fw
set_option maxRecDepth 100000

theorem isver_any (n : Int) (w : World) : Ret Tryd.prog 54 [.int .i64 n] w fun r w' => r = .bool (verB n) ∧ Ext w w' := by
  have e := ExtB.refl (fun _ => False) w
  refine ret_of_run Tryd.func54 rfl Tryd.ntmps54 rfl ?_
  refine run_seq ?_
  refine run_region rfl ?_
  refine runl_ev (ev_assign rfl) ?_
  refine runl_nil ?_
  refine run_seq ?_
  by_cases h : 1 ≤ n
  · refine run_region rfl ?_
    refine runl_ev (ev_move rfl) ?_
    refine runl_ev (ev_geq rfl rfl) ?_
    refine runl_ev (ev_move rfl) ?_
    refine runl_ev_g rfl rfl (decide_eq_true h) (ev_move rfl) ?_
    refine runl_ev_g rfl rfl (decide_eq_true h) (ev_leq rfl rfl) ?_
    refine runl_ev (ev_pick rfl rfl rfl (if_pos (decide_eq_true h))) ?_
    refine runl_ev (ev_assign rfl) ?_
    refine runl_nil ?_
    refine run_ret_any Tryd.func54 (res1 Tryd.results54 rfl) ?_
    exact ⟨by simp [verB, h], e⟩
  · refine run_region rfl ?_
    refine runl_ev (ev_move rfl) ?_
    refine runl_ev (ev_geq rfl rfl) ?_
    refine runl_ev (ev_move rfl) ?_
    refine runl_no_g rfl rfl (decide_eq_false h) ?_
    refine runl_no_g rfl rfl (decide_eq_false h) ?_
    refine runl_ev (ev_pick rfl rfl rfl (if_neg (by simp [h]))) ?_
    refine runl_ev (ev_assign rfl) ?_
    refine runl_nil ?_
    refine run_ret_any Tryd.func54 (res1 Tryd.results54 rfl) ?_
    exact ⟨by simp [verB, h], e⟩
theorem isnum_any (n : Int) (w : World) : Ret Tryd.prog 55 [.int .i64 n] w fun r w' => r = .bool (numB n) ∧ Ext w w' := by
  have e := ExtB.refl (fun _ => False) w
  refine ret_of_run Tryd.func55 rfl Tryd.ntmps55 rfl ?_
  refine run_seq ?_
  refine run_region rfl ?_
  refine runl_ev (ev_assign rfl) ?_
  refine runl_nil ?_
  refine run_seq ?_
  by_cases h : 0 ≤ n
  · refine run_region rfl ?_
    refine runl_ev (ev_move rfl) ?_
    refine runl_ev (ev_geq rfl rfl) ?_
    refine runl_ev (ev_move rfl) ?_
    refine runl_ev_g rfl rfl (decide_eq_true h) (ev_move rfl) ?_
    refine runl_ev_g rfl rfl (decide_eq_true h) (ev_leq rfl rfl) ?_
    refine runl_ev (ev_pick rfl rfl rfl (if_pos (decide_eq_true h))) ?_
    refine runl_ev (ev_assign rfl) ?_
    refine runl_nil ?_
    refine run_ret_any Tryd.func55 (res1 Tryd.results55 rfl) ?_
    exact ⟨by simp [numB, h], e⟩
  · refine run_region rfl ?_
    refine runl_ev (ev_move rfl) ?_
    refine runl_ev (ev_geq rfl rfl) ?_
    refine runl_ev (ev_move rfl) ?_
    refine runl_no_g rfl rfl (decide_eq_false h) ?_
    refine runl_no_g rfl rfl (decide_eq_false h) ?_
    refine runl_ev (ev_pick rfl rfl rfl (if_neg (by simp [h]))) ?_
    refine runl_ev (ev_assign rfl) ?_
    refine runl_nil ?_
    refine run_ret_any Tryd.func55 (res1 Tryd.results55 rfl) ?_
    exact ⟨by simp [numB, h], e⟩
theorem rver_any (n : Int) (w : World) : Ret Tryd.prog 57 [.int .i64 n] w fun r w' => r = .bool (verB n) ∧ Ext w w' := by
  have e := ExtB.refl (fun _ => False) w
  refine ret_of_run Tryd.func57 rfl Tryd.ntmps57 rfl ?_
  refine run_seq ?_
  refine run_region rfl ?_
  refine runl_ev (ev_assign rfl) ?_
  refine runl_nil ?_
  refine run_seq ?_
  by_cases h : 1 ≤ n
  · refine run_region rfl ?_
    refine runl_ev (ev_move rfl) ?_
    refine runl_ev (ev_geq rfl rfl) ?_
    refine runl_ev (ev_move rfl) ?_
    refine runl_ev_g rfl rfl (decide_eq_true h) (ev_move rfl) ?_
    refine runl_ev_g rfl rfl (decide_eq_true h) (ev_leq rfl rfl) ?_
    refine runl_ev (ev_pick rfl rfl rfl (if_pos (decide_eq_true h))) ?_
    refine runl_ev (ev_assign rfl) ?_
    refine runl_nil ?_
    refine run_ret_any Tryd.func57 (res1 Tryd.results57 rfl) ?_
    exact ⟨by simp [verB, h], e⟩
  · refine run_region rfl ?_
    refine runl_ev (ev_move rfl) ?_
    refine runl_ev (ev_geq rfl rfl) ?_
    refine runl_ev (ev_move rfl) ?_
    refine runl_no_g rfl rfl (decide_eq_false h) ?_
    refine runl_no_g rfl rfl (decide_eq_false h) ?_
    refine runl_ev (ev_pick rfl rfl rfl (if_neg (by simp [h]))) ?_
    refine runl_ev (ev_assign rfl) ?_
    refine runl_nil ?_
    refine run_ret_any Tryd.func57 (res1 Tryd.results57 rfl) ?_
    exact ⟨by simp [verB, h], e⟩
theorem idxH_any (l : List (List UInt8)) (w : World) (a : Option Addr) (n c : Nat) (hl : SlAt 32 RHash w (.slice a n c) l) (hn : l.length ≤ 1099511627776) (h : List UInt8) (hh : h.length = 32) :
    Ret Tryd.prog 96 [.slice a n c, .agg ⟨hcells h⟩] w fun r w' => r = .int .i64 (idxOf (fun x => decide (h = x)) l) ∧ Ext w w' := by
  have e := ExtB.refl (fun _ => False) w
  obtain ⟨rfl, hat⟩ := hl.at
  refine ret_of_run Tryd.func96 rfl Tryd.ntmps96 rfl ?_
  refine run_seq ?_
  refine run_region rfl ?_
  refine runl_op (t_boxA rfl) ?_
  rintro _ w3 ⟨b3, rfl, hb3, e3, n3, l3⟩
  have z3 := e3.size
  replace e := e.trans e3
  refine runl_ev (ev_assign rfl) ?_
  refine runl_nil ?_
  refine run_seq ?_
  refine run_seq ?_
  refine run_region rfl ?_
  refine runl_ev (ev_move rfl) ?_
  refine runl_ev (ev_lenL sl_94 rfl) ?_
  refine runl_ev (ev_move rfl) ?_
  refine runl_nil ?_
  refine run_block ?_
  refine run_loop (ι := Nat) (fun k => [(0, .slice a l.length c), (3, .pointer (some ⟨b3, 0, none⟩)), (7, .int .i64 (l.length : Int)), (8, .int .i64 (k : Int))]) (fun k w' => k ≤ l.length ∧ (∀ j x, j < k → l[j]? = some x → decide (h = x) = false) ∧ w'.heap[b3]? = some (.cells ⟨hcells h⟩ 29 (0, 0)) ∧ Ext w w') (fun k => l.length - k) (0) ⟨rfl, rfl, rfl, rfl, trivial⟩ (⟨Nat.zero_le _, fun j _ hj => by omega, hb3, e⟩) ?_
  clear e hb3
  intro k w1 ⟨hk, hno, hb3, e⟩ IH
  have lb3 := lt_of_at hb3
  refine run_seq ?_
  refine run_region rfl ?_
  refine runl_ev (ev_lss rfl rfl) ?_
  refine runl_nil ?_
  refine run_seq ?_
  refine run_dcond rfl (fun h0 => ?_) (fun h0 => ?_)
  · have hk1 : k < l.length := by omega
    obtain ⟨b1, o1, cs1, rfl, ⟨hh1, rfl⟩, hc1⟩ := hat k hk1
    refine run_skip ?_
    refine run_seq ?_
    refine run_block ?_
    refine run_seq ?_
    refine run_region rfl ?_
    refine runl_ev (ev_move rfl) ?_
    refine runl_ev (ev_assign rfl) ?_
    refine runl_nil ?_
    refine run_seq ?_
    refine run_draw mo (fun w' => Ext w1 w') [] [(true, 0), (true, 1), (true, 2), (true, 3), (true, 4), (true, 5)] (by kernel_rfl) ?_
    intro wr4 er4
    have zr4 := er4.size
    have hsr4 := er4
    refine rund_ev hsr4 rfl (ev_loadA agg_29 (hcells_length h ▸ hh : (hcells h).length = 32) rfl (fun wz hz => cells_all (hz.at hb3))) ?_
    refine rund_ev hsr4 rfl (ev_move rfl) ?_
    refine rund_ev hsr4 rfl (ev_move rfl) ?_
    refine rund_ev hsr4 rfl (ev_indexAddr el_94 rfl rfl (by omega)) ?_
    refine rund_ev hsr4 rfl (ev_loadA agg_29 (by rw [hcells_length]; exact hh1) rfl (fun wz hz => hc1.ext (e.trans hz))) ?_
    refine rund_ev hsr4 rfl (ev_eqlA rfl rfl eg_29 (eqv_hash Tryd.underlying29 Tryd.underlying5 sz_5 hh hh1)) ?_
    refine rund_nil ?_
    replace e := e.trans er4
    replace hb3 := er4.at hb3
    refine run_cond_split rfl (fun h1 => ?_) (fun h1 => ?_)
    · have h1 : decide (h = l[k]) = true := h1
      refine run_seq ?_
      refine run_region rfl ?_
      refine runl_ev (ev_move rfl) ?_
      refine runl_ev (ev_assign rfl) ?_
      refine runl_nil ?_
      refine run_ret_any Tryd.func96 (res1 Tryd.results96 rfl) ?_
      exact ⟨by rw [idxOf_hit (p := fun x => decide (h = x)) hk1 hno h1], e⟩
    · have h1 : decide (h = l[k]) = false := h1
      refine run_skip ?_
      refine run_inBlock ?_
      refine run_region rfl ?_
      refine runl_ev (ev_add rfl rfl (by omega) (by omega)) ?_
      refine runl_ev (ev_move rfl) ?_
      refine runl_nil ?_
      exact IH (k + 1) _ _ (by omega) ⟨rfl, rfl, rfl, rfl, trivial⟩ ⟨by omega, idxOf_snoc (p := fun x => decide (h = x)) hk1 hno h1, hb3, e⟩
  · obtain rfl : k = l.length := by omega
    refine run_exit rfl ?_
    refine run_seq ?_
    refine run_region rfl ?_
    refine runl_ev (ev_assign rfl) ?_
    refine runl_nil ?_
    refine run_ret_any Tryd.func96 (res1 Tryd.results96 rfl) ?_
    exact ⟨by rw [idxOf_none hno], e⟩
theorem hasH_any (l : List (List UInt8)) (w : World) (a : Option Addr) (n c : Nat) (hl : SlAt 32 RHash w (.slice a n c) l) (hn : l.length ≤ 1099511627776) (h : List UInt8) (hh : h.length = 32) :
    Ret Tryd.prog 90 [.slice a n c, .agg ⟨hcells h⟩] w fun r w' => r = .bool (decide (h ∈ l)) ∧ Ext w w' := by
  have e := ExtB.refl (fun _ => False) w
  refine ret_of_run Tryd.func90 rfl Tryd.ntmps90 rfl ?_
  refine run_seq ?_
  refine run_region rfl ?_
  refine runl_op (t_boxA rfl) ?_
  rintro _ w3 ⟨b3, rfl, hb3, e3, n3, l3⟩
  have z3 := e3.size
  replace e := e.trans e3
  refine runl_ev (ev_assign rfl) ?_
  refine runl_nil ?_
  refine run_seq ?_
  refine run_region rfl ?_
  refine runl_ev (ev_move rfl) ?_
  refine runl_ev (ev_loadA agg_29 (by rw [hcells_length]; exact hh) rfl (eqw (cells_all hb3))) ?_
  refine runl_op (t_call call_96 rfl (idxH_any l _ _ _ _ (hl.ext RHash.stable e) hn h hh)) ?_
  rintro _ w7 ⟨rfl, e7⟩
  have z7 := e7.size
  replace e := e.trans e7
  replace hb3 := e7.at hb3
  refine runl_ev (ev_geq rfl rfl) ?_
  refine runl_ev (ev_assign rfl) ?_
  refine runl_nil ?_
  refine run_ret_any Tryd.func90 (res1 Tryd.results90 rfl) ?_
  exact ⟨congrArg Value.bool (decide_eq_decide.2 idx_mem), e⟩
theorem iskeys_any (k : KeysP) (cs : List Value) (w : World) (hk : RKeys w k cs) : Ret Tryd.prog 83 [.agg ⟨cs⟩] w fun r w' => r = .bool (isKeysP k) ∧ Ext w w' := by
  have e := ExtB.refl (fun _ => False) w
  obtain ⟨a, c, rfl, hks, hkc⟩ := hk
  obtain ⟨-, hat⟩ := hks.at
  have hks0 := hks
  refine ret_of_run Tryd.func83 rfl Tryd.ntmps83 rfl ?_
  refine run_seq ?_
  refine run_region rfl ?_
  refine runl_op (t_boxA rfl) ?_
  rintro _ w1 ⟨b1, rfl, hb1, e1, n1, l1⟩
  have z1 := e1.size
  replace e := e.trans e1
  refine runl_ev (ev_assign rfl) ?_
  refine runl_nil ?_
  refine run_seq ?_
  refine run_seq ?_
  have hcs : (k.keys.length : Int) < 1 ∨ (¬ (k.keys.length : Int) < 1 ∧ (4 : Int) < k.keys.length) ∨ (¬ (k.keys.length : Int) < 1 ∧ ¬ (4 : Int) < k.keys.length ∧ k.need < 1) ∨ (¬ (k.keys.length : Int) < 1 ∧ ¬ (4 : Int) < k.keys.length ∧ ¬ k.need < 1 ∧ (k.keys.length : Int) < k.need) ∨ (¬ (k.keys.length : Int) < 1 ∧ ¬ (4 : Int) < k.keys.length ∧ ¬ k.need < 1 ∧ ¬ (k.keys.length : Int) < k.need) := by omega
  rcases hcs with h1 | ⟨h1, h2⟩ | ⟨h1, h2, h3⟩ | ⟨h1, h2, h3, h4⟩ | ⟨h1, h2, h3, h4⟩
  · refine run_region rfl ?_
    refine runl_ev (ev_fieldAddr fld_96_0 rfl) ?_
    refine runl_ev (ev_load1 cell_94 rfl (eqw (cell_blk hb1 rfl))) ?_
    refine runl_ev (ev_lenL sl_94 rfl) ?_
    refine runl_ev (ev_lss rfl rfl) ?_
    refine runl_ev (ev_move rfl) ?_
    refine runl_no_g rfl rfl (decide_eq_true h1) ?_
    refine runl_no_g rfl rfl (decide_eq_true h1) ?_
    refine runl_no_g rfl rfl (decide_eq_true h1) ?_
    refine runl_no_g rfl rfl (decide_eq_true h1) ?_
    refine runl_ev (ev_pick rfl rfl rfl (if_pos (decide_eq_true h1))) ?_
    refine runl_ev (ev_move rfl) ?_
    refine runl_no_g rfl rfl (rfl) ?_
    refine runl_no_g rfl rfl (rfl) ?_
    refine runl_no_g rfl rfl (rfl) ?_
    refine runl_ev (ev_pick rfl rfl rfl (if_pos (rfl))) ?_
    refine runl_ev (ev_move rfl) ?_
    refine runl_no_g rfl rfl (rfl) ?_
    refine runl_no_g rfl rfl (rfl) ?_
    refine runl_no_g rfl rfl (rfl) ?_
    refine runl_no_g rfl rfl (rfl) ?_
    refine runl_no_g rfl rfl (rfl) ?_
    refine runl_no_g rfl rfl (rfl) ?_
    refine runl_ev (ev_pick rfl rfl rfl (if_pos (rfl))) ?_
    refine runl_nil ?_
    refine run_cond_true rfl (rfl) ?_
    refine run_seq ?_
    refine run_region rfl ?_
    refine runl_ev (ev_assign rfl) ?_
    refine runl_nil ?_
    refine run_ret_any Tryd.func83 (res1 Tryd.results83 rfl) ?_
    exact ⟨by rw [keysF (.inl h1)], e⟩
  · refine run_region rfl ?_
    refine runl_ev (ev_fieldAddr fld_96_0 rfl) ?_
    refine runl_ev (ev_load1 cell_94 rfl (eqw (cell_blk hb1 rfl))) ?_
    refine runl_ev (ev_lenL sl_94 rfl) ?_
    refine runl_ev (ev_lss rfl rfl) ?_
    refine runl_ev (ev_move rfl) ?_
    refine runl_ev_g rfl rfl (decide_eq_false h1) (ev_fieldAddr fld_96_0 rfl) ?_
    refine runl_ev_g rfl rfl (decide_eq_false h1) (ev_load1 cell_94 rfl (eqw (cell_blk hb1 rfl))) ?_
    refine runl_ev_g rfl rfl (decide_eq_false h1) (ev_lenL sl_94 rfl) ?_
    refine runl_ev_g rfl rfl (decide_eq_false h1) (ev_gtr rfl rfl) ?_
    refine runl_ev (ev_pick rfl rfl rfl (if_neg (by simp; omega))) ?_
    refine runl_ev (ev_move rfl) ?_
    refine runl_no_g rfl rfl (decide_eq_true h2) ?_
    refine runl_no_g rfl rfl (decide_eq_true h2) ?_
    refine runl_no_g rfl rfl (decide_eq_true h2) ?_
    refine runl_ev (ev_pick rfl rfl rfl (if_pos (decide_eq_true h2))) ?_
    refine runl_ev (ev_move rfl) ?_
    refine runl_no_g rfl rfl (rfl) ?_
    refine runl_no_g rfl rfl (rfl) ?_
    refine runl_no_g rfl rfl (rfl) ?_
    refine runl_no_g rfl rfl (rfl) ?_
    refine runl_no_g rfl rfl (rfl) ?_
    refine runl_no_g rfl rfl (rfl) ?_
    refine runl_ev (ev_pick rfl rfl rfl (if_pos (rfl))) ?_
    refine runl_nil ?_
    refine run_cond_true rfl (rfl) ?_
    refine run_seq ?_
    refine run_region rfl ?_
    refine runl_ev (ev_assign rfl) ?_
    refine runl_nil ?_
    refine run_ret_any Tryd.func83 (res1 Tryd.results83 rfl) ?_
    exact ⟨by rw [keysF (.inr (.inl h2))], e⟩
  · refine run_region rfl ?_
    refine runl_ev (ev_fieldAddr fld_96_0 rfl) ?_
    refine runl_ev (ev_load1 cell_94 rfl (eqw (cell_blk hb1 rfl))) ?_
    refine runl_ev (ev_lenL sl_94 rfl) ?_
    refine runl_ev (ev_lss rfl rfl) ?_
    refine runl_ev (ev_move rfl) ?_
    refine runl_ev_g rfl rfl (decide_eq_false h1) (ev_fieldAddr fld_96_0 rfl) ?_
    refine runl_ev_g rfl rfl (decide_eq_false h1) (ev_load1 cell_94 rfl (eqw (cell_blk hb1 rfl))) ?_
    refine runl_ev_g rfl rfl (decide_eq_false h1) (ev_lenL sl_94 rfl) ?_
    refine runl_ev_g rfl rfl (decide_eq_false h1) (ev_gtr rfl rfl) ?_
    refine runl_ev (ev_pick rfl rfl rfl (if_neg (by simp; omega))) ?_
    refine runl_ev (ev_move rfl) ?_
    refine runl_ev_g rfl rfl (decide_eq_false h2) (ev_fieldAddr fld_96_1 rfl) ?_
    refine runl_ev_g rfl rfl (decide_eq_false h2) (ev_load1 cell_3 rfl (eqw (cell_blk hb1 rfl))) ?_
    refine runl_ev_g rfl rfl (decide_eq_false h2) (ev_lss rfl rfl) ?_
    refine runl_ev (ev_pick rfl rfl rfl (if_neg (by simp; omega))) ?_
    refine runl_ev (ev_move rfl) ?_
    refine runl_no_g rfl rfl (decide_eq_true h3) ?_
    refine runl_no_g rfl rfl (decide_eq_true h3) ?_
    refine runl_no_g rfl rfl (decide_eq_true h3) ?_
    refine runl_no_g rfl rfl (decide_eq_true h3) ?_
    refine runl_no_g rfl rfl (decide_eq_true h3) ?_
    refine runl_no_g rfl rfl (decide_eq_true h3) ?_
    refine runl_ev (ev_pick rfl rfl rfl (if_pos (decide_eq_true h3))) ?_
    refine runl_nil ?_
    refine run_cond_true rfl (rfl) ?_
    refine run_seq ?_
    refine run_region rfl ?_
    refine runl_ev (ev_assign rfl) ?_
    refine runl_nil ?_
    refine run_ret_any Tryd.func83 (res1 Tryd.results83 rfl) ?_
    exact ⟨by rw [keysF (.inr (.inr (.inl h3)))], e⟩
  · refine run_region rfl ?_
    refine runl_ev (ev_fieldAddr fld_96_0 rfl) ?_
    refine runl_ev (ev_load1 cell_94 rfl (eqw (cell_blk hb1 rfl))) ?_
    refine runl_ev (ev_lenL sl_94 rfl) ?_
    refine runl_ev (ev_lss rfl rfl) ?_
    refine runl_ev (ev_move rfl) ?_
    refine runl_ev_g rfl rfl (decide_eq_false h1) (ev_fieldAddr fld_96_0 rfl) ?_
    refine runl_ev_g rfl rfl (decide_eq_false h1) (ev_load1 cell_94 rfl (eqw (cell_blk hb1 rfl))) ?_
    refine runl_ev_g rfl rfl (decide_eq_false h1) (ev_lenL sl_94 rfl) ?_
    refine runl_ev_g rfl rfl (decide_eq_false h1) (ev_gtr rfl rfl) ?_
    refine runl_ev (ev_pick rfl rfl rfl (if_neg (by simp; omega))) ?_
    refine runl_ev (ev_move rfl) ?_
    refine runl_ev_g rfl rfl (decide_eq_false h2) (ev_fieldAddr fld_96_1 rfl) ?_
    refine runl_ev_g rfl rfl (decide_eq_false h2) (ev_load1 cell_3 rfl (eqw (cell_blk hb1 rfl))) ?_
    refine runl_ev_g rfl rfl (decide_eq_false h2) (ev_lss rfl rfl) ?_
    refine runl_ev (ev_pick rfl rfl rfl (if_neg (by simp; omega))) ?_
    refine runl_ev (ev_move rfl) ?_
    refine runl_ev_g rfl rfl (decide_eq_false h3) (ev_fieldAddr fld_96_1 rfl) ?_
    refine runl_ev_g rfl rfl (decide_eq_false h3) (ev_load1 cell_3 rfl (eqw (cell_blk hb1 rfl))) ?_
    refine runl_ev_g rfl rfl (decide_eq_false h3) (ev_fieldAddr fld_96_0 rfl) ?_
    refine runl_ev_g rfl rfl (decide_eq_false h3) (ev_load1 cell_94 rfl (eqw (cell_blk hb1 rfl))) ?_
    refine runl_ev_g rfl rfl (decide_eq_false h3) (ev_lenL sl_94 rfl) ?_
    refine runl_ev_g rfl rfl (decide_eq_false h3) (ev_gtr rfl rfl) ?_
    refine runl_ev (ev_pick rfl rfl rfl (if_neg (by simp; omega))) ?_
    refine runl_nil ?_
    refine run_cond_true rfl (decide_eq_true h4) ?_
    refine run_seq ?_
    refine run_region rfl ?_
    refine runl_ev (ev_assign rfl) ?_
    refine runl_nil ?_
    refine run_ret_any Tryd.func83 (res1 Tryd.results83 rfl) ?_
    exact ⟨by rw [keysF (.inr (.inr (.inr h4)))], e⟩
  · refine run_region rfl ?_
    refine runl_ev (ev_fieldAddr fld_96_0 rfl) ?_
    refine runl_ev (ev_load1 cell_94 rfl (eqw (cell_blk hb1 rfl))) ?_
    refine runl_ev (ev_lenL sl_94 rfl) ?_
    refine runl_ev (ev_lss rfl rfl) ?_
    refine runl_ev (ev_move rfl) ?_
    refine runl_ev_g rfl rfl (decide_eq_false h1) (ev_fieldAddr fld_96_0 rfl) ?_
    refine runl_ev_g rfl rfl (decide_eq_false h1) (ev_load1 cell_94 rfl (eqw (cell_blk hb1 rfl))) ?_
    refine runl_ev_g rfl rfl (decide_eq_false h1) (ev_lenL sl_94 rfl) ?_
    refine runl_ev_g rfl rfl (decide_eq_false h1) (ev_gtr rfl rfl) ?_
    refine runl_ev (ev_pick rfl rfl rfl (if_neg (by simp; omega))) ?_
    refine runl_ev (ev_move rfl) ?_
    refine runl_ev_g rfl rfl (decide_eq_false h2) (ev_fieldAddr fld_96_1 rfl) ?_
    refine runl_ev_g rfl rfl (decide_eq_false h2) (ev_load1 cell_3 rfl (eqw (cell_blk hb1 rfl))) ?_
    refine runl_ev_g rfl rfl (decide_eq_false h2) (ev_lss rfl rfl) ?_
    refine runl_ev (ev_pick rfl rfl rfl (if_neg (by simp; omega))) ?_
    refine runl_ev (ev_move rfl) ?_
    refine runl_ev_g rfl rfl (decide_eq_false h3) (ev_fieldAddr fld_96_1 rfl) ?_
    refine runl_ev_g rfl rfl (decide_eq_false h3) (ev_load1 cell_3 rfl (eqw (cell_blk hb1 rfl))) ?_
    refine runl_ev_g rfl rfl (decide_eq_false h3) (ev_fieldAddr fld_96_0 rfl) ?_
    refine runl_ev_g rfl rfl (decide_eq_false h3) (ev_load1 cell_94 rfl (eqw (cell_blk hb1 rfl))) ?_
    refine runl_ev_g rfl rfl (decide_eq_false h3) (ev_lenL sl_94 rfl) ?_
    refine runl_ev_g rfl rfl (decide_eq_false h3) (ev_gtr rfl rfl) ?_
    refine runl_ev (ev_pick rfl rfl rfl (if_neg (by simp; omega))) ?_
    refine runl_nil ?_
    refine run_cond_false rfl (decide_eq_false h4) ?_
    refine run_skip ?_
    refine run_seq ?_
    refine run_seq ?_
    refine run_region rfl ?_
    refine runl_ev (ev_fieldAddr fld_96_0 rfl) ?_
    refine runl_ev (ev_load1 cell_94 rfl (eqw (cell_blk hb1 rfl))) ?_
    refine runl_ev (ev_lenL sl_94 rfl) ?_
    refine runl_ev (ev_move rfl) ?_
    refine runl_nil ?_
    refine run_block ?_
    refine run_loop (ι := Nat) (fun j => [(1, .pointer (some ⟨b1, 0, none⟩)), (29, .slice a k.keys.length c), (30, .int .i64 (k.keys.length : Int)), (31, .int .i64 (j : Int))]) (fun j w' => j ≤ k.keys.length ∧ (k.keys.take j).Nodup ∧ w'.heap[b1]? = some (.cells ⟨[.slice a k.keys.length c, .int .i64 k.need]⟩ 96 (0, 0)) ∧ Ext w w') (fun j => k.keys.length - j) (0) ⟨rfl, rfl, rfl, rfl, trivial⟩ (⟨Nat.zero_le _, List.Pairwise.nil, hb1, e⟩) ?_
    clear e hb1
    intro j w1 ⟨hj, hnd, hb1, e⟩ IH
    have lb1 := lt_of_at hb1
    refine run_seq ?_
    refine run_region rfl ?_
    refine runl_ev (ev_lss rfl rfl) ?_
    refine runl_nil ?_
    refine run_seq ?_
    refine run_dcond rfl (fun hl => ?_) (fun hl => ?_)
    · have hj1 : j < k.keys.length := by omega
      obtain ⟨b2, o2, cs2, rfl, ⟨hh2, rfl⟩, hc2⟩ := hat j hj1
      refine run_skip ?_
      refine run_seq ?_
      refine run_block ?_
      refine run_seq ?_
      refine run_region rfl ?_
      refine runl_ev (ev_move rfl) ?_
      refine runl_ev (ev_indexAddr el_94 rfl rfl (by omega)) ?_
      refine runl_ev (ev_loadA agg_29 (by rw [hcells_length]; exact hh2) rfl (eqw (hc2.ext e))) ?_
      refine runl_op (t_alloc zero_29 rfl) ?_
      rintro _ w4 ⟨b4, rfl, hb4, e4, n4, l4⟩
      have z4 := e4.size
      replace e := e.trans e4
      replace hb1 := e4.at hb1
      refine runl_ev (ev_assign rfl) ?_
      refine runl_do (t_storeW sz_29 rfl rfl (by rw [hcells_length]; exact hh2) rfl hb4 (hcells_one _)) ?_
      rintro _ v5_5 ⟨hq5_5, e5_5, z5_5⟩
      replace e := e.new1 e5_5 (by omega)
      replace hb1 := e5_5.at1 hb1 (by omega)
      replace hb4 := hq5_5
      clear hq5_5
      refine runl_nil ?_
      refine run_seq ?_
      refine run_draw mo (fun w' => Ext v5_5 w') [5] [(true, 0), (true, 1), (true, 2), (true, 3), (true, 4), (false, 5)] (by kernel_rfl) ?_
      intro wr6 er6
      have zr6 := er6.size
      have hsr6 := er6
      have ep := e.trans er6
      have hb1p := er6.at hb1
      have hb4p := er6.at hb4
      refine rund_ev hsr6 rfl (ev_fieldAddr fld_96_0 rfl) ?_
      refine rund_ev hsr6 rfl (ev_load1 cell_94 rfl (fun wz hz => cell_blk (hz.at hb1) rfl)) ?_
      refine rund_ev hsr6 rfl (ev_move rfl) ?_
      refine rund_ev hsr6 rfl (ev_sliceL_hi (n := j) el_94 rfl rfl (by omega)) ?_
      refine rund_ev hsr6 rfl (ev_loadA agg_29 (by rw [hcells_length]; exact hh2) rfl (fun wz hz => cells_all (hz.at hb4))) ?_
      refine rund_opT rfl rfl (t_call call_90 rfl (hasH_any (k.keys.take j) _ _ _ _ (sl_take (hks0.ext RHash.stable ep) (by omega) c) (by rw [List.length_take]; omega) _ hh2)) ?_
      rintro _ w41 ⟨rfl, e41⟩
      have z41 := e41.size
      replace ep := ep.trans e41
      replace hb1p := e41.at hb1p
      replace hb4p := e41.at hb4p
      refine rund_nil ?_
      replace e := ep
      clear ep
      replace hb1 := hb1p
      clear hb1p
      replace hb4 := hb4p
      clear hb4p
      refine run_dcond rfl (fun hm => ?_) (fun hm => ?_)
      · refine run_seq ?_
        refine run_region rfl ?_
        refine runl_ev (ev_assign rfl) ?_
        refine runl_nil ?_
        refine run_ret_any Tryd.func83 (res1 Tryd.results83 rfl) ?_
        exact ⟨by rw [keysN (not_nodup_take hj1 hm)], e⟩
      · refine run_skip ?_
        refine run_inBlock ?_
        refine run_region rfl ?_
        refine runl_ev (ev_add rfl rfl (by omega) (by omega)) ?_
        refine runl_ev (ev_move rfl) ?_
        refine runl_nil ?_
        exact IH (j + 1) _ _ (by omega) ⟨rfl, rfl, rfl, rfl, trivial⟩ ⟨by omega, nodup_take_succ hj1 hnd hm, hb1, e⟩
    · obtain rfl : j = k.keys.length := by omega
      rw [List.take_length] at hnd
      refine run_exit rfl ?_
      refine run_seq ?_
      refine run_region rfl ?_
      refine runl_ev (ev_assign rfl) ?_
      refine runl_nil ?_
      refine run_ret_any Tryd.func83 (res1 Tryd.results83 rfl) ?_
      exact ⟨by rw [keysT h1 h2 h3 h4 hnd], e⟩
theorem rnums_any (ns : List Int) (w : World) (a : Option Addr) (n c : Nat) (hs : SlAt 1 RInt w (.slice a n c) ns) (hn : ns.length ≤ 1099511627776) : Ret Tryd.prog 38 [.slice a n c] w fun r w' => r = .bool (ns.all numB) ∧ Ext w w' := by
  have e := ExtB.refl (fun _ => False) w
  obtain ⟨rfl, hat⟩ := hs.at
  refine ret_of_run Tryd.func38 rfl Tryd.ntmps38 rfl ?_
  refine run_seq ?_
  refine run_region rfl ?_
  refine runl_ev (ev_assign rfl) ?_
  refine runl_nil ?_
  refine run_seq ?_
  refine run_seq ?_
  refine run_region rfl ?_
  refine runl_ev (ev_assign rfl) ?_
  refine runl_nil ?_
  refine run_block ?_
  refine run_loop (ι := Nat) (fun k => [(0, .slice a ns.length c), (3, .int .i64 (k : Int))]) (fun k w' => k ≤ ns.length ∧ (ns.take k).all numB = true ∧ Ext w w') (fun k => ns.length - k) (0) ⟨rfl, rfl, trivial⟩ (⟨Nat.zero_le _, rfl, e⟩) ?_
  clear e
  intro k w1 ⟨hk, hall, e⟩ IH
  refine run_seq ?_
  refine run_seq ?_
  refine run_region rfl ?_
  refine runl_ev (ev_move rfl) ?_
  refine runl_ev (ev_move rfl) ?_
  refine runl_ev (ev_lenL sl_111 rfl) ?_
  refine runl_ev (ev_lss rfl rfl) ?_
  refine runl_nil ?_
  refine run_dcond rfl (fun h0 => ?_) (fun h0 => ?_)
  · have hk1 : k < ns.length := by omega
    obtain ⟨b1, o1, cs1, rfl, hr1, hc1⟩ := hat k hk1
    obtain rfl := hr1
    refine run_skip ?_
    refine run_seq ?_
    refine run_block ?_
    refine run_seq ?_
    by_cases h1 : ns[k] < 0
    · refine run_region rfl ?_
      refine runl_ev (ev_move rfl) ?_
      refine runl_ev (ev_move rfl) ?_
      refine runl_ev (ev_indexAddr el_111 rfl rfl (by omega)) ?_
      refine runl_ev (ev_load1 cell_3 rfl (eqw (hc1.ext e))) ?_
      refine runl_ev (ev_lss rfl rfl) ?_
      refine runl_ev (ev_move rfl) ?_
      refine runl_no_g rfl rfl (decide_eq_true h1) ?_
      refine runl_no_g rfl rfl (decide_eq_true h1) ?_
      refine runl_no_g rfl rfl (decide_eq_true h1) ?_
      refine runl_no_g rfl rfl (decide_eq_true h1) ?_
      refine runl_no_g rfl rfl (decide_eq_true h1) ?_
      refine runl_ev (ev_pick rfl rfl rfl (if_pos (decide_eq_true h1))) ?_
      refine runl_nil ?_
      refine run_cond_true rfl (rfl) ?_
      refine run_seq ?_
      refine run_region rfl ?_
      refine runl_ev (ev_assign rfl) ?_
      refine runl_nil ?_
      refine run_ret_any Tryd.func38 (res1 Tryd.results38 rfl) ?_
      exact ⟨by rw [all_no hk1 (by simp only [numB]; rw [decide_eq_false (by omega)]; rfl)], e⟩
    · refine run_region rfl ?_
      refine runl_ev (ev_move rfl) ?_
      refine runl_ev (ev_move rfl) ?_
      refine runl_ev (ev_indexAddr el_111 rfl rfl (by omega)) ?_
      refine runl_ev (ev_load1 cell_3 rfl (eqw (hc1.ext e))) ?_
      refine runl_ev (ev_lss rfl rfl) ?_
      refine runl_ev (ev_move rfl) ?_
      refine runl_ev_g rfl rfl (decide_eq_false h1) (ev_move rfl) ?_
      refine runl_ev_g rfl rfl (decide_eq_false h1) (ev_move rfl) ?_
      refine runl_ev_g rfl rfl (decide_eq_false h1) (ev_indexAddr el_111 rfl rfl (by omega)) ?_
      refine runl_ev_g rfl rfl (decide_eq_false h1) (ev_load1 cell_3 rfl (eqw (hc1.ext e))) ?_
      refine runl_ev_g rfl rfl (decide_eq_false h1) (ev_gtr rfl rfl) ?_
      refine runl_ev (ev_pick rfl rfl rfl (if_neg (by simp; omega))) ?_
      refine runl_nil ?_
      refine run_dcond rfl (fun h2 => ?_) (fun h2 => ?_)
      · refine run_seq ?_
        refine run_region rfl ?_
        refine runl_ev (ev_assign rfl) ?_
        refine runl_nil ?_
        refine run_ret_any Tryd.func38 (res1 Tryd.results38 rfl) ?_
        exact ⟨by rw [all_no hk1 (by simp only [numB]; rw [decide_eq_false (by omega : ¬ ns[k] ≤ 1073741824)]; simp)], e⟩
      · have hn1 : numB ns[k] = true := by simp only [numB]; rw [decide_eq_true (by omega : 0 ≤ ns[k]), decide_eq_true (by omega : ns[k] ≤ 1073741824)]; rfl
        refine run_skip ?_
        refine run_inBlock ?_
        refine run_region rfl ?_
        refine runl_ev (ev_move rfl) ?_
        refine runl_ev (ev_add rfl rfl (by omega) (by omega)) ?_
        refine runl_ev (ev_assign rfl) ?_
        refine runl_nil ?_
        exact IH (k + 1) _ _ (by omega) ⟨rfl, rfl, trivial⟩ ⟨by omega, all_take_succ hk1 hall hn1, e⟩
  · obtain rfl : k = ns.length := by omega
    rw [List.take_length] at hall
    refine run_exit rfl ?_
    refine run_seq ?_
    refine run_region rfl ?_
    refine runl_ev (ev_assign rfl) ?_
    refine runl_nil ?_
    refine run_ret_any Tryd.func38 (res1 Tryd.results38 rfl) ?_
    exact ⟨by rw [hall], e⟩
theorem istime_any (t : TimeP) (ht : t.sum.length = 32) (w : World) : Ret Tryd.prog 20 [.agg ⟨t.cells⟩] w fun v w' => v = .bool (isTimeP t) ∧ Ext w w' := by
  have e := ExtB.refl (fun _ => False) w
  refine ret_of_run Tryd.func20 rfl Tryd.ntmps20 rfl ?_
  refine run_seq ?_
  refine run_region rfl ?_
  refine runl_op (t_boxA rfl) ?_
  rintro _ w1 ⟨b1, rfl, hb1, e1, n1, l1⟩
  have z1 := e1.size
  replace e := e.trans e1
  refine runl_ev (ev_assign rfl) ?_
  refine runl_nil ?_
  refine run_seq ?_
  refine run_region rfl ?_
  refine runl_ev (ev_fieldAddr fld_31_0 rfl) ?_
  refine runl_ev (ev_load1 cell_3 rfl (eqw (cell_blk hb1 rfl))) ?_
  refine runl_op (t_call call_54 rfl (isver_any t.ver _)) ?_
  rintro _ w5 ⟨rfl, e5⟩
  have z5 := e5.size
  replace e := e.trans e5
  replace hb1 := e5.at hb1
  cases hv : verB t.ver
  · refine runl_ev (ev_move rfl) ?_
    refine runl_no_g rfl rfl (rfl) ?_
    refine runl_no_g rfl rfl (rfl) ?_
    refine runl_no_g rfl rfl (rfl) ?_
    refine runl_ev (ev_pick rfl rfl rfl (if_neg (by simp))) ?_
    refine runl_ev (ev_move rfl) ?_
    refine runl_no_g rfl rfl (rfl) ?_
    refine runl_no_g rfl rfl (rfl) ?_
    refine runl_no_g rfl rfl (rfl) ?_
    refine runl_ev (ev_pick rfl rfl rfl (if_neg (by simp))) ?_
    refine runl_ev (ev_assign rfl) ?_
    refine runl_nil ?_
    refine run_ret_any Tryd.func20 (res1 Tryd.results20 rfl) ?_
    exact ⟨by simp [isTimeP, hv], e⟩
  · refine runl_ev (ev_move rfl) ?_
    refine runl_ev_g rfl rfl (rfl) (ev_fieldAddr fld_31_1 rfl) ?_
    refine runl_ev_g rfl rfl (rfl) (ev_load1 cell_3 rfl (eqw (cell_blk hb1 rfl))) ?_
    refine runl_op_g rfl rfl (rfl) (t_call call_55 rfl (isnum_any t.exp _)) ?_
    rintro _ w9 ⟨rfl, e9⟩
    have z9 := e9.size
    replace e := e.trans e9
    replace hb1 := e9.at hb1
    cases hx : numB t.exp
    · refine runl_ev (ev_pick rfl rfl rfl (if_pos (rfl))) ?_
      refine runl_ev (ev_move rfl) ?_
      refine runl_no_g rfl rfl (rfl) ?_
      refine runl_no_g rfl rfl (rfl) ?_
      refine runl_no_g rfl rfl (rfl) ?_
      refine runl_ev (ev_pick rfl rfl rfl (if_neg (by simp))) ?_
      refine runl_ev (ev_assign rfl) ?_
      refine runl_nil ?_
      refine run_ret_any Tryd.func20 (res1 Tryd.results20 rfl) ?_
      exact ⟨by simp [isTimeP, hv, hx], e⟩
    · refine runl_ev (ev_pick rfl rfl rfl (if_pos (rfl))) ?_
      refine runl_ev (ev_move rfl) ?_
      refine runl_ev_g rfl rfl (rfl) (ev_fieldAddr fld_31_2 rfl) ?_
      refine runl_ev_g rfl rfl (rfl) (ev_load1 cell_3 rfl (eqw (cell_blk hb1 rfl))) ?_
      refine runl_op_g rfl rfl (rfl) (t_call call_54 rfl (isver_any t.snap _)) ?_
      rintro _ w14 ⟨rfl, e14⟩
      have z14 := e14.size
      replace e := e.trans e14
      replace hb1 := e14.at hb1
      refine runl_ev (ev_pick rfl rfl rfl (if_pos (rfl))) ?_
      refine runl_ev (ev_assign rfl) ?_
      refine runl_nil ?_
      refine run_ret_any Tryd.func20 (res1 Tryd.results20 rfl) ?_
      exact ⟨by simp [isTimeP, hv, hx], e⟩
end Go.Proofs.YtcmbiaibocdfeaaDoor

/- The walks of find's ForEcu, of its reference, and of the law on them. -/
import Derived.Test.YtpomcdmlmaimeaaFind3
namespace Go.Proofs.Ytpomcdmlmaimeaa
open Go Go.Fw
set_option maxRecDepth 100000

theorem ecuc_any (t : Tgt) (ht : t.wf) (w : World) (sv : Nat) (T : TypeId) (fr : Nat × Nat) (name : ByteArray) (hsv : w.heap[sv]? = some (.cells ⟨[.string name]⟩ T fr)) :
    Ret Try.prog 20 [.agg ⟨t.cells⟩, .pointer (some ⟨sv, 0, none⟩)] w fun r w' => r = .bool (decide (t.ecu = name)) ∧ Ext w w' := by
  have E := ExtB.refl (fun _ => False) w
  refine ret_of_run Try.func20 rfl Try.ntmps20 rfl ?_
  refine run_seq ?_
  refine run_region rfl ?_
  refine runl_op (t_boxA rfl) ?_
  rintro _ w2 ⟨b2, rfl, hb2, e2, n2, l2⟩
  have z2 := e2.size
  replace hsv := e2.at hsv
  refine runl_ev (ev_assign rfl) ?_
  refine runl_nil ?_
  refine run_seq ?_
  refine run_region rfl ?_
  refine runl_ev (ev_fieldAddr fld_27_5 rfl) ?_
  refine runl_ev (ev_load1 cell_9 rfl (eqw ((cells_all hb2).pick 36 rfl (Tgt.c36 ht)))) ?_
  refine runl_ev (ev_load1 cell_9 rfl (eqw (cell_blk hsv rfl))) ?_
  refine runl_ev (ev_eqlS rfl rfl) ?_
  refine runl_ev (ev_assign rfl) ?_
  refine runl_nil ?_
  refine run_ret_any Try.func20 (res1 Try.results20 rfl) ?_
  exact ⟨rfl, e2⟩
theorem forecu_any (l : List Tgs) (w : World) (a : Option Addr) (len cap : Nat) (hl : SlAt 5 RTgs w (.slice a len cap) l) (hb : Bnd l) (ecu : ByteArray) :
    Ret Try.prog 15 [.slice a len cap, .string ecu] w fun r w' => r = ecuVal (ecuF l ecu) ∧ ((ecuF l ecu).getD Tgt.zero).wf ∧ Ext w w' := by
  obtain ⟨rfl, hat⟩ := hl.at
  have e := ExtB.refl (fun _ => False) w
  refine ret_of_run Try.func15 rfl Try.ntmps15 rfl ?_
  refine run_seq ?_
  refine run_region rfl ?_
  refine runl_op (t_box1 rfl rfl) ?_
  rintro _ w3 ⟨b3, rfl, hb3, e3, n3, l3⟩
  have z3 := e3.size
  replace e := e.trans e3
  refine runl_op (t_alloc zero_27 rfl) ?_
  rintro _ w4 ⟨b4, rfl, hb4, e4, n4, l4⟩
  have z4 := e4.size
  replace e := e.trans e4
  replace hb3 := e4.at hb3
  refine runl_ev (ev_assign rfl) ?_
  refine runl_nil ?_
  refine run_seq ?_
  refine run_seq ?_
  by_cases hne : l = []
  · subst hne
    refine run_region rfl ?_
    refine runl_ev (ev_move rfl) ?_
    refine runl_ev (ev_lenL sl_22 rfl) ?_
    refine runl_ev (ev_eqlI rfl rfl) ?_
    refine runl_ev (ev_move rfl) ?_
    refine runl_no_g rfl rfl (rfl) ?_
    refine runl_no_g rfl rfl (rfl) ?_
    refine runl_ev (ev_pick rfl rfl rfl (if_pos rfl)) ?_
    refine runl_nil ?_
    refine run_cond_true rfl (rfl) ?_
    refine run_seq ?_
    refine run_region rfl ?_
    refine runl_ev (ev_build (out := Tgt.zero.cells) ps_27 zero_27 rfl rfl (rfl)) ?_
    refine runl_do (t_storeW sz_27 rfl rfl rfl rfl hb4 (Tgt.one Tgt.zero)) ?_
    rintro _ v2_1 ⟨hq2_1, e2_1, z2_1⟩
    replace e := e.new1 e2_1 (by omega)
    replace hb3 := e2_1.at1 hb3 (by omega)
    replace hb4 := hq2_1
    clear hq2_1
    refine runl_ev (ev_assign rfl) ?_
    refine runl_nil ?_
    refine run_ret_any Try.func15 (resCT Try.results15 rfl (loadVar_agg agg_27 Tgt.cells_zero_len (cells_all hb4)) rfl) ?_
    exact ⟨rfl, Tgt.zero_wf, e⟩
  · obtain ⟨t, r, rfl⟩ : ∃ t r, l = t :: r := by
      cases l with
      | nil => exact absurd rfl hne
      | cons t r => exact ⟨t, r, rfl⟩
    obtain ⟨b, o, cs, rfl, hr, hc⟩ : ∃ b o cs, a = some ⟨b, o, none⟩ ∧ RTgs w t cs ∧ Cells w b (o + 0 * 5) cs := hat 0 (by simp)
    obtain ⟨lv, dv, rfl, hL, hD⟩ := hr
    have hL0 := hL
    obtain ⟨a1, c1, rfl, hL1⟩ := hL
    have hbt := hb.2.1 t (by simp)
    refine run_region rfl ?_
    refine runl_ev (ev_move rfl) ?_
    refine runl_ev (ev_lenL sl_22 rfl) ?_
    refine runl_ev (ev_eqlI rfl rfl) ?_
    refine runl_ev (ev_move rfl) ?_
    refine runl_ev_g rfl rfl (decide_eq_false (by simp; omega)) (ev_load1 cell_9 rfl (eqw (cell_blk hb3 rfl))) ?_
    refine runl_ev_g rfl rfl (decide_eq_false (by simp; omega)) (ev_eqlS rfl rfl) ?_
    refine runl_ev (ev_pick rfl rfl rfl (if_neg (by simp; omega))) ?_
    refine runl_nil ?_
    refine run_dcond rfl (fun h0 => ?_) (fun h0 => ?_)
    · refine run_seq ?_
      refine run_region rfl ?_
      refine runl_ev (ev_build (out := Tgt.zero.cells) ps_27 zero_27 rfl rfl (rfl)) ?_
      refine runl_do (t_storeW sz_27 rfl rfl rfl rfl hb4 (Tgt.one Tgt.zero)) ?_
      rintro _ v2_1x1 ⟨hq2_1x1, e2_1x1, z2_1x1⟩
      replace e := e.new1 e2_1x1 (by omega)
      replace hb3 := e2_1x1.at1 hb3 (by omega)
      replace hb4 := hq2_1x1
      clear hq2_1x1
      refine runl_ev (ev_assign rfl) ?_
      refine runl_nil ?_
      refine run_ret_any Try.func15 (resCT Try.results15 rfl (loadVar_agg agg_27 Tgt.cells_zero_len (cells_all hb4)) rfl) ?_
      have hf : ecuF (t :: r) ecu = none := if_pos h0
      rw [hf]
      exact ⟨rfl, Tgt.zero_wf, e⟩
    · refine run_skip ?_
      refine run_seq ?_
      refine run_region rfl ?_
      refine runl_ev (ev_move rfl) ?_
      refine runl_ev (ev_indexAddr (k := 0) el_22 rfl rfl (by simp)) ?_
      refine runl_ev (ev_fieldAddr fld_33_3 rfl) ?_
      refine runl_ev (ev_load1 cell_30 rfl (eqw ((hc.ext e).pick 3 rfl rfl))) ?_
      refine runl_ev (ev_makeFunc rfl rfl) ?_
      refine runl_op (t_call call_19 rfl (idxT_any RTgt (fun _ _ _ h => by rw [h.2]; exact Tgt.cells_length h.1) (fun x => decide (x.ecu = ecu)) t.l w _ e _ _ _ hL0 (by omega) _ _ call_20 (fun x cs wx _ hx ex => by obtain ⟨hw, rfl⟩ := hx; exact ecuc_any x hw _ _ _ _ ecu (ex.at hb3)))) ?_
      rintro _ w20 ⟨rfl, e20⟩
      have z20 := e20.size
      replace e := e.trans e20
      replace hb3 := e20.at hb3
      replace hb4 := e20.at hb4
      refine runl_ev (ev_assign rfl) ?_
      refine runl_nil ?_
      refine run_seq ?_
      refine run_seq ?_
      refine run_region rfl ?_
      refine runl_ev (ev_move rfl) ?_
      refine runl_ev (ev_lss rfl rfl) ?_
      refine runl_nil ?_
      refine run_dcond rfl (fun h1 => ?_) (fun h1 => ?_)
      · refine run_seq ?_
        refine run_region rfl ?_
        refine runl_ev (ev_build (out := Tgt.zero.cells) ps_27 zero_27 rfl rfl (rfl)) ?_
        refine runl_do (t_storeW sz_27 rfl rfl rfl rfl hb4 (Tgt.one Tgt.zero)) ?_
        rintro _ v5_1 ⟨hq5_1, e5_1, z5_1⟩
        replace e := e.new1 e5_1 (by omega)
        replace hb3 := e5_1.at1 hb3 (by omega)
        replace hb4 := hq5_1
        clear hq5_1
        refine runl_ev (ev_assign rfl) ?_
        refine runl_nil ?_
        refine run_ret_any Try.func15 (resCT Try.results15 rfl (loadVar_agg agg_27 Tgt.cells_zero_len (cells_all hb4)) rfl) ?_
        have hf : ecuF (t :: r) ecu = none := (if_neg h0).trans (if_neg (by omega))
        rw [hf]
        exact ⟨rfl, Tgt.zero_wf, e⟩
      · obtain ⟨kk, hkk⟩ := Int.eq_ofNat_of_zero_le (by omega : 0 ≤ idxOf (fun x : Tgt => decide (x.ecu = ecu)) t.l)
        rw [hkk]
        obtain ⟨x, hx, _, hkl⟩ := idxOf_get hkk
        obtain ⟨b1, o1, cs1, rfl, ⟨hwf, rfl⟩, hc1⟩ := hL1 kk x hx
        have hf : ecuF (t :: r) ecu = some x := (if_neg h0).trans ((if_pos (by omega)).trans (by rw [hkk]; exact hx))
        rw [hf]
        refine run_skip ?_
        refine run_seq ?_
        refine run_region rfl ?_
        refine runl_ev (ev_move rfl) ?_
        refine runl_ev (ev_indexAddr (k := 0) el_22 rfl rfl (by simp)) ?_
        refine runl_ev (ev_fieldAddr fld_33_3 rfl) ?_
        refine runl_ev (ev_load1 cell_30 rfl (eqw ((hc.ext e).pick 3 rfl rfl))) ?_
        refine runl_ev (ev_move rfl) ?_
        refine runl_ev (ev_indexAddr (k := kk) el_30 rfl rfl (by omega)) ?_
        refine runl_ev (ev_loadA agg_27 (Tgt.cells_length hwf) rfl (eqw (hc1.ext e))) ?_
        refine runl_do (t_storeW sz_27 rfl rfl (Tgt.cells_length hwf) rfl hb4 (Tgt.one x)) ?_
        rintro _ v6_7 ⟨hq6_7, e6_7, z6_7⟩
        replace e := e.new1 e6_7 (by omega)
        replace hb3 := e6_7.at1 hb3 (by omega)
        replace hb4 := hq6_7
        clear hq6_7
        refine runl_ev (ev_assign rfl) ?_
        refine runl_nil ?_
        refine run_ret_any Try.func15 (resCT Try.results15 rfl (loadVar_agg agg_27 (Tgt.cells_length hwf) (cells_all hb4)) rfl) ?_
        exact ⟨rfl, hwf, e⟩
theorem lawEcu_any (l : List Tgs) (w : World) (a : Option Addr) (len cap : Nat) (hl : SlAt 5 RTgs w (.slice a len cap) l) (hb : Bnd l) (ecu : ByteArray) (he : ecu.size ≤ 1099511627776) :
    Ret Try.prog 10 [.slice a len cap, .string ecu] w fun r w' => r = .bool true ∧ Ext w w' := by
  have hl0 := hl
  obtain ⟨rfl, hat⟩ := hl.at
  have e := ExtB.refl (fun _ => False) w
  refine ret_of_run Try.func10 rfl Try.ntmps10 rfl ?_
  refine run_seq ?_
  refine run_region rfl ?_
  refine runl_ev (ev_assign rfl) ?_
  refine runl_nil ?_
  refine run_seq ?_
  refine run_seq ?_
  refine run_region rfl ?_
  refine runl_ev (ev_move rfl) ?_
  refine runl_op (t_call call_11 rfl (heavy_any l _ _ _ _ (hl0.ext RTgs.stable e) hb)) ?_
  rintro _ w9 ⟨tb, rfl, e9⟩
  have z9 := e9.size
  replace e := e.trans e9
  have hcase : tb = true ∨ (tb = false ∧ l = []) ∨ (tb = false ∧ l ≠ [] ∧ ecu = ⟨#[]⟩) ∨ (tb = false ∧ l ≠ [] ∧ ecu ≠ ⟨#[]⟩) := by
    cases tb <;> by_cases h1 : l = [] <;> by_cases h2 : ecu = ⟨#[]⟩ <;> simp [h1, h2]
  rcases hcase with rfl | ⟨rfl, rfl⟩ | ⟨rfl, hne, rfl⟩ | ⟨rfl, hne, hee⟩
  · refine runl_ev (ev_move rfl) ?_
    refine runl_no_g rfl rfl (rfl) ?_
    refine runl_no_g rfl rfl (rfl) ?_
    refine runl_no_g rfl rfl (rfl) ?_
    refine runl_ev (ev_pick rfl rfl rfl rfl) ?_
    refine runl_ev (ev_move rfl) ?_
    refine runl_no_g rfl rfl (rfl) ?_
    refine runl_no_g rfl rfl (rfl) ?_
    refine runl_ev (ev_pick rfl rfl rfl rfl) ?_
    refine runl_ev (ev_move rfl) ?_
    refine runl_no_g rfl rfl (rfl) ?_
    refine runl_no_g rfl rfl (rfl) ?_
    refine runl_no_g rfl rfl (rfl) ?_
    refine runl_ev (ev_pick rfl rfl rfl rfl) ?_
    refine runl_nil ?_
    refine run_cond_true rfl (rfl) ?_
    refine run_seq ?_
    refine run_region rfl ?_
    refine runl_ev (ev_assign rfl) ?_
    refine runl_nil ?_
    refine run_ret_any Try.func10 (res1 Try.results10 rfl) ?_
    exact ⟨rfl, e⟩
  · refine runl_ev (ev_move rfl) ?_
    refine runl_ev_g rfl rfl (rfl) (ev_move rfl) ?_
    refine runl_ev_g rfl rfl (rfl) (ev_lenL sl_22 rfl) ?_
    refine runl_ev_g rfl rfl (rfl) (ev_eqlI rfl rfl) ?_
    refine runl_ev (ev_pick rfl rfl rfl (if_neg (by simp))) ?_
    refine runl_ev (ev_move rfl) ?_
    refine runl_no_g rfl rfl (rfl) ?_
    refine runl_no_g rfl rfl (rfl) ?_
    refine runl_ev (ev_pick rfl rfl rfl rfl) ?_
    refine runl_ev (ev_move rfl) ?_
    refine runl_no_g rfl rfl (rfl) ?_
    refine runl_no_g rfl rfl (rfl) ?_
    refine runl_no_g rfl rfl (rfl) ?_
    refine runl_ev (ev_pick rfl rfl rfl rfl) ?_
    refine runl_nil ?_
    refine run_cond_true rfl (rfl) ?_
    refine run_seq ?_
    refine run_region rfl ?_
    refine runl_ev (ev_assign rfl) ?_
    refine runl_nil ?_
    refine run_ret_any Try.func10 (res1 Try.results10 rfl) ?_
    exact ⟨rfl, e⟩
  · refine runl_ev (ev_move rfl) ?_
    refine runl_ev_g rfl rfl (rfl) (ev_move rfl) ?_
    refine runl_ev_g rfl rfl (rfl) (ev_lenL sl_22 rfl) ?_
    refine runl_ev_g rfl rfl (rfl) (ev_eqlI rfl rfl) ?_
    refine runl_ev (ev_pick rfl rfl rfl (if_neg (by simp))) ?_
    refine runl_ev (ev_move rfl) ?_
    refine runl_ev_g rfl rfl (decide_eq_false (by simp; omega)) (ev_move rfl) ?_
    refine runl_ev_g rfl rfl (decide_eq_false (by simp; omega)) (ev_eqlS rfl rfl) ?_
    refine runl_ev (ev_pick rfl rfl rfl (if_neg (by simp; omega))) ?_
    refine runl_ev (ev_move rfl) ?_
    refine runl_no_g rfl rfl (rfl) ?_
    refine runl_no_g rfl rfl (rfl) ?_
    refine runl_no_g rfl rfl (rfl) ?_
    refine runl_ev (ev_pick rfl rfl rfl rfl) ?_
    refine runl_nil ?_
    refine run_cond_true rfl (rfl) ?_
    refine run_seq ?_
    refine run_region rfl ?_
    refine runl_ev (ev_assign rfl) ?_
    refine runl_nil ?_
    refine run_ret_any Try.func10 (res1 Try.results10 rfl) ?_
    exact ⟨rfl, e⟩
  · obtain ⟨t, r, rfl⟩ : ∃ t r, l = t :: r := by
      cases l with
      | nil => exact absurd rfl hne
      | cons t r => exact ⟨t, r, rfl⟩
    obtain ⟨b, o, cs, rfl, hr, hc⟩ : ∃ b o cs, a = some ⟨b, o, none⟩ ∧ RTgs w t cs ∧ Cells w b (o + 0 * 5) cs := hat 0 (by simp)
    obtain ⟨lv, dv, rfl, hL, hD⟩ := hr
    have hL0 := hL
    obtain ⟨a1, c1, rfl, hL1⟩ := hL
    have hbt := hb.2.1 t (by simp)
    refine runl_ev (ev_move rfl) ?_
    refine runl_ev_g rfl rfl (rfl) (ev_move rfl) ?_
    refine runl_ev_g rfl rfl (rfl) (ev_lenL sl_22 rfl) ?_
    refine runl_ev_g rfl rfl (rfl) (ev_eqlI rfl rfl) ?_
    refine runl_ev (ev_pick rfl rfl rfl rfl) ?_
    refine runl_ev (ev_move rfl) ?_
    refine runl_ev_g rfl rfl (decide_eq_false (by simp; omega)) (ev_move rfl) ?_
    refine runl_ev_g rfl rfl (decide_eq_false (by simp; omega)) (ev_eqlS rfl rfl) ?_
    refine runl_ev (ev_pick rfl rfl rfl (if_neg (by simp; omega))) ?_
    refine runl_ev (ev_move rfl) ?_
    refine runl_ev_g rfl rfl (decide_eq_false hee) (ev_move rfl) ?_
    refine runl_ev_g rfl rfl (decide_eq_false hee) (ev_lenS str_9 rfl) ?_
    refine runl_ev_g rfl rfl (decide_eq_false hee) (ev_gtr rfl rfl) ?_
    refine runl_ev (ev_pick rfl rfl rfl (if_neg (by simp [hee]))) ?_
    refine runl_nil ?_
    refine run_dcond rfl (fun h0 => ?_) (fun h0 => ?_)
    · refine run_seq ?_
      refine run_region rfl ?_
      refine runl_ev (ev_assign rfl) ?_
      refine runl_nil ?_
      refine run_ret_any Try.func10 (res1 Try.results10 rfl) ?_
      exact ⟨rfl, e⟩
    · refine run_skip ?_
      refine run_seq ?_
      refine run_region rfl ?_
      refine runl_ev (ev_move rfl) ?_
      refine runl_ev (ev_move rfl) ?_
      refine runl_op (t_call call_15 rfl (forecu_any (t :: r) _ _ _ _ (hl0.ext RTgs.stable e) hb ecu)) ?_
      rintro _ w27 ⟨rfl, hwf, e27⟩
      have z27 := e27.size
      replace e := e.trans e27
      refine runl_ev (ev_move rfl) ?_
      refine runl_ev (ev_extract rfl rfl) ?_
      refine runl_ev (ev_extract rfl rfl) ?_
      refine runl_op (t_alloc zero_27 rfl) ?_
      rintro _ w5 ⟨b5, rfl, hb5, e5, n5, l5⟩
      have z5 := e5.size
      replace e := e.trans e5
      refine runl_do (t_storeW sz_27 rfl rfl (Tgt.cells_length hwf) rfl hb5 (Tgt.one _)) ?_
      rintro _ v3_7 ⟨hq3_7, e3_7, z3_7⟩
      replace e := e.new1 e3_7 (by omega)
      replace hb5 := hq3_7
      clear hq3_7
      refine runl_ev (ev_assign rfl) ?_
      refine runl_nil ?_
      refine run_seq ?_
      refine run_seq ?_
      refine run_region rfl ?_
      refine runl_ev (ev_assign rfl) ?_
      refine runl_nil ?_
      refine run_block ?_
      refine run_loop (ι := Nat) (fun k => [(0, .slice (some ⟨b, o, none⟩) (t :: r).length cap), (1, .string ecu), (5, .pointer (some ⟨b5, 0, none⟩)), (6, .bool (ecuF (t :: r) ecu).isSome), (7, .int .i64 (k : Int))]) (fun k w' => k ≤ t.l.length ∧ (∀ j x, j < k → t.l[j]? = some x → decide (x.ecu = ecu) = false) ∧ w'.heap[b5]? = some (.cells ⟨((ecuF (t :: r) ecu).getD Tgt.zero).cells⟩ 27 (0, 0)) ∧ Ext w w') (fun k => t.l.length - k) (0) ⟨rfl, rfl, rfl, rfl, rfl, trivial⟩ (⟨Nat.zero_le _, fun j _ hj => by omega, hb5, e⟩) ?_
      clear e hb5
      intro k w1 ⟨hk, hno, hb5, e⟩ IH
      refine run_seq ?_
      refine run_seq ?_
      refine run_region rfl ?_
      refine runl_ev (ev_move rfl) ?_
      refine runl_ev (ev_move rfl) ?_
      refine runl_ev (ev_indexAddr (k := 0) el_22 rfl rfl (by simp)) ?_
      refine runl_ev (ev_fieldAddr fld_33_3 rfl) ?_
      refine runl_ev (ev_load1 cell_30 rfl (eqw ((hc.ext e).pick 3 rfl rfl))) ?_
      refine runl_ev (ev_lenL sl_30 rfl) ?_
      refine runl_ev (ev_lss rfl rfl) ?_
      refine runl_nil ?_
      refine run_dcond rfl (fun h1 => ?_) (fun h1 => ?_)
      · have hk1 : k < t.l.length := by omega
        obtain ⟨b1, o1, cs1, rfl, ⟨hwf1, rfl⟩, hc1⟩ := hL1 k _ (List.getElem?_eq_getElem hk1)
        refine run_skip ?_
        refine run_seq ?_
        refine run_block ?_
        refine run_seq ?_
        refine run_region rfl ?_
        refine runl_ev (ev_move rfl) ?_
        refine runl_ev (ev_indexAddr (k := 0) el_22 rfl rfl (by simp)) ?_
        refine runl_ev (ev_fieldAddr fld_33_3 rfl) ?_
        refine runl_ev (ev_load1 cell_30 rfl (eqw ((hc.ext e).pick 3 rfl rfl))) ?_
        refine runl_ev (ev_move rfl) ?_
        refine runl_ev (ev_indexAddr el_30 rfl rfl (by omega)) ?_
        refine runl_ev (ev_fieldAddr fld_27_5 rfl) ?_
        refine runl_ev (ev_load1 cell_9 rfl (eqw ((hc1.ext e).pick 36 rfl (Tgt.c36 hwf1)))) ?_
        refine runl_ev (ev_move rfl) ?_
        refine runl_ev (ev_eqlS rfl rfl) ?_
        refine runl_nil ?_
        refine run_dcond rfl (fun h2 => ?_) (fun h2 => ?_)
        · have hf : ecuF (t :: r) ecu = some t.l[k] := by
            have h3 : idxOf (fun x : Tgt => decide (x.ecu = ecu)) t.l = k := idxOf_hit hk1 hno (by simpa using h2)
            exact (if_neg hee).trans ((if_pos (by omega)).trans (by rw [h3]; simp))
          rw [hf]
          rw [hf] at hb5
          refine run_seq ?_
          refine run_draw mo (fun w' => Ext w1 w') [] [(true, 0), (true, 1), (true, 2), (true, 3), (true, 4), (true, 5), (true, 6), (true, 7), (true, 8), (true, 9), (true, 10), (true, 11), (true, 12), (false, 13), (true, 14), (true, 15)] (by kernel_rfl) ?_
          intro wr8 er8
          have zr8 := er8.size
          have hsr8 := er8
          have ep := e.trans er8
          have hb5p := er8.at hb5
          refine rund_ev hsr8 rfl (ev_move rfl) ?_
          refine rund_ev hsr8 rfl (ev_move rfl) ?_
          refine rund_ev_g hsr8 rfl rfl rfl (rfl) (ev_loadA agg_27 (Tgt.cells_length hwf1) rfl (fun wz hz => cells_all (hz.at hb5))) ?_
          refine rund_ev_g hsr8 rfl rfl rfl (rfl) (ev_move rfl) ?_
          refine rund_ev_g hsr8 rfl rfl rfl (rfl) (ev_indexAddr (k := 0) el_22 rfl rfl (by simp)) ?_
          refine rund_ev_g hsr8 rfl rfl rfl (rfl) (ev_fieldAddr fld_33_3 rfl) ?_
          refine rund_ev_g hsr8 rfl rfl rfl (rfl) (ev_load1 cell_30 rfl (fun wz hz => (hc.ext (e.trans hz)).pick 3 rfl rfl)) ?_
          refine rund_ev_g hsr8 rfl rfl rfl (rfl) (ev_move rfl) ?_
          refine rund_ev_g hsr8 rfl rfl rfl (rfl) (ev_indexAddr el_30 rfl rfl (by omega)) ?_
          refine rund_ev_g hsr8 rfl rfl rfl (rfl) (ev_loadA agg_27 (Tgt.cells_length hwf1) rfl (fun wz hz => hc1.ext (e.trans hz))) ?_
          refine rund_ev_g hsr8 rfl rfl rfl (rfl) (ev_eqlA rfl rfl eg_27 (eqTgt _ _ hwf1 hwf1)) ?_
          refine rund_ev hsr8 rfl (ev_pick rfl rfl rfl rfl) ?_
          refine rund_ev hsr8 rfl (ev_move rfl) ?_
          refine rund_op_g rfl rfl rfl (by simp) (t_call call_13 rfl (known_any _)) ?_
          rintro _ w62 ⟨rfl, e62⟩
          have z62 := e62.size
          replace ep := ep.trans e62
          replace hb5p := e62.at hb5p
          have hs62 := hsr8.trans e62
          refine ⟨hs62, ?_⟩
          refine rund_ev hs62 rfl (ev_pick rfl rfl rfl (if_pos (by simp))) ?_
          refine rund_ev hs62 rfl (ev_assign rfl) ?_
          refine rund_nil ?_
          replace e := ep
          clear ep
          replace hb5 := hb5p
          clear hb5p
          refine run_ret_any Try.func10 (res1 Try.results10 rfl) ?_
          exact ⟨rfl, e⟩
        · refine run_skip ?_
          refine run_inBlock ?_
          refine run_region rfl ?_
          refine runl_ev (ev_move rfl) ?_
          refine runl_ev (ev_add rfl rfl (by omega) (by omega)) ?_
          refine runl_ev (ev_assign rfl) ?_
          refine runl_nil ?_
          exact IH (k + 1) _ _ (by omega) ⟨rfl, rfl, rfl, rfl, rfl, trivial⟩ ⟨by omega, idxOf_snoc hk1 hno (by simpa using h2), hb5, e⟩
      · obtain rfl : k = t.l.length := by omega
        have hf : ecuF (t :: r) ecu = none := by
          have h3 : idxOf (fun x : Tgt => decide (x.ecu = ecu)) t.l = -1 := idxOf_none hno
          exact (if_neg hee).trans (if_neg (by omega))
        rw [hf]
        rw [hf] at hb5
        refine run_exit rfl ?_
        refine run_seq ?_
        refine run_region rfl ?_
        refine runl_ev (ev_move rfl) ?_
        refine runl_ev (ev_not rfl) ?_
        refine runl_ev (ev_move rfl) ?_
        refine runl_ev_g rfl rfl (rfl) (ev_loadA agg_27 Tgt.cells_zero_len rfl (eqw (cells_all hb5))) ?_
        refine runl_ev_g rfl rfl (rfl) (ev_build (out := Tgt.zero.cells) ps_27 zero_27 rfl rfl (rfl)) ?_
        refine runl_ev_g rfl rfl (rfl) (ev_eqlA rfl rfl eg_27 (eqTgt Tgt.zero Tgt.zero Tgt.zero_wf Tgt.zero_wf)) ?_
        refine runl_ev (ev_pick rfl rfl rfl rfl) ?_
        refine runl_ev (ev_move rfl) ?_
        refine runl_op_g rfl rfl (by simp) (t_call call_13 rfl (known_any _)) ?_
        rintro _ w72 ⟨rfl, e72⟩
        have z72 := e72.size
        replace e := e.trans e72
        replace hb5 := e72.at hb5
        refine runl_ev (ev_pick rfl rfl rfl (if_pos (by simp))) ?_
        refine runl_ev (ev_assign rfl) ?_
        refine runl_nil ?_
        refine run_ret_any Try.func10 (res1 Try.results10 rfl) ?_
        exact ⟨rfl, e⟩

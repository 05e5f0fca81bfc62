/- The walks of what tells whether a text is a name. -/
import Derived.Test.YtcmbiaibocdfeaaDoorNameM
import Derived.Test.YtcmbiaibocdfeaaDoorWire5
namespace Go.Proofs.YtcmbiaibocdfeaaDoor
open Go Go.Fw
set_option maxRecDepth 100000

theorem sethas_any (c : UInt8) (w : World) (sb : Nat) (T : TypeId) (fr : Nat × Nat) (hs : w.heap[sb]? = some (.cells ⟨setCells signsL⟩ T fr)) : Ret Tryd.prog 75 [.pointer (some ⟨sb, 0, none⟩), .int .u8 (c.toNat : Int)] w fun r w' => r = .bool (isSign c) ∧ Ext w w' := by
  have e := ExtB.refl (fun _ => False) w
  refine ret_of_run Tryd.func75 rfl Tryd.ntmps75 rfl ?_
  refine run_seq ?_
  refine run_region rfl ?_
  refine runl_ev (ev_assign rfl) ?_
  refine runl_nil ?_
  refine run_seq ?_
  refine run_region rfl ?_
  refine runl_ev (ev_move rfl) ?_
  refine runl_ev (ev_move rfl) ?_
  refine runl_ev (ev_nilCheck rfl) ?_
  refine runl_ev (ev_indexAddrA (k := c.toNat) arr_103 rfl rfl (c.toNat_lt)) ?_
  refine runl_ev (ev_load1 cell_4 rfl (eqw ((cells_all hs).pick c.toNat (by omega) (setCells_get signsL c)))) ?_
  refine runl_ev (ev_assign rfl) ?_
  refine runl_nil ?_
  refine run_ret_any Tryd.func75 (res1 Tryd.results75 rfl) ?_
  exact ⟨rfl, e⟩
theorem mkset_any (w : World) : Ret Tryd.prog 48 [.string ⟨signsL.toArray⟩] w fun r w' => r = .tuple #[.agg ⟨setCells signsL⟩, .bool true] ∧ Ext w w' := by
  have e := ExtB.refl (fun _ => False) w
  refine ret_of_run Tryd.func48 rfl Tryd.ntmps48 rfl ?_
  refine run_seq ?_
  refine run_region rfl ?_
  refine runl_op (t_alloc zero_103 rfl) ?_
  rintro _ w2 ⟨b2, rfl, hb2, e2, n2, l2⟩
  have z2 := e2.size
  replace e := e.trans e2
  refine runl_ev (ev_assign rfl) ?_
  refine runl_nil ?_
  refine run_seq ?_
  refine run_seq ?_
  refine run_region rfl ?_
  refine runl_ev (ev_assign rfl) ?_
  refine runl_nil ?_
  refine run_block ?_
  refine run_loop (ι := Nat) (fun k => [(0, .string ⟨signsL.toArray⟩), (2, .pointer (some ⟨b2, 0, none⟩)), (4, .int .i64 (k : Int))]) (fun k w' => k ≤ 37 ∧ w'.heap[b2]? = some (.cells ⟨setCells (signsL.take k)⟩ 103 (0, 0)) ∧ Ext w w') (fun k => 37 - k) (0) ⟨rfl, rfl, rfl, trivial⟩ (⟨Nat.zero_le _, by rw [List.take_zero, setCells_nil]; exact hb2, e⟩) ?_
  clear e hb2
  intro k w1 ⟨hk, hb2, e⟩ IH
  have hsz : (⟨signsL.toArray⟩ : ByteArray).size = 37 := rfl
  have hzl : signsL.length = 37 := rfl
  refine run_seq ?_
  refine run_seq ?_
  refine run_region rfl ?_
  refine runl_ev (ev_move rfl) ?_
  refine runl_ev (ev_move rfl) ?_
  refine runl_ev (ev_lenS str_9 rfl) ?_
  refine runl_ev (ev_lss rfl rfl) ?_
  refine runl_nil ?_
  refine run_dcond rfl (fun h0 => ?_) (fun h0 => ?_)
  · have hk1 : k < signsL.length := by omega
    have hlt := signs_lt hk1
    have hset := setCells_set (signsL.take k) signsL[k]
    have htk : signsL.take (k + 1) = signsL.take k ++ [signsL[k]] := by rw [List.take_add_one, List.getElem?_eq_getElem hk1]; rfl
    refine run_skip ?_
    refine run_seq ?_
    refine run_block ?_
    refine run_seq ?_
    refine run_region rfl ?_
    refine runl_ev (ev_move rfl) ?_
    refine runl_ev (ev_move rfl) ?_
    refine runl_ev (ev_indexS (k := k) Tryd.underlying9 rfl rfl (by rw [hsz]; omega)) ?_
    refine runl_ev (ev_assign rfl) ?_
    refine runl_nil ?_
    refine run_seq ?_
    refine run_seq ?_
    refine run_region rfl ?_
    refine runl_ev (ev_move rfl) ?_
    refine runl_ev (ev_geq rfl rfl) ?_
    refine runl_nil ?_
    refine run_cond_false rfl (decide_eq_false (by show ¬ (128 : Int) ≤ (signsL[k].toNat : Int); omega)) ?_
    refine run_skip ?_
    refine run_region rfl ?_
    refine runl_ev (ev_move rfl) ?_
    refine runl_ev (ev_indexAddrA (k := signsL[k].toNat) arr_103 rfl rfl (by omega)) ?_
    refine runl_do (t_store1 sz_4 rfl rfl rfl rfl hb2 (by rw [setCells_len]; omega)) ?_
    rintro _ v7_2 ⟨hq7_2, e7_2, z7_2⟩
    replace e := e.new1 e7_2 (by omega)
    replace hb2 := hq7_2
    clear hq7_2
    refine runl_nil ?_
    replace hb2 : _ = some (Obj.cells ⟨(setCells (signsL.take k)).set (0 + signsL[k].toNat * 1) (.bool true)⟩ _ _) := hb2
    rw [Nat.zero_add, Nat.mul_one, hset, ← htk] at hb2
    refine run_inBlock ?_
    refine run_region rfl ?_
    refine runl_ev (ev_move rfl) ?_
    refine runl_ev (ev_add rfl rfl (by omega) (by omega)) ?_
    refine runl_ev (ev_assign rfl) ?_
    refine runl_nil ?_
    exact IH (k + 1) _ _ (by omega) ⟨rfl, rfl, rfl, trivial⟩ ⟨by omega, hb2, e⟩
  · obtain rfl : k = 37 := by omega
    replace hb2 : _ = some (Obj.cells ⟨setCells signsL⟩ _ _) := hb2
    refine run_exit rfl ?_
    refine run_seq ?_
    refine run_region rfl ?_
    refine runl_ev (ev_loadA agg_103 (setCells_len _) rfl (eqw (cells_all hb2))) ?_
    refine runl_do (t_storeW sz_103 rfl rfl (setCells_len _) (setCells_len _) hb2 ((setCells_one _))) ?_
    rintro _ v8_1 ⟨hq8_1, e8_1, z8_1⟩
    replace e := e.new1 e8_1 (by omega)
    replace hb2 := hq8_1
    clear hq8_1
    refine runl_ev (ev_assign rfl) ?_
    refine runl_nil ?_
    refine run_ret_any Tryd.func48 (resCT Tryd.results48 rfl (loadVar_agg agg_103 (setCells_len _) (cells_all hb2)) rfl) ?_
    exact ⟨rfl, e⟩
theorem triml_any (s : ByteArray) (w : World) (hn : s.size ≤ 1099511627776) (sb : Nat) (T : TypeId) (fr : Nat × Nat) (hs : w.heap[sb]? = some (.cells ⟨setCells signsL⟩ T fr)) : Ret Tryd.prog 49 [.string s, .pointer (some ⟨sb, 0, none⟩)] w fun r w' => ∃ q, r = .string q ∧ Cut s q ∧ q.size ≤ 1099511627776 ∧ Ext w w' := by
  have e := ExtB.refl (fun _ => False) w
  refine ret_of_run Tryd.func49 rfl Tryd.ntmps49 rfl ?_
  refine run_seq ?_
  refine run_region rfl ?_
  refine runl_ev (ev_assign rfl) ?_
  refine runl_nil ?_
  refine run_seq ?_
  refine run_block ?_
  refine run_loop (ι := ByteArray) (fun q => [(0, .string q), (1, .pointer (some ⟨sb, 0, none⟩))]) (fun q w' => q.size ≤ 1099511627776 ∧ CutI s q ∧ Ext w w') (fun q => q.size) (s) ⟨rfl, rfl, trivial⟩ (⟨hn, Iff.rfl, e⟩) ?_
  clear e
  intro q w1 ⟨hq, hc, e⟩ IH
  refine run_seq ?_
  refine run_seq ?_
  refine run_region rfl ?_
  refine runl_ev (ev_move rfl) ?_
  refine runl_ev (ev_lenS str_9 rfl) ?_
  refine runl_ev (ev_gtr rfl rfl) ?_
  refine runl_nil ?_
  refine run_dcond rfl (fun h0 => ?_) (fun h0 => ?_)
  · have hq0 : 0 < q.size := by omega
    refine run_skip ?_
    refine run_block ?_
    refine run_seq ?_
    refine run_seq ?_
    refine run_region rfl ?_
    refine runl_ev (ev_move rfl) ?_
    refine runl_ev (ev_move rfl) ?_
    refine runl_ev (ev_indexS (k := 0) Tryd.underlying9 rfl rfl (hq0)) ?_
    refine runl_op (t_call call_75 rfl (sethas_any q[0] _ sb _ _ (e.at hs))) ?_
    rintro _ w11 ⟨rfl, e11⟩
    have z11 := e11.size
    replace e := e.trans e11
    refine runl_ev (ev_not rfl) ?_
    refine runl_nil ?_
    refine run_cond_split rfl (fun h1 => ?_) (fun h1 => ?_)
    · have hsg : isSign q[0] = false := by simpa using h1
      have hfin : allS q → q.size = 0 := fun h => absurd h (not_allS hq0 hsg)
      refine run_exit rfl ?_
      refine run_seq ?_
      refine run_region rfl ?_
      refine runl_ev (ev_move rfl) ?_
      refine runl_ev (ev_assign rfl) ?_
      refine runl_nil ?_
      refine run_ret_any Tryd.func49 (res1 Tryd.results49 rfl) ?_
      exact ⟨q, rfl, ⟨hc, hfin⟩, hq, e⟩
    · have hsg : isSign q[0] = true := by simpa using h1
      have hcl := cut_left hq0 hsg
      refine run_skip ?_
      refine run_region rfl ?_
      refine runl_ev (ev_move rfl) ?_
      refine runl_ev (ev_sliceS_lo str_9 rfl (n := 1) rfl (by omega)) ?_
      refine runl_ev (ev_assign rfl) ?_
      refine runl_nil ?_
      refine run_inBlock ?_
      exact IH (q.extract 1 q.size) _ _ (by rw [ByteArray.size_extract]; omega) ⟨rfl, rfl, trivial⟩ ⟨by rw [ByteArray.size_extract]; omega, hcl.trans hc, e⟩
  · have hfin : allS q → q.size = 0 := fun _ => by omega
    refine run_exit rfl ?_
    refine run_seq ?_
    refine run_region rfl ?_
    refine runl_ev (ev_move rfl) ?_
    refine runl_ev (ev_assign rfl) ?_
    refine runl_nil ?_
    refine run_ret_any Tryd.func49 (res1 Tryd.results49 rfl) ?_
    exact ⟨q, rfl, ⟨hc, hfin⟩, hq, e⟩
theorem trimr_any (s : ByteArray) (w : World) (hn : s.size ≤ 1099511627776) (sb : Nat) (T : TypeId) (fr : Nat × Nat) (hs : w.heap[sb]? = some (.cells ⟨setCells signsL⟩ T fr)) : Ret Tryd.prog 50 [.string s, .pointer (some ⟨sb, 0, none⟩)] w fun r w' => ∃ q, r = .string q ∧ Cut s q ∧ q.size ≤ 1099511627776 ∧ Ext w w' := by
  have e := ExtB.refl (fun _ => False) w
  refine ret_of_run Tryd.func50 rfl Tryd.ntmps50 rfl ?_
  refine run_seq ?_
  refine run_region rfl ?_
  refine runl_ev (ev_assign rfl) ?_
  refine runl_nil ?_
  refine run_seq ?_
  refine run_block ?_
  refine run_loop (ι := ByteArray) (fun q => [(0, .string q), (1, .pointer (some ⟨sb, 0, none⟩))]) (fun q w' => q.size ≤ 1099511627776 ∧ CutI s q ∧ Ext w w') (fun q => q.size) (s) ⟨rfl, rfl, trivial⟩ (⟨hn, Iff.rfl, e⟩) ?_
  clear e
  intro q w1 ⟨hq, hc, e⟩ IH
  refine run_seq ?_
  refine run_seq ?_
  refine run_region rfl ?_
  refine runl_ev (ev_move rfl) ?_
  refine runl_ev (ev_lenS str_9 rfl) ?_
  refine runl_ev (ev_gtr rfl rfl) ?_
  refine runl_nil ?_
  refine run_dcond rfl (fun h0 => ?_) (fun h0 => ?_)
  · obtain ⟨m, hm⟩ : ∃ m, m + 1 = q.size := ⟨q.size - 1, by omega⟩
    refine run_skip ?_
    refine run_block ?_
    refine run_seq ?_
    refine run_seq ?_
    refine run_region rfl ?_
    refine runl_ev (ev_move rfl) ?_
    refine runl_ev (ev_move rfl) ?_
    refine runl_ev (ev_move rfl) ?_
    refine runl_ev (ev_lenS str_9 rfl) ?_
    refine runl_ev (ev_subK ((m : Int)) rfl rfl (by rw [show ((q.size : Int) - 1) = m by omega]; exact wrap_i64 (by omega) (by omega))) ?_
    refine runl_ev (ev_indexS (k := m) Tryd.underlying9 rfl rfl (by omega)) ?_
    refine runl_op (t_call call_75 rfl (sethas_any (q[m]'(by omega)) _ sb _ _ (e.at hs))) ?_
    rintro _ w14 ⟨rfl, e14⟩
    have z14 := e14.size
    replace e := e.trans e14
    refine runl_ev (ev_not rfl) ?_
    refine runl_nil ?_
    refine run_cond_split rfl (fun h1 => ?_) (fun h1 => ?_)
    · have hsg : isSign (q[m]'(by omega)) = false := by simpa using h1
      have hfin : allS q → q.size = 0 := fun h => absurd h (not_allS (by omega) hsg)
      refine run_exit rfl ?_
      refine run_seq ?_
      refine run_region rfl ?_
      refine runl_ev (ev_move rfl) ?_
      refine runl_ev (ev_assign rfl) ?_
      refine runl_nil ?_
      refine run_ret_any Tryd.func50 (res1 Tryd.results50 rfl) ?_
      exact ⟨q, rfl, ⟨hc, hfin⟩, hq, e⟩
    · have hsg : isSign (q[m]'(by omega)) = true := by simpa using h1
      have hcl := cut_right hm hsg
      refine run_skip ?_
      refine run_region rfl ?_
      refine runl_ev (ev_move rfl) ?_
      refine runl_ev (ev_move rfl) ?_
      refine runl_ev (ev_lenS str_9 rfl) ?_
      refine runl_ev (ev_subK ((m : Int)) rfl rfl (by rw [show ((q.size : Int) - 1) = m by omega]; exact wrap_i64 (by omega) (by omega))) ?_
      refine runl_ev (ev_sliceS_hi str_9 rfl (n := m) rfl (by omega)) ?_
      refine runl_ev (ev_assign rfl) ?_
      refine runl_nil ?_
      refine run_inBlock ?_
      exact IH (q.extract 0 m) _ _ (by rw [ByteArray.size_extract]; omega) ⟨rfl, rfl, trivial⟩ ⟨by rw [ByteArray.size_extract]; omega, hcl.trans hc, e⟩
  · have hfin : allS q → q.size = 0 := fun _ => by omega
    refine run_exit rfl ?_
    refine run_seq ?_
    refine run_region rfl ?_
    refine runl_ev (ev_move rfl) ?_
    refine runl_ev (ev_assign rfl) ?_
    refine runl_nil ?_
    refine run_ret_any Tryd.func50 (res1 Tryd.results50 rfl) ?_
    exact ⟨q, rfl, ⟨hc, hfin⟩, hq, e⟩
theorem trim_any (s : ByteArray) (w : World) (hn : s.size ≤ 1099511627776) : Ret Tryd.prog 18 [.string s, .string ⟨signsL.toArray⟩] w fun r w' => ∃ q, r = .string q ∧ Cut s q ∧ Ext w w' := by
  have e := ExtB.refl (fun _ => False) w
  refine ret_of_run Tryd.func18 rfl Tryd.ntmps18 rfl ?_
  refine run_seq ?_
  refine run_region rfl ?_
  refine runl_ev (ev_assign rfl) ?_
  refine runl_nil ?_
  refine run_seq ?_
  refine run_seq ?_
  by_cases hs0 : s = ⟨#[]⟩
  · refine run_region rfl ?_
    refine runl_ev (ev_move rfl) ?_
    refine runl_ev (ev_eqlS rfl rfl) ?_
    refine runl_ev (ev_move rfl) ?_
    refine runl_no_g rfl rfl (decide_eq_true hs0) ?_
    refine runl_no_g rfl rfl (decide_eq_true hs0) ?_
    refine runl_ev (ev_pick rfl rfl rfl (if_pos (decide_eq_true hs0))) ?_
    refine runl_nil ?_
    refine run_cond_true rfl (rfl) ?_
    refine run_seq ?_
    refine run_region rfl ?_
    refine runl_ev (ev_move rfl) ?_
    refine runl_ev (ev_assign rfl) ?_
    refine runl_nil ?_
    refine run_ret_any Tryd.func18 (res1 Tryd.results18 rfl) ?_
    exact ⟨s, rfl, ⟨Iff.rfl, fun _ => ba_empty.1 hs0⟩, e⟩
  · refine run_region rfl ?_
    refine runl_ev (ev_move rfl) ?_
    refine runl_ev (ev_eqlS rfl rfl) ?_
    refine runl_ev (ev_move rfl) ?_
    refine runl_ev_g rfl rfl (decide_eq_false hs0) (ev_move rfl) ?_
    refine runl_ev_g rfl rfl (decide_eq_false hs0) (ev_eqlS rfl rfl) ?_
    refine runl_ev (ev_pick rfl rfl rfl (if_neg (by rw [decide_eq_false hs0]; simp))) ?_
    refine runl_nil ?_
    refine run_cond_false rfl (by decide) ?_
    refine run_skip ?_
    refine run_seq ?_
    refine run_seq ?_
    refine run_region rfl ?_
    refine runl_ev (ev_move rfl) ?_
    refine runl_ev (ev_lenS str_9 rfl) ?_
    refine runl_ev (ev_eqlI rfl rfl) ?_
    refine runl_ev (ev_move rfl) ?_
    refine runl_no_g rfl rfl (by decide) ?_
    refine runl_no_g rfl rfl (by decide) ?_
    refine runl_no_g rfl rfl (by decide) ?_
    refine runl_ev (ev_pick rfl rfl rfl (if_neg (by decide))) ?_
    refine runl_nil ?_
    refine run_cond_false rfl (rfl) ?_
    refine run_skip ?_
    refine run_seq ?_
    refine run_seq ?_
    refine run_region rfl ?_
    refine runl_ev (ev_move rfl) ?_
    refine runl_op (t_call call_48 rfl (mkset_any _)) ?_
    rintro _ w31 ⟨rfl, e31⟩
    have z31 := e31.size
    replace e := e.trans e31
    refine runl_ev (ev_move rfl) ?_
    refine runl_ev (ev_extract rfl rfl) ?_
    refine runl_ev (ev_extract rfl rfl) ?_
    refine runl_op (t_alloc zero_103 rfl) ?_
    rintro _ w5 ⟨b5, rfl, hb5, e5, n5, l5⟩
    have z5 := e5.size
    replace e := e.trans e5
    refine runl_do (t_storeW sz_103 rfl rfl (setCells_len _) (List.length_replicate) hb5 ((setCells_one _))) ?_
    rintro _ v5_6 ⟨hq5_6, e5_6, z5_6⟩
    replace e := e.new1 e5_6 (by omega)
    replace hb5 := hq5_6
    clear hq5_6
    refine runl_ev (ev_assign rfl) ?_
    refine runl_nil ?_
    refine run_seq ?_
    refine run_region rfl ?_
    refine runl_ev (ev_move rfl) ?_
    refine runl_nil ?_
    refine run_cond_true rfl (rfl) ?_
    refine run_seq ?_
    refine run_region rfl ?_
    refine runl_ev (ev_move rfl) ?_
    refine runl_op (t_call call_50 rfl (trimr_any s _ hn _ _ _ hb5)) ?_
    rintro _ w36 ⟨q36, rfl, cut36, hz36, e36⟩
    have z36 := e36.size
    replace e := e.trans e36
    replace hb5 := e36.at hb5
    refine runl_op (t_call call_49 rfl (triml_any q36 _ hz36 _ _ _ hb5)) ?_
    rintro _ w37 ⟨q37, rfl, cut37, hz37, e37⟩
    have z37 := e37.size
    replace e := e.trans e37
    replace hb5 := e37.at hb5
    refine runl_ev (ev_assign rfl) ?_
    refine runl_nil ?_
    refine run_ret_any Tryd.func18 (res1 Tryd.results18 rfl) ?_
    exact ⟨q37, rfl, cut36.trans cut37, e⟩
theorem name_any (s : ByteArray) (w : World) : Ret Tryd.prog 7 [.string s] w fun r w' => r = .bool (nameB s) ∧ Ext w w' := by
  have e := ExtB.refl (fun _ => False) w
  refine ret_of_run Tryd.func7 rfl Tryd.ntmps7 rfl ?_
  refine run_seq ?_
  refine run_region rfl ?_
  refine runl_ev (ev_assign rfl) ?_
  refine runl_nil ?_
  refine run_seq ?_
  have hcs : s.size = 0 ∨ (s.size ≠ 0 ∧ ¬ s.size ≤ 12) ∨ (s.size ≠ 0 ∧ s.size ≤ 12) := by omega
  rcases hcs with q1 | ⟨q1, q2⟩ | ⟨q1, q2⟩
  · obtain rfl := ba_empty.2 q1
    refine run_region rfl ?_
    refine runl_ev (ev_move rfl) ?_
    refine runl_ev (ev_neqS rfl rfl) ?_
    refine runl_ev (ev_move rfl) ?_
    refine runl_no_g rfl rfl (by decide) ?_
    refine runl_no_g rfl rfl (by decide) ?_
    refine runl_no_g rfl rfl (by decide) ?_
    refine runl_ev (ev_pick rfl rfl rfl (if_neg (by decide))) ?_
    refine runl_ev (ev_move rfl) ?_
    refine runl_no_g rfl rfl (rfl) ?_
    refine runl_no_g rfl rfl (rfl) ?_
    refine runl_no_g rfl rfl (rfl) ?_
    refine runl_ev (ev_pick rfl rfl rfl (if_neg (by simp))) ?_
    refine runl_ev (ev_assign rfl) ?_
    refine runl_nil ?_
    refine run_ret_any Tryd.func7 (res1 Tryd.results7 rfl) ?_
    exact ⟨by rw [show nameB ⟨#[]⟩ = false by decide], e⟩
  · have q3 : s ≠ ⟨#[]⟩ := fun h => q1 (ba_empty.1 h)
    refine run_region rfl ?_
    refine runl_ev (ev_move rfl) ?_
    refine runl_ev (ev_neqS rfl rfl) ?_
    refine runl_ev (ev_move rfl) ?_
    refine runl_ev_g rfl rfl (decide_eq_true q3) (ev_move rfl) ?_
    refine runl_ev_g rfl rfl (decide_eq_true q3) (ev_lenS str_9 rfl) ?_
    refine runl_ev_g rfl rfl (decide_eq_true q3) (ev_leq rfl rfl) ?_
    refine runl_ev (ev_pick rfl rfl rfl (if_pos (decide_eq_true q3))) ?_
    refine runl_ev (ev_move rfl) ?_
    refine runl_no_g rfl rfl (decide_eq_false (by omega)) ?_
    refine runl_no_g rfl rfl (decide_eq_false (by omega)) ?_
    refine runl_no_g rfl rfl (decide_eq_false (by omega)) ?_
    refine runl_ev (ev_pick rfl rfl rfl (if_neg (by simp; omega))) ?_
    refine runl_ev (ev_assign rfl) ?_
    refine runl_nil ?_
    refine run_ret_any Tryd.func7 (res1 Tryd.results7 rfl) ?_
    exact ⟨by rw [nameB, decide_eq_false q2]; simp, e⟩
  · have q3 : s ≠ ⟨#[]⟩ := fun h => q1 (ba_empty.1 h)
    refine run_region rfl ?_
    refine runl_ev (ev_move rfl) ?_
    refine runl_ev (ev_neqS rfl rfl) ?_
    refine runl_ev (ev_move rfl) ?_
    refine runl_ev_g rfl rfl (decide_eq_true q3) (ev_move rfl) ?_
    refine runl_ev_g rfl rfl (decide_eq_true q3) (ev_lenS str_9 rfl) ?_
    refine runl_ev_g rfl rfl (decide_eq_true q3) (ev_leq rfl rfl) ?_
    refine runl_ev (ev_pick rfl rfl rfl (if_pos (decide_eq_true q3))) ?_
    refine runl_ev (ev_move rfl) ?_
    refine runl_ev_g rfl rfl (decide_eq_true (by omega)) (ev_move rfl) ?_
    refine runl_op_g rfl rfl (decide_eq_true (by omega)) (t_call call_18 rfl (trim_any s _ (by omega))) ?_
    rintro _ w12 ⟨q12, rfl, cut12, e12⟩
    have z12 := e12.size
    replace e := e.trans e12
    refine runl_ev_g rfl rfl (decide_eq_true (by omega)) (ev_eqlS rfl rfl) ?_
    refine runl_ev (ev_pick rfl rfl rfl (if_pos (decide_eq_true (by omega)))) ?_
    refine runl_ev (ev_assign rfl) ?_
    refine runl_nil ?_
    refine run_ret_any Tryd.func7 (res1 Tryd.results7 rfl) ?_
    refine ⟨?_, e⟩
    rw [cut_name cut12, nameB, decide_eq_true (by omega : 1 ≤ s.size), decide_eq_true q2]
    rfl
theorem lawNames_any (s : ByteArray) (w : World) (hn : s.size ≤ 1099511627776) : Ret Tryd.prog 3 [.string s] w fun r w' => r = .bool true ∧ Ext w w' := by
  have e := ExtB.refl (fun _ => False) w
  have hsl : s.data.toList.length = s.size := rfl
  obtain ⟨l, hl⟩ : ∃ l, l = s.data.toList := ⟨_, rfl⟩
  refine ret_of_run Tryd.func3 rfl Tryd.ntmps3 rfl ?_
  refine run_seq ?_
  refine run_region rfl ?_
  refine runl_ev (ev_assign rfl) ?_
  refine runl_nil ?_
  refine run_seq ?_
  refine run_seq ?_
  refine run_region rfl ?_
  refine runl_ev (ev_move rfl) ?_
  refine runl_ev (ev_lenS str_9 rfl) ?_
  refine runl_ev (ev_gtr rfl rfl) ?_
  refine runl_nil ?_
  refine run_dcond rfl (fun h0 => ?_) (fun h0 => ?_)
  · refine run_seq ?_
    refine run_region rfl ?_
    refine runl_ev (ev_assign rfl) ?_
    refine runl_nil ?_
    refine run_ret_any Tryd.func3 (res1 Tryd.results3 rfl) ?_
    exact ⟨rfl, e⟩
  · refine run_skip ?_
    refine run_cut1 (ι := Unit) (fun _ => [(0, .string s), (3, .bool (decide (1 ≤ s.size) && decide (s.size ≤ 12)))]) (fun _ w1 => Ext w w1) ?_ ?_
    · clear e
      intro _ w1 e
      refine run_seq ?_
      refine run_seq ?_
      refine run_region rfl ?_
      refine runl_ev (ev_assign rfl) ?_
      refine runl_nil ?_
      refine run_block ?_
      refine run_loop (ι := Nat) (fun k => [(0, .string s), (3, .bool (decide (1 ≤ s.size) && decide (s.size ≤ 12) && (s.data.toList.take k).all isSign)), (4, .int .i64 (k : Int))]) (fun k w' => k ≤ s.size ∧ Ext w w') (fun k => s.size - k) (0) ⟨rfl, by show some (Value.bool (decide (1 ≤ s.size) && decide (s.size ≤ 12))) = some (Value.bool (decide (1 ≤ s.size) && decide (s.size ≤ 12) && true)); rw [Bool.and_true], rfl, trivial⟩ (⟨Nat.zero_le _, e⟩) ?_
      clear e
      intro k w1 ⟨hk, e⟩ IH
      refine run_seq ?_
      refine run_seq ?_
      refine run_region rfl ?_
      refine runl_ev (ev_move rfl) ?_
      refine runl_ev (ev_move rfl) ?_
      refine runl_ev (ev_lenS str_9 rfl) ?_
      refine runl_ev (ev_lss rfl rfl) ?_
      refine runl_nil ?_
      refine run_dcond rfl (fun h1 => ?_) (fun h1 => ?_)
      · have hk1 : k < s.size := by omega
        have htk := all_take_and (p := isSign) (l := s.data.toList) (k := k) (by omega)
        obtain ⟨c, hc⟩ : ∃ c, c = s[k] := ⟨_, rfl⟩
        have hcl : s.data.toList[k] = c := hc.symm
        rw [hcl] at htk
        obtain ⟨fl, hfl⟩ : ∃ fl, fl = (decide (1 ≤ s.size) && decide (s.size ≤ 12) && (s.data.toList.take k).all isSign) := ⟨_, rfl⟩
        have hfl2 : (decide (1 ≤ s.size) && decide (s.size ≤ 12) && (s.data.toList.take (k + 1)).all isSign) = (fl && isSign c) := by rw [htk, hfl, Bool.and_assoc, Bool.and_assoc, Bool.and_assoc]
        rw [← hfl]
        refine run_skip ?_
        refine run_seq ?_
        refine run_block ?_
        have hcs : fl = false ∨ (fl = true ∧ 97 ≤ c.toNat ∧ c.toNat ≤ 122) ∨ (fl = true ∧ 97 ≤ c.toNat ∧ ¬ c.toNat ≤ 122) ∨ (fl = true ∧ ¬ 97 ≤ c.toNat ∧ 48 ≤ c.toNat ∧ c.toNat ≤ 57) ∨ (fl = true ∧ ¬ 97 ≤ c.toNat ∧ 48 ≤ c.toNat ∧ ¬ c.toNat ≤ 57) ∨ (fl = true ∧ ¬ 97 ≤ c.toNat ∧ ¬ 48 ≤ c.toNat) := by cases fl <;> simp <;> omega
        rcases hcs with rfl | ⟨rfl, q1, q2⟩ | ⟨rfl, q1, q2⟩ | ⟨rfl, q1, q2, q3⟩ | ⟨rfl, q1, q2, q3⟩ | ⟨rfl, q1, q2⟩
        · refine run_region rfl ?_
          refine runl_ev (ev_move rfl) ?_
          refine runl_ev (ev_move rfl) ?_
          refine runl_no_g rfl rfl (rfl) ?_
          refine runl_no_g rfl rfl (rfl) ?_
          refine runl_no_g rfl rfl (rfl) ?_
          refine runl_no_g rfl rfl (rfl) ?_
          refine runl_no_g rfl rfl (rfl) ?_
          refine runl_no_u rfl rfl ?_
          refine runl_no_u rfl rfl ?_
          refine runl_no_u rfl rfl ?_
          refine runl_no_u rfl rfl ?_
          refine runl_no_g rfl rfl (rfl) ?_
          refine runl_no_g rfl rfl (rfl) ?_
          refine runl_no_u rfl rfl ?_
          refine runl_no_u rfl rfl ?_
          refine runl_no_u rfl rfl ?_
          refine runl_no_u rfl rfl ?_
          refine runl_no_u rfl rfl ?_
          refine runl_no_u rfl rfl ?_
          refine runl_no_u rfl rfl ?_
          refine runl_no_u rfl rfl ?_
          refine runl_no_u rfl rfl ?_
          refine runl_no_u rfl rfl ?_
          refine runl_no_g rfl rfl (rfl) ?_
          refine runl_no_g rfl rfl (rfl) ?_
          refine runl_no_u rfl rfl ?_
          refine runl_no_u rfl rfl ?_
          refine runl_no_u rfl rfl ?_
          refine runl_no_u rfl rfl ?_
          refine runl_no_g rfl rfl (rfl) ?_
          refine runl_ev (ev_pick rfl rfl rfl (if_neg (by simp))) ?_
          refine runl_ev (ev_assign rfl) ?_
          refine runl_nil ?_
          refine run_inBlock ?_
          refine run_region rfl ?_
          refine runl_ev (ev_move rfl) ?_
          refine runl_ev (ev_add rfl rfl (by omega) (by omega)) ?_
          refine runl_ev (ev_assign rfl) ?_
          refine runl_nil ?_
          exact IH (k + 1) _ _ (by omega) ⟨rfl, by rw [hfl2]; rfl, rfl, trivial⟩ ⟨by omega, e⟩
        · have hsg := sign_true (c := c) (.inl ⟨q1, q2⟩)
          refine run_region rfl ?_
          refine runl_ev (ev_move rfl) ?_
          refine runl_ev (ev_move rfl) ?_
          refine runl_ev_g rfl rfl (rfl) (ev_move rfl) ?_
          refine runl_ev_g rfl rfl (rfl) (ev_move rfl) ?_
          refine runl_ev_g rfl rfl (rfl) (ev_indexS (k := k) Tryd.underlying9 rfl rfl (hk1)) ?_
          refine runl_ev_g rfl rfl (rfl) (ev_geq rfl rfl) ?_
          refine runl_ev_g rfl rfl (rfl) (ev_move rfl) ?_
          refine runl_ev_g rfl rfl (decide_eq_true (by rw [← hc]; omega)) (ev_move rfl) ?_
          refine runl_ev_g rfl rfl (decide_eq_true (by rw [← hc]; omega)) (ev_move rfl) ?_
          refine runl_ev_g rfl rfl (decide_eq_true (by rw [← hc]; omega)) (ev_indexS (k := k) Tryd.underlying9 rfl rfl (hk1)) ?_
          refine runl_ev_g rfl rfl (decide_eq_true (by rw [← hc]; omega)) (ev_leq rfl rfl) ?_
          refine runl_ev_g rfl rfl (rfl) (ev_pick rfl rfl rfl (if_pos (decide_eq_true (by rw [← hc]; omega)))) ?_
          refine runl_ev_g rfl rfl (rfl) (ev_move rfl) ?_
          refine runl_no_g rfl rfl (decide_eq_true (by rw [← hc]; omega)) ?_
          refine runl_no_g rfl rfl (decide_eq_true (by rw [← hc]; omega)) ?_
          refine runl_no_g rfl rfl (decide_eq_true (by rw [← hc]; omega)) ?_
          refine runl_no_g rfl rfl (decide_eq_true (by rw [← hc]; omega)) ?_
          refine runl_no_g rfl rfl (decide_eq_true (by rw [← hc]; omega)) ?_
          refine runl_no_u rfl rfl ?_
          refine runl_no_u rfl rfl ?_
          refine runl_no_u rfl rfl ?_
          refine runl_no_u rfl rfl ?_
          refine runl_no_g rfl rfl (decide_eq_true (by rw [← hc]; omega)) ?_
          refine runl_ev_g rfl rfl (rfl) (ev_pick rfl rfl rfl (if_pos (decide_eq_true (by rw [← hc]; omega)))) ?_
          refine runl_ev_g rfl rfl (rfl) (ev_move rfl) ?_
          refine runl_no_g rfl rfl (rfl) ?_
          refine runl_no_g rfl rfl (rfl) ?_
          refine runl_no_g rfl rfl (rfl) ?_
          refine runl_no_g rfl rfl (rfl) ?_
          refine runl_ev_g rfl rfl (rfl) (ev_pick rfl rfl rfl (if_pos (rfl))) ?_
          refine runl_ev (ev_pick rfl rfl rfl (if_pos (rfl))) ?_
          refine runl_ev (ev_assign rfl) ?_
          refine runl_nil ?_
          refine run_inBlock ?_
          refine run_region rfl ?_
          refine runl_ev (ev_move rfl) ?_
          refine runl_ev (ev_add rfl rfl (by omega) (by omega)) ?_
          refine runl_ev (ev_assign rfl) ?_
          refine runl_nil ?_
          exact IH (k + 1) _ _ (by omega) ⟨rfl, by rw [hfl2, hsg]; rfl, rfl, trivial⟩ ⟨by omega, e⟩
        · have hsg := sign_45 (c := c) (by omega) (by omega)
          refine run_region rfl ?_
          refine runl_ev (ev_move rfl) ?_
          refine runl_ev (ev_move rfl) ?_
          refine runl_ev_g rfl rfl (rfl) (ev_move rfl) ?_
          refine runl_ev_g rfl rfl (rfl) (ev_move rfl) ?_
          refine runl_ev_g rfl rfl (rfl) (ev_indexS (k := k) Tryd.underlying9 rfl rfl (hk1)) ?_
          refine runl_ev_g rfl rfl (rfl) (ev_geq rfl rfl) ?_
          refine runl_ev_g rfl rfl (rfl) (ev_move rfl) ?_
          refine runl_ev_g rfl rfl (decide_eq_true (by rw [← hc]; omega)) (ev_move rfl) ?_
          refine runl_ev_g rfl rfl (decide_eq_true (by rw [← hc]; omega)) (ev_move rfl) ?_
          refine runl_ev_g rfl rfl (decide_eq_true (by rw [← hc]; omega)) (ev_indexS (k := k) Tryd.underlying9 rfl rfl (hk1)) ?_
          refine runl_ev_g rfl rfl (decide_eq_true (by rw [← hc]; omega)) (ev_leq rfl rfl) ?_
          refine runl_ev_g rfl rfl (rfl) (ev_pick rfl rfl rfl (if_pos (decide_eq_true (by rw [← hc]; omega)))) ?_
          refine runl_ev_g rfl rfl (rfl) (ev_move rfl) ?_
          refine runl_ev_g rfl rfl (decide_eq_false (by rw [← hc]; omega)) (ev_move rfl) ?_
          refine runl_ev_g rfl rfl (decide_eq_false (by rw [← hc]; omega)) (ev_move rfl) ?_
          refine runl_ev_g rfl rfl (decide_eq_false (by rw [← hc]; omega)) (ev_indexS (k := k) Tryd.underlying9 rfl rfl (hk1)) ?_
          refine runl_ev_g rfl rfl (decide_eq_false (by rw [← hc]; omega)) (ev_geq rfl rfl) ?_
          refine runl_ev_g rfl rfl (decide_eq_false (by rw [← hc]; omega)) (ev_move rfl) ?_
          refine runl_ev_g rfl rfl (decide_eq_true (by rw [← hc]; omega)) (ev_move rfl) ?_
          refine runl_ev_g rfl rfl (decide_eq_true (by rw [← hc]; omega)) (ev_move rfl) ?_
          refine runl_ev_g rfl rfl (decide_eq_true (by rw [← hc]; omega)) (ev_indexS (k := k) Tryd.underlying9 rfl rfl (hk1)) ?_
          refine runl_ev_g rfl rfl (decide_eq_true (by rw [← hc]; omega)) (ev_leq rfl rfl) ?_
          refine runl_ev_g rfl rfl (decide_eq_false (by rw [← hc]; omega)) (ev_pick rfl rfl rfl (if_pos (decide_eq_true (by rw [← hc]; omega)))) ?_
          refine runl_ev_g rfl rfl (rfl) (ev_pick rfl rfl rfl (if_neg (by rw [← hc]; simp; omega))) ?_
          refine runl_ev_g rfl rfl (rfl) (ev_move rfl) ?_
          refine runl_ev_g rfl rfl (decide_eq_false (by rw [← hc]; omega)) (ev_move rfl) ?_
          refine runl_ev_g rfl rfl (decide_eq_false (by rw [← hc]; omega)) (ev_move rfl) ?_
          refine runl_ev_g rfl rfl (decide_eq_false (by rw [← hc]; omega)) (ev_indexS (k := k) Tryd.underlying9 rfl rfl (hk1)) ?_
          refine runl_ev_g rfl rfl (decide_eq_false (by rw [← hc]; omega)) (ev_eqlI rfl rfl) ?_
          refine runl_ev_g rfl rfl (rfl) (ev_pick rfl rfl rfl (if_neg (by rw [← hc]; simp; omega))) ?_
          refine runl_ev (ev_pick rfl rfl rfl (if_pos (rfl))) ?_
          refine runl_ev (ev_assign rfl) ?_
          refine runl_nil ?_
          refine run_inBlock ?_
          refine run_region rfl ?_
          refine runl_ev (ev_move rfl) ?_
          refine runl_ev (ev_add rfl rfl (by omega) (by omega)) ?_
          refine runl_ev (ev_assign rfl) ?_
          refine runl_nil ?_
          exact IH (k + 1) _ _ (by omega) ⟨rfl, by rw [hfl2, ← hsg, hc]; rfl, rfl, trivial⟩ ⟨by omega, e⟩
        · have hsg := sign_true (c := c) (.inr (.inl ⟨q2, q3⟩))
          refine run_region rfl ?_
          refine runl_ev (ev_move rfl) ?_
          refine runl_ev (ev_move rfl) ?_
          refine runl_ev_g rfl rfl (rfl) (ev_move rfl) ?_
          refine runl_ev_g rfl rfl (rfl) (ev_move rfl) ?_
          refine runl_ev_g rfl rfl (rfl) (ev_indexS (k := k) Tryd.underlying9 rfl rfl (hk1)) ?_
          refine runl_ev_g rfl rfl (rfl) (ev_geq rfl rfl) ?_
          refine runl_ev_g rfl rfl (rfl) (ev_move rfl) ?_
          refine runl_no_g rfl rfl (decide_eq_false (by rw [← hc]; omega)) ?_
          refine runl_no_g rfl rfl (decide_eq_false (by rw [← hc]; omega)) ?_
          refine runl_no_g rfl rfl (decide_eq_false (by rw [← hc]; omega)) ?_
          refine runl_no_g rfl rfl (decide_eq_false (by rw [← hc]; omega)) ?_
          refine runl_ev_g rfl rfl (rfl) (ev_pick rfl rfl rfl (if_neg (by rw [← hc]; simp; omega))) ?_
          refine runl_ev_g rfl rfl (rfl) (ev_move rfl) ?_
          refine runl_ev_g rfl rfl (rfl) (ev_move rfl) ?_
          refine runl_ev_g rfl rfl (rfl) (ev_move rfl) ?_
          refine runl_ev_g rfl rfl (rfl) (ev_indexS (k := k) Tryd.underlying9 rfl rfl (hk1)) ?_
          refine runl_ev_g rfl rfl (rfl) (ev_geq rfl rfl) ?_
          refine runl_ev_g rfl rfl (rfl) (ev_move rfl) ?_
          refine runl_ev_g rfl rfl (decide_eq_true (by rw [← hc]; omega)) (ev_move rfl) ?_
          refine runl_ev_g rfl rfl (decide_eq_true (by rw [← hc]; omega)) (ev_move rfl) ?_
          refine runl_ev_g rfl rfl (decide_eq_true (by rw [← hc]; omega)) (ev_indexS (k := k) Tryd.underlying9 rfl rfl (hk1)) ?_
          refine runl_ev_g rfl rfl (decide_eq_true (by rw [← hc]; omega)) (ev_leq rfl rfl) ?_
          refine runl_ev_g rfl rfl (rfl) (ev_pick rfl rfl rfl (if_pos (decide_eq_true (by rw [← hc]; omega)))) ?_
          refine runl_ev_g rfl rfl (rfl) (ev_pick rfl rfl rfl (if_neg (by simp))) ?_
          refine runl_ev_g rfl rfl (rfl) (ev_move rfl) ?_
          refine runl_no_g rfl rfl (decide_eq_true (by rw [← hc]; omega)) ?_
          refine runl_no_g rfl rfl (decide_eq_true (by rw [← hc]; omega)) ?_
          refine runl_no_g rfl rfl (decide_eq_true (by rw [← hc]; omega)) ?_
          refine runl_no_g rfl rfl (decide_eq_true (by rw [← hc]; omega)) ?_
          refine runl_ev_g rfl rfl (rfl) (ev_pick rfl rfl rfl (if_pos (decide_eq_true (by rw [← hc]; omega)))) ?_
          refine runl_ev (ev_pick rfl rfl rfl (if_pos (rfl))) ?_
          refine runl_ev (ev_assign rfl) ?_
          refine runl_nil ?_
          refine run_inBlock ?_
          refine run_region rfl ?_
          refine runl_ev (ev_move rfl) ?_
          refine runl_ev (ev_add rfl rfl (by omega) (by omega)) ?_
          refine runl_ev (ev_assign rfl) ?_
          refine runl_nil ?_
          exact IH (k + 1) _ _ (by omega) ⟨rfl, by rw [hfl2, hsg]; rfl, rfl, trivial⟩ ⟨by omega, e⟩
        · have hsg := sign_45 (c := c) (by omega) (by omega)
          refine run_region rfl ?_
          refine runl_ev (ev_move rfl) ?_
          refine runl_ev (ev_move rfl) ?_
          refine runl_ev_g rfl rfl (rfl) (ev_move rfl) ?_
          refine runl_ev_g rfl rfl (rfl) (ev_move rfl) ?_
          refine runl_ev_g rfl rfl (rfl) (ev_indexS (k := k) Tryd.underlying9 rfl rfl (hk1)) ?_
          refine runl_ev_g rfl rfl (rfl) (ev_geq rfl rfl) ?_
          refine runl_ev_g rfl rfl (rfl) (ev_move rfl) ?_
          refine runl_no_g rfl rfl (decide_eq_false (by rw [← hc]; omega)) ?_
          refine runl_no_g rfl rfl (decide_eq_false (by rw [← hc]; omega)) ?_
          refine runl_no_g rfl rfl (decide_eq_false (by rw [← hc]; omega)) ?_
          refine runl_no_g rfl rfl (decide_eq_false (by rw [← hc]; omega)) ?_
          refine runl_ev_g rfl rfl (rfl) (ev_pick rfl rfl rfl (if_neg (by rw [← hc]; simp; omega))) ?_
          refine runl_ev_g rfl rfl (rfl) (ev_move rfl) ?_
          refine runl_ev_g rfl rfl (rfl) (ev_move rfl) ?_
          refine runl_ev_g rfl rfl (rfl) (ev_move rfl) ?_
          refine runl_ev_g rfl rfl (rfl) (ev_indexS (k := k) Tryd.underlying9 rfl rfl (hk1)) ?_
          refine runl_ev_g rfl rfl (rfl) (ev_geq rfl rfl) ?_
          refine runl_ev_g rfl rfl (rfl) (ev_move rfl) ?_
          refine runl_ev_g rfl rfl (decide_eq_true (by rw [← hc]; omega)) (ev_move rfl) ?_
          refine runl_ev_g rfl rfl (decide_eq_true (by rw [← hc]; omega)) (ev_move rfl) ?_
          refine runl_ev_g rfl rfl (decide_eq_true (by rw [← hc]; omega)) (ev_indexS (k := k) Tryd.underlying9 rfl rfl (hk1)) ?_
          refine runl_ev_g rfl rfl (decide_eq_true (by rw [← hc]; omega)) (ev_leq rfl rfl) ?_
          refine runl_ev_g rfl rfl (rfl) (ev_pick rfl rfl rfl (if_pos (decide_eq_true (by rw [← hc]; omega)))) ?_
          refine runl_ev_g rfl rfl (rfl) (ev_pick rfl rfl rfl (if_neg (by simp))) ?_
          refine runl_ev_g rfl rfl (rfl) (ev_move rfl) ?_
          refine runl_ev_g rfl rfl (decide_eq_false (by rw [← hc]; omega)) (ev_move rfl) ?_
          refine runl_ev_g rfl rfl (decide_eq_false (by rw [← hc]; omega)) (ev_move rfl) ?_
          refine runl_ev_g rfl rfl (decide_eq_false (by rw [← hc]; omega)) (ev_indexS (k := k) Tryd.underlying9 rfl rfl (hk1)) ?_
          refine runl_ev_g rfl rfl (decide_eq_false (by rw [← hc]; omega)) (ev_eqlI rfl rfl) ?_
          refine runl_ev_g rfl rfl (rfl) (ev_pick rfl rfl rfl (if_neg (by rw [← hc]; simp; omega))) ?_
          refine runl_ev (ev_pick rfl rfl rfl (if_pos (rfl))) ?_
          refine runl_ev (ev_assign rfl) ?_
          refine runl_nil ?_
          refine run_inBlock ?_
          refine run_region rfl ?_
          refine runl_ev (ev_move rfl) ?_
          refine runl_ev (ev_add rfl rfl (by omega) (by omega)) ?_
          refine runl_ev (ev_assign rfl) ?_
          refine runl_nil ?_
          exact IH (k + 1) _ _ (by omega) ⟨rfl, by rw [hfl2, ← hsg, hc]; rfl, rfl, trivial⟩ ⟨by omega, e⟩
        · have hsg := sign_45 (c := c) (by omega) (by omega)
          refine run_region rfl ?_
          refine runl_ev (ev_move rfl) ?_
          refine runl_ev (ev_move rfl) ?_
          refine runl_ev_g rfl rfl (rfl) (ev_move rfl) ?_
          refine runl_ev_g rfl rfl (rfl) (ev_move rfl) ?_
          refine runl_ev_g rfl rfl (rfl) (ev_indexS (k := k) Tryd.underlying9 rfl rfl (hk1)) ?_
          refine runl_ev_g rfl rfl (rfl) (ev_geq rfl rfl) ?_
          refine runl_ev_g rfl rfl (rfl) (ev_move rfl) ?_
          refine runl_no_g rfl rfl (decide_eq_false (by rw [← hc]; omega)) ?_
          refine runl_no_g rfl rfl (decide_eq_false (by rw [← hc]; omega)) ?_
          refine runl_no_g rfl rfl (decide_eq_false (by rw [← hc]; omega)) ?_
          refine runl_no_g rfl rfl (decide_eq_false (by rw [← hc]; omega)) ?_
          refine runl_ev_g rfl rfl (rfl) (ev_pick rfl rfl rfl (if_neg (by rw [← hc]; simp; omega))) ?_
          refine runl_ev_g rfl rfl (rfl) (ev_move rfl) ?_
          refine runl_ev_g rfl rfl (rfl) (ev_move rfl) ?_
          refine runl_ev_g rfl rfl (rfl) (ev_move rfl) ?_
          refine runl_ev_g rfl rfl (rfl) (ev_indexS (k := k) Tryd.underlying9 rfl rfl (hk1)) ?_
          refine runl_ev_g rfl rfl (rfl) (ev_geq rfl rfl) ?_
          refine runl_ev_g rfl rfl (rfl) (ev_move rfl) ?_
          refine runl_no_g rfl rfl (decide_eq_false (by rw [← hc]; omega)) ?_
          refine runl_no_g rfl rfl (decide_eq_false (by rw [← hc]; omega)) ?_
          refine runl_no_g rfl rfl (decide_eq_false (by rw [← hc]; omega)) ?_
          refine runl_no_g rfl rfl (decide_eq_false (by rw [← hc]; omega)) ?_
          refine runl_ev_g rfl rfl (rfl) (ev_pick rfl rfl rfl (if_neg (by rw [← hc]; simp; omega))) ?_
          refine runl_ev_g rfl rfl (rfl) (ev_pick rfl rfl rfl (if_neg (by simp))) ?_
          refine runl_ev_g rfl rfl (rfl) (ev_move rfl) ?_
          refine runl_ev_g rfl rfl (rfl) (ev_move rfl) ?_
          refine runl_ev_g rfl rfl (rfl) (ev_move rfl) ?_
          refine runl_ev_g rfl rfl (rfl) (ev_indexS (k := k) Tryd.underlying9 rfl rfl (hk1)) ?_
          refine runl_ev_g rfl rfl (rfl) (ev_eqlI rfl rfl) ?_
          refine runl_ev_g rfl rfl (rfl) (ev_pick rfl rfl rfl (if_neg (by simp))) ?_
          refine runl_ev (ev_pick rfl rfl rfl (if_pos (rfl))) ?_
          refine runl_ev (ev_assign rfl) ?_
          refine runl_nil ?_
          refine run_inBlock ?_
          refine run_region rfl ?_
          refine runl_ev (ev_move rfl) ?_
          refine runl_ev (ev_add rfl rfl (by omega) (by omega)) ?_
          refine runl_ev (ev_assign rfl) ?_
          refine runl_nil ?_
          exact IH (k + 1) _ _ (by omega) ⟨rfl, by rw [hfl2, ← hsg, hc]; rfl, rfl, trivial⟩ ⟨by omega, e⟩
      · obtain rfl : k = s.size := by omega
        rw [List.take_of_length_le (by omega : s.data.toList.length ≤ s.size)]
        refine run_exit rfl ?_
        refine run_seq ?_
        refine run_region rfl ?_
        refine runl_ev (ev_move rfl) ?_
        refine runl_op (t_call call_7 rfl (name_any s _)) ?_
        rintro _ w54 ⟨rfl, e54⟩
        have z54 := e54.size
        replace e := e.trans e54
        refine runl_ev (ev_move rfl) ?_
        refine runl_ev (ev_eqlB Tryd.underlying4 rfl rfl) ?_
        refine runl_ev (ev_move rfl) ?_
        refine runl_op_g rfl rfl (decide_eq_true (by rw [nameB, Bool.and_assoc])) (t_call call_8 rfl (known_any _)) ?_
        rintro _ w58 ⟨rfl, e58⟩
        have z58 := e58.size
        replace e := e.trans e58
        refine runl_ev (ev_pick rfl rfl rfl (if_pos (decide_eq_true (by rw [nameB, Bool.and_assoc])))) ?_
        refine runl_ev (ev_assign rfl) ?_
        refine runl_nil ?_
        refine run_ret_any Tryd.func3 (res1 Tryd.results3 rfl) ?_
        exact ⟨rfl, e⟩
    · intro JJ
      by_cases q1 : 1 ≤ s.size
      · refine run_region rfl ?_
        refine runl_ev (ev_move rfl) ?_
        refine runl_ev (ev_lenS str_9 rfl) ?_
        refine runl_ev (ev_geq rfl rfl) ?_
        refine runl_ev (ev_move rfl) ?_
        refine runl_ev_g rfl rfl (decide_eq_true (by omega)) (ev_move rfl) ?_
        refine runl_ev_g rfl rfl (decide_eq_true (by omega)) (ev_lenS str_9 rfl) ?_
        refine runl_ev_g rfl rfl (decide_eq_true (by omega)) (ev_leq rfl rfl) ?_
        refine runl_ev (ev_pick rfl rfl rfl (if_pos (decide_eq_true (by omega)))) ?_
        refine runl_ev (ev_assign rfl) ?_
        refine runl_nil ?_
        exact JJ () _ _ ⟨rfl, by show some (Value.bool (decide ((s.size : Int) ≤ 12))) = some (Value.bool (decide (1 ≤ s.size) && decide (s.size ≤ 12))); rw [decide_eq_true q1, Bool.true_and, decide_eq_decide.2 (by omega : (s.size : Int) ≤ 12 ↔ s.size ≤ 12)], trivial⟩ e
      · refine run_region rfl ?_
        refine runl_ev (ev_move rfl) ?_
        refine runl_ev (ev_lenS str_9 rfl) ?_
        refine runl_ev (ev_geq rfl rfl) ?_
        refine runl_ev (ev_move rfl) ?_
        refine runl_no_g rfl rfl (decide_eq_false (by omega)) ?_
        refine runl_no_g rfl rfl (decide_eq_false (by omega)) ?_
        refine runl_no_g rfl rfl (decide_eq_false (by omega)) ?_
        refine runl_ev (ev_pick rfl rfl rfl (if_neg (by simp; omega))) ?_
        refine runl_ev (ev_assign rfl) ?_
        refine runl_nil ?_
        exact JJ () _ _ ⟨rfl, by show some (Value.bool false) = some (Value.bool (decide (1 ≤ s.size) && decide (s.size ≤ 12))); rw [decide_eq_false q1]; rfl, trivial⟩ e
end Go.Proofs.YtcmbiaibocdfeaaDoor

/- The walk of law FindPrefix on what find's calls come to. -/
import Derived.Test.YtpomcdmlmaimeaaFind4
import Derived.Test.YtpomcdmlmaimeaaFind6M
import Derived.Test.YtpomcdmlmaimeaaFind8M
import Derived.Test.YtpomcdmlmaimeaaRows2
namespace Go.Proofs.Ytpomcdmlmaimeaa
open Go Go.Fw
set_option maxRecDepth 100000
theorem rtgs_len (w : World) (x : Tgs) (cs : List Value) (h : RTgs w x cs) : cs.length = 5 := by obtain ⟨_, _, rfl, _, _⟩ := h; rfl
theorem rtgs_one {w : World} (x : Tgs) (cs : List Value) (h : RTgs w x cs) : ∀ v ∈ cs, v.oneCell' = true := by
  obtain ⟨_, _, rfl, ⟨_, _, rfl, _⟩, ⟨_, _, rfl, _⟩⟩ := h
  simp
theorem rdel_any {w w' : World} {x : Del} {cs : List Value} (h : RDel w x cs) : RDel w' x cs := h
theorem rdel_len (w : World) (x : Del) (cs : List Value) (h : RDel w x cs) : cs.length = 5 := by obtain ⟨_, _, _, _, rfl⟩ := h; rfl
theorem rdel_one {w : World} (x : Del) (cs : List Value) (h : RDel w x cs) : ∀ v ∈ cs, v.oneCell' = true := by
  obtain ⟨_, _, _, _, rfl⟩ := h
  simp

theorem lawPrefix_any (l : List Tgs) (w : World) (a : Option Addr) (len cap : Nat) (hl : SlAt 5 RTgs w (.slice a len cap) l) (hb : Bnd l) (name : ByteArray) (hn : name.size ≤ 1048576) :
    Ret Try.prog 4 [.slice a len cap, .string name] w fun r w' => r = .bool true ∧ Ext w w' := by
  have hl0 := hl
  obtain ⟨rfl, hat⟩ := hl.at
  have e := ExtB.refl (fun _ => False) w
  refine ret_of_run Try.func4 rfl Try.ntmps4 rfl ?_
  refine run_seq ?_
  refine run_region rfl ?_
  refine runl_ev (ev_assign rfl) ?_
  refine runl_nil ?_
  refine run_seq ?_
  refine run_seq ?_
  refine run_region rfl ?_
  refine runl_ev (ev_move rfl) ?_
  refine runl_op (t_call call_11 rfl (heavy_any l _ _ _ _ (hl0.ext RTgs.stable e) hb)) ?_
  rintro _ w12 ⟨tb, rfl, e12⟩
  have z12 := e12.size
  replace e := e.trans e12
  rcases (by cases tb <;> by_cases h1 : l = [] <;> simp [h1] : tb = true ∨ (tb = false ∧ l = []) ∨ (tb = false ∧ l ≠ [])) with rfl | ⟨rfl, rfl⟩ | ⟨rfl, hne⟩
  · refine runl_ev (ev_move rfl) ?_
    refine runl_no_g rfl rfl (rfl) ?_
    refine runl_no_g rfl rfl (rfl) ?_
    refine runl_no_g rfl rfl (rfl) ?_
    refine runl_ev (ev_pick rfl rfl rfl rfl) ?_
    refine runl_ev (ev_move rfl) ?_
    refine runl_no_g rfl rfl (rfl) ?_
    refine runl_no_g rfl rfl (rfl) ?_
    refine runl_no_g rfl rfl (rfl) ?_
    refine runl_ev (ev_pick rfl rfl rfl rfl) ?_
    refine runl_nil ?_
    refine run_cond_true rfl (rfl) ?_
    refine run_seq ?_
    refine run_region rfl ?_
    refine runl_ev (ev_assign rfl) ?_
    refine runl_nil ?_
    refine run_ret_any Try.func4 (res1 Try.results4 rfl) ?_
    exact ⟨rfl, e⟩
  · refine runl_ev (ev_move rfl) ?_
    refine runl_ev_g rfl rfl (rfl) (ev_move rfl) ?_
    refine runl_ev_g rfl rfl (rfl) (ev_lenL sl_22 rfl) ?_
    refine runl_ev_g rfl rfl (rfl) (ev_eqlI rfl rfl) ?_
    refine runl_ev (ev_pick rfl rfl rfl (if_neg (by simp))) ?_
    refine runl_ev (ev_move rfl) ?_
    refine runl_no_g rfl rfl (rfl) ?_
    refine runl_no_g rfl rfl (rfl) ?_
    refine runl_no_g rfl rfl (rfl) ?_
    refine runl_ev (ev_pick rfl rfl rfl rfl) ?_
    refine runl_nil ?_
    refine run_cond_true rfl (rfl) ?_
    refine run_seq ?_
    refine run_region rfl ?_
    refine runl_ev (ev_assign rfl) ?_
    refine runl_nil ?_
    refine run_ret_any Try.func4 (res1 Try.results4 rfl) ?_
    exact ⟨rfl, e⟩
  · obtain ⟨t, r, rfl⟩ : ∃ t r, l = t :: r := by
      cases l with
      | nil => exact absurd rfl hne
      | cons t r => exact ⟨t, r, rfl⟩
    obtain ⟨b, o, fcs, rfl, hfl, hfc, hfp⟩ := hl0.cells rtgs_len (by simp)
    obtain ⟨lv, dv, ht5, hL, hD⟩ := hfp.1
    have hc : Cells w b (o + 0 * 5) [.string t.name, .int .i64 t.ver, .int .i64 t.exp, lv, dv] := by
      rw [← ht5]
      simpa using hfc.take 5
    have hL0 := hL
    obtain ⟨a1, c1, rfl, hL1⟩ := hL
    have hD0 := hD
    obtain ⟨a2, c2, rfl, hD1⟩ := hD
    have hbt := hb.2.1 t (by simp)
    have hbl := hb.1
    have hbp := hb.2.2
    have hz1 : (⟨#[122]⟩ : ByteArray).size = 1 := rfl
    have hfl1 : (t :: r).length = r.length + 1 := rfl
    refine runl_ev (ev_move rfl) ?_
    refine runl_ev_g rfl rfl (rfl) (ev_move rfl) ?_
    refine runl_ev_g rfl rfl (rfl) (ev_lenL sl_22 rfl) ?_
    refine runl_ev_g rfl rfl (rfl) (ev_eqlI rfl rfl) ?_
    refine runl_ev (ev_pick rfl rfl rfl (if_neg (by simp))) ?_
    refine runl_ev (ev_move rfl) ?_
    refine runl_ev_g rfl rfl (decide_eq_false (by simp; omega)) (ev_move rfl) ?_
    refine runl_ev_g rfl rfl (decide_eq_false (by simp; omega)) (ev_lenS str_9 rfl) ?_
    refine runl_ev_g rfl rfl (decide_eq_false (by simp; omega)) (ev_gtr rfl rfl) ?_
    refine runl_ev (ev_pick rfl rfl rfl (if_neg (by simp; omega))) ?_
    refine runl_nil ?_
    refine run_dcond rfl (fun h0 => ?_) (fun h0 => ?_)
    · refine run_seq ?_
      refine run_region rfl ?_
      refine runl_ev (ev_assign rfl) ?_
      refine runl_nil ?_
      refine run_ret_any Try.func4 (res1 Try.results4 rfl) ?_
      exact ⟨rfl, e⟩
    · refine run_skip ?_
      refine run_seq ?_
      refine run_region rfl ?_
      refine runl_op (t_buildSlice0 Try.underlying22 sz_33) ?_
      rintro _ w23 ⟨b23, rfl, hb23, e23, n23, l23⟩
      have z23 := e23.size
      replace e := e.trans e23
      refine runl_ev (ev_move rfl) ?_
      refine runl_op (t_append (news := fcs) ef_22 rfl rfl (own_lit (n := 0) hb23 (by unfold maxLen; omega) rfl) hfl (hfc.ext e) (hfp.all (fun x cs h => rtgs_one x cs h) hfl) (by unfold maxLen; omega) (by omega)) ?_
      rintro v25 w25 ⟨g25, ap25⟩
      have ownm := ap25.own
      rw [List.nil_append, Nat.zero_add] at ownm
      have hn25 := ap25.new
      obtain ⟨m1, mcap, mc, hm1, rfl, hbm, hmca, hmcm, hmlen, hmt⟩ := ownm.blk (by simp)
      subst hm1
      have lm := lt_of_at hbm
      have hml5 : 5 ≤ mc.length := by rw [hmlen]; omega
      have h4 : mc[4]? = some (.slice a2 t.d.length c2) := by
        have h1 : fcs[4]? = some (.slice a2 t.d.length c2) := by have := congrArg (fun q : List Value => q[4]?) ht5; simpa [List.getElem?_take] using this
        rw [← hmt, List.getElem?_take] at h1
        split at h1
        · exact h1
        · cases h1
      have hs4 : ∀ v, (mc.set 4 v)[4]? = some v := fun v => by rw [List.getElem?_set_self (by omega)]
      have z25 := ap25.ext.size
      replace e := e.newG ap25.ext (by omega)
      refine runl_ev (ev_assign rfl) ?_
      refine runl_nil ?_
      refine run_seq ?_
      refine run_region rfl ?_
      refine runl_ev (ev_move rfl) ?_
      refine runl_op (t_buildSlice0 Try.underlying31 sz_40) ?_
      rintro _ w27 ⟨b27, rfl, hb27, e27, n27, l27⟩
      have z27 := e27.size
      replace e := e.trans e27
      replace hbm := e27.at hbm
      refine runl_ev (ev_move rfl) ?_
      refine runl_ev (ev_indexAddr (k := 0) el_22 rfl rfl (by simp)) ?_
      refine runl_ev (ev_fieldAddr fld_33_4 rfl) ?_
      refine runl_ev (ev_load1 cell_31 rfl (eqw ((cells_all hbm).pick 4 rfl h4))) ?_
      refine runl_op (t_appendL (l := t.d) (R := RDel) ef_31 rfl rfl (own_lit (n := 0) hb27 (by unfold maxLen; omega) rfl) (hD0.ext RDel.stable e) rdel_len (fun x cs h => rdel_one x cs h) (by unfold maxLen; omega) (by omega)) ?_
      rintro v32 w32 ⟨dcs, g32, hdl, hdp, ap32⟩
      have ownD := ap32.own
      rw [List.nil_append, Nat.zero_add] at ownD
      have hn32 := ap32.new
      obtain ⟨da, dc, rfl⟩ := ownD.shape
      have z32 := ap32.ext.size
      replace e := e.newG ap32.ext (by omega)
      replace hbm := ap32.ext.atG hbm (by omega)
      have hg1 : (w.heap.size : Int) ≤ g32 := by omega
      have hg2 : g32 ≠ m1 := by omega
      refine runl_ev (ev_indexAddr (k := 0) el_22 rfl rfl (by simp)) ?_
      refine runl_ev (ev_fieldAddr fld_33_4 rfl) ?_
      refine runl_do (t_store1 sz_31 rfl rfl rfl rfl hbm (by omega)) ?_
      rintro _ v4_9 ⟨hq4_9, e4_9, z4_9⟩
      replace e := e.new1 e4_9 (by omega)
      replace ownD := ownD.ext1 e4_9 (by omega)
      replace hbm := hq4_9
      clear hq4_9
      refine runl_nil ?_
      replace hbm : v4_9.heap[m1]? = some (.cells ⟨mc.set 4 (.slice da t.d.length dc)⟩ 33 (0, 0)) := hbm
      have hdp0 : ∀ wz, Parts 5 RDel wz t.d dcs := fun wz => hdp.mono fun _ _ _ h => rdel_any h
      clear hdp
      refine run_seq ?_
      refine run_seq ?_
      refine run_region rfl ?_
      refine runl_ev (ev_assign rfl) ?_
      refine runl_nil ?_
      refine run_block ?_
      refine run_loop (ι := Nat × List Value × List Del) (fun x => [(0, .slice (some ⟨b, o, none⟩) (t :: r).length cap), (1, .string name), (4, .bool false), (5, .slice (some ⟨m1, 0, none⟩) (t :: r).length mcap), (6, .int .i64 (x.1 : Int))]) (fun x w' => x.1 ≤ t.d.length ∧ x.2.2.length = t.d.length ∧ (∀ (j : Nat) (d : Del), j < x.1 → x.2.2[j]? = some d → d.pfx = (name ++ (⟨#[122]⟩ : ByteArray))) ∧ (∀ wz, Parts 5 RDel wz x.2.2 x.2.1) ∧ Own w' 40 5 (.slice da t.d.length dc) t.d.length x.2.1 g32 ∧ w'.heap[m1]? = some (.cells ⟨mc.set 4 (.slice da t.d.length dc)⟩ 33 (0, 0)) ∧ Ext w w') (fun x => t.d.length - x.1) ((0, dcs, t.d)) ⟨rfl, rfl, rfl, rfl, rfl, trivial⟩ (⟨Nat.zero_le _, rfl, fun _ _ h => absurd h (Nat.not_lt_zero _), hdp0, ownD, hbm, e⟩) ?_
      clear e hbm ownD hdp0
      intro ⟨k, dcs, dl⟩ w1 ⟨hk, hdll, hpf, hdp, ownD, hbm, e⟩ IH
      simp only at hk hdll hpf hdp ownD
      have z1 := e.size
      refine run_seq ?_
      refine run_seq ?_
      refine run_region rfl ?_
      refine runl_ev (ev_move rfl) ?_
      refine runl_ev (ev_move rfl) ?_
      refine runl_ev (ev_indexAddr (k := 0) el_22 rfl rfl (by simp)) ?_
      refine runl_ev (ev_fieldAddr fld_33_4 rfl) ?_
      refine runl_ev (ev_load1 cell_31 rfl (eqw ((cells_all hbm).pick 4 rfl (hs4 _)))) ?_
      refine runl_ev (ev_lenL sl_31 rfl) ?_
      refine runl_ev (ev_lss rfl rfl) ?_
      refine runl_nil ?_
      refine run_dcond rfl (fun h1 => ?_) (fun h1 => ?_)
      · have hk1 : k < t.d.length := by omega
        obtain ⟨d, hd⟩ : ∃ d, dl[k]? = some d := ⟨dl[k], by simp⟩
        obtain ⟨bD, dcap, dc1, hbg, hv, hbD, hdc1, hdc2, hdc3, hdt⟩ := ownD.blk (by omega)
        obtain ⟨ka, kn, kc, need, hseg⟩ := (hdp w1).get hd
        cases hv
        subst hbg
        clear ownD
        refine run_skip ?_
        refine run_seq ?_
        refine run_block ?_
        refine run_region rfl ?_
        refine runl_ev (ev_move rfl) ?_
        refine runl_ev (ev_indexAddr (k := 0) el_22 rfl rfl (by simp)) ?_
        refine runl_ev (ev_fieldAddr fld_33_4 rfl) ?_
        refine runl_ev (ev_load1 cell_31 rfl (eqw ((cells_all hbm).pick 4 rfl (hs4 _)))) ?_
        refine runl_ev (ev_move rfl) ?_
        refine runl_ev (ev_move rfl) ?_
        refine runl_ev (ev_addS rfl rfl (by omega)) ?_
        refine runl_ev (ev_indexAddr (k := k) el_31 rfl rfl (hk1)) ?_
        refine runl_ev (ev_fieldAddr fld_40_2 rfl) ?_
        refine runl_do (t_store1 sz_9 rfl rfl rfl rfl hbD (by rw [hdc3]; omega)) ?_
        rintro _ v8_9 ⟨hq8_9, e8_9, z8_9⟩
        replace e := e.new1 e8_9 (by omega)
        replace hbm := e8_9.at1 hbm (by omega)
        replace hbD := hq8_9
        clear hq8_9
        refine runl_nil ?_
        refine run_inBlock ?_
        refine run_region rfl ?_
        refine runl_ev (ev_move rfl) ?_
        refine runl_ev (ev_add rfl rfl (by omega) (by omega)) ?_
        refine runl_ev (ev_assign rfl) ?_
        refine runl_nil ?_
        rw [Nat.zero_add] at hbD
        refine IH (k + 1, dcs.set (k * 5 + 3) (.string (name ++ (⟨#[122]⟩ : ByteArray))), dl.set k ⟨d.name, (name ++ (⟨#[122]⟩ : ByteArray)), d.last⟩) _ _ (by simp only; omega) ⟨rfl, rfl, rfl, rfl, rfl, trivial⟩ ⟨(by show k + 1 ≤ _; omega), (by show (dl.set _ _).length = _; rw [List.length_set]; exact hdll), fun j x hj hx => ?_, fun wz => (hdp wz).set (by omega) ?_, own_blk hbD hdc1 hdc2 (by rw [List.length_set]; exact hdc3) (by rw [List.take_set, hdt]), hbm, e⟩
        · simp only at hj hx
          by_cases hjk : k = j
          · subst hjk
            rw [List.getElem?_set_self (by omega)] at hx
            cases hx
            rfl
          · rw [List.getElem?_set_ne hjk] at hx
            exact hpf j x (by omega) hx
        · rw [seg_set, hseg]
          exact ⟨ka, kn, kc, need, rfl⟩
      · obtain rfl : k = t.d.length := by omega
        have hpa : ∀ d ∈ dl, d.pfx = (name ++ (⟨#[122]⟩ : ByteArray)) := fun d hd => by
          obtain ⟨j, hj, rfl⟩ := List.mem_iff_getElem.1 hd
          exact hpf j _ (by omega) (List.getElem?_eq_getElem hj)
        have hsl : SlAt 5 RTgs w1 (.slice (some ⟨m1, 0, none⟩) (t :: r).length mcap) (⟨t.name, t.ver, t.exp, t.l, dl⟩ :: r) := by
          have h1 := (cells_all hbm).take ((t :: r).length * 5)
          rw [List.take_set, hmt] at h1
          refine sl_cells (l := ⟨t.name, t.ver, t.exp, t.l, dl⟩ :: r) h1 ?_
          have h2 := Parts.set (k := 0) (j := 4) (x := (⟨t.name, t.ver, t.exp, t.l, dl⟩ : Tgs)) (v := .slice da t.d.length dc) (hfp.mono (fun x cs _ h => RTgs.stable _ _ _ _ e h)) (by omega) (by
            rw [seg_set]
            show RTgs w1 _ ((fcs.take 5).set 4 _)
            rw [ht5]
            exact ⟨_, _, rfl, hL0.ext RTgt.stable e, own_slat ownD (hdp w1) hdll⟩)
          simpa using h2
        have hbn : Bnd (⟨t.name, t.ver, t.exp, t.l, dl⟩ :: r) := by
          refine ⟨hbl, fun x hx => ?_, fun x hx d hd => ?_⟩
          · rcases List.mem_cons.1 hx with rfl | hx
            · exact ⟨hbt.1, by rw [hdll]; exact hbt.2⟩
            · exact hb.2.1 x (by simp [hx])
          · rcases List.mem_cons.1 hx with rfl | hx
            · rw [hpa d hd, ByteArray.size_append]; omega
            · exact hbp x (by simp [hx]) d hd
        have hown := @findF_own (⟨t.name, t.ver, t.exp, t.l, dl⟩ : Tgs) r name
        have hskip := @findF_skips (⟨t.name, t.ver, t.exp, t.l, dl⟩ : Tgs) r name
        have hskip := fun h => hskip h (fun d hd => by rw [hpa d hd]; exact pfx_more name _ (by omega))
        refine run_exit rfl ?_
        refine run_seq ?_
        refine run_region rfl ?_
        refine runl_ev (ev_move rfl) ?_
        refine runl_ev (ev_move rfl) ?_
        refine runl_op (t_call call_12 rfl (find_any (⟨t.name, t.ver, t.exp, t.l, dl⟩ :: r) _ _ _ _ hsl hbn name (by omega))) ?_
        rintro _ w56 ⟨rfl, hwf, e56⟩
        generalize hans : findF (⟨t.name, t.ver, t.exp, t.l, dl⟩ :: r) name = ans at hwf hown hskip ⊢
        have z56 := e56.size
        replace e := e.trans e56
        refine runl_ev (ev_move rfl) ?_
        refine runl_ev (ev_extract rfl rfl) ?_
        refine runl_ev (ev_extract rfl rfl) ?_
        refine runl_ev (ev_extract rfl rfl) ?_
        refine runl_op (t_alloc zero_27 rfl) ?_
        rintro _ w7 ⟨b7, rfl, hb7, e7, n7, l7⟩
        have z7 := e7.size
        replace e := e.trans e7
        refine runl_do (t_storeW sz_27 rfl rfl (Tgt.cells_length hwf) rfl hb7 (Tgt.one _)) ?_
        rintro _ v9_8 ⟨hq9_8, e9_8, z9_8⟩
        replace e := e.new1 e9_8 (by omega)
        replace hb7 := hq9_8
        clear hq9_8
        refine runl_ev (ev_assign rfl) ?_
        refine runl_ev (ev_assign rfl) ?_
        refine runl_nil ?_
        refine run_seq ?_
        refine run_seq ?_
        refine run_region rfl ?_
        refine runl_ev (ev_assign rfl) ?_
        refine runl_nil ?_
        refine run_block ?_
        refine run_loop (ι := Nat) (fun k => [(0, .slice (some ⟨b, o, none⟩) (t :: r).length cap), (1, .string name), (4, .bool false), (5, .slice (some ⟨m1, 0, none⟩) (t :: r).length mcap), (7, .pointer (some ⟨b7, 0, none⟩)), (8, .string ans.who), (9, .bool ans.isSome), (10, .int .i64 (k : Int))]) (fun k w' => k ≤ t.l.length ∧ (∀ j x, j < k → t.l[j]? = some x → decide (x.name = name) = false) ∧ w'.heap[b7]? = some (.cells ⟨ans.tgt.cells⟩ 27 (0, 0)) ∧ Ext w w') (fun k => t.l.length - k) (0) ⟨rfl, rfl, rfl, rfl, rfl, rfl, rfl, rfl, trivial⟩ (⟨Nat.zero_le _, fun j _ hj => by omega, hb7, e⟩) ?_
        clear e hb7
        intro k w3 ⟨hk, hno, hb7, e⟩ IH2
        refine run_seq ?_
        refine run_seq ?_
        refine run_region rfl ?_
        refine runl_ev (ev_move rfl) ?_
        refine runl_ev (ev_move rfl) ?_
        refine runl_ev (ev_indexAddr (k := 0) el_22 rfl rfl (by simp)) ?_
        refine runl_ev (ev_fieldAddr fld_33_3 rfl) ?_
        refine runl_ev (ev_load1 cell_30 rfl (eqw ((hc.ext e).pick 3 rfl rfl))) ?_
        refine runl_ev (ev_lenL sl_30 rfl) ?_
        refine runl_ev (ev_lss rfl rfl) ?_
        refine runl_nil ?_
        refine run_dcond rfl (fun h2 => ?_) (fun h2 => ?_)
        · have hk1 : k < t.l.length := by omega
          obtain ⟨b1, o1, cs1, rfl, ⟨hwf1, rfl⟩, hc1⟩ := hL1 k _ (List.getElem?_eq_getElem hk1)
          refine run_skip ?_
          refine run_seq ?_
          refine run_block ?_
          refine run_seq ?_
          refine run_region rfl ?_
          refine runl_ev (ev_move rfl) ?_
          refine runl_ev (ev_indexAddr (k := 0) el_22 rfl rfl (by simp)) ?_
          refine runl_ev (ev_fieldAddr fld_33_3 rfl) ?_
          refine runl_ev (ev_load1 cell_30 rfl (eqw ((hc.ext e).pick 3 rfl rfl))) ?_
          refine runl_ev (ev_move rfl) ?_
          refine runl_ev (ev_indexAddr el_30 rfl rfl (by omega)) ?_
          refine runl_ev (ev_fieldAddr fld_27_0 rfl) ?_
          refine runl_ev (ev_load1 cell_9 rfl (eqw ((hc1.ext e).pick 0 rfl (Tgt.c0 _)))) ?_
          refine runl_ev (ev_move rfl) ?_
          refine runl_ev (ev_eqlS rfl rfl) ?_
          refine runl_nil ?_
          refine run_cond_split rfl (fun h3 => ?_) (fun h3 => ?_)
          · obtain rfl := hown (idxOf_hit hk1 hno h3) (List.getElem?_eq_getElem hk1)
            refine run_seq ?_
            refine run_draw mo (fun w' => Ext w3 w') [] [(true, 0), (true, 1), (true, 2), (true, 3), (true, 4), (true, 5), (true, 6), (true, 7), (true, 8), (true, 9), (true, 10), (true, 11), (true, 12), (false, 13), (true, 14), (true, 15)] (by kernel_rfl) ?_
            intro wr14 er14
            have zr14 := er14.size
            have hsr14 := er14
            have ep := e.trans er14
            have hb7p := er14.at hb7
            refine rund_ev hsr14 rfl (ev_move rfl) ?_
            refine rund_ev hsr14 rfl (ev_move rfl) ?_
            refine rund_ev_g hsr14 rfl rfl rfl (rfl) (ev_loadA agg_27 (Tgt.cells_length hwf1) rfl (fun wz hz => cells_all (hz.at hb7))) ?_
            refine rund_ev_g hsr14 rfl rfl rfl (rfl) (ev_move rfl) ?_
            refine rund_ev_g hsr14 rfl rfl rfl (rfl) (ev_indexAddr (k := 0) el_22 rfl rfl (by simp)) ?_
            refine rund_ev_g hsr14 rfl rfl rfl (rfl) (ev_fieldAddr fld_33_3 rfl) ?_
            refine rund_ev_g hsr14 rfl rfl rfl (rfl) (ev_load1 cell_30 rfl (fun wz hz => (hc.ext (e.trans hz)).pick 3 rfl rfl)) ?_
            refine rund_ev_g hsr14 rfl rfl rfl (rfl) (ev_move rfl) ?_
            refine rund_ev_g hsr14 rfl rfl rfl (rfl) (ev_indexAddr (k := k) el_30 rfl rfl (by omega)) ?_
            refine rund_ev_g hsr14 rfl rfl rfl (rfl) (ev_loadA agg_27 (Tgt.cells_length hwf1) rfl (fun wz hz => hc1.ext (e.trans hz))) ?_
            refine rund_ev_g hsr14 rfl rfl rfl (rfl) (ev_eqlA rfl rfl eg_27 (eqTgt _ _ hwf1 hwf1)) ?_
            refine rund_ev hsr14 rfl (ev_pick rfl rfl rfl rfl) ?_
            refine rund_ev hsr14 rfl (ev_move rfl) ?_
            refine rund_op_g rfl rfl rfl (decide_eq_true rfl) (t_call call_13 rfl (known_any _)) ?_
            rintro _ w92 ⟨rfl, e92⟩
            have z92 := e92.size
            replace ep := ep.trans e92
            replace hb7p := e92.at hb7p
            have hs92 := hsr14.trans e92
            refine ⟨hs92, ?_⟩
            refine rund_ev hs92 rfl (ev_pick rfl rfl rfl (if_pos (by simp [Ans.tgt]))) ?_
            refine rund_ev hs92 rfl (ev_assign rfl) ?_
            refine rund_nil ?_
            replace e := ep
            clear ep
            replace hb7 := hb7p
            clear hb7p
            refine run_ret_any Try.func4 (res1 Try.results4 rfl) ?_
            exact ⟨rfl, e⟩
          · refine run_skip ?_
            refine run_inBlock ?_
            refine run_region rfl ?_
            refine runl_ev (ev_move rfl) ?_
            refine runl_ev (ev_add rfl rfl (by omega) (by omega)) ?_
            refine runl_ev (ev_assign rfl) ?_
            refine runl_nil ?_
            exact IH2 (k + 1) _ _ (by omega) ⟨rfl, rfl, rfl, rfl, rfl, rfl, rfl, rfl, trivial⟩ ⟨by omega, idxOf_snoc hk1 hno h3, hb7, e⟩
        · obtain rfl : k = t.l.length := by omega
          obtain rfl := hskip (by show idxOf _ t.l < 0; rw [idxOf_none hno]; omega)
          refine run_exit rfl ?_
          refine run_seq ?_
          refine run_region rfl ?_
          refine runl_ev (ev_move rfl) ?_
          refine runl_ev (ev_not rfl) ?_
          refine runl_ev (ev_move rfl) ?_
          refine runl_op_g rfl rfl (rfl) (t_call call_13 rfl (known_any _)) ?_
          rintro _ w97 ⟨rfl, e97⟩
          have z97 := e97.size
          replace e := e.trans e97
          replace hb7 := e97.at hb7
          refine runl_ev (ev_pick rfl rfl rfl (if_pos (by simp))) ?_
          refine runl_ev (ev_assign rfl) ?_
          refine runl_nil ?_
          refine run_ret_any Try.func4 (res1 Try.results4 rfl) ?_
          exact ⟨rfl, e⟩
end Go.Proofs.Ytpomcdmlmaimeaa

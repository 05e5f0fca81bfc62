/- The walks of find's inner functions: what each call comes to. -/
import Derived.Test.YtpomcdmlmaimeaaDom
namespace Go.Proofs.Ytpomcdmlmaimeaa
open Go Go.Fw
set_option maxRecDepth 100000

theorem askc1_any (t : Tgt) (ht : t.wf) (w : World) (sv sb : Nat) (T T' : TypeId) (fr fr' : Nat × Nat) (lv av ov : Value) (name : ByteArray)
    (hsv : w.heap[sv]? = some (.cells ⟨[.pointer (some ⟨sb, 0, none⟩)]⟩ T fr)) (hs : w.heap[sb]? = some (.cells ⟨[lv, .string name, av, ov]⟩ T' fr')) :
    Ret Try.prog 21 [.agg ⟨t.cells⟩, .pointer (some ⟨sv, 0, none⟩)] w fun r w' => r = .bool (decide (t.name = name)) ∧ Ext w w' := by
  have E := ExtB.refl (fun _ => False) w
  refine ret_of_run Try.func21 rfl Try.ntmps21 rfl ?_
  refine run_seq ?_
  refine run_region rfl ?_
  refine runl_op (t_boxA rfl) ?_
  rintro _ w2 ⟨b2, rfl, hb2, e2, n2, l2⟩
  have z2 := e2.size
  replace hsv := e2.at hsv
  replace hs := e2.at hs
  refine runl_ev (ev_assign rfl) ?_
  refine runl_nil ?_
  refine run_seq ?_
  refine run_draw mo (fun w' => Ext w2 w') [] [(true, 0), (true, 1), (true, 2), (true, 3), (true, 4), (true, 5), (true, 6), (true, 7)] (by kernel_rfl) ?_
  intro wr1 er1
  have zr1 := er1.size
  have hsr1 := er1
  refine rund_ev hsr1 rfl (ev_fieldAddr fld_27_0 rfl) ?_
  refine rund_ev hsr1 rfl (ev_load1 cell_9 rfl (fun wz hz => cell_blk (hz.at hb2) t.c0)) ?_
  refine rund_ev hsr1 rfl (ev_load1 cell_49 rfl (fun wz hz => cell_blk (hz.at hsv) rfl)) ?_
  refine rund_ev hsr1 rfl (ev_nilCheck rfl) ?_
  refine rund_ev hsr1 rfl (ev_fieldAddr fld_52_1 rfl) ?_
  refine rund_ev hsr1 rfl (ev_load1 cell_9 rfl (fun wz hz => cell_blk (hz.at hs) rfl)) ?_
  refine rund_ev hsr1 rfl (ev_eqlS rfl rfl) ?_
  refine rund_ev hsr1 rfl (ev_assign rfl) ?_
  refine rund_nil ?_
  replace hsv := er1.at hsv
  replace hs := er1.at hs
  replace hb2 := er1.at hb2
  refine run_ret_any Try.func21 (res1 Try.results21 rfl) ?_
  exact ⟨rfl, e2.trans er1⟩
theorem askc2_any (x : Tgs) (cs : List Value) (w wx : World) (hx : RTgs wx x cs) (db : Nat) (T : TypeId) (fr : Nat × Nat) (d0 d1 d2 d3 d4 : Value) (name : ByteArray)
    (hd : w.heap[db]? = some (.cells ⟨[.string name, d1, d2, d3, d4]⟩ T fr)) :
    Ret Try.prog 24 [.agg ⟨cs⟩, .pointer (some ⟨db, 0, none⟩)] w fun r w' => r = .bool (decide (x.name = name)) ∧ Ext w w' := by
  obtain ⟨lv, dv, rfl, _, _⟩ := hx
  refine ret_of_run Try.func24 rfl Try.ntmps24 rfl ?_
  refine run_seq ?_
  refine run_region rfl ?_
  refine runl_op (t_boxA rfl) ?_
  rintro _ w2 ⟨b2, rfl, hb2, e2, n2, l2⟩
  have z2 := e2.size
  replace hd := e2.at hd
  refine runl_ev (ev_assign rfl) ?_
  refine runl_nil ?_
  refine run_seq ?_
  refine run_region rfl ?_
  refine runl_ev (ev_fieldAddr fld_33_0 rfl) ?_
  refine runl_ev (ev_load1 cell_9 rfl (eqw (cell_blk hb2 rfl))) ?_
  refine runl_ev (ev_fieldAddr fld_40_0 rfl) ?_
  refine runl_ev (ev_load1 cell_9 rfl (eqw (cell_blk hd rfl))) ?_
  refine runl_ev (ev_eqlS rfl rfl) ?_
  refine runl_ev (ev_assign rfl) ?_
  refine runl_nil ?_
  refine run_ret_any Try.func24 (res1 Try.results24 rfl) ?_
  exact ⟨rfl, e2⟩
theorem idxT_any {α : Type} (R : World → α → List Value → Prop) (hRl : ∀ w x cs, R w x cs → cs.length = 37) (p : α → Bool) (l : List α) (w0 w : World) (E : Ext w0 w) (a : Option Addr) (len cap : Nat)
    (hl : SlAt 37 R w0 (.slice a len cap) l) (hlen : l.length ≤ 1099511627776) (g : FuncId) (caps : List Value) (hg : callable Try.prog g = true)
    (hf : ∀ x cs w', x ∈ l → R w0 x cs → Ext w w' → Ret Try.prog g ([] ++ [.agg ⟨cs⟩] ++ caps) w' fun r w'' => r = .bool (p x) ∧ Ext w' w'') :
    Ret Try.prog 19 [.slice a len cap, .func (.func g) ⟨[]⟩ ⟨caps⟩] w fun r w' => r = .int .i64 (idxOf p l) ∧ Ext w w' := by
  obtain ⟨rfl, hat⟩ := hl.at
  have e := ExtB.refl (fun _ => False) w
  refine ret_of_run Try.func19 rfl Try.ntmps19 rfl ?_
  refine run_seq ?_
  refine run_region rfl ?_
  refine runl_ev (ev_assign rfl) ?_
  refine runl_nil ?_
  refine run_seq ?_
  refine run_seq ?_
  refine run_region rfl ?_
  refine runl_ev (ev_move rfl) ?_
  refine runl_ev (ev_lenL sl_30 rfl) ?_
  refine runl_ev (ev_move rfl) ?_
  refine runl_nil ?_
  refine run_block ?_
  refine run_loop (ι := Nat) (fun k => [(0, .slice a l.length cap), (1, .func (.func g) ⟨[]⟩ ⟨caps⟩), (7, .int .i64 (l.length : Int)), (8, .int .i64 (k : Int))]) (fun k w' => k ≤ l.length ∧ (∀ j x, j < k → l[j]? = some x → p x = false) ∧ Ext w w') (fun k => l.length - k) (0) ⟨rfl, rfl, rfl, rfl, trivial⟩ (⟨by omega, fun j _ hj => by omega, e⟩) ?_
  clear e
  intro k w1 ⟨hk, hno, e⟩ IH
  refine run_seq ?_
  refine run_region rfl ?_
  refine runl_ev (ev_lss rfl rfl) ?_
  refine runl_nil ?_
  refine run_seq ?_
  refine run_dcond rfl (fun h0 => ?_) (fun h0 => ?_)
  · have hk1 : k < l.length := by omega
    obtain ⟨b, o, cs, rfl, hr, hc⟩ := hat k hk1
    refine run_skip ?_
    refine run_seq ?_
    refine run_block ?_
    refine run_seq ?_
    refine run_region rfl ?_
    refine runl_ev (ev_move rfl) ?_
    refine runl_ev (ev_assign rfl) ?_
    refine runl_nil ?_
    refine run_seq ?_
    refine run_region rfl ?_
    refine runl_ev (ev_move rfl) ?_
    refine runl_ev (ev_move rfl) ?_
    refine runl_ev (ev_move rfl) ?_
    refine runl_ev (ev_indexAddr el_30 rfl rfl (by omega)) ?_
    refine runl_ev (ev_loadA agg_27 (hRl _ _ _ hr) rfl (eqw (hc.ext (E.trans e)))) ?_
    refine runl_op (t_callv hg rfl rfl (hf _ _ _ (List.getElem_mem hk1) hr e)) ?_
    rintro _ w16 ⟨rfl, e16⟩
    have z16 := e16.size
    replace e := e.trans e16
    refine runl_nil ?_
    refine run_cond_split rfl (fun h1 => ?_) (fun h1 => ?_)
    · refine run_seq ?_
      refine run_region rfl ?_
      refine runl_ev (ev_move rfl) ?_
      refine runl_ev (ev_assign rfl) ?_
      refine runl_nil ?_
      refine run_ret_any Try.func19 (res1 Try.results19 rfl) ?_
      exact ⟨by rw [idxOf_hit hk1 hno h1], e⟩
    · refine run_skip ?_
      refine run_inBlock ?_
      refine run_region rfl ?_
      refine runl_ev (ev_add rfl rfl (by omega) (by omega)) ?_
      refine runl_ev (ev_move rfl) ?_
      refine runl_nil ?_
      exact IH (k + 1) _ _ (by omega) ⟨rfl, rfl, rfl, rfl, trivial⟩ ⟨by omega, idxOf_snoc hk1 hno h1, e⟩
  · refine run_exit rfl ?_
    refine run_seq ?_
    refine run_region rfl ?_
    refine runl_ev (ev_assign rfl) ?_
    refine runl_nil ?_
    refine run_ret_any Try.func19 (res1 Try.results19 rfl) ?_
    obtain rfl : k = l.length := by omega
    exact ⟨by rw [idxOf_none hno], e⟩
theorem idxTs_any {α : Type} (R : World → α → List Value → Prop) (hRl : ∀ w x cs, R w x cs → cs.length = 5) (p : α → Bool) (l : List α) (w0 w : World) (E : Ext w0 w) (a : Option Addr) (len cap : Nat)
    (hl : SlAt 5 R w0 (.slice a len cap) l) (hlen : l.length ≤ 1099511627776) (g : FuncId) (caps : List Value) (hg : callable Try.prog g = true)
    (hf : ∀ x cs w', x ∈ l → R w0 x cs → Ext w w' → Ret Try.prog g ([] ++ [.agg ⟨cs⟩] ++ caps) w' fun r w'' => r = .bool (p x) ∧ Ext w' w'') :
    Ret Try.prog 23 [.slice a len cap, .func (.func g) ⟨[]⟩ ⟨caps⟩] w fun r w' => r = .int .i64 (idxOf p l) ∧ Ext w w' := by
  obtain ⟨rfl, hat⟩ := hl.at
  have e := ExtB.refl (fun _ => False) w
  refine ret_of_run Try.func23 rfl Try.ntmps23 rfl ?_
  refine run_seq ?_
  refine run_region rfl ?_
  refine runl_ev (ev_assign rfl) ?_
  refine runl_nil ?_
  refine run_seq ?_
  refine run_seq ?_
  refine run_region rfl ?_
  refine runl_ev (ev_move rfl) ?_
  refine runl_ev (ev_lenL sl_22 rfl) ?_
  refine runl_ev (ev_move rfl) ?_
  refine runl_nil ?_
  refine run_block ?_
  refine run_loop (ι := Nat) (fun k => [(0, .slice a l.length cap), (1, .func (.func g) ⟨[]⟩ ⟨caps⟩), (7, .int .i64 (l.length : Int)), (8, .int .i64 (k : Int))]) (fun k w' => k ≤ l.length ∧ (∀ j x, j < k → l[j]? = some x → p x = false) ∧ Ext w w') (fun k => l.length - k) (0) ⟨rfl, rfl, rfl, rfl, trivial⟩ (⟨by omega, fun j _ hj => by omega, e⟩) ?_
  clear e
  intro k w1 ⟨hk, hno, e⟩ IH
  refine run_seq ?_
  refine run_region rfl ?_
  refine runl_ev (ev_lss rfl rfl) ?_
  refine runl_nil ?_
  refine run_seq ?_
  refine run_dcond rfl (fun h0 => ?_) (fun h0 => ?_)
  · have hk1 : k < l.length := by omega
    obtain ⟨b, o, cs, rfl, hr, hc⟩ := hat k hk1
    refine run_skip ?_
    refine run_seq ?_
    refine run_block ?_
    refine run_seq ?_
    refine run_region rfl ?_
    refine runl_ev (ev_move rfl) ?_
    refine runl_ev (ev_assign rfl) ?_
    refine runl_nil ?_
    refine run_seq ?_
    refine run_region rfl ?_
    refine runl_ev (ev_move rfl) ?_
    refine runl_ev (ev_move rfl) ?_
    refine runl_ev (ev_move rfl) ?_
    refine runl_ev (ev_indexAddr el_22 rfl rfl (by omega)) ?_
    refine runl_ev (ev_loadA agg_33 (hRl _ _ _ hr) rfl (eqw (hc.ext (E.trans e)))) ?_
    refine runl_op (t_callv hg rfl rfl (hf _ _ _ (List.getElem_mem hk1) hr e)) ?_
    rintro _ w16 ⟨rfl, e16⟩
    have z16 := e16.size
    replace e := e.trans e16
    refine runl_nil ?_
    refine run_cond_split rfl (fun h1 => ?_) (fun h1 => ?_)
    · refine run_seq ?_
      refine run_region rfl ?_
      refine runl_ev (ev_move rfl) ?_
      refine runl_ev (ev_assign rfl) ?_
      refine runl_nil ?_
      refine run_ret_any Try.func23 (res1 Try.results23 rfl) ?_
      exact ⟨by rw [idxOf_hit hk1 hno h1], e⟩
    · refine run_skip ?_
      refine run_inBlock ?_
      refine run_region rfl ?_
      refine runl_ev (ev_add rfl rfl (by omega) (by omega)) ?_
      refine runl_ev (ev_move rfl) ?_
      refine runl_nil ?_
      exact IH (k + 1) _ _ (by omega) ⟨rfl, rfl, rfl, rfl, trivial⟩ ⟨by omega, idxOf_snoc hk1 hno h1, e⟩
  · refine run_exit rfl ?_
    refine run_seq ?_
    refine run_region rfl ?_
    refine runl_ev (ev_assign rfl) ?_
    refine runl_nil ?_
    refine run_ret_any Try.func23 (res1 Try.results23 rfl) ?_
    obtain rfl : k = l.length := by omega
    exact ⟨by rw [idxOf_none hno], e⟩
theorem idxI_any (l : List Int) (x : Int) (w : World) (a : Option Addr) (len cap : Nat) (hl : SlAt 1 RInt w (.slice a len cap) l) (hlen : l.length ≤ 1099511627776) :
    Ret Try.prog 28 [.slice a len cap, .int .i64 x] w fun r w' => r = .int .i64 (idxOf (fun y => decide (x = y)) l) ∧ Ext w w' := by
  obtain ⟨rfl, hat⟩ := hl.at
  have e := ExtB.refl (fun _ => False) w
  refine ret_of_run Try.func28 rfl Try.ntmps28 rfl ?_
  refine run_seq ?_
  refine run_region rfl ?_
  refine runl_ev (ev_assign rfl) ?_
  refine runl_nil ?_
  refine run_seq ?_
  refine run_seq ?_
  refine run_region rfl ?_
  refine runl_ev (ev_move rfl) ?_
  refine runl_ev (ev_lenL sl_50 rfl) ?_
  refine runl_ev (ev_move rfl) ?_
  refine runl_nil ?_
  refine run_block ?_
  refine run_loop (ι := Nat) (fun k => [(0, .slice a l.length cap), (1, .int .i64 x), (7, .int .i64 (l.length : Int)), (8, .int .i64 (k : Int))]) (fun k w' => k ≤ l.length ∧ (∀ j y, j < k → l[j]? = some y → decide (x = y) = false) ∧ Ext w w') (fun k => l.length - k) (0) ⟨rfl, rfl, rfl, rfl, trivial⟩ (⟨by omega, fun j _ hj => by omega, e⟩) ?_
  clear e
  intro k w1 ⟨hk, hno, e⟩ IH
  refine run_seq ?_
  refine run_region rfl ?_
  refine runl_ev (ev_lss rfl rfl) ?_
  refine runl_nil ?_
  refine run_seq ?_
  refine run_dcond rfl (fun h0 => ?_) (fun h0 => ?_)
  · have hk1 : k < l.length := by omega
    obtain ⟨b, o, cs, rfl, hr, hc⟩ := hat k hk1
    obtain rfl := hr
    refine run_skip ?_
    refine run_seq ?_
    refine run_block ?_
    refine run_seq ?_
    refine run_region rfl ?_
    refine runl_ev (ev_move rfl) ?_
    refine runl_ev (ev_assign rfl) ?_
    refine runl_nil ?_
    refine run_seq ?_
    refine run_region rfl ?_
    refine runl_ev (ev_move rfl) ?_
    refine runl_ev (ev_move rfl) ?_
    refine runl_ev (ev_move rfl) ?_
    refine runl_ev (ev_indexAddr el_50 rfl rfl (by omega)) ?_
    refine runl_ev (ev_load1 cell_3 rfl (eqw (hc.ext e))) ?_
    refine runl_ev (ev_eqlI rfl rfl) ?_
    refine runl_nil ?_
    refine run_cond_split rfl (fun h1 => ?_) (fun h1 => ?_)
    · refine run_seq ?_
      refine run_region rfl ?_
      refine runl_ev (ev_move rfl) ?_
      refine runl_ev (ev_assign rfl) ?_
      refine runl_nil ?_
      refine run_ret_any Try.func28 (res1 Try.results28 rfl) ?_
      exact ⟨by rw [idxOf_hit hk1 hno h1], e⟩
    · refine run_skip ?_
      refine run_inBlock ?_
      refine run_region rfl ?_
      refine runl_ev (ev_add rfl rfl (by omega) (by omega)) ?_
      refine runl_ev (ev_move rfl) ?_
      refine runl_nil ?_
      exact IH (k + 1) _ _ (by omega) ⟨rfl, rfl, rfl, rfl, trivial⟩ ⟨by omega, idxOf_snoc hk1 hno h1, e⟩
  · refine run_exit rfl ?_
    refine run_seq ?_
    refine run_region rfl ?_
    refine runl_ev (ev_assign rfl) ?_
    refine runl_nil ?_
    refine run_ret_any Try.func28 (res1 Try.results28 rfl) ?_
    obtain rfl : k = l.length := by omega
    exact ⟨by rw [idxOf_none hno], e⟩
theorem hasI_any (l : List Int) (x : Int) (w : World) (a : Option Addr) (len cap : Nat) (hl : SlAt 1 RInt w (.slice a len cap) l) (hlen : l.length ≤ 1099511627776) :
    Ret Try.prog 25 [.slice a len cap, .int .i64 x] w fun r w' => r = .bool (decide (0 ≤ idxOf (fun y => decide (x = y)) l)) ∧ Ext w w' := by
  refine ret_of_run Try.func25 rfl Try.ntmps25 rfl ?_
  refine run_seq ?_
  refine run_region rfl ?_
  refine runl_ev (ev_assign rfl) ?_
  refine runl_nil ?_
  refine run_seq ?_
  refine run_region rfl ?_
  refine runl_ev (ev_move rfl) ?_
  refine runl_ev (ev_move rfl) ?_
  refine runl_op (t_call call_28 rfl (idxI_any l x _ _ _ _ hl hlen)) ?_
  rintro _ w7 ⟨rfl, e7⟩
  have z7 := e7.size
  refine runl_ev (ev_geq rfl rfl) ?_
  refine runl_ev (ev_assign rfl) ?_
  refine runl_nil ?_
  refine run_ret_any Try.func25 (res1 Try.results25 rfl) ?_
  exact ⟨rfl, e7⟩
theorem haspT_any (s t : ByteArray) (w : World) (h : t.size ≤ s.size) (hs : s.size ≤ 1099511627776) (ht : t.size ≤ 1099511627776) :
    Ret Try.prog 27 [.string s, .string t] w fun r w' => r = .bool (hasPfx s t) ∧ Ext w w' := by
  refine ret_of_run Try.func27 rfl Try.ntmps27 rfl ?_
  refine run_seq ?_
  refine run_region rfl ?_
  refine runl_ev (ev_assign rfl) ?_
  refine runl_nil ?_
  refine run_seq ?_
  refine run_region rfl ?_
  refine runl_ev (ev_move rfl) ?_
  refine runl_ev (ev_lenS str_9 rfl) ?_
  refine runl_ev (ev_move rfl) ?_
  refine runl_ev (ev_lenS str_9 rfl) ?_
  refine runl_ev (ev_geq rfl rfl) ?_
  refine runl_ev (ev_move rfl) ?_
  refine runl_ev_g rfl rfl (decide_eq_true (by omega)) (ev_move rfl) ?_
  refine runl_ev_g rfl rfl (decide_eq_true (by omega)) (ev_move rfl) ?_
  refine runl_ev_g rfl rfl (decide_eq_true (by omega)) (ev_lenS str_9 rfl) ?_
  refine runl_ev_g rfl rfl (decide_eq_true (by omega)) (ev_sliceS_hi str_9 rfl rfl (by omega)) ?_
  refine runl_ev_g rfl rfl (decide_eq_true (by omega)) (ev_move rfl) ?_
  refine runl_ev_g rfl rfl (decide_eq_true (by omega)) (ev_eqlS rfl rfl) ?_
  refine runl_ev (ev_pick rfl rfl rfl (if_pos (by simp; omega))) ?_
  refine runl_ev (ev_assign rfl) ?_
  refine runl_nil ?_
  refine run_ret_any Try.func27 (res1 Try.results27 rfl) ?_
  exact ⟨by simp [hasPfx, h], ExtB.refl _ _⟩
theorem haspF_any (s t : ByteArray) (w : World) (h : ¬ t.size ≤ s.size) (hs : s.size ≤ 1099511627776) (ht : t.size ≤ 1099511627776) :
    Ret Try.prog 27 [.string s, .string t] w fun r w' => r = .bool (hasPfx s t) ∧ Ext w w' := by
  refine ret_of_run Try.func27 rfl Try.ntmps27 rfl ?_
  refine run_seq ?_
  refine run_region rfl ?_
  refine runl_ev (ev_assign rfl) ?_
  refine runl_nil ?_
  refine run_seq ?_
  refine run_region rfl ?_
  refine runl_ev (ev_move rfl) ?_
  refine runl_ev (ev_lenS str_9 rfl) ?_
  refine runl_ev (ev_move rfl) ?_
  refine runl_ev (ev_lenS str_9 rfl) ?_
  refine runl_ev (ev_geq rfl rfl) ?_
  refine runl_ev (ev_move rfl) ?_
  refine runl_no_g rfl rfl (decide_eq_false (by omega)) ?_
  refine runl_no_g rfl rfl (decide_eq_false (by omega)) ?_
  refine runl_no_g rfl rfl (decide_eq_false (by omega)) ?_
  refine runl_no_g rfl rfl (decide_eq_false (by omega)) ?_
  refine runl_no_g rfl rfl (decide_eq_false (by omega)) ?_
  refine runl_no_g rfl rfl (decide_eq_false (by omega)) ?_
  refine runl_ev (ev_pick rfl rfl rfl (if_neg (by simp; omega))) ?_
  refine runl_ev (ev_assign rfl) ?_
  refine runl_nil ?_
  refine run_ret_any Try.func27 (res1 Try.results27 rfl) ?_
  exact ⟨by simp [hasPfx, h], ExtB.refl _ _⟩
theorem hasp_any (s t : ByteArray) (w : World) (hs : s.size ≤ 1099511627776) (ht : t.size ≤ 1099511627776) :
    Ret Try.prog 27 [.string s, .string t] w fun r w' => r = .bool (hasPfx s t) ∧ Ext w w' := by
  by_cases h : t.size ≤ s.size
  · exact haspT_any s t w h hs ht
  · exact haspF_any s t w h hs ht
theorem haspfx_any (s t : ByteArray) (w : World) (hs : s.size ≤ 1099511627776) (ht : t.size ≤ 1099511627776) :
    Ret Try.prog 22 [.string s, .string t] w fun r w' => r = .bool (hasPfx s t) ∧ Ext w w' := by
  refine ret_of_run Try.func22 rfl Try.ntmps22 rfl ?_
  refine run_seq ?_
  refine run_region rfl ?_
  refine runl_ev (ev_assign rfl) ?_
  refine runl_nil ?_
  refine run_seq ?_
  refine run_region rfl ?_
  refine runl_ev (ev_move rfl) ?_
  refine runl_ev (ev_move rfl) ?_
  refine runl_op (t_call call_27 rfl (hasp_any s t _ hs ht)) ?_
  rintro _ w7 ⟨rfl, e7⟩
  have z7 := e7.size
  refine runl_ev (ev_assign rfl) ?_
  refine runl_nil ?_
  refine run_ret_any Try.func22 (res1 Try.results22 rfl) ?_
  exact ⟨rfl, e7⟩

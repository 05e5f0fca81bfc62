/- The walk of law FindOwn on what find's calls come to. -/
import Derived.Test.YtpomcdmlmaimeaaFind4
import Derived.Test.YtpomcdmlmaimeaaFwG
import Derived.Test.YtpomcdmlmaimeaaFind8M
namespace Go.Proofs.Ytpomcdmlmaimeaa
open Go Go.Fw
set_option maxRecDepth 100000

theorem lawOwn_any (l : List Tgs) (w : World) (a : Option Addr) (len cap : Nat) (hl : SlAt 5 RTgs w (.slice a len cap) l) (hb : Bnd l) (name : ByteArray) (hn : name.size ≤ 1099511627776) :
    Ret Try.prog 3 [.slice a len cap, .string name] w fun r w' => r = .bool true ∧ Ext w w' := by
  have hl0 := hl
  obtain ⟨rfl, hat⟩ := hl.at
  have e := ExtB.refl (fun _ => False) w
  refine ret_of_run Try.func3 rfl Try.ntmps3 rfl ?_
  refine run_seq ?_
  refine run_region rfl ?_
  refine runl_ev (ev_assign rfl) ?_
  refine runl_nil ?_
  refine run_seq ?_
  refine run_seq ?_
  refine run_region rfl ?_
  refine runl_ev (ev_move rfl) ?_
  refine runl_op (t_call call_11 rfl (heavy_any l _ _ _ _ (hl0.ext RTgs.stable e) hb)) ?_
  rintro _ w13 ⟨tb, rfl, e13⟩
  have z13 := e13.size
  replace e := e.trans e13
  rcases (by cases tb <;> by_cases h1 : l = [] <;> simp [h1] : tb = true ∨ (tb = false ∧ l = []) ∨ (tb = false ∧ l ≠ [])) with rfl | ⟨rfl, rfl⟩ | ⟨rfl, hne⟩
  · refine runl_ev (ev_move rfl) ?_
    refine runl_no_g rfl rfl (rfl) ?_
    refine runl_no_g rfl rfl (rfl) ?_
    refine runl_no_g rfl rfl (rfl) ?_
    refine runl_ev (ev_pick rfl rfl rfl rfl) ?_
    refine runl_ev (ev_move rfl) ?_
    refine runl_no_g rfl rfl (rfl) ?_
    refine runl_no_g rfl rfl (rfl) ?_
    refine runl_no_g rfl rfl (rfl) ?_
    refine runl_ev (ev_pick rfl rfl rfl rfl) ?_
    refine runl_nil ?_
    refine run_cond_true rfl (rfl) ?_
    refine run_seq ?_
    refine run_region rfl ?_
    refine runl_ev (ev_assign rfl) ?_
    refine runl_nil ?_
    refine run_ret_any Try.func3 (res1 Try.results3 rfl) ?_
    exact ⟨rfl, e⟩
  · refine runl_ev (ev_move rfl) ?_
    refine runl_ev_g rfl rfl (rfl) (ev_move rfl) ?_
    refine runl_ev_g rfl rfl (rfl) (ev_lenL sl_22 rfl) ?_
    refine runl_ev_g rfl rfl (rfl) (ev_eqlI rfl rfl) ?_
    refine runl_ev (ev_pick rfl rfl rfl (if_neg (by simp))) ?_
    refine runl_ev (ev_move rfl) ?_
    refine runl_no_g rfl rfl (rfl) ?_
    refine runl_no_g rfl rfl (rfl) ?_
    refine runl_no_g rfl rfl (rfl) ?_
    refine runl_ev (ev_pick rfl rfl rfl rfl) ?_
    refine runl_nil ?_
    refine run_cond_true rfl (rfl) ?_
    refine run_seq ?_
    refine run_region rfl ?_
    refine runl_ev (ev_assign rfl) ?_
    refine runl_nil ?_
    refine run_ret_any Try.func3 (res1 Try.results3 rfl) ?_
    exact ⟨rfl, e⟩
  · obtain ⟨t, r, rfl⟩ : ∃ t r, l = t :: r := by
      cases l with
      | nil => exact absurd rfl hne
      | cons t r => exact ⟨t, r, rfl⟩
    obtain ⟨b, o, cs, rfl, hr, hc⟩ : ∃ b o cs, a = some ⟨b, o, none⟩ ∧ RTgs w t cs ∧ Cells w b (o + 0 * 5) cs := hat 0 (by simp)
    obtain ⟨lv, dv, rfl, hL, hD⟩ := hr
    have hL0 := hL
    obtain ⟨a1, c1, rfl, hL1⟩ := hL
    have hbt := hb.2.1 t (by simp)
    have hbl := hb.1
    refine runl_ev (ev_move rfl) ?_
    refine runl_ev_g rfl rfl (rfl) (ev_move rfl) ?_
    refine runl_ev_g rfl rfl (rfl) (ev_lenL sl_22 rfl) ?_
    refine runl_ev_g rfl rfl (rfl) (ev_eqlI rfl rfl) ?_
    refine runl_ev (ev_pick rfl rfl rfl (if_neg (by simp))) ?_
    refine runl_ev (ev_move rfl) ?_
    refine runl_ev_g rfl rfl (decide_eq_false (by simp; omega)) (ev_move rfl) ?_
    refine runl_ev_g rfl rfl (decide_eq_false (by simp; omega)) (ev_lenS str_9 rfl) ?_
    refine runl_ev_g rfl rfl (decide_eq_false (by simp; omega)) (ev_gtr rfl rfl) ?_
    refine runl_ev (ev_pick rfl rfl rfl (if_neg (by simp; omega))) ?_
    refine runl_nil ?_
    refine run_dcond rfl (fun h0 => ?_) (fun h0 => ?_)
    · refine run_seq ?_
      refine run_region rfl ?_
      refine runl_ev (ev_assign rfl) ?_
      refine runl_nil ?_
      refine run_ret_any Try.func3 (res1 Try.results3 rfl) ?_
      exact ⟨rfl, e⟩
    · refine run_skip ?_
      refine run_seq ?_
      refine run_region rfl ?_
      refine runl_ev (ev_move rfl) ?_
      refine runl_ev (ev_move rfl) ?_
      refine runl_op (t_call call_12 rfl (find_any (t :: r) _ _ _ _ (hl0.ext RTgs.stable e) hb name hn)) ?_
      rintro _ w27 ⟨rfl, hwf, e27⟩
      have htold := findF_told (t :: r) name
      have hown := @findF_own t r name
      generalize hans : findF (t :: r) name = ans at hwf htold hown ⊢
      have z27 := e27.size
      replace e := e.trans e27
      refine runl_ev (ev_move rfl) ?_
      refine runl_ev (ev_extract rfl rfl) ?_
      refine runl_ev (ev_extract rfl rfl) ?_
      refine runl_ev (ev_extract rfl rfl) ?_
      refine runl_op (t_alloc zero_27 rfl) ?_
      rintro _ w5 ⟨b5, rfl, hb5, e5, n5, l5⟩
      have z5 := e5.size
      replace e := e.trans e5
      refine runl_do (t_storeW sz_27 rfl rfl (Tgt.cells_length hwf) rfl hb5 (Tgt.one _)) ?_
      rintro _ v3_8 ⟨hq3_8, e3_8, z3_8⟩
      replace e := e.new1 e3_8 (by omega)
      replace hb5 := hq3_8
      clear hq3_8
      refine runl_ev (ev_assign rfl) ?_
      refine runl_ev (ev_assign rfl) ?_
      refine runl_nil ?_
      refine run_seq ?_
      refine run_region rfl ?_
      refine runl_ev (ev_assign rfl) ?_
      refine runl_nil ?_
      refine run_seq ?_
      refine run_seq ?_
      refine run_region rfl ?_
      refine runl_ev (ev_assign rfl) ?_
      refine runl_nil ?_
      refine run_block ?_
      refine run_loop (ι := Nat × Bool) (fun x => [(0, .slice (some ⟨b, o, none⟩) (t :: r).length cap), (1, .string name), (4, .bool false), (5, .pointer (some ⟨b5, 0, none⟩)), (6, .string ans.who), (7, .bool ans.isSome), (8, .bool x.2), (9, .int .i64 (x.1 : Int))]) (fun x w' => x.1 ≤ (t :: r).length ∧ (∀ (q0 : Nat) (q1 : Tgs), q0 < x.1 → (t :: r)[q0]? = some q1 → ∀ q2 ∈ q1.l, q1.name = ans.who → q2 = ans.tgt → ans.tgt.name = name → x.2 = true) ∧ w'.heap[b5]? = some (.cells ⟨ans.tgt.cells⟩ 27 (0, 0)) ∧ Ext w w') (fun x => (t :: r).length - x.1) ((0, false)) ⟨rfl, rfl, rfl, rfl, rfl, rfl, rfl, rfl, trivial⟩ (⟨Nat.zero_le _, fun _ _ hi => absurd hi (Nat.not_lt_zero _), hb5, e⟩) ?_
      clear e hb5
      intro ⟨i, th⟩ w1 ⟨hi, hseen, hb5, e⟩ IH
      simp only at hi hseen
      refine run_seq ?_
      refine run_seq ?_
      refine run_region rfl ?_
      refine runl_ev (ev_move rfl) ?_
      refine runl_ev (ev_move rfl) ?_
      refine runl_ev (ev_lenL sl_22 rfl) ?_
      refine runl_ev (ev_lss rfl rfl) ?_
      refine runl_nil ?_
      refine run_dcond rfl (fun h1 => ?_) (fun h1 => ?_)
      · have hi1 : i < (t :: r).length := by omega
        obtain ⟨x, hx⟩ : ∃ x, (t :: r)[i]? = some x := ⟨(t :: r)[i], by simp⟩
        obtain ⟨bx, ox, csx, hbx, hrx, hcx⟩ := hl0.get hx
        cases hbx
        obtain ⟨lvx, dvx, rfl, hLx, -⟩ := hrx
        obtain ⟨ax, cx, rfl, hLx1⟩ := hLx
        have hxm : x ∈ t :: r := List.mem_of_getElem? hx
        have hxl := (hb.2.1 x hxm).1
        refine run_skip ?_
        refine run_seq ?_
        refine run_block ?_
        refine run_seq ?_
        refine run_region rfl ?_
        refine runl_ev (ev_assign rfl) ?_
        refine runl_nil ?_
        refine run_block ?_
        refine run_loop (ι := Nat × Bool) (fun y => [(0, .slice (some ⟨b, o, none⟩) (t :: r).length cap), (1, .string name), (4, .bool false), (5, .pointer (some ⟨b5, 0, none⟩)), (6, .string ans.who), (7, .bool ans.isSome), (8, .bool y.2), (9, .int .i64 (i : Int)), (10, .int .i64 (y.1 : Int))]) (fun y w' => y.1 ≤ x.l.length ∧ (∀ (q0 : Nat) (q1 : Tgs), q0 < i → (t :: r)[q0]? = some q1 → ∀ q2 ∈ q1.l, q1.name = ans.who → q2 = ans.tgt → ans.tgt.name = name → y.2 = true) ∧ (∀ (q0 : Nat) (q1 : Tgt), q0 < y.1 → x.l[q0]? = some q1 → x.name = ans.who → q1 = ans.tgt → ans.tgt.name = name → y.2 = true) ∧ w'.heap[b5]? = some (.cells ⟨ans.tgt.cells⟩ 27 (0, 0)) ∧ Ext w w') (fun y => x.l.length - y.1) ((0, th)) ⟨rfl, rfl, rfl, rfl, rfl, rfl, rfl, rfl, rfl, trivial⟩ (⟨Nat.zero_le _, hseen, fun _ _ hi => absurd hi (Nat.not_lt_zero _), hb5, e⟩) ?_
        clear e hb5 hseen
        intro ⟨k, th⟩ w2 ⟨hk, hseen, hsee1, hb5, e⟩ IH1
        simp only at hk hseen hsee1
        refine run_seq ?_
        refine run_seq ?_
        refine run_region rfl ?_
        refine runl_ev (ev_move rfl) ?_
        refine runl_ev (ev_move rfl) ?_
        refine runl_ev (ev_move rfl) ?_
        refine runl_ev (ev_indexAddr (k := i) el_22 rfl rfl (hi1)) ?_
        refine runl_ev (ev_fieldAddr fld_33_3 rfl) ?_
        refine runl_ev (ev_load1 cell_30 rfl (eqw ((hcx.ext e).pick 3 rfl rfl))) ?_
        refine runl_ev (ev_lenL sl_30 rfl) ?_
        refine runl_ev (ev_lss rfl rfl) ?_
        refine runl_nil ?_
        refine run_dcond rfl (fun h2 => ?_) (fun h2 => ?_)
        · have hk1 : k < x.l.length := by omega
          obtain ⟨y, hy⟩ : ∃ y, x.l[k]? = some y := ⟨x.l[k], by simp⟩
          obtain ⟨by_, oy, csy, rfl, ⟨hwfy, rfl⟩, hcy⟩ := hLx1 k y hy
          have hnext : ∀ t2 : Bool, (th = true → t2 = true) → (x.name = ans.who → y = ans.tgt → ans.tgt.name = name → t2 = true) → (∀ (q0 : Nat) (q1 : Tgs), q0 < i → (t :: r)[q0]? = some q1 → ∀ q2 ∈ q1.l, q1.name = ans.who → q2 = ans.tgt → ans.tgt.name = name → t2 = true) ∧ (∀ (k1 : Nat) (z : Tgt), k1 < k + 1 → x.l[k1]? = some z → x.name = ans.who → z = ans.tgt → ans.tgt.name = name → t2 = true) := by
            intro t2 g1 g2
            refine ⟨fun i1 x1 hi1 hx1 y1 hy1 ha hb hc => g1 (hseen i1 x1 hi1 hx1 y1 hy1 ha hb hc), fun k1 z hk1 hz ha hb hc => ?_⟩
            by_cases hkk : k1 = k
            · subst hkk
              rw [hy] at hz
              cases hz
              exact g2 ha hb hc
            · exact g1 (hsee1 k1 z (by omega) hz ha hb hc)
          refine run_skip ?_
          refine run_seq ?_
          refine run_block ?_
          have hcs : th = true ∨ (th = false ∧ x.name ≠ ans.who) ∨ (th = false ∧ x.name = ans.who ∧ y ≠ ans.tgt) ∨ (th = false ∧ x.name = ans.who ∧ y = ans.tgt) := by cases th <;> by_cases q1 : x.name = ans.who <;> by_cases q2 : y = ans.tgt <;> simp [q1, q2]
          rcases hcs with rfl | ⟨rfl, hc1⟩ | ⟨rfl, hc1, hc2⟩ | ⟨rfl, hc1, hc2⟩
          · obtain ⟨hn1, hn2⟩ := hnext true (fun _ => rfl) (fun _ _ _ => rfl)
            refine run_draw mo (fun w' => Ext w2 w') [] [(true, 0), (true, 1), (true, 2), (true, 3), (true, 4), (true, 5), (true, 6), (true, 7), (true, 8), (true, 9), (true, 10), (true, 11), (true, 12), (true, 13), (true, 14), (true, 15), (true, 16), (true, 17), (true, 18), (true, 19), (true, 20), (true, 21), (true, 22), (true, 23), (true, 24), (true, 25), (true, 26), (true, 27), (true, 28)] (by kernel_rfl) ?_
            intro wr11 er11
            have zr11 := er11.size
            have hsr11 := er11
            refine rund_ev hsr11 rfl (ev_move rfl) ?_
            refine rund_ev hsr11 rfl (ev_move rfl) ?_
            refine rund_no_g hsr11 rfl rfl rfl (rfl) ?_
            refine rund_no_g hsr11 rfl rfl rfl (rfl) ?_
            refine rund_no_g hsr11 rfl rfl rfl (rfl) ?_
            refine rund_no_g hsr11 rfl rfl rfl (rfl) ?_
            refine rund_no_g hsr11 rfl rfl rfl (rfl) ?_
            refine rund_no_g hsr11 rfl rfl rfl (rfl) ?_
            refine rund_no_g hsr11 rfl rfl rfl (rfl) ?_
            refine rund_no_g hsr11 rfl rfl rfl (rfl) ?_
            refine rund_no_u hsr11 rfl rfl rfl ?_
            refine rund_no_u hsr11 rfl rfl rfl ?_
            refine rund_no_u hsr11 rfl rfl rfl ?_
            refine rund_no_u hsr11 rfl rfl rfl ?_
            refine rund_no_u hsr11 rfl rfl rfl ?_
            refine rund_no_u hsr11 rfl rfl rfl ?_
            refine rund_no_u hsr11 rfl rfl rfl ?_
            refine rund_no_u hsr11 rfl rfl rfl ?_
            refine rund_no_u hsr11 rfl rfl rfl ?_
            refine rund_no_u hsr11 rfl rfl rfl ?_
            refine rund_no_g hsr11 rfl rfl rfl (rfl) ?_
            refine rund_no_g hsr11 rfl rfl rfl (rfl) ?_
            refine rund_no_u hsr11 rfl rfl rfl ?_
            refine rund_no_u hsr11 rfl rfl rfl ?_
            refine rund_no_u hsr11 rfl rfl rfl ?_
            refine rund_no_u hsr11 rfl rfl rfl ?_
            refine rund_no_g hsr11 rfl rfl rfl (rfl) ?_
            refine rund_ev hsr11 rfl (ev_pick rfl rfl rfl (if_pos (by simp))) ?_
            refine rund_ev hsr11 rfl (ev_assign rfl) ?_
            refine rund_nil ?_
            replace e := e.trans er11
            replace hb5 := er11.at hb5
            refine run_inBlock ?_
            refine run_region rfl ?_
            refine runl_ev (ev_move rfl) ?_
            refine runl_ev (ev_add rfl rfl (by omega) (by omega)) ?_
            refine runl_ev (ev_assign rfl) ?_
            refine runl_nil ?_
            exact IH1 (k + 1, _) _ _ (by simp only; omega) ⟨rfl, rfl, rfl, rfl, rfl, rfl, rfl, rfl, rfl, trivial⟩ ⟨(by show k + 1 ≤ _; omega), hn1, hn2, hb5, e⟩
          · obtain ⟨hn1, hn2⟩ := hnext false (fun h => h) (fun h _ _ => absurd h hc1)
            refine run_draw mo (fun w' => Ext w2 w') [] [(true, 0), (true, 1), (true, 2), (true, 3), (true, 4), (true, 5), (true, 6), (true, 7), (true, 8), (true, 9), (true, 10), (true, 11), (true, 12), (true, 13), (true, 14), (true, 15), (true, 16), (true, 17), (true, 18), (true, 19), (true, 20), (true, 21), (true, 22), (true, 23), (true, 24), (true, 25), (true, 26), (true, 27), (true, 28)] (by kernel_rfl) ?_
            intro wr11x1 er11x1
            have zr11x1 := er11x1.size
            have hsr11x1 := er11x1
            refine rund_ev hsr11x1 rfl (ev_move rfl) ?_
            refine rund_ev hsr11x1 rfl (ev_move rfl) ?_
            refine rund_ev_g hsr11x1 rfl rfl rfl (rfl) (ev_move rfl) ?_
            refine rund_ev_g hsr11x1 rfl rfl rfl (rfl) (ev_move rfl) ?_
            refine rund_ev_g hsr11x1 rfl rfl rfl (rfl) (ev_indexAddr (k := i) el_22 rfl rfl (hi1)) ?_
            refine rund_ev_g hsr11x1 rfl rfl rfl (rfl) (ev_fieldAddr fld_33_0 rfl) ?_
            refine rund_ev_g hsr11x1 rfl rfl rfl (rfl) (ev_load1 cell_9 rfl (fun wz hz => (hcx.ext (e.trans hz)).pick 0 rfl rfl)) ?_
            refine rund_ev_g hsr11x1 rfl rfl rfl (rfl) (ev_move rfl) ?_
            refine rund_ev_g hsr11x1 rfl rfl rfl (rfl) (ev_eqlS rfl rfl) ?_
            refine rund_ev_g hsr11x1 rfl rfl rfl (rfl) (ev_move rfl) ?_
            refine rund_no_g hsr11x1 rfl rfl rfl (decide_eq_false hc1) ?_
            refine rund_no_g hsr11x1 rfl rfl rfl (decide_eq_false hc1) ?_
            refine rund_no_g hsr11x1 rfl rfl rfl (decide_eq_false hc1) ?_
            refine rund_no_g hsr11x1 rfl rfl rfl (decide_eq_false hc1) ?_
            refine rund_no_g hsr11x1 rfl rfl rfl (decide_eq_false hc1) ?_
            refine rund_no_g hsr11x1 rfl rfl rfl (decide_eq_false hc1) ?_
            refine rund_no_g hsr11x1 rfl rfl rfl (decide_eq_false hc1) ?_
            refine rund_no_g hsr11x1 rfl rfl rfl (decide_eq_false hc1) ?_
            refine rund_no_g hsr11x1 rfl rfl rfl (decide_eq_false hc1) ?_
            refine rund_no_g hsr11x1 rfl rfl rfl (decide_eq_false hc1) ?_
            refine rund_ev_g hsr11x1 rfl rfl rfl (rfl) (ev_pick rfl rfl rfl (if_neg (by simp [hc1]))) ?_
            refine rund_ev_g hsr11x1 rfl rfl rfl (rfl) (ev_move rfl) ?_
            refine rund_no_g hsr11x1 rfl rfl rfl (rfl) ?_
            refine rund_no_g hsr11x1 rfl rfl rfl (rfl) ?_
            refine rund_no_g hsr11x1 rfl rfl rfl (rfl) ?_
            refine rund_no_g hsr11x1 rfl rfl rfl (rfl) ?_
            refine rund_ev_g hsr11x1 rfl rfl rfl (rfl) (ev_pick rfl rfl rfl (if_neg (by simp))) ?_
            refine rund_ev hsr11x1 rfl (ev_pick rfl rfl rfl (if_neg (by simp))) ?_
            refine rund_ev hsr11x1 rfl (ev_assign rfl) ?_
            refine rund_nil ?_
            replace e := e.trans er11x1
            replace hb5 := er11x1.at hb5
            refine run_inBlock ?_
            refine run_region rfl ?_
            refine runl_ev (ev_move rfl) ?_
            refine runl_ev (ev_add rfl rfl (by omega) (by omega)) ?_
            refine runl_ev (ev_assign rfl) ?_
            refine runl_nil ?_
            exact IH1 (k + 1, _) _ _ (by simp only; omega) ⟨rfl, rfl, rfl, rfl, rfl, rfl, rfl, rfl, rfl, trivial⟩ ⟨(by show k + 1 ≤ _; omega), hn1, hn2, hb5, e⟩
          · obtain ⟨hn1, hn2⟩ := hnext false (fun h => h) (fun _ h _ => absurd h hc2)
            refine run_draw mo (fun w' => Ext w2 w') [] [(true, 0), (true, 1), (true, 2), (true, 3), (true, 4), (true, 5), (true, 6), (true, 7), (true, 8), (true, 9), (true, 10), (true, 11), (true, 12), (true, 13), (true, 14), (true, 15), (true, 16), (true, 17), (true, 18), (true, 19), (true, 20), (true, 21), (true, 22), (true, 23), (true, 24), (true, 25), (true, 26), (true, 27), (true, 28)] (by kernel_rfl) ?_
            intro wr11x2 er11x2
            have zr11x2 := er11x2.size
            have hsr11x2 := er11x2
            refine rund_ev hsr11x2 rfl (ev_move rfl) ?_
            refine rund_ev hsr11x2 rfl (ev_move rfl) ?_
            refine rund_ev_g hsr11x2 rfl rfl rfl (rfl) (ev_move rfl) ?_
            refine rund_ev_g hsr11x2 rfl rfl rfl (rfl) (ev_move rfl) ?_
            refine rund_ev_g hsr11x2 rfl rfl rfl (rfl) (ev_indexAddr (k := i) el_22 rfl rfl (hi1)) ?_
            refine rund_ev_g hsr11x2 rfl rfl rfl (rfl) (ev_fieldAddr fld_33_0 rfl) ?_
            refine rund_ev_g hsr11x2 rfl rfl rfl (rfl) (ev_load1 cell_9 rfl (fun wz hz => (hcx.ext (e.trans hz)).pick 0 rfl rfl)) ?_
            refine rund_ev_g hsr11x2 rfl rfl rfl (rfl) (ev_move rfl) ?_
            refine rund_ev_g hsr11x2 rfl rfl rfl (rfl) (ev_eqlS rfl rfl) ?_
            refine rund_ev_g hsr11x2 rfl rfl rfl (rfl) (ev_move rfl) ?_
            refine rund_ev_g hsr11x2 rfl rfl rfl (decide_eq_true hc1) (ev_move rfl) ?_
            refine rund_ev_g hsr11x2 rfl rfl rfl (decide_eq_true hc1) (ev_move rfl) ?_
            refine rund_ev_g hsr11x2 rfl rfl rfl (decide_eq_true hc1) (ev_indexAddr (k := i) el_22 rfl rfl (hi1)) ?_
            refine rund_ev_g hsr11x2 rfl rfl rfl (decide_eq_true hc1) (ev_fieldAddr fld_33_3 rfl) ?_
            refine rund_ev_g hsr11x2 rfl rfl rfl (decide_eq_true hc1) (ev_load1 cell_30 rfl (fun wz hz => (hcx.ext (e.trans hz)).pick 3 rfl rfl)) ?_
            refine rund_ev_g hsr11x2 rfl rfl rfl (decide_eq_true hc1) (ev_move rfl) ?_
            refine rund_ev_g hsr11x2 rfl rfl rfl (decide_eq_true hc1) (ev_indexAddr (k := k) el_30 rfl rfl (hk1)) ?_
            refine rund_ev_g hsr11x2 rfl rfl rfl (decide_eq_true hc1) (ev_loadA agg_27 (Tgt.cells_length hwfy) rfl (fun wz hz => hcy.ext (e.trans hz))) ?_
            refine rund_ev_g hsr11x2 rfl rfl rfl (decide_eq_true hc1) (ev_loadA agg_27 (Tgt.cells_length hwf) rfl (fun wz hz => cells_all (hz.at hb5))) ?_
            refine rund_ev_g hsr11x2 rfl rfl rfl (decide_eq_true hc1) (ev_eqlA rfl rfl eg_27 (eqTgt _ _ hwfy hwf)) ?_
            refine rund_ev_g hsr11x2 rfl rfl rfl (rfl) (ev_pick rfl rfl rfl (if_pos (by simp [hc1]))) ?_
            refine rund_ev_g hsr11x2 rfl rfl rfl (rfl) (ev_move rfl) ?_
            refine rund_no_g hsr11x2 rfl rfl rfl (decide_eq_false hc2) ?_
            refine rund_no_g hsr11x2 rfl rfl rfl (decide_eq_false hc2) ?_
            refine rund_no_g hsr11x2 rfl rfl rfl (decide_eq_false hc2) ?_
            refine rund_no_g hsr11x2 rfl rfl rfl (decide_eq_false hc2) ?_
            refine rund_ev_g hsr11x2 rfl rfl rfl (rfl) (ev_pick rfl rfl rfl (if_neg (by simp [hc2]))) ?_
            refine rund_ev hsr11x2 rfl (ev_pick rfl rfl rfl (if_neg (by simp))) ?_
            refine rund_ev hsr11x2 rfl (ev_assign rfl) ?_
            refine rund_nil ?_
            replace e := e.trans er11x2
            replace hb5 := er11x2.at hb5
            refine run_inBlock ?_
            refine run_region rfl ?_
            refine runl_ev (ev_move rfl) ?_
            refine runl_ev (ev_add rfl rfl (by omega) (by omega)) ?_
            refine runl_ev (ev_assign rfl) ?_
            refine runl_nil ?_
            exact IH1 (k + 1, _) _ _ (by simp only; omega) ⟨rfl, rfl, rfl, rfl, rfl, rfl, rfl, rfl, rfl, trivial⟩ ⟨(by show k + 1 ≤ _; omega), hn1, hn2, hb5, e⟩
          · obtain ⟨hn1, hn2⟩ := hnext (decide (ans.tgt.name = name)) (fun h => by cases h) (fun _ _ h => decide_eq_true h)
            refine run_draw mo (fun w' => Ext w2 w') [] [(true, 0), (true, 1), (true, 2), (true, 3), (true, 4), (true, 5), (true, 6), (true, 7), (true, 8), (true, 9), (true, 10), (true, 11), (true, 12), (true, 13), (true, 14), (true, 15), (true, 16), (true, 17), (true, 18), (true, 19), (true, 20), (true, 21), (true, 22), (true, 23), (true, 24), (true, 25), (true, 26), (true, 27), (true, 28)] (by kernel_rfl) ?_
            intro wr11x3 er11x3
            have zr11x3 := er11x3.size
            have hsr11x3 := er11x3
            refine rund_ev hsr11x3 rfl (ev_move rfl) ?_
            refine rund_ev hsr11x3 rfl (ev_move rfl) ?_
            refine rund_ev_g hsr11x3 rfl rfl rfl (rfl) (ev_move rfl) ?_
            refine rund_ev_g hsr11x3 rfl rfl rfl (rfl) (ev_move rfl) ?_
            refine rund_ev_g hsr11x3 rfl rfl rfl (rfl) (ev_indexAddr (k := i) el_22 rfl rfl (hi1)) ?_
            refine rund_ev_g hsr11x3 rfl rfl rfl (rfl) (ev_fieldAddr fld_33_0 rfl) ?_
            refine rund_ev_g hsr11x3 rfl rfl rfl (rfl) (ev_load1 cell_9 rfl (fun wz hz => (hcx.ext (e.trans hz)).pick 0 rfl rfl)) ?_
            refine rund_ev_g hsr11x3 rfl rfl rfl (rfl) (ev_move rfl) ?_
            refine rund_ev_g hsr11x3 rfl rfl rfl (rfl) (ev_eqlS rfl rfl) ?_
            refine rund_ev_g hsr11x3 rfl rfl rfl (rfl) (ev_move rfl) ?_
            refine rund_ev_g hsr11x3 rfl rfl rfl (decide_eq_true hc1) (ev_move rfl) ?_
            refine rund_ev_g hsr11x3 rfl rfl rfl (decide_eq_true hc1) (ev_move rfl) ?_
            refine rund_ev_g hsr11x3 rfl rfl rfl (decide_eq_true hc1) (ev_indexAddr (k := i) el_22 rfl rfl (hi1)) ?_
            refine rund_ev_g hsr11x3 rfl rfl rfl (decide_eq_true hc1) (ev_fieldAddr fld_33_3 rfl) ?_
            refine rund_ev_g hsr11x3 rfl rfl rfl (decide_eq_true hc1) (ev_load1 cell_30 rfl (fun wz hz => (hcx.ext (e.trans hz)).pick 3 rfl rfl)) ?_
            refine rund_ev_g hsr11x3 rfl rfl rfl (decide_eq_true hc1) (ev_move rfl) ?_
            refine rund_ev_g hsr11x3 rfl rfl rfl (decide_eq_true hc1) (ev_indexAddr (k := k) el_30 rfl rfl (hk1)) ?_
            refine rund_ev_g hsr11x3 rfl rfl rfl (decide_eq_true hc1) (ev_loadA agg_27 (Tgt.cells_length hwfy) rfl (fun wz hz => hcy.ext (e.trans hz))) ?_
            refine rund_ev_g hsr11x3 rfl rfl rfl (decide_eq_true hc1) (ev_loadA agg_27 (Tgt.cells_length hwf) rfl (fun wz hz => cells_all (hz.at hb5))) ?_
            refine rund_ev_g hsr11x3 rfl rfl rfl (decide_eq_true hc1) (ev_eqlA rfl rfl eg_27 (eqTgt _ _ hwfy hwf)) ?_
            refine rund_ev_g hsr11x3 rfl rfl rfl (rfl) (ev_pick rfl rfl rfl (if_pos (by simp [hc1]))) ?_
            refine rund_ev_g hsr11x3 rfl rfl rfl (rfl) (ev_move rfl) ?_
            refine rund_ev_g hsr11x3 rfl rfl rfl (decide_eq_true hc2) (ev_fieldAddr fld_27_0 rfl) ?_
            refine rund_ev_g hsr11x3 rfl rfl rfl (decide_eq_true hc2) (ev_load1 cell_9 rfl (fun wz hz => (cells_all (hz.at hb5)).pick 0 rfl (Tgt.c0 _))) ?_
            refine rund_ev_g hsr11x3 rfl rfl rfl (decide_eq_true hc2) (ev_move rfl) ?_
            refine rund_ev_g hsr11x3 rfl rfl rfl (decide_eq_true hc2) (ev_eqlS rfl rfl) ?_
            refine rund_ev_g hsr11x3 rfl rfl rfl (rfl) (ev_pick rfl rfl rfl (if_pos (by simp [hc2]))) ?_
            refine rund_ev hsr11x3 rfl (ev_pick rfl rfl rfl (if_neg (by simp))) ?_
            refine rund_ev hsr11x3 rfl (ev_assign rfl) ?_
            refine rund_nil ?_
            replace e := e.trans er11x3
            replace hb5 := er11x3.at hb5
            refine run_inBlock ?_
            refine run_region rfl ?_
            refine runl_ev (ev_move rfl) ?_
            refine runl_ev (ev_add rfl rfl (by omega) (by omega)) ?_
            refine runl_ev (ev_assign rfl) ?_
            refine runl_nil ?_
            exact IH1 (k + 1, _) _ _ (by simp only; omega) ⟨rfl, rfl, rfl, rfl, rfl, rfl, rfl, rfl, rfl, trivial⟩ ⟨(by show k + 1 ≤ _; omega), hn1, hn2, hb5, e⟩
        · obtain rfl : k = x.l.length := by omega
          refine run_exit rfl ?_
          refine run_inBlock ?_
          refine run_region rfl ?_
          refine runl_ev (ev_move rfl) ?_
          refine runl_ev (ev_add rfl rfl (by omega) (by omega)) ?_
          refine runl_ev (ev_assign rfl) ?_
          refine runl_nil ?_
          have hseen2 : (∀ (q0 : Nat) (q1 : Tgs), q0 < (i + 1) → (t :: r)[q0]? = some q1 → ∀ q2 ∈ q1.l, q1.name = ans.who → q2 = ans.tgt → ans.tgt.name = name → th = true) := by
            intro i1 x1 hi1 hx1 y1 hy1 ha hb hc
            by_cases hii : i1 = i
            · subst hii
              rw [hx] at hx1
              cases hx1
              obtain ⟨k1, hk1, rfl⟩ := List.mem_iff_getElem.1 hy1
              exact hsee1 k1 _ hk1 (List.getElem?_eq_getElem hk1) ha hb hc
            · exact hseen i1 x1 (by omega) hx1 y1 hy1 ha hb hc
          exact IH (i + 1, _) _ _ (by simp only; omega) ⟨rfl, rfl, rfl, rfl, rfl, rfl, rfl, rfl, trivial⟩ ⟨(by show i + 1 ≤ _; omega), hseen2, hb5, e⟩
      · obtain rfl : i = (t :: r).length := by omega
        refine run_exit rfl ?_
        refine run_seq ?_
        refine run_seq ?_
        refine run_region rfl ?_
        refine runl_ev (ev_assign rfl) ?_
        refine runl_nil ?_
        refine run_block ?_
        refine run_loop (ι := Nat) (fun k => [(0, .slice (some ⟨b, o, none⟩) (t :: r).length cap), (1, .string name), (4, .bool false), (5, .pointer (some ⟨b5, 0, none⟩)), (6, .string ans.who), (7, .bool ans.isSome), (8, .bool th), (11, .int .i64 (k : Int))]) (fun k w' => k ≤ t.l.length ∧ (∀ j x, j < k → t.l[j]? = some x → decide (x.name = name) = false) ∧ w'.heap[b5]? = some (.cells ⟨ans.tgt.cells⟩ 27 (0, 0)) ∧ Ext w w') (fun k => t.l.length - k) (0) ⟨rfl, rfl, rfl, rfl, rfl, rfl, rfl, rfl, trivial⟩ (⟨Nat.zero_le _, fun j _ hj => by omega, hb5, e⟩) ?_
        clear e hb5
        intro k w3 ⟨hk, hno, hb5, e⟩ IH2
        refine run_seq ?_
        refine run_seq ?_
        refine run_region rfl ?_
        refine runl_ev (ev_move rfl) ?_
        refine runl_ev (ev_move rfl) ?_
        refine runl_ev (ev_indexAddr (k := 0) el_22 rfl rfl (by simp)) ?_
        refine runl_ev (ev_fieldAddr fld_33_3 rfl) ?_
        refine runl_ev (ev_load1 cell_30 rfl (eqw ((hc.ext e).pick 3 rfl rfl))) ?_
        refine runl_ev (ev_lenL sl_30 rfl) ?_
        refine runl_ev (ev_lss rfl rfl) ?_
        refine runl_nil ?_
        refine run_dcond rfl (fun h3 => ?_) (fun h3 => ?_)
        · have hk1 : k < t.l.length := by omega
          obtain ⟨b1, o1, cs1, rfl, ⟨hwf1, rfl⟩, hc1⟩ := hL1 k _ (List.getElem?_eq_getElem hk1)
          refine run_skip ?_
          refine run_seq ?_
          refine run_block ?_
          refine run_seq ?_
          refine run_region rfl ?_
          refine runl_ev (ev_move rfl) ?_
          refine runl_ev (ev_indexAddr (k := 0) el_22 rfl rfl (by simp)) ?_
          refine runl_ev (ev_fieldAddr fld_33_3 rfl) ?_
          refine runl_ev (ev_load1 cell_30 rfl (eqw ((hc.ext e).pick 3 rfl rfl))) ?_
          refine runl_ev (ev_move rfl) ?_
          refine runl_ev (ev_indexAddr el_30 rfl rfl (by omega)) ?_
          refine runl_ev (ev_fieldAddr fld_27_0 rfl) ?_
          refine runl_ev (ev_load1 cell_9 rfl (eqw ((hc1.ext e).pick 0 rfl (Tgt.c0 _)))) ?_
          refine runl_ev (ev_move rfl) ?_
          refine runl_ev (ev_eqlS rfl rfl) ?_
          refine runl_nil ?_
          refine run_cond_split rfl (fun h4 => ?_) (fun h4 => ?_)
          · obtain rfl := hown (idxOf_hit hk1 hno h4) (List.getElem?_eq_getElem hk1)
            refine run_seq ?_
            refine run_draw mo (fun w' => Ext w3 w') [] [(true, 0), (true, 1), (true, 2), (true, 3), (true, 4), (true, 5), (true, 6), (true, 7), (true, 8), (true, 9), (true, 10), (true, 11), (true, 12), (true, 13), (true, 14), (true, 15), (true, 16), (true, 17), (true, 18), (true, 19), (true, 20), (false, 21), (true, 22), (true, 23)] (by kernel_rfl) ?_
            intro wr16 er16
            have zr16 := er16.size
            have hsr16 := er16
            have ep := e.trans er16
            have hb5p := er16.at hb5
            refine rund_ev hsr16 rfl (ev_move rfl) ?_
            refine rund_ev hsr16 rfl (ev_move rfl) ?_
            refine rund_ev_g hsr16 rfl rfl rfl (rfl) (ev_loadA agg_27 (Tgt.cells_length hwf1) rfl (fun wz hz => cells_all (hz.at hb5))) ?_
            refine rund_ev_g hsr16 rfl rfl rfl (rfl) (ev_move rfl) ?_
            refine rund_ev_g hsr16 rfl rfl rfl (rfl) (ev_indexAddr (k := 0) el_22 rfl rfl (by simp)) ?_
            refine rund_ev_g hsr16 rfl rfl rfl (rfl) (ev_fieldAddr fld_33_3 rfl) ?_
            refine rund_ev_g hsr16 rfl rfl rfl (rfl) (ev_load1 cell_30 rfl (fun wz hz => (hc.ext (e.trans hz)).pick 3 rfl rfl)) ?_
            refine rund_ev_g hsr16 rfl rfl rfl (rfl) (ev_move rfl) ?_
            refine rund_ev_g hsr16 rfl rfl rfl (rfl) (ev_indexAddr (k := k) el_30 rfl rfl (by omega)) ?_
            refine rund_ev_g hsr16 rfl rfl rfl (rfl) (ev_loadA agg_27 (Tgt.cells_length hwf1) rfl (fun wz hz => hc1.ext (e.trans hz))) ?_
            refine rund_ev_g hsr16 rfl rfl rfl (rfl) (ev_eqlA rfl rfl eg_27 (eqTgt _ _ hwf1 hwf1)) ?_
            refine rund_ev hsr16 rfl (ev_pick rfl rfl rfl rfl) ?_
            refine rund_ev hsr16 rfl (ev_move rfl) ?_
            refine rund_ev_g hsr16 rfl rfl rfl (decide_eq_true rfl) (ev_move rfl) ?_
            refine rund_ev_g hsr16 rfl rfl rfl (decide_eq_true rfl) (ev_move rfl) ?_
            refine rund_ev_g hsr16 rfl rfl rfl (decide_eq_true rfl) (ev_indexAddr (k := 0) el_22 rfl rfl (by simp)) ?_
            refine rund_ev_g hsr16 rfl rfl rfl (decide_eq_true rfl) (ev_fieldAddr fld_33_0 rfl) ?_
            refine rund_ev_g hsr16 rfl rfl rfl (decide_eq_true rfl) (ev_load1 cell_9 rfl (fun wz hz => (hc.ext (e.trans hz)).pick 0 rfl rfl)) ?_
            refine rund_ev_g hsr16 rfl rfl rfl (decide_eq_true rfl) (ev_eqlS rfl rfl) ?_
            refine rund_ev hsr16 rfl (ev_pick rfl rfl rfl (if_pos (by simp [Ans.tgt]))) ?_
            refine rund_ev hsr16 rfl (ev_move rfl) ?_
            refine rund_op_g rfl rfl rfl (decide_eq_true rfl) (t_call call_13 rfl (known_any _)) ?_
            rintro _ w115 ⟨rfl, e115⟩
            have z115 := e115.size
            replace ep := ep.trans e115
            replace hb5p := e115.at hb5p
            have hs115 := hsr16.trans e115
            refine ⟨hs115, ?_⟩
            refine rund_ev hs115 rfl (ev_pick rfl rfl rfl (if_pos (by simp [Ans.who]))) ?_
            refine rund_ev hs115 rfl (ev_assign rfl) ?_
            refine rund_nil ?_
            replace e := ep
            clear ep
            replace hb5 := hb5p
            clear hb5p
            refine run_ret_any Try.func3 (res1 Try.results3 rfl) ?_
            exact ⟨rfl, e⟩
          · refine run_skip ?_
            refine run_inBlock ?_
            refine run_region rfl ?_
            refine runl_ev (ev_move rfl) ?_
            refine runl_ev (ev_add rfl rfl (by omega) (by omega)) ?_
            refine runl_ev (ev_assign rfl) ?_
            refine runl_nil ?_
            exact IH2 (k + 1) _ _ (by omega) ⟨rfl, rfl, rfl, rfl, rfl, rfl, rfl, rfl, trivial⟩ ⟨by omega, idxOf_snoc hk1 hno h4, hb5, e⟩
        · refine run_exit rfl ?_
          refine run_seq ?_
          rcases ans with _ | ⟨u, who⟩
          · refine run_region rfl ?_
            refine runl_ev (ev_move rfl) ?_
            refine runl_ev (ev_not rfl) ?_
            refine runl_ev (ev_move rfl) ?_
            refine runl_no_g rfl rfl (rfl) ?_
            refine runl_ev (ev_pick rfl rfl rfl (if_pos (by simp))) ?_
            refine runl_ev (ev_move rfl) ?_
            refine runl_ev_g rfl rfl (rfl) (ev_move rfl) ?_
            refine runl_ev_g rfl rfl (rfl) (ev_move rfl) ?_
            refine runl_ev_g rfl rfl (rfl) (ev_move rfl) ?_
            refine runl_ev_g rfl rfl (rfl) (ev_eqlS rfl rfl) ?_
            refine runl_ev_g rfl rfl (rfl) (ev_move rfl) ?_
            refine runl_ev_g rfl rfl (decide_eq_true rfl) (ev_loadA agg_27 Tgt.cells_zero_len rfl (eqw (cells_all hb5))) ?_
            refine runl_ev_g rfl rfl (decide_eq_true rfl) (ev_build (out := Tgt.zero.cells) ps_27 zero_27 rfl rfl (rfl)) ?_
            refine runl_ev_g rfl rfl (decide_eq_true rfl) (ev_eqlA rfl rfl eg_27 (eqTgt Tgt.zero Tgt.zero rfl rfl)) ?_
            refine runl_ev_g rfl rfl (rfl) (ev_pick rfl rfl rfl (if_pos (by simp [Ans.who]))) ?_
            refine runl_ev_g rfl rfl (rfl) (ev_pick rfl rfl rfl (if_neg (by simp))) ?_
            refine runl_ev (ev_pick rfl rfl rfl (if_pos (by simp))) ?_
            refine runl_ev (ev_move rfl) ?_
            refine runl_op_g rfl rfl (by simp) (t_call call_13 rfl (known_any _)) ?_
            rintro _ w135 ⟨rfl, e135⟩
            have z135 := e135.size
            replace e := e.trans e135
            replace hb5 := e135.at hb5
            refine runl_ev (ev_pick rfl rfl rfl (if_pos (by simp))) ?_
            refine runl_ev (ev_assign rfl) ?_
            refine runl_nil ?_
            refine run_ret_any Try.func3 (res1 Try.results3 rfl) ?_
            exact ⟨rfl, e⟩
          · obtain ⟨x, hxm, hxn, hum, hun⟩ := htold u who rfl
            obtain ⟨ix, hix, rfl⟩ := List.mem_iff_getElem.1 hxm
            obtain rfl : th = true := hseen ix _ hix (List.getElem?_eq_getElem hix) u hum hxn rfl hun
            refine run_region rfl ?_
            refine runl_ev (ev_move rfl) ?_
            refine runl_ev (ev_not rfl) ?_
            refine runl_ev (ev_move rfl) ?_
            refine runl_ev_g rfl rfl (rfl) (ev_move rfl) ?_
            refine runl_ev (ev_pick rfl rfl rfl (if_neg (by simp))) ?_
            refine runl_ev (ev_move rfl) ?_
            refine runl_ev_g rfl rfl (rfl) (ev_move rfl) ?_
            refine runl_ev_g rfl rfl (rfl) (ev_move rfl) ?_
            refine runl_no_g rfl rfl (rfl) ?_
            refine runl_no_g rfl rfl (rfl) ?_
            refine runl_no_g rfl rfl (rfl) ?_
            refine runl_no_u rfl rfl ?_
            refine runl_no_u rfl rfl ?_
            refine runl_no_u rfl rfl ?_
            refine runl_no_g rfl rfl (rfl) ?_
            refine runl_ev_g rfl rfl (rfl) (ev_pick rfl rfl rfl (if_pos (by simp))) ?_
            refine runl_ev (ev_pick rfl rfl rfl (if_pos (by simp))) ?_
            refine runl_ev (ev_move rfl) ?_
            refine runl_op_g rfl rfl (rfl) (t_call call_13 rfl (known_any _)) ?_
            rintro _ w135x1 ⟨rfl, e135x1⟩
            have z135x1 := e135x1.size
            replace e := e.trans e135x1
            replace hb5 := e135x1.at hb5
            refine runl_ev (ev_pick rfl rfl rfl (if_pos (by simp))) ?_
            refine runl_ev (ev_assign rfl) ?_
            refine runl_nil ?_
            refine run_ret_any Try.func3 (res1 Try.results3 rfl) ?_
            exact ⟨rfl, e⟩
end Go.Proofs.Ytpomcdmlmaimeaa

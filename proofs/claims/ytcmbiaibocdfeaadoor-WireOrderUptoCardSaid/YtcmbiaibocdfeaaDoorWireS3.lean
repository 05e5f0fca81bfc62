/- The walks of the reference's names and of what encodes snapshots there. -/
import Derived.Test.YtcmbiaibocdfeaaDoorWireSN
import Derived.Test.YtcmbiaibocdfeaaDoorWireS1
import Derived.Test.YtcmbiaibocdfeaaDoorWire5
namespace Go.Proofs.YtcmbiaibocdfeaaDoor
open Go Go.Fw
set_option maxRecDepth 100000

theorem qname_any (s : ByteArray) (w : World) (hn : s.size ≤ 1099511627776) : Ret Tryd.prog 15 [.string s] w fun r w' => r = .bool (nameB s) ∧ Ext w w' := by
  have e := ExtB.refl (fun _ => False) w
  have hsl : s.data.toList.length = s.size := rfl
  refine ret_of_run Tryd.func15 rfl Tryd.ntmps15 rfl ?_
  refine run_seq ?_
  refine run_region rfl ?_
  refine runl_ev (ev_assign rfl) ?_
  refine runl_nil ?_
  refine run_seq ?_
  refine run_seq ?_
  refine run_region rfl ?_
  refine runl_ev (ev_assign rfl) ?_
  refine runl_nil ?_
  refine run_block ?_
  refine run_loop (ι := Nat) (fun k => [(0, .string s), (3, .int .i64 (k : Int))]) (fun k w' => k ≤ s.size ∧ (s.data.toList.take k).all isSign = true ∧ Ext w w') (fun k => s.size - k) (0) ⟨rfl, rfl, trivial⟩ (⟨Nat.zero_le _, rfl, e⟩) ?_
  clear e
  intro k w1 ⟨hk, hall, e⟩ IH
  refine run_seq ?_
  refine run_seq ?_
  refine run_region rfl ?_
  refine runl_ev (ev_move rfl) ?_
  refine runl_ev (ev_move rfl) ?_
  refine runl_ev (ev_lenS str_9 rfl) ?_
  refine runl_ev (ev_lss rfl rfl) ?_
  refine runl_nil ?_
  refine run_dcond rfl (fun h0 => ?_) (fun h0 => ?_)
  · have hk1 : k < s.size := by omega
    have htk := all_take_and (p := isSign) (l := s.data.toList) (k := k) (by omega)
    obtain ⟨c, hc⟩ : ∃ c, c = s[k] := ⟨_, rfl⟩
    have hcl : s.data.toList[k] = c := hc.symm
    rw [hcl] at htk
    refine run_skip ?_
    refine run_seq ?_
    refine run_block ?_
    refine run_seq ?_
    have hcs : (97 ≤ c.toNat ∧ c.toNat ≤ 122) ∨ (¬ 97 ≤ c.toNat ∧ ¬ 48 ≤ c.toNat ∧ c.toNat = 45) ∨ (¬ 97 ≤ c.toNat ∧ ¬ 48 ≤ c.toNat ∧ ¬ c.toNat = 45) ∨ (¬ 97 ≤ c.toNat ∧ 48 ≤ c.toNat ∧ c.toNat ≤ 57) ∨ (¬ 97 ≤ c.toNat ∧ 48 ≤ c.toNat ∧ ¬ c.toNat ≤ 57) ∨ (97 ≤ c.toNat ∧ ¬ c.toNat ≤ 122) := by omega
    rcases hcs with ⟨q1, q2⟩ | ⟨q1, q2, q3⟩ | ⟨q1, q2, q3⟩ | ⟨q1, q2, q3⟩ | ⟨q1, q2, q3⟩ | ⟨q1, q2⟩
    · have hsg := sign_true (c := c) (.inl ⟨q1, q2⟩)
      refine run_region rfl ?_
      refine runl_ev (ev_move rfl) ?_
      refine runl_ev (ev_move rfl) ?_
      refine runl_ev (ev_indexS (k := k) Tryd.underlying9 rfl rfl (hk1)) ?_
      refine runl_ev (ev_lss rfl rfl) ?_
      refine runl_ev (ev_move rfl) ?_
      refine runl_ev_g rfl rfl (decide_eq_false (by rw [← hc]; omega)) (ev_move rfl) ?_
      refine runl_ev_g rfl rfl (decide_eq_false (by rw [← hc]; omega)) (ev_move rfl) ?_
      refine runl_ev_g rfl rfl (decide_eq_false (by rw [← hc]; omega)) (ev_indexS (k := k) Tryd.underlying9 rfl rfl (hk1)) ?_
      refine runl_ev_g rfl rfl (decide_eq_false (by rw [← hc]; omega)) (ev_gtr rfl rfl) ?_
      refine runl_ev (ev_pick rfl rfl rfl (if_neg (by rw [← hc]; simp; omega))) ?_
      refine runl_ev (ev_move rfl) ?_
      refine runl_no_g rfl rfl (decide_eq_false (by rw [← hc]; omega)) ?_
      refine runl_no_g rfl rfl (decide_eq_false (by rw [← hc]; omega)) ?_
      refine runl_no_g rfl rfl (decide_eq_false (by rw [← hc]; omega)) ?_
      refine runl_no_g rfl rfl (decide_eq_false (by rw [← hc]; omega)) ?_
      refine runl_no_g rfl rfl (decide_eq_false (by rw [← hc]; omega)) ?_
      refine runl_no_u rfl rfl ?_
      refine runl_no_u rfl rfl ?_
      refine runl_no_u rfl rfl ?_
      refine runl_no_u rfl rfl ?_
      refine runl_no_g rfl rfl (decide_eq_false (by rw [← hc]; omega)) ?_
      refine runl_ev (ev_pick rfl rfl rfl (if_neg (by rw [← hc]; simp; omega))) ?_
      refine runl_ev (ev_move rfl) ?_
      refine runl_no_g rfl rfl (rfl) ?_
      refine runl_no_g rfl rfl (rfl) ?_
      refine runl_no_g rfl rfl (rfl) ?_
      refine runl_no_g rfl rfl (rfl) ?_
      refine runl_ev (ev_pick rfl rfl rfl (if_neg (by simp))) ?_
      refine runl_nil ?_
      refine run_cond_false rfl (rfl) ?_
      refine run_skip ?_
      refine run_inBlock ?_
      refine run_region rfl ?_
      refine runl_ev (ev_move rfl) ?_
      refine runl_ev (ev_add rfl rfl (by omega) (by omega)) ?_
      refine runl_ev (ev_assign rfl) ?_
      refine runl_nil ?_
      exact IH (k + 1) _ _ (by omega) ⟨rfl, rfl, trivial⟩ ⟨by omega, by rw [htk, hall, hsg]; rfl, e⟩
    · have hsg := sign_true (c := c) (.inr (.inr q3))
      refine run_region rfl ?_
      refine runl_ev (ev_move rfl) ?_
      refine runl_ev (ev_move rfl) ?_
      refine runl_ev (ev_indexS (k := k) Tryd.underlying9 rfl rfl (hk1)) ?_
      refine runl_ev (ev_lss rfl rfl) ?_
      refine runl_ev (ev_move rfl) ?_
      refine runl_no_g rfl rfl (decide_eq_true (by rw [← hc]; omega)) ?_
      refine runl_no_g rfl rfl (decide_eq_true (by rw [← hc]; omega)) ?_
      refine runl_no_g rfl rfl (decide_eq_true (by rw [← hc]; omega)) ?_
      refine runl_no_g rfl rfl (decide_eq_true (by rw [← hc]; omega)) ?_
      refine runl_ev (ev_pick rfl rfl rfl (if_pos (decide_eq_true (by rw [← hc]; omega)))) ?_
      refine runl_ev (ev_move rfl) ?_
      refine runl_ev_g rfl rfl (rfl) (ev_move rfl) ?_
      refine runl_ev_g rfl rfl (rfl) (ev_move rfl) ?_
      refine runl_ev_g rfl rfl (rfl) (ev_indexS (k := k) Tryd.underlying9 rfl rfl (hk1)) ?_
      refine runl_ev_g rfl rfl (rfl) (ev_lss rfl rfl) ?_
      refine runl_ev_g rfl rfl (rfl) (ev_move rfl) ?_
      refine runl_no_g rfl rfl (decide_eq_true (by rw [← hc]; omega)) ?_
      refine runl_no_g rfl rfl (decide_eq_true (by rw [← hc]; omega)) ?_
      refine runl_no_g rfl rfl (decide_eq_true (by rw [← hc]; omega)) ?_
      refine runl_no_g rfl rfl (decide_eq_true (by rw [← hc]; omega)) ?_
      refine runl_ev_g rfl rfl (rfl) (ev_pick rfl rfl rfl (if_pos (decide_eq_true (by rw [← hc]; omega)))) ?_
      refine runl_ev (ev_pick rfl rfl rfl (if_pos (rfl))) ?_
      refine runl_ev (ev_move rfl) ?_
      refine runl_ev_g rfl rfl (rfl) (ev_move rfl) ?_
      refine runl_ev_g rfl rfl (rfl) (ev_move rfl) ?_
      refine runl_ev_g rfl rfl (rfl) (ev_indexS (k := k) Tryd.underlying9 rfl rfl (hk1)) ?_
      refine runl_ev_g rfl rfl (rfl) (ev_neqI rfl rfl) ?_
      refine runl_ev (ev_pick rfl rfl rfl (if_pos (rfl))) ?_
      refine runl_nil ?_
      refine run_cond_false rfl (decide_eq_false (by rw [← hc]; omega)) ?_
      refine run_skip ?_
      refine run_inBlock ?_
      refine run_region rfl ?_
      refine runl_ev (ev_move rfl) ?_
      refine runl_ev (ev_add rfl rfl (by omega) (by omega)) ?_
      refine runl_ev (ev_assign rfl) ?_
      refine runl_nil ?_
      exact IH (k + 1) _ _ (by omega) ⟨rfl, rfl, trivial⟩ ⟨by omega, by rw [htk, hall, hsg]; rfl, e⟩
    · have hsg := sign_false (c := c) (by omega)
      refine run_region rfl ?_
      refine runl_ev (ev_move rfl) ?_
      refine runl_ev (ev_move rfl) ?_
      refine runl_ev (ev_indexS (k := k) Tryd.underlying9 rfl rfl (hk1)) ?_
      refine runl_ev (ev_lss rfl rfl) ?_
      refine runl_ev (ev_move rfl) ?_
      refine runl_no_g rfl rfl (decide_eq_true (by rw [← hc]; omega)) ?_
      refine runl_no_g rfl rfl (decide_eq_true (by rw [← hc]; omega)) ?_
      refine runl_no_g rfl rfl (decide_eq_true (by rw [← hc]; omega)) ?_
      refine runl_no_g rfl rfl (decide_eq_true (by rw [← hc]; omega)) ?_
      refine runl_ev (ev_pick rfl rfl rfl (if_pos (decide_eq_true (by rw [← hc]; omega)))) ?_
      refine runl_ev (ev_move rfl) ?_
      refine runl_ev_g rfl rfl (rfl) (ev_move rfl) ?_
      refine runl_ev_g rfl rfl (rfl) (ev_move rfl) ?_
      refine runl_ev_g rfl rfl (rfl) (ev_indexS (k := k) Tryd.underlying9 rfl rfl (hk1)) ?_
      refine runl_ev_g rfl rfl (rfl) (ev_lss rfl rfl) ?_
      refine runl_ev_g rfl rfl (rfl) (ev_move rfl) ?_
      refine runl_no_g rfl rfl (decide_eq_true (by rw [← hc]; omega)) ?_
      refine runl_no_g rfl rfl (decide_eq_true (by rw [← hc]; omega)) ?_
      refine runl_no_g rfl rfl (decide_eq_true (by rw [← hc]; omega)) ?_
      refine runl_no_g rfl rfl (decide_eq_true (by rw [← hc]; omega)) ?_
      refine runl_ev_g rfl rfl (rfl) (ev_pick rfl rfl rfl (if_pos (decide_eq_true (by rw [← hc]; omega)))) ?_
      refine runl_ev (ev_pick rfl rfl rfl (if_pos (rfl))) ?_
      refine runl_ev (ev_move rfl) ?_
      refine runl_ev_g rfl rfl (rfl) (ev_move rfl) ?_
      refine runl_ev_g rfl rfl (rfl) (ev_move rfl) ?_
      refine runl_ev_g rfl rfl (rfl) (ev_indexS (k := k) Tryd.underlying9 rfl rfl (hk1)) ?_
      refine runl_ev_g rfl rfl (rfl) (ev_neqI rfl rfl) ?_
      refine runl_ev (ev_pick rfl rfl rfl (if_pos (rfl))) ?_
      refine runl_nil ?_
      refine run_cond_true rfl (decide_eq_true (by rw [← hc]; omega)) ?_
      refine run_seq ?_
      refine run_region rfl ?_
      refine runl_ev (ev_assign rfl) ?_
      refine runl_nil ?_
      refine run_ret_any Tryd.func15 (res1 Tryd.results15 rfl) ?_
      exact ⟨by rw [name_no hk1 (by rw [← hc]; exact hsg)], e⟩
    · have hsg := sign_true (c := c) (.inr (.inl ⟨q2, q3⟩))
      refine run_region rfl ?_
      refine runl_ev (ev_move rfl) ?_
      refine runl_ev (ev_move rfl) ?_
      refine runl_ev (ev_indexS (k := k) Tryd.underlying9 rfl rfl (hk1)) ?_
      refine runl_ev (ev_lss rfl rfl) ?_
      refine runl_ev (ev_move rfl) ?_
      refine runl_no_g rfl rfl (decide_eq_true (by rw [← hc]; omega)) ?_
      refine runl_no_g rfl rfl (decide_eq_true (by rw [← hc]; omega)) ?_
      refine runl_no_g rfl rfl (decide_eq_true (by rw [← hc]; omega)) ?_
      refine runl_no_g rfl rfl (decide_eq_true (by rw [← hc]; omega)) ?_
      refine runl_ev (ev_pick rfl rfl rfl (if_pos (decide_eq_true (by rw [← hc]; omega)))) ?_
      refine runl_ev (ev_move rfl) ?_
      refine runl_ev_g rfl rfl (rfl) (ev_move rfl) ?_
      refine runl_ev_g rfl rfl (rfl) (ev_move rfl) ?_
      refine runl_ev_g rfl rfl (rfl) (ev_indexS (k := k) Tryd.underlying9 rfl rfl (hk1)) ?_
      refine runl_ev_g rfl rfl (rfl) (ev_lss rfl rfl) ?_
      refine runl_ev_g rfl rfl (rfl) (ev_move rfl) ?_
      refine runl_ev_g rfl rfl (decide_eq_false (by rw [← hc]; omega)) (ev_move rfl) ?_
      refine runl_ev_g rfl rfl (decide_eq_false (by rw [← hc]; omega)) (ev_move rfl) ?_
      refine runl_ev_g rfl rfl (decide_eq_false (by rw [← hc]; omega)) (ev_indexS (k := k) Tryd.underlying9 rfl rfl (hk1)) ?_
      refine runl_ev_g rfl rfl (decide_eq_false (by rw [← hc]; omega)) (ev_gtr rfl rfl) ?_
      refine runl_ev_g rfl rfl (rfl) (ev_pick rfl rfl rfl (if_neg (by rw [← hc]; simp; omega))) ?_
      refine runl_ev (ev_pick rfl rfl rfl (if_pos (rfl))) ?_
      refine runl_ev (ev_move rfl) ?_
      refine runl_no_g rfl rfl (decide_eq_false (by rw [← hc]; omega)) ?_
      refine runl_no_g rfl rfl (decide_eq_false (by rw [← hc]; omega)) ?_
      refine runl_no_g rfl rfl (decide_eq_false (by rw [← hc]; omega)) ?_
      refine runl_no_g rfl rfl (decide_eq_false (by rw [← hc]; omega)) ?_
      refine runl_ev (ev_pick rfl rfl rfl (if_neg (by rw [← hc]; simp; omega))) ?_
      refine runl_nil ?_
      refine run_cond_false rfl (rfl) ?_
      refine run_skip ?_
      refine run_inBlock ?_
      refine run_region rfl ?_
      refine runl_ev (ev_move rfl) ?_
      refine runl_ev (ev_add rfl rfl (by omega) (by omega)) ?_
      refine runl_ev (ev_assign rfl) ?_
      refine runl_nil ?_
      exact IH (k + 1) _ _ (by omega) ⟨rfl, rfl, trivial⟩ ⟨by omega, by rw [htk, hall, hsg]; rfl, e⟩
    · have hsg := sign_false (c := c) (by omega)
      refine run_region rfl ?_
      refine runl_ev (ev_move rfl) ?_
      refine runl_ev (ev_move rfl) ?_
      refine runl_ev (ev_indexS (k := k) Tryd.underlying9 rfl rfl (hk1)) ?_
      refine runl_ev (ev_lss rfl rfl) ?_
      refine runl_ev (ev_move rfl) ?_
      refine runl_no_g rfl rfl (decide_eq_true (by rw [← hc]; omega)) ?_
      refine runl_no_g rfl rfl (decide_eq_true (by rw [← hc]; omega)) ?_
      refine runl_no_g rfl rfl (decide_eq_true (by rw [← hc]; omega)) ?_
      refine runl_no_g rfl rfl (decide_eq_true (by rw [← hc]; omega)) ?_
      refine runl_ev (ev_pick rfl rfl rfl (if_pos (decide_eq_true (by rw [← hc]; omega)))) ?_
      refine runl_ev (ev_move rfl) ?_
      refine runl_ev_g rfl rfl (rfl) (ev_move rfl) ?_
      refine runl_ev_g rfl rfl (rfl) (ev_move rfl) ?_
      refine runl_ev_g rfl rfl (rfl) (ev_indexS (k := k) Tryd.underlying9 rfl rfl (hk1)) ?_
      refine runl_ev_g rfl rfl (rfl) (ev_lss rfl rfl) ?_
      refine runl_ev_g rfl rfl (rfl) (ev_move rfl) ?_
      refine runl_ev_g rfl rfl (decide_eq_false (by rw [← hc]; omega)) (ev_move rfl) ?_
      refine runl_ev_g rfl rfl (decide_eq_false (by rw [← hc]; omega)) (ev_move rfl) ?_
      refine runl_ev_g rfl rfl (decide_eq_false (by rw [← hc]; omega)) (ev_indexS (k := k) Tryd.underlying9 rfl rfl (hk1)) ?_
      refine runl_ev_g rfl rfl (decide_eq_false (by rw [← hc]; omega)) (ev_gtr rfl rfl) ?_
      refine runl_ev_g rfl rfl (rfl) (ev_pick rfl rfl rfl (if_neg (by rw [← hc]; simp; omega))) ?_
      refine runl_ev (ev_pick rfl rfl rfl (if_pos (rfl))) ?_
      refine runl_ev (ev_move rfl) ?_
      refine runl_ev_g rfl rfl (decide_eq_true (by rw [← hc]; omega)) (ev_move rfl) ?_
      refine runl_ev_g rfl rfl (decide_eq_true (by rw [← hc]; omega)) (ev_move rfl) ?_
      refine runl_ev_g rfl rfl (decide_eq_true (by rw [← hc]; omega)) (ev_indexS (k := k) Tryd.underlying9 rfl rfl (hk1)) ?_
      refine runl_ev_g rfl rfl (decide_eq_true (by rw [← hc]; omega)) (ev_neqI rfl rfl) ?_
      refine runl_ev (ev_pick rfl rfl rfl (if_pos (decide_eq_true (by rw [← hc]; omega)))) ?_
      refine runl_nil ?_
      refine run_cond_true rfl (decide_eq_true (by rw [← hc]; omega)) ?_
      refine run_seq ?_
      refine run_region rfl ?_
      refine runl_ev (ev_assign rfl) ?_
      refine runl_nil ?_
      refine run_ret_any Tryd.func15 (res1 Tryd.results15 rfl) ?_
      exact ⟨by rw [name_no hk1 (by rw [← hc]; exact hsg)], e⟩
    · have hsg := sign_false (c := c) (by omega)
      refine run_region rfl ?_
      refine runl_ev (ev_move rfl) ?_
      refine runl_ev (ev_move rfl) ?_
      refine runl_ev (ev_indexS (k := k) Tryd.underlying9 rfl rfl (hk1)) ?_
      refine runl_ev (ev_lss rfl rfl) ?_
      refine runl_ev (ev_move rfl) ?_
      refine runl_ev_g rfl rfl (decide_eq_false (by rw [← hc]; omega)) (ev_move rfl) ?_
      refine runl_ev_g rfl rfl (decide_eq_false (by rw [← hc]; omega)) (ev_move rfl) ?_
      refine runl_ev_g rfl rfl (decide_eq_false (by rw [← hc]; omega)) (ev_indexS (k := k) Tryd.underlying9 rfl rfl (hk1)) ?_
      refine runl_ev_g rfl rfl (decide_eq_false (by rw [← hc]; omega)) (ev_gtr rfl rfl) ?_
      refine runl_ev (ev_pick rfl rfl rfl (if_neg (by rw [← hc]; simp; omega))) ?_
      refine runl_ev (ev_move rfl) ?_
      refine runl_ev_g rfl rfl (decide_eq_true (by rw [← hc]; omega)) (ev_move rfl) ?_
      refine runl_ev_g rfl rfl (decide_eq_true (by rw [← hc]; omega)) (ev_move rfl) ?_
      refine runl_ev_g rfl rfl (decide_eq_true (by rw [← hc]; omega)) (ev_indexS (k := k) Tryd.underlying9 rfl rfl (hk1)) ?_
      refine runl_ev_g rfl rfl (decide_eq_true (by rw [← hc]; omega)) (ev_lss rfl rfl) ?_
      refine runl_ev_g rfl rfl (decide_eq_true (by rw [← hc]; omega)) (ev_move rfl) ?_
      refine runl_ev_g rfl rfl (decide_eq_false (by rw [← hc]; omega)) (ev_move rfl) ?_
      refine runl_ev_g rfl rfl (decide_eq_false (by rw [← hc]; omega)) (ev_move rfl) ?_
      refine runl_ev_g rfl rfl (decide_eq_false (by rw [← hc]; omega)) (ev_indexS (k := k) Tryd.underlying9 rfl rfl (hk1)) ?_
      refine runl_ev_g rfl rfl (decide_eq_false (by rw [← hc]; omega)) (ev_gtr rfl rfl) ?_
      refine runl_ev_g rfl rfl (decide_eq_true (by rw [← hc]; omega)) (ev_pick rfl rfl rfl (if_neg (by rw [← hc]; simp; omega))) ?_
      refine runl_ev (ev_pick rfl rfl rfl (if_pos (decide_eq_true (by rw [← hc]; omega)))) ?_
      refine runl_ev (ev_move rfl) ?_
      refine runl_ev_g rfl rfl (decide_eq_true (by rw [← hc]; omega)) (ev_move rfl) ?_
      refine runl_ev_g rfl rfl (decide_eq_true (by rw [← hc]; omega)) (ev_move rfl) ?_
      refine runl_ev_g rfl rfl (decide_eq_true (by rw [← hc]; omega)) (ev_indexS (k := k) Tryd.underlying9 rfl rfl (hk1)) ?_
      refine runl_ev_g rfl rfl (decide_eq_true (by rw [← hc]; omega)) (ev_neqI rfl rfl) ?_
      refine runl_ev (ev_pick rfl rfl rfl (if_pos (decide_eq_true (by rw [← hc]; omega)))) ?_
      refine runl_nil ?_
      refine run_cond_true rfl (decide_eq_true (by rw [← hc]; omega)) ?_
      refine run_seq ?_
      refine run_region rfl ?_
      refine runl_ev (ev_assign rfl) ?_
      refine runl_nil ?_
      refine run_ret_any Tryd.func15 (res1 Tryd.results15 rfl) ?_
      exact ⟨by rw [name_no hk1 (by rw [← hc]; exact hsg)], e⟩
  · obtain rfl : k = s.size := by omega
    rw [List.take_of_length_le (by omega : s.data.toList.length ≤ s.size)] at hall
    refine run_exit rfl ?_
    refine run_seq ?_
    by_cases q1 : 1 ≤ s.size
    · refine run_region rfl ?_
      refine runl_ev (ev_move rfl) ?_
      refine runl_ev (ev_lenS str_9 rfl) ?_
      refine runl_ev (ev_geq rfl rfl) ?_
      refine runl_ev (ev_move rfl) ?_
      refine runl_ev_g rfl rfl (decide_eq_true (by omega)) (ev_move rfl) ?_
      refine runl_ev_g rfl rfl (decide_eq_true (by omega)) (ev_lenS str_9 rfl) ?_
      refine runl_ev_g rfl rfl (decide_eq_true (by omega)) (ev_leq rfl rfl) ?_
      refine runl_ev (ev_pick rfl rfl rfl (if_pos (decide_eq_true (by omega)))) ?_
      refine runl_ev (ev_assign rfl) ?_
      refine runl_nil ?_
      refine run_ret_any Tryd.func15 (res1 Tryd.results15 rfl) ?_
      refine ⟨?_, e⟩
      rw [name_all hall, decide_eq_true q1, Bool.true_and]
      congr 1
      exact decide_eq_decide.2 (by omega)
    · refine run_region rfl ?_
      refine runl_ev (ev_move rfl) ?_
      refine runl_ev (ev_lenS str_9 rfl) ?_
      refine runl_ev (ev_geq rfl rfl) ?_
      refine runl_ev (ev_move rfl) ?_
      refine runl_no_g rfl rfl (decide_eq_false (by omega)) ?_
      refine runl_no_g rfl rfl (decide_eq_false (by omega)) ?_
      refine runl_no_g rfl rfl (decide_eq_false (by omega)) ?_
      refine runl_ev (ev_pick rfl rfl rfl (if_neg (by simp; omega))) ?_
      refine runl_ev (ev_assign rfl) ?_
      refine runl_nil ?_
      refine run_ret_any Tryd.func15 (res1 Tryd.results15 rfl) ?_
      exact ⟨by rw [name_all hall, decide_eq_false q1]; rfl, e⟩
theorem qissnap_any (x : SnapP) (cs : List Value) (w : World) (hx : RSnap w x cs) (hn : x.pins.length ≤ 2199023255552) (hnb : ∀ p ∈ x.pins, p.name.size ≤ 1099511627776) : Ret Tryd.prog 28 [.agg ⟨cs⟩] w fun v w' => v = .bool (isSnapP x) ∧ Ext w w' := by
  have e := ExtB.refl (fun _ => False) w
  obtain ⟨a, c, rfl, hpi⟩ := hx
  refine ret_of_run Tryd.func28 rfl Tryd.ntmps28 rfl ?_
  refine run_seq ?_
  refine run_region rfl ?_
  refine runl_op (t_boxA rfl) ?_
  rintro _ w1 ⟨b1, rfl, hb1, e1, n1, l1⟩
  have z1 := e1.size
  replace e := e.trans e1
  refine runl_ev (ev_assign rfl) ?_
  refine runl_nil ?_
  refine run_seq ?_
  refine run_seq ?_
  refine run_region rfl ?_
  refine runl_ev (ev_assign rfl) ?_
  refine runl_nil ?_
  refine run_block ?_
  refine run_loop (ι := Nat) (fun k => [(1, .pointer (some ⟨b1, 0, none⟩)), (3, .int .i64 (k : Int))]) (fun k w' => k ≤ x.pins.length ∧ (List.range k).all (pinAt x.pins) = true ∧ w'.heap[b1]? = some (.cells ⟨[.int .i64 x.ver, .int .i64 x.exp, .slice a x.pins.length c]⟩ 35 (0, 0)) ∧ Ext w w') (fun k => x.pins.length - k) (0) ⟨rfl, rfl, trivial⟩ (⟨Nat.zero_le _, rfl, hb1, e⟩) ?_
  clear e hb1
  intro k w1 ⟨hk, hall, hb1, e⟩ IH
  have lb1 := lt_of_at hb1
  refine run_seq ?_
  refine run_seq ?_
  refine run_region rfl ?_
  refine runl_ev (ev_move rfl) ?_
  refine runl_ev (ev_fieldAddr fld_35_2 rfl) ?_
  refine runl_ev (ev_load1 cell_33 rfl (eqw (cell_blk hb1 rfl))) ?_
  refine runl_ev (ev_lenL sl_33 rfl) ?_
  refine runl_ev (ev_lss rfl rfl) ?_
  refine runl_nil ?_
  refine run_dcond rfl (fun h0 => ?_) (fun h0 => ?_)
  · have hk1 : k < x.pins.length := by omega
    obtain ⟨bA, oA, cA, rfl, hrA, hcA⟩ := hpi.at.2 k hk1
    obtain rfl := hrA
    have hpa := pinAt_eq hk1
    refine run_skip ?_
    refine run_seq ?_
    refine run_block ?_
    refine run_seq ?_
    have hcs : nameB x.pins[k].name = false ∨ (nameB x.pins[k].name = true ∧ verB x.pins[k].ver = false) ∨ (nameB x.pins[k].name = true ∧ verB x.pins[k].ver = true ∧ k = 0) ∨ (nameB x.pins[k].name = true ∧ verB x.pins[k].ver = true ∧ 0 < k) := by
      cases nameB x.pins[k].name <;> cases verB x.pins[k].ver <;> simp <;> omega
    rcases hcs with q1 | ⟨q1, q2⟩ | ⟨q1, q2, rfl⟩ | ⟨q1, q2, q3⟩
    · have hno : pinAt x.pins k = false := by rw [hpa, q1]; rfl
      refine run_draw mo (fun w' => Ext w1 w') [] [(true, 0), (true, 1), (true, 2), (true, 3), (true, 4), (true, 5), (false, 6), (true, 7), (true, 8), (true, 9), (true, 10), (true, 11), (true, 12), (true, 13), (true, 14), (false, 15), (true, 16), (true, 17), (true, 18), (true, 19), (true, 20), (true, 21), (true, 22), (true, 23), (true, 24), (true, 25), (true, 26), (true, 27), (true, 28), (true, 29), (true, 30), (true, 31), (true, 32), (true, 33), (true, 34), (true, 35), (true, 36), (true, 37)] (by kernel_rfl) ?_
      intro wr4 er4
      have zr4 := er4.size
      have hsr4 := er4
      have ep := e.trans er4
      have hb1p := er4.at hb1
      refine rund_ev hsr4 rfl (ev_fieldAddr fld_35_2 rfl) ?_
      refine rund_ev hsr4 rfl (ev_load1 cell_33 rfl (fun wz hz => cell_blk (hz.at hb1) rfl)) ?_
      refine rund_ev hsr4 rfl (ev_move rfl) ?_
      refine rund_ev hsr4 rfl (ev_indexAddr el_33 rfl rfl (by omega)) ?_
      refine rund_ev hsr4 rfl (ev_fieldAddr fld_38_0 rfl) ?_
      refine rund_ev hsr4 rfl (ev_load1 cell_9 rfl (fun wz hz => (hcA.ext (e.trans hz)).pick 0 rfl rfl)) ?_
      refine rund_op rfl (t_call call_15 rfl (qname_any _ _ (hnb _ (List.getElem_mem hk1)))) ?_
      rintro _ w17 ⟨rfl, e17⟩
      have z17 := e17.size
      replace ep := ep.trans e17
      replace hb1p := e17.at hb1p
      have hs17 := hsr4.trans e17
      refine ⟨hs17, ?_⟩
      refine rund_ev hs17 rfl (ev_not rfl) ?_
      refine rund_ev hs17 rfl (ev_move rfl) ?_
      refine rund_no_g hs17 rfl rfl rfl (by rw [q1] <;> rfl) ?_
      refine rund_no_g hs17 rfl rfl rfl (by rw [q1] <;> rfl) ?_
      refine rund_no_g hs17 rfl rfl rfl (by rw [q1] <;> rfl) ?_
      refine rund_no_g hs17 rfl rfl rfl (by rw [q1] <;> rfl) ?_
      refine rund_no_g hs17 rfl rfl rfl (by rw [q1] <;> rfl) ?_
      refine rund_no_g hs17 rfl rfl rfl (by rw [q1] <;> rfl) ?_
      refine rund_no_gf rfl rfl rfl (by rw [q1] <;> rfl) hs17 ?_
      refine rund_no_g hs17 rfl rfl rfl (by rw [q1] <;> rfl) ?_
      refine rund_ev hs17 rfl (ev_pick rfl rfl rfl (if_pos (by rw [q1] <;> rfl))) ?_
      refine rund_ev hs17 rfl (ev_move rfl) ?_
      refine rund_no_g hs17 rfl rfl rfl (rfl) ?_
      refine rund_no_g hs17 rfl rfl rfl (rfl) ?_
      refine rund_no_g hs17 rfl rfl rfl (rfl) ?_
      refine rund_no_u hs17 rfl rfl rfl ?_
      refine rund_no_u hs17 rfl rfl rfl ?_
      refine rund_no_u hs17 rfl rfl rfl ?_
      refine rund_no_u hs17 rfl rfl rfl ?_
      refine rund_no_u hs17 rfl rfl rfl ?_
      refine rund_no_u hs17 rfl rfl rfl ?_
      refine rund_no_u hs17 rfl rfl rfl ?_
      refine rund_no_u hs17 rfl rfl rfl ?_
      refine rund_no_u hs17 rfl rfl rfl ?_
      refine rund_no_u hs17 rfl rfl rfl ?_
      refine rund_no_u hs17 rfl rfl rfl ?_
      refine rund_no_u hs17 rfl rfl rfl ?_
      refine rund_no_u hs17 rfl rfl rfl ?_
      refine rund_no_u hs17 rfl rfl rfl ?_
      refine rund_no_g hs17 rfl rfl rfl (rfl) ?_
      refine rund_ev hs17 rfl (ev_pick rfl rfl rfl (if_pos (rfl))) ?_
      refine rund_nil ?_
      replace e := ep
      clear ep
      replace hb1 := hb1p
      clear hb1p
      refine run_cond_true rfl (rfl) ?_
      refine run_seq ?_
      refine run_region rfl ?_
      refine runl_ev (ev_assign rfl) ?_
      refine runl_nil ?_
      refine run_ret_any Tryd.func28 (res1 Tryd.results28 rfl) ?_
      exact ⟨by rw [snap_pins hk1 hno], e⟩
    · have hno : pinAt x.pins k = false := by rw [hpa, q1, q2]; rfl
      refine run_draw mo (fun w' => Ext w1 w') [] [(true, 0), (true, 1), (true, 2), (true, 3), (true, 4), (true, 5), (false, 6), (true, 7), (true, 8), (true, 9), (true, 10), (true, 11), (true, 12), (true, 13), (true, 14), (false, 15), (true, 16), (true, 17), (true, 18), (true, 19), (true, 20), (true, 21), (true, 22), (true, 23), (true, 24), (true, 25), (true, 26), (true, 27), (true, 28), (true, 29), (true, 30), (true, 31), (true, 32), (true, 33), (true, 34), (true, 35), (true, 36), (true, 37)] (by kernel_rfl) ?_
      intro wr4 er4
      have zr4 := er4.size
      have hsr4 := er4
      have ep := e.trans er4
      have hb1p := er4.at hb1
      refine rund_ev hsr4 rfl (ev_fieldAddr fld_35_2 rfl) ?_
      refine rund_ev hsr4 rfl (ev_load1 cell_33 rfl (fun wz hz => cell_blk (hz.at hb1) rfl)) ?_
      refine rund_ev hsr4 rfl (ev_move rfl) ?_
      refine rund_ev hsr4 rfl (ev_indexAddr el_33 rfl rfl (by omega)) ?_
      refine rund_ev hsr4 rfl (ev_fieldAddr fld_38_0 rfl) ?_
      refine rund_ev hsr4 rfl (ev_load1 cell_9 rfl (fun wz hz => (hcA.ext (e.trans hz)).pick 0 rfl rfl)) ?_
      refine rund_op rfl (t_call call_15 rfl (qname_any _ _ (hnb _ (List.getElem_mem hk1)))) ?_
      rintro _ w17 ⟨rfl, e17⟩
      have z17 := e17.size
      replace ep := ep.trans e17
      replace hb1p := e17.at hb1p
      have hs17 := hsr4.trans e17
      refine ⟨hs17, ?_⟩
      refine rund_ev hs17 rfl (ev_not rfl) ?_
      refine rund_ev hs17 rfl (ev_move rfl) ?_
      refine rund_ev_g hs17 rfl rfl rfl (by rw [q1] <;> rfl) (ev_fieldAddr fld_35_2 rfl) ?_
      refine rund_ev_g hs17 rfl rfl rfl (by rw [q1] <;> rfl) (ev_load1 cell_33 rfl (fun wz hz => cell_blk (hz.at hb1) rfl)) ?_
      refine rund_ev_g hs17 rfl rfl rfl (by rw [q1] <;> rfl) (ev_move rfl) ?_
      refine rund_ev_g hs17 rfl rfl rfl (by rw [q1] <;> rfl) (ev_indexAddr el_33 rfl rfl (by omega)) ?_
      refine rund_ev_g hs17 rfl rfl rfl (by rw [q1] <;> rfl) (ev_fieldAddr fld_38_1 rfl) ?_
      refine rund_ev_g hs17 rfl rfl rfl (by rw [q1] <;> rfl) (ev_load1 cell_3 rfl (fun wz hz => (hcA.ext (e.trans hz)).pick 1 rfl rfl)) ?_
      refine rund_op_g rfl rfl rfl (by rw [q1] <;> rfl) (t_call call_57 rfl (rver_any _ _)) ?_
      rintro _ w26 ⟨rfl, e26⟩
      have z26 := e26.size
      replace ep := ep.trans e26
      replace hb1p := e26.at hb1p
      have hs26 := hs17.trans e26
      refine ⟨hs26, ?_⟩
      refine rund_ev_g hs26 rfl rfl rfl (by rw [q1] <;> rfl) (ev_not rfl) ?_
      refine rund_ev hs26 rfl (ev_pick rfl rfl rfl (if_neg (by rw [q1]; simp))) ?_
      refine rund_ev hs26 rfl (ev_move rfl) ?_
      refine rund_no_g hs26 rfl rfl rfl (by rw [q2] <;> rfl) ?_
      refine rund_no_g hs26 rfl rfl rfl (by rw [q2] <;> rfl) ?_
      refine rund_no_g hs26 rfl rfl rfl (by rw [q2] <;> rfl) ?_
      refine rund_no_u hs26 rfl rfl rfl ?_
      refine rund_no_u hs26 rfl rfl rfl ?_
      refine rund_no_u hs26 rfl rfl rfl ?_
      refine rund_no_u hs26 rfl rfl rfl ?_
      refine rund_no_u hs26 rfl rfl rfl ?_
      refine rund_no_u hs26 rfl rfl rfl ?_
      refine rund_no_u hs26 rfl rfl rfl ?_
      refine rund_no_u hs26 rfl rfl rfl ?_
      refine rund_no_u hs26 rfl rfl rfl ?_
      refine rund_no_u hs26 rfl rfl rfl ?_
      refine rund_no_u hs26 rfl rfl rfl ?_
      refine rund_no_u hs26 rfl rfl rfl ?_
      refine rund_no_u hs26 rfl rfl rfl ?_
      refine rund_no_u hs26 rfl rfl rfl ?_
      refine rund_no_g hs26 rfl rfl rfl (by rw [q2] <;> rfl) ?_
      refine rund_ev hs26 rfl (ev_pick rfl rfl rfl (if_pos (by rw [q2] <;> rfl))) ?_
      refine rund_nil ?_
      replace e := ep
      clear ep
      replace hb1 := hb1p
      clear hb1p
      refine run_cond_true rfl (rfl) ?_
      refine run_seq ?_
      refine run_region rfl ?_
      refine runl_ev (ev_assign rfl) ?_
      refine runl_nil ?_
      refine run_ret_any Tryd.func28 (res1 Tryd.results28 rfl) ?_
      exact ⟨by rw [snap_pins hk1 hno], e⟩
    · have hyes : pinAt x.pins 0 = true := by rw [hpa, q1, q2]; rfl
      refine run_draw mo (fun w' => Ext w1 w') [] [(true, 0), (true, 1), (true, 2), (true, 3), (true, 4), (true, 5), (false, 6), (true, 7), (true, 8), (true, 9), (true, 10), (true, 11), (true, 12), (true, 13), (true, 14), (false, 15), (true, 16), (true, 17), (true, 18), (true, 19), (true, 20), (true, 21), (true, 22), (true, 23), (true, 24), (true, 25), (true, 26), (true, 27), (true, 28), (true, 29), (true, 30), (true, 31), (true, 32), (true, 33), (true, 34), (true, 35), (true, 36), (true, 37)] (by kernel_rfl) ?_
      intro wr4 er4
      have zr4 := er4.size
      have hsr4 := er4
      have ep := e.trans er4
      have hb1p := er4.at hb1
      refine rund_ev hsr4 rfl (ev_fieldAddr fld_35_2 rfl) ?_
      refine rund_ev hsr4 rfl (ev_load1 cell_33 rfl (fun wz hz => cell_blk (hz.at hb1) rfl)) ?_
      refine rund_ev hsr4 rfl (ev_move rfl) ?_
      refine rund_ev hsr4 rfl (ev_indexAddr el_33 rfl rfl (by omega)) ?_
      refine rund_ev hsr4 rfl (ev_fieldAddr fld_38_0 rfl) ?_
      refine rund_ev hsr4 rfl (ev_load1 cell_9 rfl (fun wz hz => (hcA.ext (e.trans hz)).pick 0 rfl rfl)) ?_
      refine rund_op rfl (t_call call_15 rfl (qname_any _ _ (hnb _ (List.getElem_mem hk1)))) ?_
      rintro _ w17 ⟨rfl, e17⟩
      have z17 := e17.size
      replace ep := ep.trans e17
      replace hb1p := e17.at hb1p
      have hs17 := hsr4.trans e17
      refine ⟨hs17, ?_⟩
      refine rund_ev hs17 rfl (ev_not rfl) ?_
      refine rund_ev hs17 rfl (ev_move rfl) ?_
      refine rund_ev_g hs17 rfl rfl rfl (by rw [q1] <;> rfl) (ev_fieldAddr fld_35_2 rfl) ?_
      refine rund_ev_g hs17 rfl rfl rfl (by rw [q1] <;> rfl) (ev_load1 cell_33 rfl (fun wz hz => cell_blk (hz.at hb1) rfl)) ?_
      refine rund_ev_g hs17 rfl rfl rfl (by rw [q1] <;> rfl) (ev_move rfl) ?_
      refine rund_ev_g hs17 rfl rfl rfl (by rw [q1] <;> rfl) (ev_indexAddr el_33 rfl rfl (by omega)) ?_
      refine rund_ev_g hs17 rfl rfl rfl (by rw [q1] <;> rfl) (ev_fieldAddr fld_38_1 rfl) ?_
      refine rund_ev_g hs17 rfl rfl rfl (by rw [q1] <;> rfl) (ev_load1 cell_3 rfl (fun wz hz => (hcA.ext (e.trans hz)).pick 1 rfl rfl)) ?_
      refine rund_op_g rfl rfl rfl (by rw [q1] <;> rfl) (t_call call_57 rfl (rver_any _ _)) ?_
      rintro _ w26 ⟨rfl, e26⟩
      have z26 := e26.size
      replace ep := ep.trans e26
      replace hb1p := e26.at hb1p
      have hs26 := hs17.trans e26
      refine ⟨hs26, ?_⟩
      refine rund_ev_g hs26 rfl rfl rfl (by rw [q1] <;> rfl) (ev_not rfl) ?_
      refine rund_ev hs26 rfl (ev_pick rfl rfl rfl (if_neg (by rw [q1]; simp))) ?_
      refine rund_ev hs26 rfl (ev_move rfl) ?_
      refine rund_ev_g hs26 rfl rfl rfl (by rw [q2] <;> rfl) (ev_move rfl) ?_
      refine rund_ev_g hs26 rfl rfl rfl (by rw [q2] <;> rfl) (ev_gtr rfl rfl) ?_
      refine rund_ev_g hs26 rfl rfl rfl (by rw [q2] <;> rfl) (ev_move rfl) ?_
      refine rund_no_g hs26 rfl rfl rfl (by decide) ?_
      refine rund_no_g hs26 rfl rfl rfl (by decide) ?_
      refine rund_no_g hs26 rfl rfl rfl (by decide) ?_
      refine rund_no_g hs26 rfl rfl rfl (by decide) ?_
      refine rund_no_g hs26 rfl rfl rfl (by decide) ?_
      refine rund_no_g hs26 rfl rfl rfl (by decide) ?_
      refine rund_no_g hs26 rfl rfl rfl (by decide) ?_
      refine rund_no_g hs26 rfl rfl rfl (by decide) ?_
      refine rund_no_g hs26 rfl rfl rfl (by decide) ?_
      refine rund_no_g hs26 rfl rfl rfl (by decide) ?_
      refine rund_no_g hs26 rfl rfl rfl (by decide) ?_
      refine rund_no_g hs26 rfl rfl rfl (by decide) ?_
      refine rund_no_g hs26 rfl rfl rfl (by decide) ?_
      refine rund_no_g hs26 rfl rfl rfl (by decide) ?_
      refine rund_ev_g hs26 rfl rfl rfl (by rw [q2] <;> rfl) (ev_pick rfl rfl rfl (if_neg (by decide))) ?_
      refine rund_ev hs26 rfl (ev_pick rfl rfl rfl (if_neg (by rw [q2]; simp))) ?_
      refine rund_nil ?_
      replace e := ep
      clear ep
      replace hb1 := hb1p
      clear hb1p
      refine run_cond_false rfl (rfl) ?_
      refine run_skip ?_
      refine run_inBlock ?_
      refine run_region rfl ?_
      refine runl_ev (ev_move rfl) ?_
      refine runl_ev (ev_add rfl rfl (by omega) (by omega)) ?_
      refine runl_ev (ev_assign rfl) ?_
      refine runl_nil ?_
      exact IH (0 + 1) _ _ (by omega) ⟨rfl, rfl, trivial⟩ ⟨by omega, range_succ_all hall hyes, hb1, e⟩
    · obtain ⟨bB, oB, cB, heB, hrB, hcB⟩ := hpi.at.2 (k - 1) (by omega)
      cases heB
      obtain rfl := hrB
      obtain ⟨lt, hlt⟩ : ∃ b, b = strLt (x.pins[k - 1]'(by omega)).name x.pins[k].name := ⟨_, rfl⟩
      refine run_draw mo (fun w' => Ext w1 w') [] [(true, 0), (true, 1), (true, 2), (true, 3), (true, 4), (true, 5), (false, 6), (true, 7), (true, 8), (true, 9), (true, 10), (true, 11), (true, 12), (true, 13), (true, 14), (false, 15), (true, 16), (true, 17), (true, 18), (true, 19), (true, 20), (true, 21), (true, 22), (true, 23), (true, 24), (true, 25), (true, 26), (true, 27), (true, 28), (true, 29), (true, 30), (true, 31), (true, 32), (true, 33), (true, 34), (true, 35), (true, 36), (true, 37)] (by kernel_rfl) ?_
      intro wr4 er4
      have zr4 := er4.size
      have hsr4 := er4
      have ep := e.trans er4
      have hb1p := er4.at hb1
      refine rund_ev hsr4 rfl (ev_fieldAddr fld_35_2 rfl) ?_
      refine rund_ev hsr4 rfl (ev_load1 cell_33 rfl (fun wz hz => cell_blk (hz.at hb1) rfl)) ?_
      refine rund_ev hsr4 rfl (ev_move rfl) ?_
      refine rund_ev hsr4 rfl (ev_indexAddr el_33 rfl rfl (by omega)) ?_
      refine rund_ev hsr4 rfl (ev_fieldAddr fld_38_0 rfl) ?_
      refine rund_ev hsr4 rfl (ev_load1 cell_9 rfl (fun wz hz => (hcA.ext (e.trans hz)).pick 0 rfl rfl)) ?_
      refine rund_op rfl (t_call call_15 rfl (qname_any _ _ (hnb _ (List.getElem_mem hk1)))) ?_
      rintro _ w17 ⟨rfl, e17⟩
      have z17 := e17.size
      replace ep := ep.trans e17
      replace hb1p := e17.at hb1p
      have hs17 := hsr4.trans e17
      refine ⟨hs17, ?_⟩
      refine rund_ev hs17 rfl (ev_not rfl) ?_
      refine rund_ev hs17 rfl (ev_move rfl) ?_
      refine rund_ev_g hs17 rfl rfl rfl (by rw [q1] <;> rfl) (ev_fieldAddr fld_35_2 rfl) ?_
      refine rund_ev_g hs17 rfl rfl rfl (by rw [q1] <;> rfl) (ev_load1 cell_33 rfl (fun wz hz => cell_blk (hz.at hb1) rfl)) ?_
      refine rund_ev_g hs17 rfl rfl rfl (by rw [q1] <;> rfl) (ev_move rfl) ?_
      refine rund_ev_g hs17 rfl rfl rfl (by rw [q1] <;> rfl) (ev_indexAddr el_33 rfl rfl (by omega)) ?_
      refine rund_ev_g hs17 rfl rfl rfl (by rw [q1] <;> rfl) (ev_fieldAddr fld_38_1 rfl) ?_
      refine rund_ev_g hs17 rfl rfl rfl (by rw [q1] <;> rfl) (ev_load1 cell_3 rfl (fun wz hz => (hcA.ext (e.trans hz)).pick 1 rfl rfl)) ?_
      refine rund_op_g rfl rfl rfl (by rw [q1] <;> rfl) (t_call call_57 rfl (rver_any _ _)) ?_
      rintro _ w26 ⟨rfl, e26⟩
      have z26 := e26.size
      replace ep := ep.trans e26
      replace hb1p := e26.at hb1p
      have hs26 := hs17.trans e26
      refine ⟨hs26, ?_⟩
      refine rund_ev_g hs26 rfl rfl rfl (by rw [q1] <;> rfl) (ev_not rfl) ?_
      refine rund_ev hs26 rfl (ev_pick rfl rfl rfl (if_neg (by rw [q1]; simp))) ?_
      refine rund_ev hs26 rfl (ev_move rfl) ?_
      refine rund_ev_g hs26 rfl rfl rfl (by rw [q2] <;> rfl) (ev_move rfl) ?_
      refine rund_ev_g hs26 rfl rfl rfl (by rw [q2] <;> rfl) (ev_gtr rfl rfl) ?_
      refine rund_ev_g hs26 rfl rfl rfl (by rw [q2] <;> rfl) (ev_move rfl) ?_
      refine rund_ev_g hs26 rfl rfl rfl (decide_eq_true (by omega)) (ev_fieldAddr fld_35_2 rfl) ?_
      refine rund_ev_g hs26 rfl rfl rfl (decide_eq_true (by omega)) (ev_load1 cell_33 rfl (fun wz hz => cell_blk (hz.at hb1) rfl)) ?_
      refine rund_ev_g hs26 rfl rfl rfl (decide_eq_true (by omega)) (ev_move rfl) ?_
      refine rund_ev_g hs26 rfl rfl rfl (decide_eq_true (by omega)) (ev_subK (((k - 1 : Nat) : Int)) rfl rfl (by rw [show ((k : Int) - 1) = ((k - 1 : Nat) : Int) by omega]; exact wrap_i64 (by omega) (by omega))) ?_
      refine rund_ev_g hs26 rfl rfl rfl (decide_eq_true (by omega)) (ev_indexAddr (k := k - 1) el_33 rfl rfl (by omega)) ?_
      refine rund_ev_g hs26 rfl rfl rfl (decide_eq_true (by omega)) (ev_fieldAddr fld_38_0 rfl) ?_
      refine rund_ev_g hs26 rfl rfl rfl (decide_eq_true (by omega)) (ev_load1 cell_9 rfl (fun wz hz => (hcB.ext (e.trans hz)).pick 0 rfl rfl)) ?_
      refine rund_ev_g hs26 rfl rfl rfl (decide_eq_true (by omega)) (ev_fieldAddr fld_35_2 rfl) ?_
      refine rund_ev_g hs26 rfl rfl rfl (decide_eq_true (by omega)) (ev_load1 cell_33 rfl (fun wz hz => cell_blk (hz.at hb1) rfl)) ?_
      refine rund_ev_g hs26 rfl rfl rfl (decide_eq_true (by omega)) (ev_move rfl) ?_
      refine rund_ev_g hs26 rfl rfl rfl (decide_eq_true (by omega)) (ev_indexAddr el_33 rfl rfl (by omega)) ?_
      refine rund_ev_g hs26 rfl rfl rfl (decide_eq_true (by omega)) (ev_fieldAddr fld_38_0 rfl) ?_
      refine rund_ev_g hs26 rfl rfl rfl (decide_eq_true (by omega)) (ev_load1 cell_9 rfl (fun wz hz => (hcA.ext (e.trans hz)).pick 0 rfl rfl)) ?_
      refine rund_ev_g hs26 rfl rfl rfl (decide_eq_true (by omega)) (ev_geqS rfl rfl) ?_
      refine rund_ev_g hs26 rfl rfl rfl (by rw [q2] <;> rfl) (ev_pick rfl rfl rfl (if_pos (decide_eq_true (by omega)))) ?_
      refine rund_ev hs26 rfl (ev_pick rfl rfl rfl (if_neg (by rw [q2]; simp))) ?_
      refine rund_nil ?_
      replace e := ep
      clear ep
      replace hb1 := hb1p
      clear hb1p
      refine run_cond_split rfl (fun h1 => ?_) (fun h1 => ?_)
      · have hno : pinAt x.pins k = false := by rw [hpa, q1, q2, decide_eq_false (by omega : ¬ k = 0)]; simpa using h1
        refine run_seq ?_
        refine run_region rfl ?_
        refine runl_ev (ev_assign rfl) ?_
        refine runl_nil ?_
        refine run_ret_any Tryd.func28 (res1 Tryd.results28 rfl) ?_
        exact ⟨by rw [snap_pins hk1 hno], e⟩
      · have hyes : pinAt x.pins k = true := by rw [hpa, q1, q2, decide_eq_false (by omega : ¬ k = 0)]; simpa using h1
        refine run_skip ?_
        refine run_inBlock ?_
        refine run_region rfl ?_
        refine runl_ev (ev_move rfl) ?_
        refine runl_ev (ev_add rfl rfl (by omega) (by omega)) ?_
        refine runl_ev (ev_assign rfl) ?_
        refine runl_nil ?_
        exact IH (k + 1) _ _ (by omega) ⟨rfl, rfl, trivial⟩ ⟨by omega, range_succ_all hall hyes, hb1, e⟩
  · obtain rfl : k = x.pins.length := by omega
    refine run_exit rfl ?_
    refine run_seq ?_
    refine run_region rfl ?_
    refine runl_ev (ev_fieldAddr fld_35_0 rfl) ?_
    refine runl_ev (ev_load1 cell_3 rfl (eqw (cell_blk hb1 rfl))) ?_
    refine runl_op (t_call call_57 rfl (rver_any x.ver _)) ?_
    rintro _ w51 ⟨rfl, e51⟩
    have z51 := e51.size
    replace e := e.trans e51
    replace hb1 := e51.at hb1
    cases hv : verB x.ver
    · refine runl_ev (ev_move rfl) ?_
      refine runl_no_g rfl rfl (rfl) ?_
      refine runl_no_g rfl rfl (rfl) ?_
      refine runl_no_g rfl rfl (rfl) ?_
      refine runl_no_g rfl rfl (rfl) ?_
      refine runl_ev (ev_pick rfl rfl rfl (if_neg (by simp))) ?_
      refine runl_ev (ev_move rfl) ?_
      refine runl_no_g rfl rfl (rfl) ?_
      refine runl_no_g rfl rfl (rfl) ?_
      refine runl_no_g rfl rfl (rfl) ?_
      refine runl_no_g rfl rfl (rfl) ?_
      refine runl_ev (ev_pick rfl rfl rfl (if_neg (by simp))) ?_
      refine runl_ev (ev_assign rfl) ?_
      refine runl_nil ?_
      refine run_ret_any Tryd.func28 (res1 Tryd.results28 rfl) ?_
      exact ⟨by simp [isSnapP, hv], e⟩
    · refine runl_ev (ev_move rfl) ?_
      refine runl_ev_g rfl rfl (rfl) (ev_fieldAddr fld_35_1 rfl) ?_
      refine runl_ev_g rfl rfl (rfl) (ev_load1 cell_3 rfl (eqw (cell_blk hb1 rfl))) ?_
      refine runl_op_g rfl rfl (rfl) (t_buildSlice (out := [.int .i64 x.exp]) Tryd.underlying111 sz_3 zero_3 rfl rfl (by decide) (by decide) rfl (rfl)) ?_
      rintro _ w55 ⟨b55, rfl, hb55, e55, n55, l55⟩
      have z55 := e55.size
      replace e := e.trans e55
      replace hb1 := e55.at hb1
      refine runl_op_g rfl rfl (rfl) (t_call call_38 rfl (rnums_any [x.exp] _ _ _ _ (sl_lit (l := [x.exp]) (R := RInt) hb55 (pc rfl pn)) (by simp))) ?_
      rintro _ w56 ⟨rfl, e56⟩
      have z56 := e56.size
      replace e := e.trans e56
      replace hb1 := e56.at hb1
      replace hb55 := e56.at hb55
      have hall1 : [x.exp].all numB = numB x.exp := by simp
      rw [hall1]
      cases hx : numB x.exp
      · refine runl_ev (ev_pick rfl rfl rfl (if_pos (rfl))) ?_
        refine runl_ev (ev_move rfl) ?_
        refine runl_no_g rfl rfl (rfl) ?_
        refine runl_no_g rfl rfl (rfl) ?_
        refine runl_no_g rfl rfl (rfl) ?_
        refine runl_no_g rfl rfl (rfl) ?_
        refine runl_ev (ev_pick rfl rfl rfl (if_neg (by simp))) ?_
        refine runl_ev (ev_assign rfl) ?_
        refine runl_nil ?_
        refine run_ret_any Tryd.func28 (res1 Tryd.results28 rfl) ?_
        exact ⟨by simp [isSnapP, hv, hx], e⟩
      · refine runl_ev (ev_pick rfl rfl rfl (if_pos (rfl))) ?_
        refine runl_ev (ev_move rfl) ?_
        refine runl_ev_g rfl rfl (rfl) (ev_fieldAddr fld_35_2 rfl) ?_
        refine runl_ev_g rfl rfl (rfl) (ev_load1 cell_33 rfl (eqw (cell_blk hb1 rfl))) ?_
        refine runl_ev_g rfl rfl (rfl) (ev_lenL sl_33 rfl) ?_
        refine runl_ev_g rfl rfl (rfl) (ev_leq rfl rfl) ?_
        refine runl_ev (ev_pick rfl rfl rfl (if_pos (rfl))) ?_
        refine runl_ev (ev_assign rfl) ?_
        refine runl_nil ?_
        refine run_ret_any Tryd.func28 (res1 Tryd.results28 rfl) ?_
        refine ⟨?_, e⟩
        rw [isSnapP, hall, hv, hx]
        congr 1
        exact decide_eq_decide.2 (by omega)
theorem rbytes1_any (bs : List UInt8) (w : World) (a : Option Addr) (n c : Nat) (hs : SlAt 1 RByte w (.slice a n c) bs) (hn : bs.length ≤ 1000000000) : Ret Tryd.prog 58 [.slice a n c] w (OwnB 5 w (encBs bs)) := by
  have e := ExtB.refl (fun _ => False) w
  have hs0 := hs
  obtain ⟨rfl, -⟩ := hs.at
  have hnl := encN_len bs.length
  refine ret_of_run Tryd.func58 rfl Tryd.ntmps58 rfl ?_
  refine run_seq ?_
  refine run_region rfl ?_
  refine runl_ev (ev_assign rfl) ?_
  refine runl_nil ?_
  refine run_seq ?_
  refine run_region rfl ?_
  refine runl_ev (ev_move rfl) ?_
  refine runl_ev (ev_lenL sl_24 rfl) ?_
  refine runl_op (t_call call_31 rfl (rnum1_any (bs.length : Int) _)) ?_
  rintro v5 w5 ow5
  have ow := ow5.from e
  obtain ⟨xs, g, own, hpp, hxl, -, hg, hgl⟩ := ow.open
  have e5 := ow5.ext
  have z5 := e5.size
  replace e := e.trans e5
  refine runl_ev (ev_move rfl) ?_
  refine runl_op (t_appendL (l := bs) (R := RByte) ef_24 rfl rfl own (hs0.ext RByte.stable e) rbyte_len (fun x cs h => rbyte_one x cs h) (by unfold maxLen; omega) (by omega)) ?_
  rintro v7 w7 ⟨n7, g7, hnl7, hnp7, ap7⟩
  have z7 := ap7.size
  have ow7 := OwnL.app flat_byte e hg (by omega) (hpp.mono fun _ _ _ hr => flat_byte _ _ _ _ hr) hxl hnp7 ap7 (by first | rfl | rw [List.length_append]) rfl
  refine runl_ev (ev_assign rfl) ?_
  refine runl_nil ?_
  refine run_ret_any Tryd.func58 (res1 Tryd.results58 rfl) ?_
  exact ow7
theorem qtext_any (s : ByteArray) (w : World) (hn : s.size ≤ 1000000000) : Ret Tryd.prog 30 [.string s] w (OwnB 5 w (encText s)) := by
  have e := ExtB.refl (fun _ => False) w
  refine ret_of_run Tryd.func30 rfl Tryd.ntmps30 rfl ?_
  refine run_seq ?_
  refine run_region rfl ?_
  refine runl_ev (ev_assign rfl) ?_
  refine runl_nil ?_
  refine run_seq ?_
  refine run_region rfl ?_
  refine runl_ev (ev_move rfl) ?_
  refine runl_op (t_convSB Tryd.underlying9 Tryd.underlying24 Tryd.underlying5 rfl) ?_
  rintro _ w4 ⟨b4, c4, rfl, hc4, sl4, e4, n4, l4⟩
  have z4 := e4.size
  replace e := e.trans e4
  refine runl_op (t_call call_58 rfl (rbytes1_any (tb s) _ _ _ _ sl4 hn)) ?_
  rintro v5 w5 ow5
  have ow := ow5.from e
  have e5 := ow5.ext
  have z5 := e5.size
  replace e := e.trans e5
  refine runl_ev (ev_assign rfl) ?_
  refine runl_nil ?_
  refine run_ret_any Tryd.func30 (res1 Tryd.results30 rfl) ?_
  exact ow
theorem rencsnap_any (x : SnapP) (cs : List Value) (w : World) (hx : RSnap w x cs) (hn : x.pins.length ≤ 2000000) (hnb : ∀ p ∈ x.pins, p.name.size ≤ 1099511627776) :
    Ret Tryd.prog 11 [.agg ⟨cs⟩] w fun v w' => ∃ p, v = .tuple #[p, .int .i64 (encE isSnapP x)] ∧ OwnB 5 w (encP 3 isSnapP encSnap x) p w' := by
  have e := ExtB.refl (fun _ => False) w
  have hcl := rsnap_len hx
  have hx0 := hx
  obtain ⟨a, c, rfl, hpi⟩ := hx
  have hn3 := encNs_len [3, x.ver, x.exp, (x.pins.length : Int)]
  simp only [List.length_cons, List.length_nil] at hn3
  refine ret_of_run Tryd.func11 rfl Tryd.ntmps11 rfl ?_
  refine run_seq ?_
  refine run_region rfl ?_
  refine runl_op (t_boxA rfl) ?_
  rintro _ w1 ⟨b1, rfl, hb1, e1, n1, l1⟩
  have z1 := e1.size
  replace e := e.trans e1
  have E1 := e
  clear e
  have e := ExtB.refl (fun _ => False) w1
  have lb1 := lt_of_at hb1
  refine runl_ev (ev_assign rfl) ?_
  refine runl_ev (ev_assign rfl) ?_
  refine runl_nil ?_
  refine run_seq ?_
  refine run_seq ?_
  refine run_region rfl ?_
  refine runl_ev (ev_loadA agg_35 hcl rfl (eqw (cells_all hb1))) ?_
  refine runl_op (t_call call_28 rfl (qissnap_any x _ _ (RSnap.stable _ _ _ _ (E1.trans e) hx0) (by omega) hnb)) ?_
  rintro _ w7 ⟨rfl, e7⟩
  have z7 := e7.size
  replace e := e.trans e7
  replace hb1 := e7.at hb1
  refine runl_ev (ev_not rfl) ?_
  refine runl_nil ?_
  refine run_cond_split rfl (fun h0 => ?_) (fun h0 => ?_)
  · have hm : isSnapP x = false := by simpa using h0
    refine run_seq ?_
    refine run_region rfl ?_
    refine runl_ev (ev_assign rfl) ?_
    refine runl_ev (ev_assign rfl) ?_
    refine runl_nil ?_
    refine run_ret_any Tryd.func11 (res2 Tryd.results11 rfl rfl) ?_
    refine ⟨_, by rw [encE, hm]; rfl, ?_⟩
    rw [show encP 3 isSnapP encSnap x = [] by unfold encP; rw [hm]; rfl]
    exact OwnL.nil _ _ (E1.trans e)
  · have hm : isSnapP x = true := by simpa using h0
    have hb := encSnap_len hm
    have hnm := snap_names hm
    unfold encSnap at hb
    simp only [List.length_append] at hb
    refine run_skip ?_
    refine run_seq ?_
    refine run_region rfl ?_
    refine runl_ev (ev_fieldAddr fld_35_0 rfl) ?_
    refine runl_ev (ev_load1 cell_3 rfl (eqw (cell_blk hb1 rfl))) ?_
    refine runl_ev (ev_fieldAddr fld_35_1 rfl) ?_
    refine runl_ev (ev_load1 cell_3 rfl (eqw (cell_blk hb1 rfl))) ?_
    refine runl_ev (ev_fieldAddr fld_35_2 rfl) ?_
    refine runl_ev (ev_load1 cell_33 rfl (eqw (cell_blk hb1 rfl))) ?_
    refine runl_ev (ev_lenL sl_33 rfl) ?_
    refine runl_op (t_buildSlice (out := [.int .i64 3, .int .i64 x.ver, .int .i64 x.exp, .int .i64 (x.pins.length : Int)]) Tryd.underlying111 sz_3 zero_3 rfl rfl (by decide) (by decide) rfl (rfl)) ?_
    rintro _ w16 ⟨b16, rfl, hb16, e16, n16, l16⟩
    have z16 := e16.size
    replace e := e.trans e16
    replace hb1 := e16.at hb1
    refine runl_op (t_call call_29 rfl (rnums1_any [3, x.ver, x.exp, (x.pins.length : Int)] _ _ _ _ (sl_lit (l := [3, x.ver, x.exp, (x.pins.length : Int)]) (R := RInt) hb16 (pc rfl (pc rfl (pc rfl (pc rfl pn))))) (by simp))) ?_
    rintro v17 w17 ow17
    have e17 := ow17.ext
    have ow := ow17.from e
    have z17 := e17.size
    replace e := e.trans e17
    replace hb1 := e17.at hb1
    replace hb16 := e17.at hb16
    clear ow17
    refine runl_ev (ev_assign rfl) ?_
    refine runl_nil ?_
    refine run_seq ?_
    refine run_seq ?_
    refine run_region rfl ?_
    refine runl_ev (ev_assign rfl) ?_
    refine runl_nil ?_
    refine run_block ?_
    refine run_loop (ι := Nat × Value) (fun x => [(1, .pointer (some ⟨b1, 0, none⟩)), (4, x.2), (5, .int .i64 (x.1 : Int))]) (fun y w2 => y.1 ≤ x.pins.length ∧ w2.heap[b1]? = some (.cells ⟨[.int .i64 x.ver, .int .i64 x.exp, .slice a x.pins.length c]⟩ 35 (0, 0)) ∧ OwnB 5 w1 (encNs [3, x.ver, x.exp, (x.pins.length : Int)] ++ (x.pins.take y.1).flatMap encPin) y.2 w2) (fun y => x.pins.length - y.1) ((0, v17)) ⟨rfl, rfl, rfl, trivial⟩ (⟨Nat.zero_le _, hb1, by simpa using ow⟩) ?_
    clear e hb1 ow
    intro ⟨k, v⟩ w2 ⟨hk, hb1, ow⟩ IH
    simp only at hk ow
    obtain ⟨xs, g, own, hpp, hxl, e, hg, hgl⟩ := ow.open
    have ze := e.size
    have htl0 := flat_take_le (f := encPin) (l := x.pins) k
    have hol : (encNs [3, x.ver, x.exp, (x.pins.length : Int)] ++ (x.pins.take k).flatMap encPin).length = (encNs [3, x.ver, x.exp, (x.pins.length : Int)]).length + ((x.pins.take k).flatMap encPin).length := by rw [List.length_append]
    refine run_seq ?_
    refine run_seq ?_
    refine run_region rfl ?_
    refine runl_ev (ev_move rfl) ?_
    refine runl_ev (ev_fieldAddr fld_35_2 rfl) ?_
    refine runl_ev (ev_load1 cell_33 rfl (eqw (cell_blk hb1 rfl))) ?_
    refine runl_ev (ev_lenL sl_33 rfl) ?_
    refine runl_ev (ev_lss rfl rfl) ?_
    refine runl_nil ?_
    refine run_dcond rfl (fun h1 => ?_) (fun h1 => ?_)
    · have hk1 : k < x.pins.length := by omega
      obtain ⟨bA, oA, cA, rfl, hrA, hcA⟩ := hpi.at.2 k hk1
      obtain rfl := hrA
      have htk := flat_take (f := encPin) hk1
      have htl := flat_take_le (f := encPin) (l := x.pins) (k + 1)
      rw [htk, List.length_append] at htl
      have hpl : (encPin x.pins[k]).length = (encText x.pins[k].name).length + (encN x.pins[k].ver).length := by unfold encPin; rw [List.length_append]
      have hn12 := hnm _ (List.getElem_mem hk1)
      refine run_skip ?_
      refine run_seq ?_
      refine run_block ?_
      refine run_draw mo (fun w' => w'.heap[b1]? = some (.cells ⟨[.int .i64 x.ver, .int .i64 x.exp, .slice (some ⟨bA, oA, none⟩) x.pins.length c]⟩ 35 (0, 0)) ∧ Ext w1 w') [] [(true, 0), (true, 1), (true, 2), (true, 3), (true, 4), (true, 5), (true, 6), (true, 9), (true, 10), (true, 11), (true, 12), (true, 13), (true, 14), (false, 7), (false, 8), (false, 15), (false, 16), (true, 17)] (by kernel_rfl) ?_
      intro wr7 er7
      have zr7 := er7.size
      have hsr7 : (fun w' => w'.heap[b1]? = some (.cells ⟨[.int .i64 x.ver, .int .i64 x.exp, .slice (some ⟨bA, oA, none⟩) x.pins.length c]⟩ 35 (0, 0)) ∧ Ext w1 w') wr7 := ⟨er7.at hb1, e.trans er7⟩
      have ep := e.trans er7
      have ownp := own.ext er7
      have hb1p := er7.at hb1
      refine rund_ev hsr7 rfl (ev_move rfl) ?_
      refine rund_ev hsr7 rfl (ev_fieldAddr fld_35_2 rfl) ?_
      refine rund_ev hsr7 rfl (ev_load1 cell_33 rfl (fun wz hz => cell_blk hz.1 rfl)) ?_
      refine rund_ev hsr7 rfl (ev_move rfl) ?_
      refine rund_ev hsr7 rfl (ev_indexAddr el_33 rfl rfl (by omega)) ?_
      refine rund_ev hsr7 rfl (ev_fieldAddr fld_38_0 rfl) ?_
      refine rund_ev hsr7 rfl (ev_load1 cell_9 rfl (fun wz hz => (hcA.ext (E1.trans hz.2)).pick 0 rfl rfl)) ?_
      refine rund_ev hsr7 rfl (ev_fieldAddr fld_35_2 rfl) ?_
      refine rund_ev hsr7 rfl (ev_load1 cell_33 rfl (fun wz hz => cell_blk hz.1 rfl)) ?_
      refine rund_ev hsr7 rfl (ev_move rfl) ?_
      refine rund_ev hsr7 rfl (ev_indexAddr el_33 rfl rfl (by omega)) ?_
      refine rund_ev hsr7 rfl (ev_fieldAddr fld_38_1 rfl) ?_
      refine rund_ev hsr7 rfl (ev_load1 cell_3 rfl (fun wz hz => (hcA.ext (E1.trans hz.2)).pick 1 rfl rfl)) ?_
      refine rund_op rfl (t_call call_30 rfl (qtext_any x.pins[k].name _ (by omega))) ?_
      rintro v32 w32 ow32
      have e32 := ow32.ext
      have og32 := ow32.g
      obtain ⟨a32, c32, rfl, hc32, -, -⟩ := og32.sl
      have z32 := e32.size
      replace ep := ep.trans e32
      replace ownp := ownp.ext e32
      replace hb1p := e32.at hb1p
      have hs32 := And.intro hb1p ep
      refine ⟨hs32, ?_⟩
      have og32p := og32
      refine rund_op rfl (t_appendL (l := encText x.pins[k].name) (R := RByte) ef_24 rfl rfl ownp og32p.slat rbyte_len (fun x cs h => rbyte_one x cs h) (by unfold maxLen; (try simp only [List.length_append]); omega) (by (try simp only [List.length_append]); omega)) ?_
      rintro v33 w33 ⟨n33, gg33, hnl33, hnp33, ap33⟩
      have og33 := OwnG.app flat_byte (w := w1) (by omega) (by omega : g = -1 ∨ (w1.heap.size : Int) ≤ g) (by omega) (hpp.mono fun _ _ _ hr => flat_byte _ _ _ _ hr) hxl hnp33 ap33 rfl rfl
      obtain ⟨xs33, g33, own33, hpp33, hxl33, hg33, hgl33⟩ := og33.open
      have z33 := ap33.ext.size
      replace ep := ep.newG ap33.ext (by omega)
      replace hb1p := ap33.ext.atG hb1p (by omega)
      replace og32p := og32p.keep flat_byte ap33.ext (fun k hk => by first | exact .inl (by omega) | exact .inr (by omega))
      have hsp33_ext := And.intro hb1p ep
      refine ⟨hsp33_ext, ?_⟩
      have own33p := own33
      refine rund_op rfl (t_call call_31 rfl (rnum1_any x.pins[k].ver _)) ?_
      rintro v40 w40 ow40
      have e40 := ow40.ext
      have og40 := ow40.g
      obtain ⟨a40, c40, rfl, hc40, -, -⟩ := og40.sl
      have z40 := e40.size
      replace ep := ep.trans e40
      replace hb1p := e40.at hb1p
      replace own33p := own33p.ext e40
      have hs40 := And.intro hb1p ep
      refine ⟨hs40, ?_⟩
      have og40p := og40
      refine rund_op rfl (t_appendL (l := encN x.pins[k].ver) (R := RByte) ef_24 rfl rfl own33p og40p.slat rbyte_len (fun x cs h => rbyte_one x cs h) (by unfold maxLen; (try simp only [List.length_append]); omega) (by (try simp only [List.length_append]); omega)) ?_
      rintro v41 w41 ⟨n41, gg41, hnl41, hnp41, ap41⟩
      have og41 := OwnG.app flat_byte (w := w1) (by omega) (by omega : g33 = -1 ∨ (w1.heap.size : Int) ≤ g33) (by omega) (hpp33.mono fun _ _ _ hr => flat_byte _ _ _ _ hr) hxl33 hnp41 ap41 rfl rfl
      obtain ⟨xs41, g41, own41, hpp41, hxl41, hg41, hgl41⟩ := og41.open
      have z41 := ap41.ext.size
      replace ep := ep.newG ap41.ext (by omega)
      replace hb1p := ap41.ext.atG hb1p (by omega)
      replace og40p := og40p.keep flat_byte ap41.ext (fun k hk => by first | exact .inl (by omega) | exact .inr (by omega))
      have hsp41_ext := And.intro hb1p ep
      refine ⟨hsp41_ext, ?_⟩
      have own41p := own41
      refine rund_ev hsp41_ext rfl (ev_assign rfl) ?_
      refine rund_nil ?_
      replace e := ep
      clear ep
      replace hb1 := hb1p
      clear hb1p
      replace own41 := own41p
      clear own41p
      refine run_inBlock ?_
      refine run_region rfl ?_
      refine runl_ev (ev_move rfl) ?_
      refine runl_ev (ev_add rfl rfl (by omega) (by omega)) ?_
      refine runl_ev (ev_assign rfl) ?_
      refine runl_nil ?_
      have ow41 := OwnG.l og41 e
      refine IH (k + 1, v41) _ _ (by simp only; omega) ⟨rfl, rfl, rfl, trivial⟩ ⟨hk1, hb1, ?_⟩
      simp only
      rw [htk, show encPin x.pins[k] = encText x.pins[k].name ++ encN x.pins[k].ver from rfl]
      simpa only [List.append_assoc] using ow41
    · obtain rfl : k = x.pins.length := by omega
      rw [List.take_length] at ow
      refine run_exit rfl ?_
      refine run_seq ?_
      refine run_region rfl ?_
      refine runl_ev (ev_move rfl) ?_
      refine runl_ev (ev_assign rfl) ?_
      refine runl_ev (ev_assign rfl) ?_
      refine runl_nil ?_
      refine run_ret_any Tryd.func11 (res2 Tryd.results11 rfl rfl) ?_
      refine ⟨_, by rw [encE, hm]; rfl, ?_⟩
      rw [show encP 3 isSnapP encSnap x = encNs [3, x.ver, x.exp, (x.pins.length : Int)] ++ x.pins.flatMap encPin by unfold encP encSnap; rw [hm]; simp [encNs]]
      exact OwnL.from E1 ow
end Go.Proofs.YtcmbiaibocdfeaaDoor

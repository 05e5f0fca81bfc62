/- Numbers and records as bytes, in plain lists: what wire writes and reads. -/
import Derived.Test.YtcmbiaibocdfeaaDoorFwF
namespace Go.Fw

/-! ### What is written -/
def encU (u : Nat) : List UInt8 := if u < 128 then [UInt8.ofNat u] else UInt8.ofNat (u % 128 + 128) :: encU (u / 128)
termination_by u
decreasing_by omega
def clampN (v : Int) : Nat := (max 0 (min v 4611686018427387904)).toNat
def encN (v : Int) : List UInt8 := encU (clampN v)
def encNs (l : List Int) : List UInt8 := l.flatMap encN
def encBs (b : List UInt8) : List UInt8 := encN b.length ++ b

/-! ### What is read -/
structure RS where
  rest : List UInt8
  bad : Bool
def RS.fail : RS := ⟨[], true⟩
def RS.ok (s : RS) : Prop := s.bad = true → s.rest = []
def rdN (i u : Nat) : List UInt8 → Option (Nat × List UInt8)
  | [] => none
  | c :: r =>
    if 9 ≤ i ∨ (0 < i ∧ c = 0) then none
    else if c.toNat < 128 then (if 4611686018427387904 < u + c.toNat * 128 ^ i then none else some (u + c.toNat * 128 ^ i, r))
    else rdN (i + 1) (u + (c.toNat - 128) * 128 ^ i) r
def RS.num (s : RS) : Int × RS := match rdN 0 0 s.rest with
  | some (u, r) => (u, ⟨r, s.bad⟩)
  | none => (0, .fail)
def RS.raw (s : RS) (n : Int) : List UInt8 × RS :=
  if n < 0 ∨ (s.rest.length : Int) < n then ([], .fail) else (s.rest.take n.toNat, ⟨s.rest.drop n.toNat, s.bad⟩)
def RS.bytes (s : RS) : List UInt8 × RS := s.num.2.raw s.num.1
def RS.hash (s : RS) : List UInt8 × RS := let p := s.raw 32; (if p.1.length = 32 then p.1 else List.replicate 32 0, p.2)
def RS.whole (s : RS) : Bool := !s.bad && s.rest.isEmpty
def takenL {α : Type} (take : RS → α × RS) : Nat → List α → RS → List α × RS
  | 0, acc, s => (acc, s)
  | n + 1, acc, s => if s.bad = true then (acc, s) else takenL take n (acc ++ [(take s).1]) (take s).2

/-! ### A number is written in one way alone -/
theorem encU_small {u : Nat} (h : u < 128) : encU u = [UInt8.ofNat u] := by rw [encU, if_pos h]
theorem encU_more {u : Nat} (h : ¬ u < 128) : encU u = UInt8.ofNat (u % 128 + 128) :: encU (u / 128) := by rw [encU, if_neg h]
theorem encU_ne (u : Nat) : encU u ≠ [] := by
  by_cases h : u < 128
  · rw [encU_small h]; simp
  · rw [encU_more h]; simp
theorem clampN_nat {n : Nat} (h : n ≤ 4611686018427387904) : clampN (n : Int) = n := by unfold clampN; omega
/-- What was read is what is written of it. -/
theorem rdN_enc : ∀ (l : List UInt8) (i u n : Nat) (r : List UInt8), rdN i u l = some (n, r) → ∃ m, n = u + m * 128 ^ i ∧ l = encU m ++ r ∧ (0 < i → m ≠ 0) ∧ n ≤ 4611686018427387904
  | [], i, u, n, r, h => by simp [rdN] at h
  | c :: l, i, u, n, r, h => by
    rw [rdN] at h
    split at h
    · cases h
    · rename_i h0
      have hc : c.toNat < 256 := c.toNat_lt
      split at h
      · rename_i hlt
        split at h
        · cases h
        · rename_i hle
          simp only [Option.some.injEq, Prod.mk.injEq] at h
          obtain ⟨rfl, rfl⟩ := h
          refine ⟨c.toNat, rfl, ?_, fun hi hz => ?_, by omega⟩
          · rw [encU_small hlt]; simp
          · exact h0 (.inr ⟨hi, by apply UInt8.toNat_inj.1; simpa using hz⟩)
      · rename_i hge
        obtain ⟨m, hn, hl, hm, hb⟩ := rdN_enc l (i + 1) _ n r h
        have hm0 := hm (by omega)
        refine ⟨m * 128 + (c.toNat - 128), ?_, ?_, fun _ => by omega, hb⟩
        · rw [hn, Nat.add_mul, Nat.mul_assoc, Nat.pow_succ, Nat.mul_comm 128 (128 ^ i)]
          omega
        · rw [encU_more (by omega)]
          have h1 : (m * 128 + (c.toNat - 128)) / 128 = m := by omega
          have h2 : (m * 128 + (c.toNat - 128)) % 128 = c.toNat - 128 := by omega
          rw [h1, h2, hl]
          have h3 : c.toNat - 128 + 128 = c.toNat := by omega
          rw [h3]
          simp
/-- What is written is read as it was. -/
theorem rdN_of_enc (r : List UInt8) : ∀ (k m i u : Nat), m < 128 ^ (k + 1) → i + k < 9 → (0 < i → m ≠ 0) → u + m * 128 ^ i ≤ 4611686018427387904 → rdN i u (encU m ++ r) = some (u + m * 128 ^ i, r)
  | k, m, i, u, hm, hi, h0, hb => by
    by_cases h : m < 128
    · rw [encU_small h]
      have h1 : (UInt8.ofNat m).toNat = m := by simp; omega
      simp only [List.cons_append, List.nil_append, rdN, h1]
      rw [if_neg, if_pos h, if_neg (by omega)]
      rintro (h2 | ⟨h2, h3⟩)
      · omega
      · have := congrArg UInt8.toNat h3
        rw [h1] at this
        exact h0 h2 this
    · rw [encU_more h]
      have h1 : (UInt8.ofNat (m % 128 + 128)).toNat = m % 128 + 128 := by simp; omega
      simp only [List.cons_append, rdN, h1]
      rw [if_neg, if_neg (by omega)]
      · cases k with
        | zero => simp at hm; omega
        | succ k =>
          have hp : m / 128 < 128 ^ (k + 1) := by
            rw [Nat.div_lt_iff_lt_mul (by omega), ← Nat.pow_succ]
            exact hm
          have e : u + (m % 128 + 128 - 128) * 128 ^ i + m / 128 * 128 ^ (i + 1) = u + m * 128 ^ i := by
            have h2 : m = m / 128 * 128 + m % 128 := by omega
            have h3 : m * 128 ^ i = (m / 128 * 128 + m % 128) * 128 ^ i := by rw [← h2]
            rw [h3, Nat.add_mul, Nat.pow_succ, Nat.add_sub_cancel, Nat.mul_comm (128 ^ i) 128, Nat.mul_assoc]
            omega
          have := rdN_of_enc r k (m / 128) (i + 1) (u + (m % 128 + 128 - 128) * 128 ^ i) hp (by omega) (fun _ => by omega) (by rw [e]; exact hb)
          rw [this, e]
      · rintro (h2 | ⟨h2, h3⟩)
        · omega
        · have := congrArg UInt8.toNat h3
          rw [h1] at this
          simp at this
end Go.Fw

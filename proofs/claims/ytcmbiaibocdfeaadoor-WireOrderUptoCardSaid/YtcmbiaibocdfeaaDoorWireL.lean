/- Plain facts for the law on roots. -/
import Derived.Test.YtcmbiaibocdfeaaDoorReadQ
namespace Go.Fw
theorem of_not {b : Bool} (h : (!b) = false) : b = true := by cases b <;> simp_all
theorem just_eq {α : Type} (kind : Int) (may : α → Bool) (enc : α → List UInt8) (x : α) (l : List UInt8) (b : Bool) : (b && (decide (encE may x = 0) && decide (l = encP kind may enc x))) = (b && (may x && decide (l = encN kind ++ enc x))) := by
  unfold encE encP
  cases may x <;> simp
theorem keys_le5 (s : RS) : (RS.keys (min 5) s).1.keys.length ≤ 5 := by
  have := takenL_len_le RS.hash (min 5 s.num.1.toNat) [] s.num.2
  simp only [List.length_nil] at this
  show (takenL RS.hash (min 5 s.num.1.toNat) [] s.num.2).1.length ≤ 5
  omega
theorem root_set' {a b : Value} {ks z cs : List Value} {k : Nat} (h : ks.length = 2 * k) (hc : cs.length = 2) : splice (a :: b :: (ks ++ z)) (0 + 2 + k * 2) cs = a :: b :: ((ks ++ cs) ++ z.drop 2) := by
  have := splice_app (pre := a :: b :: ks) (z := z) (vs := cs) (o := 0 + 2 + k * 2) (by simp only [List.length_cons]; omega)
  rw [hc] at this
  simpa using this
/-- A root's cells, one by one. -/
theorem rroot_open {w : World} {r : RootP} {cs : List Value} (h : RRoot w r cs) : ∃ k0 k1 k2 k3 a0 c0 a1 c1 a2 c2 a3 c3, r.roles = [k0, k1, k2, k3] ∧
    cs = [.int .i64 r.ver, .int .i64 r.exp, .slice a0 k0.keys.length c0, .int .i64 k0.need, .slice a1 k1.keys.length c1, .int .i64 k1.need, .slice a2 k2.keys.length c2, .int .i64 k2.need, .slice a3 k3.keys.length c3, .int .i64 k3.need] ∧
    RKeys w k0 [.slice a0 k0.keys.length c0, .int .i64 k0.need] ∧ RKeys w k1 [.slice a1 k1.keys.length c1, .int .i64 k1.need] ∧ RKeys w k2 [.slice a2 k2.keys.length c2, .int .i64 k2.need] ∧ RKeys w k3 [.slice a3 k3.keys.length c3, .int .i64 k3.need] := by
  obtain ⟨ks, rfl, hkl, hrl, hp⟩ := h
  match hr : r.roles, hrl with
  | [k0, k1, k2, k3], _ =>
    rw [hr] at hp
    obtain ⟨p0, p1, p2, p3, _⟩ := hp
    have q0 := p0; have q1 := p1; have q2 := p2; have q3 := p3
    obtain ⟨a0, c0, e0, _⟩ := p0
    obtain ⟨a1, c1, e1, _⟩ := p1
    obtain ⟨a2, c2, e2, _⟩ := p2
    obtain ⟨a3, c3, e3, _⟩ := p3
    rw [e0] at q0; rw [e1] at q1; rw [e2] at q2; rw [e3] at q3
    refine ⟨k0, k1, k2, k3, a0, c0, a1, c1, a2, c2, a3, c3, rfl, ?_, q0, q1, q2, q3⟩
    have hd : List.drop 2 (List.drop 2 (List.drop 2 (List.drop 2 ks))) = [] := List.drop_eq_nil_of_le (by simp only [List.length_drop]; omega)
    rw [← List.take_append_drop 2 ks, e0, ← List.take_append_drop 2 (List.drop 2 ks), e1, ← List.take_append_drop 2 (List.drop 2 (List.drop 2 ks)), e2, ← List.take_append_drop 2 (List.drop 2 (List.drop 2 (List.drop 2 ks))), e3, hd]
    rfl
theorem sum_le {l : List Nat} {n m : Nat} (h : l.sum ≤ n) (hm : m ∈ l) : m ≤ n := by
  induction l with
  | nil => cases hm
  | cons x l ih =>
    simp only [List.sum_cons] at h
    rcases List.mem_cons.1 hm with rfl | hm
    · omega
    · exact ih (by omega) hm
end Go.Fw

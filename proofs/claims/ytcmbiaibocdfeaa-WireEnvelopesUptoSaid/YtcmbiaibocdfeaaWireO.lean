/- wire's arguments as the claim reads them. -/
import Derived.Test.YtcmbiaibocdfeaaOpen
import Derived.Test.YtcmbiaibocdfeaaReadQ
namespace Go.Proofs.Ytcmbiaibocdfeaa
open Go Go.Fw
open _root_.Go.Proofs.Ytcmbiaibocdfeaa.Rows (uptoBulk uptoBulkAll)
set_option maxRecDepth 100000
/-- A slice that reads as a list, and is no longer than its room. -/
def RSl {α : Type} (sz : Nat) (R : World → α → List Value → Prop) (w : World) (l : List α) (cs : List Value) : Prop := ∃ a c, cs = [.slice a l.length c] ∧ SlAt sz R w (.slice a l.length c) l ∧ l.length ≤ c
theorem opens_sliceC {α : Type} {T e : TypeId} {sz : Nat} {R : World → α → List Value → Prop} {Q : Nat → α → Prop} (h : Try.prog.underlying T = some (.slice e)) (hsz : Try.prog.cellsOf e = sz) (hpos : sz ≠ 0) (ho : Opens e R Q) :
    Opens T (RSl sz R) (fun n l => l.length ≤ n ∧ ∀ x ∈ l, ∃ m, m ≤ n ∧ Q m x) := by
  intro H enc w fuel cs z hz
  obtain ⟨l, ⟨v, hcs, hsl⟩, hq⟩ := opens_slice h hsz hpos ho H enc w fuel cs z hz
  have hsl0 := hsl
  obtain ⟨a, c, rfl, hx⟩ := hsl
  refine ⟨l, ⟨a, c, hcs, hsl0, ?_⟩, hq⟩
  rcases Deep.open_slice h hz with ⟨h1, _⟩ | ⟨a', len, cap, m, n, D, Pl, h1, _, hlc, _⟩
  · rw [hcs] at h1
    injection h1 with h2 _
    injection h2 with q1 q2 q3
    omega
  · rw [hcs] at h1
    injection h1 with h2 _
    injection h2 with q1 q2 q3
    omega
theorem opens_u8 {T : TypeId} (h : Try.prog.underlying T = some (.int .u8)) : Opens T RByte (fun _ _ => True) := by
  intro H enc w fuel cs z hz
  obtain ⟨n, rfl, h1⟩ := opens_int h H enc w fuel cs z hz
  have hn : 0 ≤ n ∧ n ≤ 255 := by simpa [InK, IntKind.min, IntKind.max, IntKind.signed, IntKind.bits] using h1
  refine ⟨UInt8.ofNat n.toNat, ?_, trivial⟩
  show [Value.int .u8 n] = [.int .u8 ((UInt8.ofNat n.toNat).toNat : Int)]
  rw [u8_ofNat (by omega)]
  congr 2
  omega
theorem opens_bytes : Opens 28 (RSl 1 RByte) (fun n l => l.length ≤ n) := by
  intro H enc w fuel cs z hz
  obtain ⟨l, h1, h2, _⟩ := opens_sliceC (sz := 1) Try.underlying28 (by kernel_rfl) (by decide) (opens_u8 Try.underlying5) H enc w fuel cs z hz
  exact ⟨l, h1, h2⟩
theorem opens_hash' : Opens 81 RHash (fun _ _ => True) := by
  intro H enc w fuel cs z hz
  exact opens_hash Try.underlying81 Try.underlying5 (by kernel_rfl) (by kernel_rfl) H enc w fuel cs z hz
theorem opens_hashes : Opens 22 (RSl 32 RHash) (fun n l => l.length ≤ n) := by
  intro H enc w fuel cs z hz
  obtain ⟨l, h1, h2, _⟩ := opens_sliceC (sz := 32) Try.underlying22 (by kernel_rfl) (by decide) opens_hash' H enc w fuel cs z hz
  exact ⟨l, h1, h2⟩
theorem opens_keys : Opens 24 RKeys (fun n k => k.keys.length ≤ n) := by
  intro H enc w fuel cs z hz
  have hl := (opens_len Try.underlying24 hz).trans (by kernel_rfl : Try.prog.cellsOf 24 = 2)
  obtain ⟨ks, m0, ⟨a, c, h0, hs, hc⟩, hm, hm0⟩ := opens_fields Try.underlying24 hz (i := 0) (off := 0) (sz := 1) rfl rfl (by kernel_rfl) opens_hashes
  obtain ⟨nd, _, h1, _, _⟩ := opens_fields Try.underlying24 hz (i := 1) (off := 1) (sz := 1) rfl rfl (by kernel_rfl) (opens_int Try.underlying3)
  refine ⟨⟨ks, nd⟩, ⟨a, c, ?_, hs, hc⟩, by show ks.length ≤ _; omega⟩
  have hd : cs.drop 2 = [] := List.drop_eq_nil_of_le (by omega)
  rw [show cs = cs.drop 0 from rfl, ds h0, ds h1, hd]
  rfl
/-- An array, element by element. -/
theorem opens_array {α : Type} {T e : TypeId} {n sz : Nat} {R : World → α → List Value → Prop} {Q : Nat → α → Prop} (h : Try.prog.underlying T = some (.array n e)) (hsz : Try.prog.cellsOf e = sz) (hT : Try.prog.cellsOf T = n * sz) (ho : Opens e R Q) :
    Opens T (fun w l cs => l.length = n ∧ cs.length = n * sz ∧ Parts sz R w l cs) (fun m l => ∀ x ∈ l, ∃ k, k ≤ m ∧ Q k x) := by
  intro H enc w fuel cs z hz
  obtain ⟨xs, m, _, rfl, hl, hxl, hall⟩ := DataW.trod_array h hz
  rw [hT] at hl
  have hx : ∀ i, i < n → ∃ x, R w x ((cs.drop (i * sz)).take sz) ∧ ∃ k, k ≤ uptoBulk (.agg (xs.map (·.1))) ∧ Q k x := by
    intro i hi
    have h1 := hall i hi
    rw [hsz] at h1
    have hil : i < xs.length := by omega
    rw [List.getElem?_eq_getElem hil] at h1
    obtain ⟨x, hr, hq⟩ := ho H enc w m _ _ h1
    refine ⟨x, hr, _, ?_, hq⟩
    have : uptoBulk xs[i].1 ≤ uptoBulkAll (xs.map (·.1)) := bulk_le (List.mem_map.2 ⟨xs[i], by simp, rfl⟩)
    simp only [uptoBulk]
    omega
  by_cases hne : Nonempty α
  · have : Inhabited α := ⟨Classical.choice hne⟩
    obtain ⟨f, hf⟩ := Deep.choose_lt hx
    refine ⟨(List.range n).map f, ⟨by simp, hl, Parts.of fun i x hi => ?_⟩, fun x hx => ?_⟩
    · simp only [List.getElem?_map, Option.map_eq_some_iff] at hi
      obtain ⟨j, hj, rfl⟩ := hi
      have hil : i < n := by have := (List.getElem?_eq_some_iff.1 hj).1; simpa using this
      rw [List.getElem?_range hil] at hj
      cases hj
      exact (hf i hil).1
    · simp only [List.mem_map, List.mem_range] at hx
      obtain ⟨i, hi, rfl⟩ := hx
      exact (hf i hi).2
  · have h0 : n = 0 := by
      rcases Nat.eq_zero_or_pos n with h | h
      · exact h
      · obtain ⟨x, _⟩ := hx 0 h
        exact absurd ⟨x⟩ hne
    subst h0
    exact ⟨[], ⟨rfl, hl, trivial⟩, by simp⟩
theorem opens_root : Opens 27 RRoot (fun n r => ∀ k ∈ r.roles, k.keys.length ≤ n) := by
  intro H enc w fuel cs z hz
  have hl := (opens_len Try.underlying27 hz).trans (by kernel_rfl : Try.prog.cellsOf 27 = 10)
  obtain ⟨ve, _, h0, _, _⟩ := opens_fields Try.underlying27 hz (i := 0) (off := 0) (sz := 1) rfl rfl (by kernel_rfl) (opens_int Try.underlying3)
  obtain ⟨ex, _, h1, _, _⟩ := opens_fields Try.underlying27 hz (i := 1) (off := 1) (sz := 1) rfl rfl (by kernel_rfl) (opens_int Try.underlying3)
  obtain ⟨ro, m, ⟨h2l, h2c, h2⟩, hq, hm⟩ := opens_fields Try.underlying27 hz (i := 2) (off := 2) (sz := 8) rfl rfl (by kernel_rfl) (opens_array (n := 4) (sz := 2) Try.underlying25 (by kernel_rfl) (by kernel_rfl) opens_keys)
  refine ⟨⟨ve, ex, ro⟩, ⟨_, ?_, h2c, h2l, h2⟩, fun k hk => ?_⟩
  · rw [List.take_of_length_le (by rw [List.length_drop]; omega)]
    have e0 : cs = .int .i64 ve :: cs.drop 1 := ds h0
    have e1 : cs.drop 1 = .int .i64 ex :: cs.drop 2 := ds h1
    rw [← e1]
    exact e0
  · obtain ⟨k', hk', hq'⟩ := hq k hk
    omega
end Go.Proofs.Ytcmbiaibocdfeaa

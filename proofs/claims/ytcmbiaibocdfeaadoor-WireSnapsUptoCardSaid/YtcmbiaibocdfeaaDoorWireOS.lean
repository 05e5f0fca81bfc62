/- Snapshots as the claim reads them. -/
import Derived.Test.YtcmbiaibocdfeaaDoorOpen
import Derived.Test.YtcmbiaibocdfeaaDoorWireS
namespace Go.Proofs.YtcmbiaibocdfeaaDoor
open Go Go.Fw
open _root_.Go.Proofs.YtcmbiaibocdfeaaDoor.Rows (uptoBulk uptoBulkAll)
set_option maxRecDepth 100000
/-- A slice that reads as a list, and is no longer than its room. -/
def RSl {α : Type} (sz : Nat) (R : World → α → List Value → Prop) (w : World) (l : List α) (cs : List Value) : Prop := ∃ a c, cs = [.slice a l.length c] ∧ SlAt sz R w (.slice a l.length c) l ∧ l.length ≤ c
theorem opens_sliceC {α : Type} {T e : TypeId} {sz : Nat} {R : World → α → List Value → Prop} {Q : Nat → α → Prop} (h : Tryd.prog.underlying T = some (.slice e)) (hsz : Tryd.prog.cellsOf e = sz) (hpos : sz ≠ 0) (ho : Opens e R Q) :
    Opens T (RSl sz R) (fun n l => l.length ≤ n ∧ ∀ x ∈ l, ∃ m, m ≤ n ∧ Q m x) := by
  intro H enc w fuel cs z hz
  obtain ⟨l, ⟨v, hcs, hsl⟩, hq⟩ := opens_slice h hsz hpos ho H enc w fuel cs z hz
  have hsl0 := hsl
  obtain ⟨a, c, rfl, hx⟩ := hsl
  refine ⟨l, ⟨a, c, hcs, hsl0, ?_⟩, hq⟩
  rcases Deep.open_slice h hz with ⟨h1, _⟩ | ⟨a', len, cap, m, n, D, Pl, h1, _, hlc, _⟩
  · rw [hcs] at h1
    injection h1 with h2 _
    injection h2 with q1 q2 q3
    omega
  · rw [hcs] at h1
    injection h1 with h2 _
    injection h2 with q1 q2 q3
    omega
theorem opens_u8 {T : TypeId} (h : Tryd.prog.underlying T = some (.int .u8)) : Opens T RByte (fun _ _ => True) := by
  intro H enc w fuel cs z hz
  obtain ⟨n, rfl, h1⟩ := opens_int h H enc w fuel cs z hz
  have hn : 0 ≤ n ∧ n ≤ 255 := by simpa [InK, IntKind.min, IntKind.max, IntKind.signed, IntKind.bits] using h1
  refine ⟨UInt8.ofNat n.toNat, ?_, trivial⟩
  show [Value.int .u8 n] = [.int .u8 ((UInt8.ofNat n.toNat).toNat : Int)]
  rw [u8_ofNat (by omega)]
  congr 2
  omega
theorem opens_bytes : Opens 24 (RSl 1 RByte) (fun n l => l.length ≤ n) := by
  intro H enc w fuel cs z hz
  obtain ⟨l, h1, h2, _⟩ := opens_sliceC (sz := 1) Tryd.underlying24 (by kernel_rfl) (by decide) (opens_u8 Tryd.underlying5) H enc w fuel cs z hz
  exact ⟨l, h1, h2⟩
theorem opens_pin : Opens 38 RPin (fun n p => p.name.size ≤ n) := by
  intro H enc w fuel cs z hz
  have hl := (opens_len Tryd.underlying38 hz).trans (by kernel_rfl : Tryd.prog.cellsOf 38 = 2)
  obtain ⟨na, m0, h0, hq, hm⟩ := opens_fields Tryd.underlying38 hz (i := 0) (off := 0) (sz := 1) rfl rfl (by kernel_rfl) (opens_string Tryd.underlying9)
  obtain ⟨ve, _, h1, _, _⟩ := opens_fields Tryd.underlying38 hz (i := 1) (off := 1) (sz := 1) rfl rfl (by kernel_rfl) (opens_int Tryd.underlying3)
  refine ⟨⟨na, ve⟩, ?_, by show na.size ≤ _; omega⟩
  have hd : cs.drop 2 = [] := List.drop_eq_nil_of_le (by omega)
  show cs = [.string na, .int .i64 ve]
  rw [show cs = cs.drop 0 from rfl, ds h0, ds h1, hd]
  rfl
theorem opens_snap : Opens 35 RSnap (fun n s => s.pins.length ≤ n ∧ ∀ p ∈ s.pins, p.name.size ≤ n) := by
  intro H enc w fuel cs z hz
  have hl := (opens_len Tryd.underlying35 hz).trans (by kernel_rfl : Tryd.prog.cellsOf 35 = 3)
  obtain ⟨ve, _, h0, _, _⟩ := opens_fields Tryd.underlying35 hz (i := 0) (off := 0) (sz := 1) rfl rfl (by kernel_rfl) (opens_int Tryd.underlying3)
  obtain ⟨ex, _, h1, _, _⟩ := opens_fields Tryd.underlying35 hz (i := 1) (off := 1) (sz := 1) rfl rfl (by kernel_rfl) (opens_int Tryd.underlying3)
  obtain ⟨ps, m, ⟨a, c, h2, hs, _⟩, ⟨hq, hqq⟩, hm⟩ := opens_fields Tryd.underlying35 hz (i := 2) (off := 2) (sz := 1) rfl rfl (by kernel_rfl) (opens_sliceC (sz := 2) Tryd.underlying33 (by kernel_rfl) (by decide) opens_pin)
  refine ⟨⟨ve, ex, ps⟩, ⟨a, c, ?_, hs⟩, by show ps.length ≤ _; omega, fun p hp => ?_⟩
  · have hd : cs.drop 3 = [] := List.drop_eq_nil_of_le (by omega)
    rw [show cs = cs.drop 0 from rfl, ds h0, ds h1, ds h2, hd]
    rfl
  · obtain ⟨m', hm', hp'⟩ := hqq p hp
    omega
end Go.Proofs.YtcmbiaibocdfeaaDoor

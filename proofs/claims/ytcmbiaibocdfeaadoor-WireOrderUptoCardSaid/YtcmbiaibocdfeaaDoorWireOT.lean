/- Targets as the claim reads them. -/
import Derived.Test.YtcmbiaibocdfeaaDoorOpen
import Derived.Test.YtcmbiaibocdfeaaDoorWireT
namespace Go.Proofs.YtcmbiaibocdfeaaDoor
open Go Go.Fw
open _root_.Go.Proofs.YtcmbiaibocdfeaaDoor.Rows (uptoBulk uptoBulkAll)
set_option maxRecDepth 100000
theorem opens_tgtN : Opens 48 RTgt (fun n t => t.name.size ≤ n ∧ t.hw.size ≤ n ∧ t.ecu.size ≤ n) := by
  intro H enc w fuel cs z hz
  have hl := (opens_len Tryd.underlying48 hz).trans (by kernel_rfl : Tryd.prog.cellsOf 48 = 37)
  obtain ⟨nm, m0, h0, g0, k0⟩ := opens_fields Tryd.underlying48 hz (i := 0) (off := 0) (sz := 1) rfl rfl (by kernel_rfl) (opens_string Tryd.underlying9)
  obtain ⟨si, _, h1, _, _⟩ := opens_fields Tryd.underlying48 hz (i := 1) (off := 1) (sz := 1) rfl rfl (by kernel_rfl) (opens_int Tryd.underlying3)
  obtain ⟨su, _, ⟨h2l, h2⟩, _, _⟩ := opens_fields Tryd.underlying48 hz (i := 2) (off := 2) (sz := 32) rfl rfl (by kernel_rfl) (opens_hash Tryd.underlying29 Tryd.underlying5 (by kernel_rfl) (by kernel_rfl))
  obtain ⟨hw, m3, h3, g3, k3⟩ := opens_fields Tryd.underlying48 hz (i := 3) (off := 34) (sz := 1) rfl rfl (by kernel_rfl) (opens_string Tryd.underlying9)
  obtain ⟨ct, _, h4, _, _⟩ := opens_fields Tryd.underlying48 hz (i := 4) (off := 35) (sz := 1) rfl rfl (by kernel_rfl) (opens_int Tryd.underlying3)
  obtain ⟨ec, m5, h5, g5, k5⟩ := opens_fields Tryd.underlying48 hz (i := 5) (off := 36) (sz := 1) rfl rfl (by kernel_rfl) (opens_string Tryd.underlying9)
  refine ⟨⟨nm, si, su, hw, ct, ec⟩, ⟨h2l, ?_⟩, by show nm.size ≤ _; omega, by show hw.size ≤ _; omega, by show ec.size ≤ _; omega⟩
  have hd : cs.drop 37 = [] := List.drop_eq_nil_of_le (by omega)
  rw [show cs = cs.drop 0 from rfl, ds h0, ds h1, ds h2, ds h3, ds h4, ds h5, hd]
  simp [Tgt.cells]
end Go.Proofs.YtcmbiaibocdfeaaDoor

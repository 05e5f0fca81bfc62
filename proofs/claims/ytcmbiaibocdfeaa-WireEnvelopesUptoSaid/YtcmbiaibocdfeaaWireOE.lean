/- wire's envelopes as the claim reads them. -/
import Derived.Test.YtcmbiaibocdfeaaWireO
import Derived.Test.YtcmbiaibocdfeaaWireE
namespace Go.Proofs.Ytcmbiaibocdfeaa
open Go Go.Fw
open _root_.Go.Proofs.Ytcmbiaibocdfeaa.Rows (uptoBulk uptoBulkAll)
set_option maxRecDepth 100000
theorem opens_sig : Opens 85 RSig (fun _ _ => True) := by
  intro H enc w fuel cs z hz
  have hl := (opens_len Try.underlying85 hz).trans (by kernel_rfl : Try.prog.cellsOf 85 = 3)
  obtain ⟨le, _, h0, _, _⟩ := opens_fields Try.underlying85 hz (i := 0) (off := 0) (sz := 1) rfl rfl (by kernel_rfl) (opens_int Try.underlying3)
  obtain ⟨ch, _, ⟨a, c, h1, hs, _⟩, _, _⟩ := opens_fields Try.underlying85 hz (i := 1) (off := 1) (sz := 1) rfl rfl (by kernel_rfl) opens_hashes
  obtain ⟨pa, _, ⟨a', c', h2, hs', _⟩, _, _⟩ := opens_fields Try.underlying85 hz (i := 2) (off := 2) (sz := 1) rfl rfl (by kernel_rfl) opens_hashes
  refine ⟨⟨le, ch, pa⟩, ⟨a, c, a', c', ?_, hs, hs'⟩, trivial⟩
  have hd : cs.drop 3 = [] := List.drop_eq_nil_of_le (by omega)
  rw [show cs = cs.drop 0 from rfl, ds h0, ds h1, ds h2, hd]
  rfl
theorem opens_mark : Opens 87 RMark (fun _ _ => True) := by
  intro H enc w fuel cs z hz
  have hl := (opens_len Try.underlying87 hz).trans (by kernel_rfl : Try.prog.cellsOf 87 = 35)
  obtain ⟨k, _, ⟨hk, h0⟩, _, _⟩ := opens_fields Try.underlying87 hz (i := 0) (off := 0) (sz := 32) rfl rfl (by kernel_rfl) opens_hash'
  obtain ⟨sg, _, h1, _, _⟩ := opens_fields Try.underlying87 hz (i := 1) (off := 32) (sz := 3) rfl rfl (by kernel_rfl) opens_sig
  refine ⟨⟨k, sg⟩, ⟨_, ?_, hk, h1⟩, trivial⟩
  have e0 : cs = hcells k ++ cs.drop 32 := ds h0
  rw [List.take_of_length_le (by rw [List.length_drop]; omega)]
  exact e0
theorem opens_env : Opens 44 REnv (fun n e => e.marks.length ≤ n) := by
  intro H enc w fuel cs z hz
  have hl := (opens_len Try.underlying44 hz).trans (by kernel_rfl : Try.prog.cellsOf 44 = 2)
  obtain ⟨bo, _, ⟨a, c, h0, hs, _⟩, _, _⟩ := opens_fields Try.underlying44 hz (i := 0) (off := 0) (sz := 1) rfl rfl (by kernel_rfl) opens_bytes
  obtain ⟨ma, m, ⟨a', c', h1, hs', _⟩, ⟨hm, _⟩, hmm⟩ := opens_fields Try.underlying44 hz (i := 1) (off := 1) (sz := 1) rfl rfl (by kernel_rfl) (opens_sliceC (sz := 35) Try.underlying42 (by kernel_rfl) (by decide) opens_mark)
  refine ⟨⟨bo, ma⟩, ⟨a, c, a', c', ?_, hs, hs'⟩, by show ma.length ≤ _; omega⟩
  have hd : cs.drop 2 = [] := List.drop_eq_nil_of_le (by omega)
  rw [show cs = cs.drop 0 from rfl, ds h0, ds h1, hd]
  rfl
end Go.Proofs.Ytcmbiaibocdfeaa

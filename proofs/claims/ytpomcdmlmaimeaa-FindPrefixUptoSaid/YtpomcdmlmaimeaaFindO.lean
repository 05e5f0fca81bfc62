/- find's arguments as the claim reads them. -/
import Derived.Test.YtpomcdmlmaimeaaOpen
import Derived.Test.YtpomcdmlmaimeaaFindM
namespace Go.Proofs.Ytpomcdmlmaimeaa
open Go Go.Fw
open _root_.Go.Proofs.Ytpomcdmlmaimeaa.Rows (uptoBulk uptoBulkAll)
set_option maxRecDepth 100000

theorem opens_tgt : Opens 27 RTgt (fun _ _ => True) := by
  intro H enc w fuel cs z hz
  have hl := (opens_len Try.underlying27 hz).trans (by kernel_rfl : Try.prog.cellsOf 27 = 37)
  obtain ⟨nm, _, h0, _, _⟩ := opens_fields Try.underlying27 hz (i := 0) (off := 0) (sz := 1) rfl rfl (by kernel_rfl) (opens_string Try.underlying9)
  obtain ⟨si, _, h1, _, _⟩ := opens_fields Try.underlying27 hz (i := 1) (off := 1) (sz := 1) rfl rfl (by kernel_rfl) (opens_int Try.underlying3)
  obtain ⟨su, _, ⟨h2l, h2⟩, _, _⟩ := opens_fields Try.underlying27 hz (i := 2) (off := 2) (sz := 32) rfl rfl (by kernel_rfl) (opens_hash Try.underlying25 Try.underlying5 (by kernel_rfl) (by kernel_rfl))
  obtain ⟨hw, _, h3, _, _⟩ := opens_fields Try.underlying27 hz (i := 3) (off := 34) (sz := 1) rfl rfl (by kernel_rfl) (opens_string Try.underlying9)
  obtain ⟨ct, _, h4, _, _⟩ := opens_fields Try.underlying27 hz (i := 4) (off := 35) (sz := 1) rfl rfl (by kernel_rfl) (opens_int Try.underlying3)
  obtain ⟨ec, _, h5, _, _⟩ := opens_fields Try.underlying27 hz (i := 5) (off := 36) (sz := 1) rfl rfl (by kernel_rfl) (opens_string Try.underlying9)
  refine ⟨⟨nm, si, su, hw, ct, ec⟩, ⟨h2l, ?_⟩, trivial⟩
  have hd : cs.drop 37 = [] := List.drop_eq_nil_of_le (by omega)
  rw [show cs = cs.drop 0 from rfl, ds h0, ds h1, ds h2, ds h3, ds h4, ds h5, hd]
  simp [Tgt.cells]
theorem opens_del : Opens 40 RDel (fun n d => d.pfx.size ≤ n) := by
  intro H enc w fuel cs z hz
  have hl := (opens_len Try.underlying40 hz).trans (by kernel_rfl : Try.prog.cellsOf 40 = 5)
  obtain ⟨nm, _, h0, _, _⟩ := opens_fields Try.underlying40 hz (i := 0) (off := 0) (sz := 1) rfl rfl (by kernel_rfl) (opens_string Try.underlying9)
  obtain ⟨px, m, h2, hm, hm2⟩ := opens_fields Try.underlying40 hz (i := 2) (off := 3) (sz := 1) rfl rfl (by kernel_rfl) (opens_string Try.underlying9)
  obtain ⟨la, _, h3, _, _⟩ := opens_fields Try.underlying40 hz (i := 3) (off := 4) (sz := 1) rfl rfl (by kernel_rfl) (opens_bool Try.underlying4)
  have hks : Opens 38 (fun _ (x : Value × Int) cs => ∃ a n c, x.1 = .slice a n c ∧ cs = [x.1, .int .i64 x.2]) (fun _ _ => True) := by
    intro H enc w fuel cs z hz
    have hl := (opens_len Try.underlying38 hz).trans (by kernel_rfl : Try.prog.cellsOf 38 = 2)
    obtain ⟨_, _, ⟨v, h0, ⟨a, c, hv, _⟩⟩, _, _⟩ := opens_fields Try.underlying38 hz (i := 0) (off := 0) (sz := 1) rfl rfl (by kernel_rfl)
      (opens_slice (sz := 32) Try.underlying36 (by kernel_rfl) (by decide) (opens_hash Try.underlying25 Try.underlying5 (by kernel_rfl) (by kernel_rfl)))
    obtain ⟨n, _, h1, _, _⟩ := opens_fields Try.underlying38 hz (i := 1) (off := 1) (sz := 1) rfl rfl (by kernel_rfl) (opens_int Try.underlying3)
    refine ⟨(v, n), ⟨a, _, c, hv, ?_⟩, trivial⟩
    have hd : cs.drop 2 = [] := List.drop_eq_nil_of_le (by omega)
    rw [show cs = cs.drop 0 from rfl, ds h0, ds h1, hd]
    rfl
  obtain ⟨⟨kv, nd⟩, _, ⟨a, n, c, hkv, h1⟩, _, _⟩ := opens_fields Try.underlying40 hz (i := 1) (off := 1) (sz := 2) rfl rfl (by kernel_rfl) hks
  simp only at hkv h1
  subst hkv
  refine ⟨⟨nm, px, la⟩, ⟨a, n, c, nd, ?_⟩, ?_⟩
  · have hd : cs.drop 5 = [] := List.drop_eq_nil_of_le (by omega)
    rw [show cs = cs.drop 0 from rfl, ds h0, ds h1, ds h2, ds h3, hd]
    rfl
  · show px.size ≤ _
    omega
theorem opens_tgs : Opens 33 RTgs (fun n x => x.l.length ≤ n ∧ x.d.length ≤ n ∧ ∀ d ∈ x.d, d.pfx.size ≤ n) := by
  intro H enc w fuel cs z hz
  have hl := (opens_len Try.underlying33 hz).trans (by kernel_rfl : Try.prog.cellsOf 33 = 5)
  obtain ⟨nm, _, h0, _, _⟩ := opens_fields Try.underlying33 hz (i := 0) (off := 0) (sz := 1) rfl rfl (by kernel_rfl) (opens_string Try.underlying9)
  obtain ⟨ve, _, h1, _, _⟩ := opens_fields Try.underlying33 hz (i := 1) (off := 1) (sz := 1) rfl rfl (by kernel_rfl) (opens_int Try.underlying3)
  obtain ⟨ex, _, h2, _, _⟩ := opens_fields Try.underlying33 hz (i := 2) (off := 2) (sz := 1) rfl rfl (by kernel_rfl) (opens_int Try.underlying3)
  obtain ⟨lt, m3, ⟨lv, h3, hlt⟩, ⟨hm3, _⟩, hq3⟩ := opens_fields Try.underlying33 hz (i := 3) (off := 3) (sz := 1) rfl rfl (by kernel_rfl) (opens_slice (sz := 37) Try.underlying30 (by kernel_rfl) (by decide) opens_tgt)
  obtain ⟨ld, m4, ⟨dv, h4, hld⟩, ⟨hm4, hx4⟩, hq4⟩ := opens_fields Try.underlying33 hz (i := 4) (off := 4) (sz := 1) rfl rfl (by kernel_rfl) (opens_slice (sz := 5) Try.underlying31 (by kernel_rfl) (by decide) opens_del)
  refine ⟨⟨nm, ve, ex, lt, ld⟩, ⟨lv, dv, ?_, hlt, hld⟩, by show lt.length ≤ _; omega, by show ld.length ≤ _; omega, fun d hd => ?_⟩
  · have hd : cs.drop 5 = [] := List.drop_eq_nil_of_le (by omega)
    rw [show cs = cs.drop 0 from rfl, ds h0, ds h1, ds h2, ds h3, ds h4, hd]
    rfl
  · obtain ⟨m, hm, hp⟩ := hx4 d hd
    omega
theorem opens_tgss : Opens 22 (fun w l cs => ∃ v, cs = [v] ∧ SlAt 5 RTgs w v l) (fun n l => n ≤ 1048576 → Bnd l) := by
  intro H enc w fuel cs z hz
  obtain ⟨l, hr, hl, hx⟩ := opens_slice (sz := 5) Try.underlying22 (by kernel_rfl) (by decide) opens_tgs H enc w fuel cs z hz
  refine ⟨l, hr, fun hn => ⟨by omega, fun t ht => ?_, fun t ht d hd => ?_⟩⟩
  · obtain ⟨m, hm, h1, h2, _⟩ := hx t ht
    omega
  · obtain ⟨m, hm, h1, h2, h3⟩ := hx t ht
    have := h3 d hd
    omega
end Go.Proofs.Ytpomcdmlmaimeaa

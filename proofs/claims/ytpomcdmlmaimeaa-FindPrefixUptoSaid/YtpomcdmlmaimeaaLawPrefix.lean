/- Law FindPrefix of seat Ytpomcdmlmaimeaa is proved: whatever Targets and name come in, of bulk at most 1048576: the call returns true and leaves all that was there as it was. -/
import Derived.Test.YtpomcdmlmaimeaaFind10
import Derived.Test.YtpomcdmlmaimeaaFindO
namespace Go.Proofs.Ytpomcdmlmaimeaa
open Go Go.Fw Go.ChangeShapes Go.WideShapes Go.ChangeAt Go.RowKit
set_option maxRecDepth 100000

theorem findPrefix_contract (H : Type) (enc : TypeId × Value → H) (W : World) (base : Nat) (args : Array Value) (ds gs : List (DataW H)) (before : List MemPlace)
    (hval : ∀ (j : Nat) t v, Try.f4.params[j]? = some t → args[j]? = some v → Value.okWide Try.prog W .any base t v)
    (hW : DataW.Whole enc Try.prog Try.f4.params.toList Rows.findPrefixSpec.vars false W args.toList ds gs before) (hk : Rows.uptoSmall H (ds ++ gs) = true) :
    Calls Try.prog 4 args W fun e W' => ∃ v, e = .returned v ∧ Rows.findPrefixSpec.post enc Try.prog Try.f4 false true false false W args v W' := by
  have hW' := hW
  obtain ⟨p, q, hA0, hV, -, -, -⟩ := hW
  have hA : DataW.TrodAll enc Try.prog W 0 (fun _ => true) true Try.f4.params.toList args.toList ds p := hA0
  rw [Try.params4] at hA hval
  obtain ⟨v0, vs0, d0, ds0, p0, q0, hargs, rfl, rfl, h0, r0⟩ := trodAll_cons hA
  obtain ⟨v1, vs1, d1, ds1, p1, q1, rfl, rfl, rfl, h1, r1⟩ := trodAll_cons r0
  obtain ⟨rfl, rfl, rfl⟩ := trodAll_nil r1
  obtain rfl : args = #[v0, v1] := by cases args; simp_all
  obtain ⟨rfl, rfl⟩ := trodVars_none hV
  clear hA0 hV hA
  have hbk : Rows.uptoBulkAll [d0, d1] ≤ 1048576 := of_decide_eq_true (by simpa [Rows.uptoSmall] using hk)
  simp only [Rows.uptoBulkAll] at hbk
  obtain ⟨l_a, l_n, l_c, rfl⟩ := okWide_slice Try.underlying22 (hval 0 22 v0 rfl rfl)
  obtain ⟨f0, hf0⟩ := h0
  obtain ⟨l, ⟨l_v, l_e, hl⟩, hlq⟩ := opens_tgss H enc W f0 _ _ hf0
  obtain rfl : Value.slice l_a l_n l_c = l_v := by simpa [Value.cells] using l_e
  simp only at hlq
  obtain ⟨name, rfl⟩ := okWide_string Try.underlying9 (hval 1 9 v1 rfl rfl)
  obtain ⟨f1, hf1⟩ := h1
  obtain ⟨name_, hnamec, hname⟩ := opens_string Try.underlying9 H enc W f1 _ _ hf1
  obtain rfl : name = name_ := by simpa [RStr, Value.cells] using hnamec
  simp only at hname
  refine Calls.mono (lawPrefix_any l W l_a l_n l_c hl (hlq (by omega)) name (by omega)) fun e W' ⟨v, he, hv, hE⟩ => ⟨v, he, ?_⟩
  subst hv
  exact law_post (by kernel_rfl) (by kernel_rfl) (rfl : Try.f4.resultTypes = #[4]) Try.underlying4 hW' rfl rfl rfl rfl hE

theorem findPrefix_lifted (os : Os) (started : os.Started) (H : Type) (enc : TypeId × Value → H) (F : Stop.Interp) :
    ReturnsInHanded {} Try.checked os 4 .any ((Rows.OpenSpec.upto Rows.findPrefixSpec).pre6 enc Try.prog Try.f4 Rows.findPrefixUptoRow.domain false) (((Rows.OpenSpec.upto Rows.findPrefixSpec).at F).post enc Try.prog Try.f4 false true false false) := by
  refine returnsInHanded_of_cond (C := Try.checked) (s := Rows.OpenSpec.upto Rows.findPrefixSpec) (k := Rows.uptoSmall) rfl (show ownKnob Try.prog.godebug = none by kernel_rfl) started (by kernel_rfl) Try.func4
    (OpenSpec.witness (enc := enc) (C := Try.checked) (s := Rows.OpenSpec.upto Rows.findPrefixSpec) (k := Rows.uptoSmall) rfl false ⟨#[], #[.slice none 0 0, .string .empty], []⟩ 8 (by kernel_rfl) (by kernel_rfl) (by kernel_rfl)
      (x := ([.nil, .lit (.string [])], [], [])) (by kernel_rfl) rfl (by kernel_rfl)) ?_
  intro W base args ds gs before hval hW _ hk _
  exact findPrefix_contract H enc W base args ds gs before hval hW hk

theorem findPrefix_proved : Rows.FindPrefixUptoSaid :=
  OpenClaim.holds_of_cond 4 Try.f4 rfl rfl rfl rfl rfl rfl rfl ⟨rfl, rfl, rfl, rfl, rfl⟩ rfl rfl rfl rfl rfl (by kernel_rfl) Try.func4 (by kernel_rfl)
    (of_decide_eq_true (by kernel_rfl)) (by unfold Func.isWrapper; first | (rw [if_pos (by decide +kernel)]; kernel_rfl) | (rw [if_neg (by decide +kernel)]; exact ⟨rfl, rfl⟩))
    (fun os started H enc _ F => findPrefix_lifted os started H enc F)

end Go.Proofs.Ytpomcdmlmaimeaa

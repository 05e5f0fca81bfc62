/- Law WireEnvelopes of seat Ytcmbiaibocdfeaa is proved: whatever envelope and bytes come in, of bulk at most 1048576: the call returns true and leaves all that was there as it was. -/
import Derived.Test.YtcmbiaibocdfeaaWireE9
import Derived.Test.YtcmbiaibocdfeaaWireO
import Derived.Test.YtcmbiaibocdfeaaWireOE
namespace Go.Proofs.Ytcmbiaibocdfeaa
open Go Go.Fw Go.ChangeShapes Go.WideShapes Go.ChangeAt Go.RowKit
set_option maxRecDepth 100000

theorem wireEnvelopes_contract (H : Type) (enc : TypeId × Value → H) (W : World) (base : Nat) (args : Array Value) (ds gs : List (DataW H)) (before : List MemPlace)
    (hval : ∀ (j : Nat) t v, Try.f4.params[j]? = some t → args[j]? = some v → Value.okWide Try.prog W .any base t v)
    (hW : DataW.Whole enc Try.prog Try.f4.params.toList Rows.wireEnvelopesSpec.vars false W args.toList ds gs before) (hk : Rows.uptoSmall H (ds ++ gs) = true) :
    Calls Try.prog 4 args W fun e W' => ∃ v, e = .returned v ∧ Rows.wireEnvelopesSpec.post enc Try.prog Try.f4 false true false false W args v W' := by
  have hW' := hW
  obtain ⟨p, q, hA0, hV, -, -, -⟩ := hW
  have hA : DataW.TrodAll enc Try.prog W 0 (fun _ => true) true Try.f4.params.toList args.toList ds p := hA0
  rw [Try.params4] at hA hval
  obtain ⟨v0, vs0, d0, ds0, p0, q0, hargs, rfl, rfl, h0, r0⟩ := trodAll_cons hA
  obtain ⟨v1, vs1, d1, ds1, p1, q1, rfl, rfl, rfl, h1, r1⟩ := trodAll_cons r0
  obtain ⟨rfl, rfl, rfl⟩ := trodAll_nil r1
  obtain rfl : args = #[v0, v1] := by cases args; simp_all
  obtain ⟨rfl, rfl⟩ := trodVars_none hV
  clear hA0 hV hA
  have hbk : Rows.uptoBulkAll [d0, d1] ≤ 1048576 := of_decide_eq_true (by simpa [Rows.uptoSmall] using hk)
  simp only [Rows.uptoBulkAll] at hbk
  obtain ⟨⟨x_cs⟩, rfl, -⟩ := okWide_struct Try.underlying44 (hval 0 44 v0 rfl rfl)
  obtain ⟨f0, hf0⟩ := h0
  obtain ⟨x, hx, hxq⟩ := opens_env H enc W f0 _ _ hf0
  simp only at hxq
  obtain ⟨b_a, b_n, b_c, rfl⟩ := okWide_slice Try.underlying28 (hval 1 28 v1 rfl rfl)
  obtain ⟨f1, hf1⟩ := h1
  obtain ⟨b, ⟨b_a2, b_c2, b_e, hb, hbc⟩, hbq⟩ := opens_bytes H enc W f1 _ _ hf1
  obtain ⟨rfl, rfl, rfl⟩ : b_a2 = b_a ∧ b.length = b_n ∧ b_c2 = b_c := by injection b_e with q1 _; injection q1 with q2 q3 q4; exact ⟨q2.symm, q3.symm, q4.symm⟩
  simp only at hbq
  refine Calls.mono (lawEnvelopes_any x x_cs W hx (by omega) b b_a2 _ b_c2 hb hbc (by omega)) fun e W' ⟨v, he, hv, hE⟩ => ⟨v, he, ?_⟩
  subst hv
  exact law_post (by kernel_rfl) (by kernel_rfl) (rfl : Try.f4.resultTypes = #[4]) Try.underlying4 hW' rfl rfl rfl rfl hE

theorem wireEnvelopes_lifted (os : Os) (started : os.Started) (H : Type) (enc : TypeId × Value → H) (F : Stop.Interp) :
    ReturnsInHanded {} Try.checked os 4 .any ((Rows.OpenSpec.upto Rows.wireEnvelopesSpec).pre6 enc Try.prog Try.f4 Rows.wireEnvelopesUptoRow.domain false) (((Rows.OpenSpec.upto Rows.wireEnvelopesSpec).at F).post enc Try.prog Try.f4 false true false false) := by
  refine returnsInHanded_of_cond (C := Try.checked) (s := Rows.OpenSpec.upto Rows.wireEnvelopesSpec) (k := Rows.uptoSmall) rfl (show ownKnob Try.prog.godebug = none by kernel_rfl) started (by kernel_rfl) Try.func4
    (OpenSpec.witness (enc := enc) (C := Try.checked) (s := Rows.OpenSpec.upto Rows.wireEnvelopesSpec) (k := Rows.uptoSmall) rfl false ⟨#[], #[.agg #[.slice none 0 0, .slice none 0 0], .slice none 0 0], []⟩ 8 (by kernel_rfl) (by kernel_rfl) (by kernel_rfl)
      (x := ([.agg [.nil, .nil], .nil], [], [])) (by kernel_rfl) rfl (by kernel_rfl)) ?_
  intro W base args ds gs before hval hW _ hk _
  exact wireEnvelopes_contract H enc W base args ds gs before hval hW hk

theorem wireEnvelopes_proved : Rows.WireEnvelopesUptoSaid :=
  OpenClaim.holds_of_cond 4 Try.f4 rfl rfl rfl rfl rfl rfl rfl ⟨rfl, rfl, rfl, rfl, rfl⟩ rfl rfl rfl rfl rfl (by kernel_rfl) Try.func4 (by kernel_rfl)
    (of_decide_eq_true (by kernel_rfl)) (by unfold Func.isWrapper; first | (rw [if_pos (by decide +kernel)]; kernel_rfl) | (rw [if_neg (by decide +kernel)]; exact ⟨rfl, rfl⟩))
    (fun os started H enc _ F => wireEnvelopes_lifted os started H enc F)

end Go.Proofs.Ytcmbiaibocdfeaa

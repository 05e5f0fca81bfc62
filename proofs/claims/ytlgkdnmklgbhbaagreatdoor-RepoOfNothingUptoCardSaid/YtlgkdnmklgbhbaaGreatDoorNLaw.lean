/- Law RepoOfNothing of seat YtlgkdnmklgbhbaaGreatDoor is proved, the card with it: whatever target comes in, of bulk at most 1048576: the call returns true and leaves all that was there as it was. -/
import Derived.Test.YtlgkdnmklgbhbaaGreatDoorMF
import Derived.Test.YtlgkdnmklgbhbaaGreatDoorMO
namespace Go.Proofs.YtlgkdnmklgbhbaaGreatDoor
open Go Go.Fw Go.ChangeShapes Go.WideShapes Go.ChangeAt Go.RowKit
set_option maxRecDepth 100000

def tgtZ : Value := .agg ⟨.string .empty :: .int .i64 0 :: (List.replicate 32 (.int .u8 0) ++ [.string .empty, .int .i64 0, .string .empty])⟩
def tgtD {H : Type} : DataW H := .agg [.lit (.string []), .lit (.int .i64 0), .agg (List.replicate 32 (.lit (.int .u8 0))), .lit (.string []), .lit (.int .i64 0), .lit (.string [])]

theorem repoOfNothing_contract (H : Type) (enc : TypeId × Value → H) (W : World) (base : Nat) (args : Array Value) (ds gs : List (DataW H)) (before : List MemPlace)
    (hval : ∀ (j : Nat) t v, Tryz.f11.params[j]? = some t → args[j]? = some v → Value.okWide Tryz.prog W .any base t v)
    (hW : DataW.Whole enc Tryz.prog Tryz.f11.params.toList Rows.repoOfNothingSpec.vars false W args.toList ds gs before) (hk : Rows.uptoSmall H (ds ++ gs) = true) :
    Calls Tryz.prog 11 args W fun e W' => ∃ v, e = .returned v ∧ Rows.repoOfNothingSpec.post enc Tryz.prog Tryz.f11 false true false false W args v W' := by
  have hW' := hW
  obtain ⟨p, q, hA0, hV, -, -, -⟩ := hW
  have hA : DataW.TrodAll enc Tryz.prog W 0 (fun _ => true) true Tryz.f11.params.toList args.toList ds p := hA0
  rw [Tryz.params11] at hA hval
  obtain ⟨v0, vs0, d0, ds0, p0, q0, hargs, rfl, rfl, h0, r0⟩ := trodAll_cons hA
  obtain ⟨rfl, rfl, rfl⟩ := trodAll_nil r0
  obtain rfl : args = #[v0] := by cases args; simp_all
  obtain ⟨rfl, rfl⟩ := trodVars_none hV
  clear hA0 hV hA
  have hbk : Rows.uptoBulkAll [d0] ≤ 1048576 := of_decide_eq_true (by simpa [Rows.uptoSmall] using hk)
  simp only [Rows.uptoBulkAll] at hbk
  obtain ⟨⟨a_cs⟩, rfl, -⟩ := okWide_struct Tryz.underlying82 (hval 0 82 v0 rfl rfl)
  obtain ⟨f0, hf0⟩ := h0
  obtain ⟨a, ha, haq⟩ := opens_tgtN H enc W f0 _ _ hf0
  simp only at haq
  refine Calls.mono ((fun {acs : List Value} (ha : RTgt W a acs) => (by obtain ⟨ha1, rfl⟩ := ha; exact lawNothing_any a ha1 ⟨by omega, by omega, by omega⟩ W : Ret Tryz.prog 11 [.agg ⟨acs⟩] W fun r w' => r = .bool true ∧ Ext W w')) ha) fun e W' ⟨v, he, hv, hE⟩ => ⟨v, he, ?_⟩
  subst hv
  exact law_post (by kernel_rfl) (by kernel_rfl) (rfl : Tryz.f11.resultTypes = #[4]) Tryz.underlying4 hW' rfl rfl rfl rfl hE

theorem repoOfNothing_reads (os : Os) {H : Type} (enc : TypeId × Value → H) : ∃ places, DataW.whole enc Tryz.prog ((laidWorld os).forCall (fun _ _ => 0) ⟨#[], #[tgtZ], []⟩).memory Tryz.f11.params.toList Rows.repoOfNothingSpec.vars false #[tgtZ].toList 8 = some ([tgtD], [], places) :=
  ⟨[], by kernel_rfl⟩
theorem repoOfNothing_met (os : Os) : laidMet Tryz.prog Rows.repoOfNothingUptoRow.laid ((laidWorld os).forCall (fun _ _ => 0) ⟨#[], #[tgtZ], []⟩).memory :=
  laidMet_of_run' 8 (by kernel_rfl) (by kernel_rfl)
theorem repoOfNothing_lifted (os : Os) (started : os.Started) (H : Type) (enc : TypeId × Value → H) (F : Stop.Interp) :
    ReturnsInHanded {} Tryz.checked os 11 .any ((Rows.OpenSpec.upto Rows.repoOfNothingSpec).preRow enc Tryz.prog Tryz.f11 Rows.repoOfNothingUptoRow.domain false Rows.repoOfNothingUptoRow.laid) (((Rows.OpenSpec.upto Rows.repoOfNothingSpec).at F).post enc Tryz.prog Tryz.f11 false true false false) := by
  obtain ⟨places, hx⟩ := repoOfNothing_reads os enc
  refine returnsInHanded_of_row (C := Tryz.checked) (s := Rows.OpenSpec.upto Rows.repoOfNothingSpec) own started (by kernel_rfl) Tryz.func11
    (witness_row_at (enc := enc) (C := Tryz.checked) false (laidWorld os) #[tgtZ] rfl (by kernel_rfl) (by kernel_rfl) (by kernel_rfl)
      (OpenSpec.preRow_of_cond 8 hx (by kernel_rfl) (fun k hk => by cases hk; kernel_rfl) (by kernel_rfl) (repoOfNothing_met os))) ?_
  intro W base args ds gs before hval hW _ hc _ _ _ _
  exact repoOfNothing_contract H enc W base args ds gs before hval hW (hc _ rfl)

theorem repoOfNothing_said : Rows.RepoOfNothingUptoSaid :=
  OpenClaim.holds_of_cond 11 Tryz.f11 rfl rfl rfl rfl rfl rfl rfl ⟨rfl, rfl, rfl, rfl, rfl⟩ rfl rfl rfl rfl rfl (by kernel_rfl) Tryz.func11 (by kernel_rfl)
    (of_decide_eq_true (by kernel_rfl)) (by unfold Func.isWrapper; first | (rw [if_pos (by decide +kernel)]; kernel_rfl) | (rw [if_neg (by decide +kernel)]; exact ⟨rfl, rfl⟩))
    (fun os started H enc _ F => by rw [OpenClaim.pre_eq_preRow]; exact repoOfNothing_lifted os started H enc F)

theorem repoOfNothing_plain (f : FuncId) (fn : Func) (hf : Tryz.pinned.checked.prog.funcNamed "ostler/ostlerlaw16.RepoOfNothing" = some f) (hfn : Tryz.pinned.checked.prog.funcs[f]? = some fn) :
    false = Tryz.pinned.checked.prog.looks [] ∧ ∀ (j : Nat) t, fn.params[j]? = some t → Tryz.pinned.checked.prog.wantsStandIn t = false := by
  obtain rfl : f = 11 := Option.some.inj ((show Tryz.prog.funcNamed "ostler/ostlerlaw16.RepoOfNothing" = some 11 by kernel_rfl).symm.trans hf) |>.symm
  obtain rfl : fn = Tryz.f11 := (Option.some.inj (Tryz.func11.symm.trans hfn)).symm
  refine ⟨by kernel_rfl, fun j t ht => ?_⟩
  rw [Tryz.params11] at ht
  have hm := Array.mem_of_getElem? ht
  simp only [List.mem_toArray, List.mem_cons, List.not_mem_nil, or_false] at hm
  rw [hm]
  exact (show Tryz.prog.wantsStandIn 82 = false by kernel_rfl)

theorem repoOfNothing_proved : Rows.RepoOfNothingUptoCardSaid :=
  Claim7.holds_tied_plain_at .later [] _ _ _ _ repoOfNothing_said (fun _ h => by cases h) (by kernel_rfl) (fun _ h => by cases h) repoOfNothingUpto_row_tie rfl ⟨rfl, rfl⟩ (by kernel_rfl) rfl repoOfNothing_plain (by kernel_rfl)
end Go.Proofs.YtlgkdnmklgbhbaaGreatDoor

/- Law WireOrder of seat YtcmbiaibocdfeaaDoor is proved, the card with it: whatever two targets and two strings come in, of bulk at most 1048576: the call returns true and leaves all that was there as it was. -/
import Derived.Test.YtcmbiaibocdfeaaDoorWireT2
import Derived.Test.YtcmbiaibocdfeaaDoorWireOT
import Derived.Test.YtcmbiaibocdfeaaDoorCardW
namespace Go.Proofs.YtcmbiaibocdfeaaDoor
open Go Go.Fw Go.ChangeShapes Go.WideShapes Go.ChangeAt Go.RowKit
set_option maxRecDepth 100000

def tgtZ : Value := .agg ⟨.string .empty :: .int .i64 0 :: (List.replicate 32 (.int .u8 0) ++ [.string .empty, .int .i64 0, .string .empty])⟩
def tgtD {H : Type} : DataW H := .agg [.lit (.string []), .lit (.int .i64 0), .agg (List.replicate 32 (.lit (.int .u8 0))), .lit (.string []), .lit (.int .i64 0), .lit (.string [])]

theorem wireOrder_contract (H : Type) (enc : TypeId × Value → H) (W : World) (base : Nat) (args : Array Value) (ds gs : List (DataW H)) (before : List MemPlace)
    (hval : ∀ (j : Nat) t v, Tryd.f6.params[j]? = some t → args[j]? = some v → Value.okWide Tryd.prog W .any base t v)
    (hW : DataW.Whole enc Tryd.prog Tryd.f6.params.toList Rows.wireOrderSpec.vars false W args.toList ds gs before) (hk : Rows.uptoSmall H (ds ++ gs) = true) :
    Calls Tryd.prog 6 args W fun e W' => ∃ v, e = .returned v ∧ Rows.wireOrderSpec.post enc Tryd.prog Tryd.f6 false true false false W args v W' := by
  have hW' := hW
  obtain ⟨p, q, hA0, hV, -, -, -⟩ := hW
  have hA : DataW.TrodAll enc Tryd.prog W 0 (fun _ => true) true Tryd.f6.params.toList args.toList ds p := hA0
  rw [Tryd.params6] at hA hval
  obtain ⟨v0, vs0, d0, ds0, p0, q0, hargs, rfl, rfl, h0, r0⟩ := trodAll_cons hA
  obtain ⟨v1, vs1, d1, ds1, p1, q1, rfl, rfl, rfl, h1, r1⟩ := trodAll_cons r0
  obtain ⟨v2, vs2, d2, ds2, p2, q2, rfl, rfl, rfl, h2, r2⟩ := trodAll_cons r1
  obtain ⟨v3, vs3, d3, ds3, p3, q3, rfl, rfl, rfl, h3, r3⟩ := trodAll_cons r2
  obtain ⟨rfl, rfl, rfl⟩ := trodAll_nil r3
  obtain rfl : args = #[v0, v1, v2, v3] := by cases args; simp_all
  obtain ⟨rfl, rfl⟩ := trodVars_none hV
  clear hA0 hV hA
  have hbk : Rows.uptoBulkAll [d0, d1, d2, d3] ≤ 1048576 := of_decide_eq_true (by simpa [Rows.uptoSmall] using hk)
  simp only [Rows.uptoBulkAll] at hbk
  obtain ⟨⟨a_cs⟩, rfl, -⟩ := okWide_struct Tryd.underlying48 (hval 0 48 v0 rfl rfl)
  obtain ⟨f0, hf0⟩ := h0
  obtain ⟨a, ha, haq⟩ := opens_tgtN H enc W f0 _ _ hf0
  simp only at haq
  obtain ⟨⟨b_cs⟩, rfl, -⟩ := okWide_struct Tryd.underlying48 (hval 1 48 v1 rfl rfl)
  obtain ⟨f1, hf1⟩ := h1
  obtain ⟨b, hb, hbq⟩ := opens_tgtN H enc W f1 _ _ hf1
  simp only at hbq
  obtain ⟨n, rfl⟩ := okWide_string Tryd.underlying9 (hval 2 9 v2 rfl rfl)
  obtain ⟨f2, hf2⟩ := h2
  obtain ⟨n_, hnc, hn⟩ := opens_string Tryd.underlying9 H enc W f2 _ _ hf2
  obtain rfl : n = n_ := by simpa [RStr, Value.cells] using hnc
  simp only at hn
  obtain ⟨m, rfl⟩ := okWide_string Tryd.underlying9 (hval 3 9 v3 rfl rfl)
  obtain ⟨f3, hf3⟩ := h3
  obtain ⟨m_, hmc, hm⟩ := opens_string Tryd.underlying9 H enc W f3 _ _ hf3
  obtain rfl : m = m_ := by simpa [RStr, Value.cells] using hmc
  simp only at hm
  refine Calls.mono ((fun {acs bcs : List Value} (ha : RTgt W a acs) (hb : RTgt W b bcs) => (by obtain ⟨ha1, rfl⟩ := ha; obtain ⟨hb1, rfl⟩ := hb; exact lawOrder_any a b n m W ha1 hb1 ⟨⟨by omega, by omega, by omega⟩, ⟨by omega, by omega, by omega⟩, by omega, by omega⟩ : Ret Tryd.prog 6 [.agg ⟨acs⟩, .agg ⟨bcs⟩, .string n, .string m] W fun r w' => r = .bool true ∧ Ext W w')) ha hb) fun e W' ⟨v, he, hv, hE⟩ => ⟨v, he, ?_⟩
  subst hv
  exact law_post (by kernel_rfl) (by kernel_rfl) (rfl : Tryd.f6.resultTypes = #[4]) Tryd.underlying4 hW' rfl rfl rfl rfl hE

theorem wireOrder_reads (os : Os) {H : Type} (enc : TypeId × Value → H) : ∃ places, DataW.whole enc Tryd.prog ((laidWorld os).forCall (fun _ _ => 0) ⟨#[], #[tgtZ, tgtZ, .string .empty, .string .empty], []⟩).memory Tryd.f6.params.toList Rows.wireOrderSpec.vars false #[tgtZ, tgtZ, .string .empty, .string .empty].toList 8 = some ([tgtD, tgtD, .lit (.string []), .lit (.string [])], [], places) :=
  ⟨[], by kernel_rfl⟩
theorem wireOrder_met (os : Os) : laidMet Tryd.prog Rows.wireOrderUptoRow.laid ((laidWorld os).forCall (fun _ _ => 0) ⟨#[], #[tgtZ, tgtZ, .string .empty, .string .empty], []⟩).memory :=
  laidMet_of_run' 8 (by kernel_rfl) (by kernel_rfl)
theorem wireOrder_lifted (os : Os) (started : os.Started) (H : Type) (enc : TypeId × Value → H) (F : Stop.Interp) :
    ReturnsInHanded {} Tryd.checked os 6 .any ((Rows.OpenSpec.upto Rows.wireOrderSpec).preRow enc Tryd.prog Tryd.f6 Rows.wireOrderUptoRow.domain false Rows.wireOrderUptoRow.laid) (((Rows.OpenSpec.upto Rows.wireOrderSpec).at F).post enc Tryd.prog Tryd.f6 false true false false) := by
  obtain ⟨places, hx⟩ := wireOrder_reads os enc
  refine returnsInHanded_of_row (C := Tryd.checked) (s := Rows.OpenSpec.upto Rows.wireOrderSpec) own started (by kernel_rfl) Tryd.func6
    (witness_row_at (enc := enc) (C := Tryd.checked) false (laidWorld os) #[tgtZ, tgtZ, .string .empty, .string .empty] rfl (by kernel_rfl) (by kernel_rfl) (by kernel_rfl)
      (OpenSpec.preRow_of_cond 8 hx (by kernel_rfl) (fun k hk => by cases hk; kernel_rfl) (by kernel_rfl) (wireOrder_met os))) ?_
  intro W base args ds gs before hval hW _ hc _ _ _ _
  exact wireOrder_contract H enc W base args ds gs before hval hW (hc _ rfl)

theorem wireOrder_said : Rows.WireOrderUptoSaid :=
  OpenClaim.holds_of_cond 6 Tryd.f6 rfl rfl rfl rfl rfl rfl rfl ⟨rfl, rfl, rfl, rfl, rfl⟩ rfl rfl rfl rfl rfl (by kernel_rfl) Tryd.func6 (by kernel_rfl)
    (of_decide_eq_true (by kernel_rfl)) (by unfold Func.isWrapper; first | (rw [if_pos (by decide +kernel)]; kernel_rfl) | (rw [if_neg (by decide +kernel)]; exact ⟨rfl, rfl⟩))
    (fun os started H enc _ F => by rw [OpenClaim.pre_eq_preRow]; exact wireOrder_lifted os started H enc F)

theorem wireOrder_plain (f : FuncId) (fn : Func) (hf : Tryd.pinned.checked.prog.funcNamed "ostler/ostlerlaw6.WireOrder" = some f) (hfn : Tryd.pinned.checked.prog.funcs[f]? = some fn) :
    false = Tryd.pinned.checked.prog.looks [] ∧ ∀ (j : Nat) t, fn.params[j]? = some t → Tryd.pinned.checked.prog.wantsStandIn t = false := by
  obtain rfl : f = 6 := Option.some.inj ((show Tryd.prog.funcNamed "ostler/ostlerlaw6.WireOrder" = some 6 by kernel_rfl).symm.trans hf) |>.symm
  obtain rfl : fn = Tryd.f6 := (Option.some.inj (Tryd.func6.symm.trans hfn)).symm
  refine ⟨by kernel_rfl, fun j t ht => ?_⟩
  rw [Tryd.params6] at ht
  have hm := Array.mem_of_getElem? ht
  simp only [List.mem_toArray, List.mem_cons, List.not_mem_nil, or_false] at hm
  rcases hm with hm | hm | hm | hm <;> rw [hm]
  · exact (show Tryd.prog.wantsStandIn 48 = false by kernel_rfl)
  · exact (show Tryd.prog.wantsStandIn 48 = false by kernel_rfl)
  · exact (show Tryd.prog.wantsStandIn 9 = false by kernel_rfl)
  · exact (show Tryd.prog.wantsStandIn 9 = false by kernel_rfl)

theorem wireOrder_proved : Rows.WireOrderUptoCardSaid :=
  Claim7.holds_tied_plain_at .later [] _ _ _ _ wireOrder_said (fun _ h => by cases h) (by kernel_rfl) (fun _ h => by cases h) wireOrderUpto_row_tie rfl ⟨rfl, rfl⟩ (by kernel_rfl) rfl wireOrder_plain (by kernel_rfl)
end Go.Proofs.YtcmbiaibocdfeaaDoor

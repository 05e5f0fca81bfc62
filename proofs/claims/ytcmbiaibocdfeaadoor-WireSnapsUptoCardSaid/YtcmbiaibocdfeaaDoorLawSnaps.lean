/- Law WireSnaps of seat YtcmbiaibocdfeaaDoor is proved, the card with it: whatever snapshot, bytes and string come in, of bulk at most 1048576: the call returns true and leaves all that was there as it was. -/
import Derived.Test.YtcmbiaibocdfeaaDoorWireS4
import Derived.Test.YtcmbiaibocdfeaaDoorWireOS
import Derived.Test.YtcmbiaibocdfeaaDoorCardW
namespace Go.Proofs.YtcmbiaibocdfeaaDoor
open Go Go.Fw Go.ChangeShapes Go.WideShapes Go.ChangeAt Go.RowKit
set_option maxRecDepth 100000

theorem wireSnaps_contract (H : Type) (enc : TypeId × Value → H) (W : World) (base : Nat) (args : Array Value) (ds gs : List (DataW H)) (before : List MemPlace)
    (hval : ∀ (j : Nat) t v, Tryd.f5.params[j]? = some t → args[j]? = some v → Value.okWide Tryd.prog W .any base t v)
    (hW : DataW.Whole enc Tryd.prog Tryd.f5.params.toList Rows.wireSnapsSpec.vars false W args.toList ds gs before) (hk : Rows.uptoSmall H (ds ++ gs) = true) :
    Calls Tryd.prog 5 args W fun e W' => ∃ v, e = .returned v ∧ Rows.wireSnapsSpec.post enc Tryd.prog Tryd.f5 false true false false W args v W' := by
  have hW' := hW
  obtain ⟨p, q, hA0, hV, -, -, -⟩ := hW
  have hA : DataW.TrodAll enc Tryd.prog W 0 (fun _ => true) true Tryd.f5.params.toList args.toList ds p := hA0
  rw [Tryd.params5] at hA hval
  obtain ⟨v0, vs0, d0, ds0, p0, q0, hargs, rfl, rfl, h0, r0⟩ := trodAll_cons hA
  obtain ⟨v1, vs1, d1, ds1, p1, q1, rfl, rfl, rfl, h1, r1⟩ := trodAll_cons r0
  obtain ⟨v2, vs2, d2, ds2, p2, q2, rfl, rfl, rfl, h2, r2⟩ := trodAll_cons r1
  obtain ⟨rfl, rfl, rfl⟩ := trodAll_nil r2
  obtain rfl : args = #[v0, v1, v2] := by cases args; simp_all
  obtain ⟨rfl, rfl⟩ := trodVars_none hV
  clear hA0 hV hA
  have hbk : Rows.uptoBulkAll [d0, d1, d2] ≤ 1048576 := of_decide_eq_true (by simpa [Rows.uptoSmall] using hk)
  simp only [Rows.uptoBulkAll] at hbk
  obtain ⟨⟨x_cs⟩, rfl, -⟩ := okWide_struct Tryd.underlying35 (hval 0 35 v0 rfl rfl)
  obtain ⟨f0, hf0⟩ := h0
  obtain ⟨x, hx, hxq⟩ := opens_snap H enc W f0 _ _ hf0
  simp only at hxq
  obtain ⟨b_a, b_n, b_c, rfl⟩ := okWide_slice Tryd.underlying24 (hval 1 24 v1 rfl rfl)
  obtain ⟨f1, hf1⟩ := h1
  obtain ⟨b, ⟨b_a2, b_c2, b_e, hb, hbc⟩, hbq⟩ := opens_bytes H enc W f1 _ _ hf1
  obtain ⟨rfl, rfl, rfl⟩ : b_a2 = b_a ∧ b.length = b_n ∧ b_c2 = b_c := by injection b_e with q1 _; injection q1 with q2 q3 q4; exact ⟨q2.symm, q3.symm, q4.symm⟩
  simp only at hbq
  obtain ⟨nm, rfl⟩ := okWide_string Tryd.underlying9 (hval 2 9 v2 rfl rfl)
  obtain ⟨f2, hf2⟩ := h2
  obtain ⟨nm_, hnmc, hnm⟩ := opens_string Tryd.underlying9 H enc W f2 _ _ hf2
  obtain rfl : nm = nm_ := by simpa [RStr, Value.cells] using hnmc
  simp only at hnm
  refine Calls.mono (lawSnaps_any x x_cs W hx (by omega) (fun p hp => by have := hxq.2 p hp; omega) b b_a2 _ b_c2 hb hbc (by omega) nm (by omega)) fun e W' ⟨v, he, hv, hE⟩ => ⟨v, he, ?_⟩
  subst hv
  exact law_post (by kernel_rfl) (by kernel_rfl) (rfl : Tryd.f5.resultTypes = #[4]) Tryd.underlying4 hW' rfl rfl rfl rfl hE

theorem wireSnaps_reads (os : Os) {H : Type} (enc : TypeId × Value → H) : ∃ places, DataW.whole enc Tryd.prog ((laidWorld os).forCall (fun _ _ => 0) ⟨#[], #[.agg #[.int .i64 0, .int .i64 0, .slice none 0 0], .slice none 0 0, .string .empty], []⟩).memory Tryd.f5.params.toList Rows.wireSnapsSpec.vars false #[.agg #[.int .i64 0, .int .i64 0, .slice none 0 0], .slice none 0 0, .string .empty].toList 8 = some ([.agg [.lit (.int .i64 0), .lit (.int .i64 0), .nil], .nil, .lit (.string [])], [], places) :=
  ⟨[], by kernel_rfl⟩
theorem wireSnaps_met (os : Os) : laidMet Tryd.prog Rows.wireSnapsUptoRow.laid ((laidWorld os).forCall (fun _ _ => 0) ⟨#[], #[.agg #[.int .i64 0, .int .i64 0, .slice none 0 0], .slice none 0 0, .string .empty], []⟩).memory :=
  laidMet_of_run' 8 (by kernel_rfl) (by kernel_rfl)
theorem wireSnaps_lifted (os : Os) (started : os.Started) (H : Type) (enc : TypeId × Value → H) (F : Stop.Interp) :
    ReturnsInHanded {} Tryd.checked os 5 .any ((Rows.OpenSpec.upto Rows.wireSnapsSpec).preRow enc Tryd.prog Tryd.f5 Rows.wireSnapsUptoRow.domain false Rows.wireSnapsUptoRow.laid) (((Rows.OpenSpec.upto Rows.wireSnapsSpec).at F).post enc Tryd.prog Tryd.f5 false true false false) := by
  obtain ⟨places, hx⟩ := wireSnaps_reads os enc
  refine returnsInHanded_of_row (C := Tryd.checked) (s := Rows.OpenSpec.upto Rows.wireSnapsSpec) own started (by kernel_rfl) Tryd.func5
    (witness_row_at (enc := enc) (C := Tryd.checked) false (laidWorld os) #[.agg #[.int .i64 0, .int .i64 0, .slice none 0 0], .slice none 0 0, .string .empty] rfl (by kernel_rfl) (by kernel_rfl) (by kernel_rfl)
      (OpenSpec.preRow_of_cond 8 hx (by kernel_rfl) (fun k hk => by cases hk; kernel_rfl) (by kernel_rfl) (wireSnaps_met os))) ?_
  intro W base args ds gs before hval hW _ hc _ _ _ _
  exact wireSnaps_contract H enc W base args ds gs before hval hW (hc _ rfl)

theorem wireSnaps_said : Rows.WireSnapsUptoSaid :=
  OpenClaim.holds_of_cond 5 Tryd.f5 rfl rfl rfl rfl rfl rfl rfl ⟨rfl, rfl, rfl, rfl, rfl⟩ rfl rfl rfl rfl rfl (by kernel_rfl) Tryd.func5 (by kernel_rfl)
    (of_decide_eq_true (by kernel_rfl)) (by unfold Func.isWrapper; first | (rw [if_pos (by decide +kernel)]; kernel_rfl) | (rw [if_neg (by decide +kernel)]; exact ⟨rfl, rfl⟩))
    (fun os started H enc _ F => by rw [OpenClaim.pre_eq_preRow]; exact wireSnaps_lifted os started H enc F)

theorem wireSnaps_plain (f : FuncId) (fn : Func) (hf : Tryd.pinned.checked.prog.funcNamed "ostler/ostlerlaw6.WireSnaps" = some f) (hfn : Tryd.pinned.checked.prog.funcs[f]? = some fn) :
    false = Tryd.pinned.checked.prog.looks [] ∧ ∀ (j : Nat) t, fn.params[j]? = some t → Tryd.pinned.checked.prog.wantsStandIn t = false := by
  obtain rfl : f = 5 := Option.some.inj ((show Tryd.prog.funcNamed "ostler/ostlerlaw6.WireSnaps" = some 5 by kernel_rfl).symm.trans hf) |>.symm
  obtain rfl : fn = Tryd.f5 := (Option.some.inj (Tryd.func5.symm.trans hfn)).symm
  refine ⟨by kernel_rfl, fun j t ht => ?_⟩
  rw [Tryd.params5] at ht
  have hm := Array.mem_of_getElem? ht
  simp only [List.mem_toArray, List.mem_cons, List.not_mem_nil, or_false] at hm
  rcases hm with hm | hm | hm <;> rw [hm]
  · exact (show Tryd.prog.wantsStandIn 35 = false by kernel_rfl)
  · exact (show Tryd.prog.wantsStandIn 24 = false by kernel_rfl)
  · exact (show Tryd.prog.wantsStandIn 9 = false by kernel_rfl)

theorem wireSnaps_proved : Rows.WireSnapsUptoCardSaid :=
  Claim7.holds_tied_plain_at .later [] _ _ _ _ wireSnaps_said (fun _ h => by cases h) (by kernel_rfl) (fun _ h => by cases h) wireSnapsUpto_row_tie rfl ⟨rfl, rfl⟩ (by kernel_rfl) rfl wireSnaps_plain (by kernel_rfl)
end Go.Proofs.YtcmbiaibocdfeaaDoor

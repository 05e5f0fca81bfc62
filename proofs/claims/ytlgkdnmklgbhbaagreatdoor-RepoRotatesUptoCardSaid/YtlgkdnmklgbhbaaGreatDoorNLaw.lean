/- Law RepoRotates of seat YtlgkdnmklgbhbaaGreatDoor is proved, the card with it: whatever seed and number come in: the call returns true and leaves all that was there as it was. -/
import Derived.Test.YtlgkdnmklgbhbaaGreatDoorMR
import Derived.Test.YtlgkdnmklgbhbaaGreatDoorMO
namespace Go.Proofs.YtlgkdnmklgbhbaaGreatDoor
open Go Go.Fw Go.ChangeShapes Go.WideShapes Go.ChangeAt Go.RowKit
set_option maxRecDepth 100000

theorem okWide_array {P : Program} {w : World} {r : Reach} {base : Nat} {t : TypeId} {v : Value} {n : Nat} {e : TypeId} (ht : P.underlying t = some (.array n e)) (h : Value.okWide P w r base t v) : ∃ cs, v = .agg cs ∧ cs.size = P.cellsOf t := by
  simp only [Value.okWide, ht] at h;obtain ⟨cs, h1, h2, _⟩ := h;exact ⟨cs, h1, h2⟩
def hashZ : Value := .agg ⟨List.replicate 32 (.int .u8 0)⟩
def hashD {H : Type} : DataW H := .agg (List.replicate 32 (.lit (.int .u8 0)))
theorem opens_seed : Opens 25 (fun _ s cs => s.length = 32 ∧ cs = hcells s) (fun _ _ => True) := opens_hash Tryz.underlying25 Tryz.underlying5 (by kernel_rfl) (by kernel_rfl)

theorem repoRotates_contract (H : Type) (enc : TypeId × Value → H) (W : World) (base : Nat) (args : Array Value) (ds gs : List (DataW H)) (before : List MemPlace)
    (hval : ∀ (j : Nat) t v, Tryz.f5.params[j]? = some t → args[j]? = some v → Value.okWide Tryz.prog W .any base t v)
    (hW : DataW.Whole enc Tryz.prog Tryz.f5.params.toList Rows.repoRotatesSpec.vars false W args.toList ds gs before) (hk : Rows.uptoSmall H (ds ++ gs) = true) :
    Calls Tryz.prog 5 args W fun e W' => ∃ v, e = .returned v ∧ Rows.repoRotatesSpec.post enc Tryz.prog Tryz.f5 false true false false W args v W' := by
  have hW' := hW;obtain ⟨p, q, hA0, hV, -, -, -⟩ := hW;have hA : DataW.TrodAll enc Tryz.prog W 0 (fun _ => true) true Tryz.f5.params.toList args.toList ds p := hA0;rw [Tryz.params5] at hA hval;obtain ⟨v0, vs0, d0, ds0, p0, q0, hargs, rfl, rfl, h0, r0⟩ := trodAll_cons hA;obtain ⟨v1, vs1, d1, ds1, p1, q1, rfl, rfl, rfl, h1, r1⟩ := trodAll_cons r0;obtain ⟨rfl, rfl, rfl⟩ := trodAll_nil r1;obtain rfl : args = #[v0, v1] := by cases args; simp_all
  obtain ⟨rfl, rfl⟩ := trodVars_none hV;clear hA0 hV hA;have hbk : Rows.uptoBulkAll [d0, d1] ≤ 1048576 := of_decide_eq_true (by simpa [Rows.uptoSmall] using hk);simp only [Rows.uptoBulkAll] at hbk;obtain ⟨⟨a_cs⟩, rfl, -⟩ := okWide_array Tryz.underlying25 (hval 0 25 v0 rfl rfl);obtain ⟨f0, hf0⟩ := h0;obtain ⟨a, ha, haq⟩ := opens_seed H enc W f0 _ _ hf0
  try simp only at haq
  obtain ⟨b, rfl, rfl, rfl, wb⟩ := open_int Tryz.underlying3 (hval 1 3 v1 rfl rfl) h1;have hb : -9223372036854775808 ≤ b ∧ b ≤ 9223372036854775807 := by simpa [Lit.wf, IntKind.min, IntKind.max, IntKind.signed, IntKind.bits] using wb
  refine Calls.mono ((fun {acs : List Value} (ha : a.length = 32 ∧ acs = hcells a) => (by obtain ⟨ha1, rfl⟩ := ha; exact lawRotates_any a ha1 b W : Ret Tryz.prog 5 [.agg ⟨acs⟩, .int .i64 b] W fun r w' => r = .bool true ∧ Ext W w')) ha) fun e W' ⟨v, he, hv, hE⟩ => ⟨v, he, ?_⟩
  subst hv;exact law_post (by kernel_rfl) (by kernel_rfl) (rfl : Tryz.f5.resultTypes = #[4]) Tryz.underlying4 hW' rfl rfl rfl rfl hE

theorem repoRotates_reads (os : Os) {H : Type} (enc : TypeId × Value → H) : ∃ places, DataW.whole enc Tryz.prog ((laidWorld os).forCall (fun _ _ => 0) ⟨#[], #[hashZ, .int .i64 0], []⟩).memory Tryz.f5.params.toList Rows.repoRotatesSpec.vars false #[hashZ, .int .i64 0].toList 8 = some ([hashD, .lit (.int .i64 0)], [], places) :=
  ⟨[], by kernel_rfl⟩
theorem repoRotates_met (os : Os) : laidMet Tryz.prog Rows.repoRotatesUptoRow.laid ((laidWorld os).forCall (fun _ _ => 0) ⟨#[], #[hashZ, .int .i64 0], []⟩).memory :=
  laidMet_of_run' 8 (by kernel_rfl) (by kernel_rfl)
theorem repoRotates_lifted (os : Os) (started : os.Started) (H : Type) (enc : TypeId × Value → H) (F : Stop.Interp) :
    ReturnsInHanded {} Tryz.checked os 5 .any ((Rows.OpenSpec.upto Rows.repoRotatesSpec).preRow enc Tryz.prog Tryz.f5 Rows.repoRotatesUptoRow.domain false Rows.repoRotatesUptoRow.laid) (((Rows.OpenSpec.upto Rows.repoRotatesSpec).at F).post enc Tryz.prog Tryz.f5 false true false false) := by
  obtain ⟨places, hx⟩ := repoRotates_reads os enc;refine returnsInHanded_of_row (C := Tryz.checked) (s := Rows.OpenSpec.upto Rows.repoRotatesSpec) own started (by kernel_rfl) Tryz.func5
    (witness_row_at (enc := enc) (C := Tryz.checked) false (laidWorld os) #[hashZ, .int .i64 0] rfl (by kernel_rfl) (by kernel_rfl) (by kernel_rfl)
      (OpenSpec.preRow_of_cond 8 hx (by kernel_rfl) (fun k hk => by cases hk; kernel_rfl) (by kernel_rfl) (repoRotates_met os))) ?_
  intro W base args ds gs before hval hW _ hc _ _ _ _;exact repoRotates_contract H enc W base args ds gs before hval hW (hc _ rfl)

theorem repoRotates_said : Rows.RepoRotatesUptoSaid :=
  OpenClaim.holds_of_cond 5 Tryz.f5 rfl rfl rfl rfl rfl rfl rfl ⟨rfl, rfl, rfl, rfl, rfl⟩ rfl rfl rfl rfl rfl (by kernel_rfl) Tryz.func5 (by kernel_rfl)
    (of_decide_eq_true (by kernel_rfl)) (by unfold Func.isWrapper; first | (rw [if_pos (by decide +kernel)]; kernel_rfl) | (rw [if_neg (by decide +kernel)]; exact ⟨rfl, rfl⟩))
    (fun os started H enc _ F => by rw [OpenClaim.pre_eq_preRow]; exact repoRotates_lifted os started H enc F)

theorem repoRotates_plain (f : FuncId) (fn : Func) (hf : Tryz.pinned.checked.prog.funcNamed "ostler/ostlerlaw16.RepoRotates" = some f) (hfn : Tryz.pinned.checked.prog.funcs[f]? = some fn) :
    false = Tryz.pinned.checked.prog.looks [] ∧ ∀ (j : Nat) t, fn.params[j]? = some t → Tryz.pinned.checked.prog.wantsStandIn t = false := by
  obtain rfl : f = 5 := Option.some.inj ((show Tryz.prog.funcNamed "ostler/ostlerlaw16.RepoRotates" = some 5 by kernel_rfl).symm.trans hf) |>.symm;obtain rfl : fn = Tryz.f5 := (Option.some.inj (Tryz.func5.symm.trans hfn)).symm;refine ⟨by kernel_rfl, fun j t ht => ?_⟩;rw [Tryz.params5] at ht;have hm := Array.mem_of_getElem? ht;simp only [List.mem_toArray, List.mem_cons, List.not_mem_nil, or_false] at hm;rcases hm with hm | hm <;> rw [hm]
  · exact (show Tryz.prog.wantsStandIn 25 = false by kernel_rfl)
  · exact (show Tryz.prog.wantsStandIn 3 = false by kernel_rfl)

theorem repoRotates_proved : Rows.RepoRotatesUptoCardSaid :=
  Claim7.holds_tied_plain_at .later [] _ _ _ _ repoRotates_said (fun _ h => by cases h) (by kernel_rfl) (fun _ h => by cases h) repoRotatesUpto_row_tie rfl ⟨rfl, rfl⟩ (by kernel_rfl) rfl repoRotates_plain (by kernel_rfl)
end Go.Proofs.YtlgkdnmklgbhbaaGreatDoor

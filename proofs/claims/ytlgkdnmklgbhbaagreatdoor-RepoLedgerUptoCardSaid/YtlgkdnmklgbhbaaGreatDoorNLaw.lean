/- Law RepoLedger of seat YtlgkdnmklgbhbaaGreatDoor is proved, the card with it: whatever acts come in, of bulk at most 1048576: the call returns true and leaves all that was there as it was. -/
import Derived.Test.YtlgkdnmklgbhbaaGreatDoorMG
import Derived.Test.YtlgkdnmklgbhbaaGreatDoorMO
namespace Go.Proofs.YtlgkdnmklgbhbaaGreatDoor
open Go Go.Fw Go.ChangeShapes Go.WideShapes Go.ChangeAt Go.RowKit
set_option maxRecDepth 100000

theorem opens_act : Opens 100 RAct (fun n x => x.t.name.size ≤ n ∧ x.t.hw.size ≤ n ∧ x.t.ecu.size ≤ n) := by
  intro H enc w fuel cs z hz
  have hl := (opens_len Tryz.underlying100 hz).trans (by kernel_rfl : Tryz.prog.cellsOf 100 = 40)
  obtain ⟨kd, _, h0, _, _⟩ := opens_fields Tryz.underlying100 hz (i := 0) (off := 0) (sz := 1) rfl rfl (by kernel_rfl) (opens_int Tryz.underlying3)
  obtain ⟨tt, m1, ⟨h1l, h1⟩, ⟨g1, g2, g3⟩, k1⟩ := opens_fields Tryz.underlying100 hz (i := 1) (off := 1) (sz := 37) rfl rfl (by kernel_rfl) opens_tgtN
  obtain ⟨nw, _, h2, _, _⟩ := opens_fields Tryz.underlying100 hz (i := 2) (off := 38) (sz := 1) rfl rfl (by kernel_rfl) (opens_int Tryz.underlying3)
  obtain ⟨lf, _, h3, _, _⟩ := opens_fields Tryz.underlying100 hz (i := 3) (off := 39) (sz := 1) rfl rfl (by kernel_rfl) (opens_int Tryz.underlying3)
  refine ⟨⟨kd, tt, nw, lf⟩, ⟨h1l, ?_⟩, by show tt.name.size ≤ _; omega, by show tt.hw.size ≤ _; omega, by show tt.ecu.size ≤ _; omega⟩
  have hd : cs.drop 40 = [] := List.drop_eq_nil_of_le (by omega)
  rw [show cs = cs.drop 0 from rfl, ds h0, ds h1, ds h2, ds h3, hd]
  simp [Act.cells]
theorem opens_acts : Opens 97 (fun w l cs => ∃ v, cs = [v] ∧ SlAt 40 RAct w v l) (fun n l => l.length ≤ n ∧ ∀ x ∈ l, ∃ m, m ≤ n ∧ (x.t.name.size ≤ m ∧ x.t.hw.size ≤ m ∧ x.t.ecu.size ≤ m)) := opens_slice Tryz.underlying97 (by kernel_rfl) (by decide) opens_act

theorem repoLedger_contract (H : Type) (enc : TypeId × Value → H) (W : World) (base : Nat) (args : Array Value) (ds gs : List (DataW H)) (before : List MemPlace)
    (hval : ∀ (j : Nat) t v, Tryz.f10.params[j]? = some t → args[j]? = some v → Value.okWide Tryz.prog W .any base t v)
    (hW : DataW.Whole enc Tryz.prog Tryz.f10.params.toList Rows.repoLedgerSpec.vars false W args.toList ds gs before) (hk : Rows.uptoSmall H (ds ++ gs) = true) :
    Calls Tryz.prog 10 args W fun e W' => ∃ v, e = .returned v ∧ Rows.repoLedgerSpec.post enc Tryz.prog Tryz.f10 false true false false W args v W' := by
  have hW' := hW
  obtain ⟨p, q, hA0, hV, -, -, -⟩ := hW
  have hA : DataW.TrodAll enc Tryz.prog W 0 (fun _ => true) true Tryz.f10.params.toList args.toList ds p := hA0
  rw [Tryz.params10] at hA hval
  obtain ⟨v0, vs0, d0, ds0, p0, q0, hargs, rfl, rfl, h0, r0⟩ := trodAll_cons hA
  obtain ⟨rfl, rfl, rfl⟩ := trodAll_nil r0
  obtain rfl : args = #[v0] := by cases args; simp_all
  obtain ⟨rfl, rfl⟩ := trodVars_none hV
  clear hA0 hV hA
  have hbk : Rows.uptoBulkAll [d0] ≤ 1048576 := of_decide_eq_true (by simpa [Rows.uptoSmall] using hk)
  simp only [Rows.uptoBulkAll] at hbk
  obtain ⟨a_a, a_n, a_c, rfl⟩ := okWide_slice Tryz.underlying97 (hval 0 97 v0 rfl rfl)
  obtain ⟨f0, hf0⟩ := h0
  obtain ⟨a, ⟨a_v, a_e, ha⟩, haq⟩ := opens_acts H enc W f0 _ _ hf0
  obtain rfl : Value.slice a_a a_n a_c = a_v := by simpa [Value.cells] using a_e
  simp only at haq
  refine Calls.mono ((lawLedger_any a a_a a_n a_c W ha (fun t ht => by obtain ⟨m, h1, h2, h3, h4⟩ := haq.2 t ht; exact ⟨by omega, by omega, by omega⟩))) fun e W' ⟨v, he, hv, hE⟩ => ⟨v, he, ?_⟩
  subst hv
  exact law_post (by kernel_rfl) (by kernel_rfl) (rfl : Tryz.f10.resultTypes = #[4]) Tryz.underlying4 hW' rfl rfl rfl rfl hE

theorem repoLedger_reads (os : Os) {H : Type} (enc : TypeId × Value → H) : ∃ places, DataW.whole enc Tryz.prog ((laidWorld os).forCall (fun _ _ => 0) ⟨#[], #[.slice none 0 0], []⟩).memory Tryz.f10.params.toList Rows.repoLedgerSpec.vars false #[.slice none 0 0].toList 8 = some ([.nil], [], places) :=
  ⟨[], by kernel_rfl⟩
theorem repoLedger_met (os : Os) : laidMet Tryz.prog Rows.repoLedgerUptoRow.laid ((laidWorld os).forCall (fun _ _ => 0) ⟨#[], #[.slice none 0 0], []⟩).memory :=
  laidMet_of_run' 8 (by kernel_rfl) (by kernel_rfl)
theorem repoLedger_lifted (os : Os) (started : os.Started) (H : Type) (enc : TypeId × Value → H) (F : Stop.Interp) :
    ReturnsInHanded {} Tryz.checked os 10 .any ((Rows.OpenSpec.upto Rows.repoLedgerSpec).preRow enc Tryz.prog Tryz.f10 Rows.repoLedgerUptoRow.domain false Rows.repoLedgerUptoRow.laid) (((Rows.OpenSpec.upto Rows.repoLedgerSpec).at F).post enc Tryz.prog Tryz.f10 false true false false) := by
  obtain ⟨places, hx⟩ := repoLedger_reads os enc
  refine returnsInHanded_of_row (C := Tryz.checked) (s := Rows.OpenSpec.upto Rows.repoLedgerSpec) own started (by kernel_rfl) Tryz.func10
    (witness_row_at (enc := enc) (C := Tryz.checked) false (laidWorld os) #[.slice none 0 0] rfl (by kernel_rfl) (by kernel_rfl) (by kernel_rfl)
      (OpenSpec.preRow_of_cond 8 hx (by kernel_rfl) (fun k hk => by cases hk; kernel_rfl) (by kernel_rfl) (repoLedger_met os))) ?_
  intro W base args ds gs before hval hW _ hc _ _ _ _
  exact repoLedger_contract H enc W base args ds gs before hval hW (hc _ rfl)

theorem repoLedger_said : Rows.RepoLedgerUptoSaid :=
  OpenClaim.holds_of_cond 10 Tryz.f10 rfl rfl rfl rfl rfl rfl rfl ⟨rfl, rfl, rfl, rfl, rfl⟩ rfl rfl rfl rfl rfl (by kernel_rfl) Tryz.func10 (by kernel_rfl)
    (of_decide_eq_true (by kernel_rfl)) (by unfold Func.isWrapper; first | (rw [if_pos (by decide +kernel)]; kernel_rfl) | (rw [if_neg (by decide +kernel)]; exact ⟨rfl, rfl⟩))
    (fun os started H enc _ F => by rw [OpenClaim.pre_eq_preRow]; exact repoLedger_lifted os started H enc F)

theorem repoLedger_plain (f : FuncId) (fn : Func) (hf : Tryz.pinned.checked.prog.funcNamed "ostler/ostlerlaw16.RepoLedger" = some f) (hfn : Tryz.pinned.checked.prog.funcs[f]? = some fn) :
    false = Tryz.pinned.checked.prog.looks [] ∧ ∀ (j : Nat) t, fn.params[j]? = some t → Tryz.pinned.checked.prog.wantsStandIn t = false := by
  obtain rfl : f = 10 := Option.some.inj ((show Tryz.prog.funcNamed "ostler/ostlerlaw16.RepoLedger" = some 10 by kernel_rfl).symm.trans hf) |>.symm
  obtain rfl : fn = Tryz.f10 := (Option.some.inj (Tryz.func10.symm.trans hfn)).symm
  refine ⟨by kernel_rfl, fun j t ht => ?_⟩
  rw [Tryz.params10] at ht
  have hm := Array.mem_of_getElem? ht
  simp only [List.mem_toArray, List.mem_cons, List.not_mem_nil, or_false] at hm
  rw [hm]
  exact (show Tryz.prog.wantsStandIn 97 = false by kernel_rfl)

theorem repoLedger_proved : Rows.RepoLedgerUptoCardSaid :=
  Claim7.holds_tied_plain_at .later [] _ _ _ _ repoLedger_said (fun _ h => by cases h) (by kernel_rfl) (fun _ h => by cases h) repoLedgerUpto_row_tie rfl ⟨rfl, rfl⟩ (by kernel_rfl) rfl repoLedger_plain (by kernel_rfl)
end Go.Proofs.YtlgkdnmklgbhbaaGreatDoor

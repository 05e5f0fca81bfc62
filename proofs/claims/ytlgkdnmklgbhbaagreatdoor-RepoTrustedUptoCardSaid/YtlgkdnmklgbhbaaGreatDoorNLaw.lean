/- Law RepoTrusted of seat YtlgkdnmklgbhbaaGreatDoor is proved, the card with it: whatever seed, acts and life come in, of bulk at most 1048576: the call returns true and leaves all that was there as it was. -/
import Derived.Test.YtlgkdnmklgbhbaaGreatDoorMQ
import Derived.Test.YtlgkdnmklgbhbaaGreatDoorMO
namespace Go.Proofs.YtlgkdnmklgbhbaaGreatDoor
open Go Go.Fw Go.ChangeShapes Go.WideShapes Go.ChangeAt Go.RowKit
set_option maxRecDepth 100000

theorem opens_act : Opens 100 RAct (fun n x => x.t.name.size ≤ n ∧ x.t.hw.size ≤ n ∧ x.t.ecu.size ≤ n) := by
  intro H enc w fuel cs z hz;have hl := (opens_len Tryz.underlying100 hz).trans (by kernel_rfl : Tryz.prog.cellsOf 100 = 40);obtain ⟨kd, _, h0, _, _⟩ := opens_fields Tryz.underlying100 hz (i := 0) (off := 0) (sz := 1) rfl rfl (by kernel_rfl) (opens_int Tryz.underlying3);obtain ⟨tt, m1, ⟨h1l, h1⟩, ⟨g1, g2, g3⟩, k1⟩ := opens_fields Tryz.underlying100 hz (i := 1) (off := 1) (sz := 37) rfl rfl (by kernel_rfl) opens_tgtN;obtain ⟨nw, _, h2, _, _⟩ := opens_fields Tryz.underlying100 hz (i := 2) (off := 38) (sz := 1) rfl rfl (by kernel_rfl) (opens_int Tryz.underlying3);obtain ⟨lf, _, h3, _, _⟩ := opens_fields Tryz.underlying100 hz (i := 3) (off := 39) (sz := 1) rfl rfl (by kernel_rfl) (opens_int Tryz.underlying3);refine ⟨⟨kd, tt, nw, lf⟩, ⟨h1l, ?_⟩, by show tt.name.size ≤ _; omega, by show tt.hw.size ≤ _; omega, by show tt.ecu.size ≤ _; omega⟩;have hd : cs.drop 40 = [] := List.drop_eq_nil_of_le (by omega);rw [show cs = cs.drop 0 from rfl, ds h0, ds h1, ds h2, ds h3, hd];simp [Act.cells]
theorem opens_acts : Opens 97 (fun w l cs => ∃ v, cs = [v] ∧ SlAt 40 RAct w v l) (fun n l => l.length ≤ n ∧ ∀ x ∈ l, ∃ m, m ≤ n ∧ (x.t.name.size ≤ m ∧ x.t.hw.size ≤ m ∧ x.t.ecu.size ≤ m)) := opens_slice Tryz.underlying97 (by kernel_rfl) (by decide) opens_act

theorem okWide_array {P : Program} {w : World} {r : Reach} {base : Nat} {t : TypeId} {v : Value} {n : Nat} {e : TypeId} (ht : P.underlying t = some (.array n e)) (h : Value.okWide P w r base t v) : ∃ cs, v = .agg cs ∧ cs.size = P.cellsOf t := by
  simp only [Value.okWide, ht] at h;obtain ⟨cs, h1, h2, _⟩ := h;exact ⟨cs, h1, h2⟩
def hashZ : Value := .agg ⟨List.replicate 32 (.int .u8 0)⟩
def hashD {H : Type} : DataW H := .agg (List.replicate 32 (.lit (.int .u8 0)))
theorem opens_seed : Opens 25 (fun _ s cs => s.length = 32 ∧ cs = hcells s) (fun _ _ => True) := opens_hash Tryz.underlying25 Tryz.underlying5 (by kernel_rfl) (by kernel_rfl)

theorem repoTrusted_contract (H : Type) (enc : TypeId × Value → H) (W : World) (base : Nat) (args : Array Value) (ds gs : List (DataW H)) (before : List MemPlace)
    (hval : ∀ (j : Nat) t v, Tryz.f9.params[j]? = some t → args[j]? = some v → Value.okWide Tryz.prog W .any base t v)
    (hW : DataW.Whole enc Tryz.prog Tryz.f9.params.toList Rows.repoTrustedSpec.vars false W args.toList ds gs before) (hk : Rows.uptoSmall H (ds ++ gs) = true) :
    Calls Tryz.prog 9 args W fun e W' => ∃ v, e = .returned v ∧ Rows.repoTrustedSpec.post enc Tryz.prog Tryz.f9 false true false false W args v W' := by
  have hW' := hW;obtain ⟨p, q, hA0, hV, -, -, -⟩ := hW;have hA : DataW.TrodAll enc Tryz.prog W 0 (fun _ => true) true Tryz.f9.params.toList args.toList ds p := hA0;rw [Tryz.params9] at hA hval;obtain ⟨v0, vs0, d0, ds0, p0, q0, hargs, rfl, rfl, h0, r0⟩ := trodAll_cons hA;obtain ⟨v1, vs1, d1, ds1, p1, q1, rfl, rfl, rfl, h1, r1⟩ := trodAll_cons r0;obtain ⟨v2, vs2, d2, ds2, p2, q2, rfl, rfl, rfl, h2, r2⟩ := trodAll_cons r1;obtain ⟨rfl, rfl, rfl⟩ := trodAll_nil r2;obtain rfl : args = #[v0, v1, v2] := by cases args; simp_all
  obtain ⟨rfl, rfl⟩ := trodVars_none hV;clear hA0 hV hA;have hbk : Rows.uptoBulkAll [d0, d1, d2] ≤ 1048576 := of_decide_eq_true (by simpa [Rows.uptoSmall] using hk);simp only [Rows.uptoBulkAll] at hbk;obtain ⟨⟨a_cs⟩, rfl, -⟩ := okWide_array Tryz.underlying25 (hval 0 25 v0 rfl rfl);obtain ⟨f0, hf0⟩ := h0;obtain ⟨a, ha, haq⟩ := opens_seed H enc W f0 _ _ hf0
  try simp only at haq
  obtain ⟨b_a, b_n, b_c, rfl⟩ := okWide_slice Tryz.underlying97 (hval 1 97 v1 rfl rfl);obtain ⟨f1, hf1⟩ := h1;obtain ⟨b, ⟨b_v, b_e, hb⟩, hbq⟩ := opens_acts H enc W f1 _ _ hf1;obtain rfl : Value.slice b_a b_n b_c = b_v := by simpa [Value.cells] using b_e
  simp only at hbq;obtain ⟨c, rfl, rfl, rfl, wc⟩ := open_int Tryz.underlying3 (hval 2 3 v2 rfl rfl) h2;have hc : -9223372036854775808 ≤ c ∧ c ≤ 9223372036854775807 := by simpa [Lit.wf, IntKind.min, IntKind.max, IntKind.signed, IntKind.bits] using wc
  refine Calls.mono ((fun {acs : List Value} (ha : a.length = 32 ∧ acs = hcells a) => (by obtain ⟨ha1, rfl⟩ := ha; exact lawTrusted_any a ha1 b b_a b_n b_c c W hb (fun t ht => by obtain ⟨m, h1, h2, h3, h4⟩ := hbq.2 t ht; exact ⟨by omega, by omega, by omega⟩) : Ret Tryz.prog 9 [.agg ⟨acs⟩, .slice b_a b_n b_c, .int .i64 c] W fun r w' => r = .bool true ∧ Ext W w')) ha) fun e W' ⟨v, he, hv, hE⟩ => ⟨v, he, ?_⟩
  subst hv;exact law_post (by kernel_rfl) (by kernel_rfl) (rfl : Tryz.f9.resultTypes = #[4]) Tryz.underlying4 hW' rfl rfl rfl rfl hE

theorem repoTrusted_reads (os : Os) {H : Type} (enc : TypeId × Value → H) : ∃ places, DataW.whole enc Tryz.prog ((laidWorld os).forCall (fun _ _ => 0) ⟨#[], #[hashZ, .slice none 0 0, .int .i64 0], []⟩).memory Tryz.f9.params.toList Rows.repoTrustedSpec.vars false #[hashZ, .slice none 0 0, .int .i64 0].toList 8 = some ([hashD, .nil, .lit (.int .i64 0)], [], places) :=
  ⟨[], by kernel_rfl⟩
theorem repoTrusted_met (os : Os) : laidMet Tryz.prog Rows.repoTrustedUptoRow.laid ((laidWorld os).forCall (fun _ _ => 0) ⟨#[], #[hashZ, .slice none 0 0, .int .i64 0], []⟩).memory :=
  laidMet_of_run' 8 (by kernel_rfl) (by kernel_rfl)
theorem repoTrusted_lifted (os : Os) (started : os.Started) (H : Type) (enc : TypeId × Value → H) (F : Stop.Interp) :
    ReturnsInHanded {} Tryz.checked os 9 .any ((Rows.OpenSpec.upto Rows.repoTrustedSpec).preRow enc Tryz.prog Tryz.f9 Rows.repoTrustedUptoRow.domain false Rows.repoTrustedUptoRow.laid) (((Rows.OpenSpec.upto Rows.repoTrustedSpec).at F).post enc Tryz.prog Tryz.f9 false true false false) := by
  obtain ⟨places, hx⟩ := repoTrusted_reads os enc;refine returnsInHanded_of_row (C := Tryz.checked) (s := Rows.OpenSpec.upto Rows.repoTrustedSpec) own started (by kernel_rfl) Tryz.func9
    (witness_row_at (enc := enc) (C := Tryz.checked) false (laidWorld os) #[hashZ, .slice none 0 0, .int .i64 0] rfl (by kernel_rfl) (by kernel_rfl) (by kernel_rfl)
      (OpenSpec.preRow_of_cond 8 hx (by kernel_rfl) (fun k hk => by cases hk; kernel_rfl) (by kernel_rfl) (repoTrusted_met os))) ?_
  intro W base args ds gs before hval hW _ hc _ _ _ _;exact repoTrusted_contract H enc W base args ds gs before hval hW (hc _ rfl)

theorem repoTrusted_said : Rows.RepoTrustedUptoSaid :=
  OpenClaim.holds_of_cond 9 Tryz.f9 rfl rfl rfl rfl rfl rfl rfl ⟨rfl, rfl, rfl, rfl, rfl⟩ rfl rfl rfl rfl rfl (by kernel_rfl) Tryz.func9 (by kernel_rfl)
    (of_decide_eq_true (by kernel_rfl)) (by unfold Func.isWrapper; first | (rw [if_pos (by decide +kernel)]; kernel_rfl) | (rw [if_neg (by decide +kernel)]; exact ⟨rfl, rfl⟩))
    (fun os started H enc _ F => by rw [OpenClaim.pre_eq_preRow]; exact repoTrusted_lifted os started H enc F)

theorem repoTrusted_plain (f : FuncId) (fn : Func) (hf : Tryz.pinned.checked.prog.funcNamed "ostler/ostlerlaw16.RepoTrusted" = some f) (hfn : Tryz.pinned.checked.prog.funcs[f]? = some fn) :
    false = Tryz.pinned.checked.prog.looks [] ∧ ∀ (j : Nat) t, fn.params[j]? = some t → Tryz.pinned.checked.prog.wantsStandIn t = false := by
  obtain rfl : f = 9 := Option.some.inj ((show Tryz.prog.funcNamed "ostler/ostlerlaw16.RepoTrusted" = some 9 by kernel_rfl).symm.trans hf) |>.symm;obtain rfl : fn = Tryz.f9 := (Option.some.inj (Tryz.func9.symm.trans hfn)).symm;refine ⟨by kernel_rfl, fun j t ht => ?_⟩;rw [Tryz.params9] at ht;have hm := Array.mem_of_getElem? ht;simp only [List.mem_toArray, List.mem_cons, List.not_mem_nil, or_false] at hm;rcases hm with hm | hm | hm <;> rw [hm]
  · exact (show Tryz.prog.wantsStandIn 25 = false by kernel_rfl)
  · exact (show Tryz.prog.wantsStandIn 97 = false by kernel_rfl)
  · exact (show Tryz.prog.wantsStandIn 3 = false by kernel_rfl)

theorem repoTrusted_proved : Rows.RepoTrustedUptoCardSaid :=
  Claim7.holds_tied_plain_at .later [] _ _ _ _ repoTrusted_said (fun _ h => by cases h) (by kernel_rfl) (fun _ h => by cases h) repoTrustedUpto_row_tie rfl ⟨rfl, rfl⟩ (by kernel_rfl) rfl repoTrusted_plain (by kernel_rfl)
end Go.Proofs.YtlgkdnmklgbhbaaGreatDoor

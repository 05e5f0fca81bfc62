/-
  No cell of these rows narrows 'for every input' (looked for: loops, veiled, ifaces, maps, wideKeys, modest, calm, conditions, laid).
  DERIVED. THE GIVEN ROWS OF THIS SEAT. 8 by the template 'for every input the law returns true; each argument reads behind the call as it read before'; 0 by the template 'total and deterministic' (their statements: YtpomcdmlmaimeaaTotals.lean).
  GIVEN WITH THE SEED: the statements are not yours to turn. If you find one false, say at which input.
  Laid BY PROGRAM, IN A SANDBOX (cutbox-rows.mjs): the forced cells as the released guide's own fill.sh prints them over the translation 7fb716f9ac7f5302… (all of the seat's roots in one cut). By AI agents, Wed Nov 11 2026. No macro, syntax, notation, axiom, sorry.
-/
import Derived.Test.YtpomcdmlmaimeaaChecked
import GoSem.Claim
import GoSem.ClaimJoined
import GoSem.ClaimMapViews
import Derived.JoinedTies
import Derived.KernelRfl
namespace Go.Proofs.Ytpomcdmlmaimeaa
/- THE CELL 'sum', in the pinned program and in every row, IS THE sha256 OF THE DUMP (.gsa) THAT YtpomcdmlmaimeaaProg.lean LOADS. Nothing in Lean hashes anything: it is a label: what it is worth is what the hold of that sum in a sandbox is worth. -/
noncomputable def Try.pinned : Pinned := { name := "ytpomcdmlmaimeaa", sum := "7fb716f9ac7f53022abfff17e6584013b95d9854370cb914826170e0fb15fede", checked := Try.checked }
namespace Rows
def none {H : Type} : Left H := { results := [], args := [] }

/-- 'ostlerlaw10.FindOwn': WHATEVER THE INPUT: true; the input reads as it did. -/
def findOwnSpec : ChangeSpec := { name := "findOwn", fn := fun _ => fun
  | [d1, d2] => { results := [.lit (.bool true)], args := [d1, d2] }
  | _ => none }
def findOwnRow : OpenClaim := { program := "ytpomcdmlmaimeaa", sum := "7fb716f9ac7f53022abfff17e6584013b95d9854370cb914826170e0fb15fede", func := "ostler/ostlerlaw10.FindOwn", spec := "findOwn", unfollowed := true, recurses := true, apart := false }
def FindOwnSaid : Prop := findOwnRow.holds Try.pinned (OpenSpec.ofChange findOwnSpec)

/-- ITS FALSE NEIGHBOUR: 'it returns false'. Refute it at one input. -/
def findOwnWrong : ChangeSpec := { name := "findOwn", fn := fun _ => fun
  | [d1, d2] => { results := [.lit (.bool false)], args := [d1, d2] }
  | _ => none }
def FindOwnWrongFalsely : Prop := findOwnRow.holds Try.pinned (OpenSpec.ofChange findOwnWrong)

/-- 'ostlerlaw10.FindPrefix': WHATEVER THE INPUT: true; the input reads as it did. -/
def findPrefixSpec : ChangeSpec := { name := "findPrefix", fn := fun _ => fun
  | [d1, d2] => { results := [.lit (.bool true)], args := [d1, d2] }
  | _ => none }
def findPrefixRow : OpenClaim := { program := "ytpomcdmlmaimeaa", sum := "7fb716f9ac7f53022abfff17e6584013b95d9854370cb914826170e0fb15fede", func := "ostler/ostlerlaw10.FindPrefix", spec := "findPrefix", unfollowed := true, recurses := true, apart := false }
def FindPrefixSaid : Prop := findPrefixRow.holds Try.pinned (OpenSpec.ofChange findPrefixSpec)

/-- ITS FALSE NEIGHBOUR: 'it returns false'. Refute it at one input. -/
def findPrefixWrong : ChangeSpec := { name := "findPrefix", fn := fun _ => fun
  | [d1, d2] => { results := [.lit (.bool false)], args := [d1, d2] }
  | _ => none }
def FindPrefixWrongFalsely : Prop := findPrefixRow.holds Try.pinned (OpenSpec.ofChange findPrefixWrong)

/-- 'ostlerlaw10.FindDeep': WHATEVER THE INPUT: true; the input reads as it did. -/
def findDeepSpec : ChangeSpec := { name := "findDeep", fn := fun _ => fun
  | [d] => { results := [.lit (.bool true)], args := [d] }
  | _ => none }
def findDeepRow : OpenClaim := { program := "ytpomcdmlmaimeaa", sum := "7fb716f9ac7f53022abfff17e6584013b95d9854370cb914826170e0fb15fede", func := "ostler/ostlerlaw10.FindDeep", spec := "findDeep", unfollowed := true, recurses := true, apart := false }
def FindDeepSaid : Prop := findDeepRow.holds Try.pinned (OpenSpec.ofChange findDeepSpec)

/-- ITS FALSE NEIGHBOUR: 'it returns false'. Refute it at one input. -/
def findDeepWrong : ChangeSpec := { name := "findDeep", fn := fun _ => fun
  | [d] => { results := [.lit (.bool false)], args := [d] }
  | _ => none }
def FindDeepWrongFalsely : Prop := findDeepRow.holds Try.pinned (OpenSpec.ofChange findDeepWrong)

/-- 'ostlerlaw10.FindRound': WHATEVER THE INPUT: true; the input reads as it did. -/
def findRoundSpec : ChangeSpec := { name := "findRound", fn := fun _ => fun
  | [d1, d2] => { results := [.lit (.bool true)], args := [d1, d2] }
  | _ => none }
def findRoundRow : OpenClaim := { program := "ytpomcdmlmaimeaa", sum := "7fb716f9ac7f53022abfff17e6584013b95d9854370cb914826170e0fb15fede", func := "ostler/ostlerlaw10.FindRound", spec := "findRound", unfollowed := true, recurses := true, apart := false }
def FindRoundSaid : Prop := findRoundRow.holds Try.pinned (OpenSpec.ofChange findRoundSpec)

/-- ITS FALSE NEIGHBOUR: 'it returns false'. Refute it at one input. -/
def findRoundWrong : ChangeSpec := { name := "findRound", fn := fun _ => fun
  | [d1, d2] => { results := [.lit (.bool false)], args := [d1, d2] }
  | _ => none }
def FindRoundWrongFalsely : Prop := findRoundRow.holds Try.pinned (OpenSpec.ofChange findRoundWrong)

/-- 'ostlerlaw10.FindFirst': WHATEVER THE INPUT: true; the input reads as it did. -/
def findFirstSpec : ChangeSpec := { name := "findFirst", fn := fun _ => fun
  | [d1, d2, d3] => { results := [.lit (.bool true)], args := [d1, d2, d3] }
  | _ => none }
def findFirstRow : OpenClaim := { program := "ytpomcdmlmaimeaa", sum := "7fb716f9ac7f53022abfff17e6584013b95d9854370cb914826170e0fb15fede", func := "ostler/ostlerlaw10.FindFirst", spec := "findFirst", unfollowed := true, recurses := true, apart := false }
def FindFirstSaid : Prop := findFirstRow.holds Try.pinned (OpenSpec.ofChange findFirstSpec)

/-- ITS FALSE NEIGHBOUR: 'it returns false'. Refute it at one input. -/
def findFirstWrong : ChangeSpec := { name := "findFirst", fn := fun _ => fun
  | [d1, d2, d3] => { results := [.lit (.bool false)], args := [d1, d2, d3] }
  | _ => none }
def FindFirstWrongFalsely : Prop := findFirstRow.holds Try.pinned (OpenSpec.ofChange findFirstWrong)

/-- 'ostlerlaw10.FindTells': WHATEVER THE INPUT: true; the input reads as it did. -/
def findTellsSpec : ChangeSpec := { name := "findTells", fn := fun _ => fun
  | [d1, d2, d3] => { results := [.lit (.bool true)], args := [d1, d2, d3] }
  | _ => none }
def findTellsRow : OpenClaim := { program := "ytpomcdmlmaimeaa", sum := "7fb716f9ac7f53022abfff17e6584013b95d9854370cb914826170e0fb15fede", func := "ostler/ostlerlaw10.FindTells", spec := "findTells", unfollowed := true, recurses := true, apart := false }
def FindTellsSaid : Prop := findTellsRow.holds Try.pinned (OpenSpec.ofChange findTellsSpec)

/-- ITS FALSE NEIGHBOUR: 'it returns false'. Refute it at one input. -/
def findTellsWrong : ChangeSpec := { name := "findTells", fn := fun _ => fun
  | [d1, d2, d3] => { results := [.lit (.bool false)], args := [d1, d2, d3] }
  | _ => none }
def FindTellsWrongFalsely : Prop := findTellsRow.holds Try.pinned (OpenSpec.ofChange findTellsWrong)

/-- 'ostlerlaw10.FindNone': WHATEVER THE INPUT: true; the input reads as it did. -/
def findNoneSpec : ChangeSpec := { name := "findNone", fn := fun _ => fun
  | [d1, d2] => { results := [.lit (.bool true)], args := [d1, d2] }
  | _ => none }
def findNoneRow : OpenClaim := { program := "ytpomcdmlmaimeaa", sum := "7fb716f9ac7f53022abfff17e6584013b95d9854370cb914826170e0fb15fede", func := "ostler/ostlerlaw10.FindNone", spec := "findNone", unfollowed := true, recurses := true, apart := false }
def FindNoneSaid : Prop := findNoneRow.holds Try.pinned (OpenSpec.ofChange findNoneSpec)

/-- ITS FALSE NEIGHBOUR: 'it returns false'. Refute it at one input. -/
def findNoneWrong : ChangeSpec := { name := "findNone", fn := fun _ => fun
  | [d1, d2] => { results := [.lit (.bool false)], args := [d1, d2] }
  | _ => none }
def FindNoneWrongFalsely : Prop := findNoneRow.holds Try.pinned (OpenSpec.ofChange findNoneWrong)

/-- 'ostlerlaw10.FindEcu': WHATEVER THE INPUT: true; the input reads as it did. -/
def findEcuSpec : ChangeSpec := { name := "findEcu", fn := fun _ => fun
  | [d1, d2] => { results := [.lit (.bool true)], args := [d1, d2] }
  | _ => none }
def findEcuRow : OpenClaim := { program := "ytpomcdmlmaimeaa", sum := "7fb716f9ac7f53022abfff17e6584013b95d9854370cb914826170e0fb15fede", func := "ostler/ostlerlaw10.FindEcu", spec := "findEcu", unfollowed := true, recurses := true, apart := false }
def FindEcuSaid : Prop := findEcuRow.holds Try.pinned (OpenSpec.ofChange findEcuSpec)

/-- ITS FALSE NEIGHBOUR: 'it returns false'. Refute it at one input. -/
def findEcuWrong : ChangeSpec := { name := "findEcu", fn := fun _ => fun
  | [d1, d2] => { results := [.lit (.bool false)], args := [d1, d2] }
  | _ => none }
def FindEcuWrongFalsely : Prop := findEcuRow.holds Try.pinned (OpenSpec.ofChange findEcuWrong)

/- THE SECOND FORM. 'bulk': how many values and letters a reading holds, each counted each time it is reached (what is shared counts as often as it is met; a slice's spare places count too). A statement '..UptoSaid' is the law's where the arguments, and the package variables that the reading takes, are together of bulk at most 1048576: NARROWER than '..Said'. Prove '..Said' where nothing that the law and all that it calls make is longer than what came in: it says more and counts as full. Else prove '..UptoSaid'. A law counts once. -/
mutual
def uptoBulk {H : Type} : DataW H → Nat
  | .lit (.string bytes) => bytes.length + 1
  | .lit _ => 1
  | .nil => 1
  | .ptr d => uptoBulk d + 1
  | .slice elems spare => uptoBulkAll elems + uptoBulkAll spare + 1
  | .agg parts => uptoBulkAll parts + 1
  | .iface _ d => uptoBulk d + 1
  | .map entries => uptoBulkEntries entries + 1
  | .held _ => 1
def uptoBulkAll {H : Type} : List (DataW H) → Nat
  | [] => 0
  | d :: r => uptoBulk d + uptoBulkAll r
def uptoBulkEntries {H : Type} : List (Lit × DataW H) → Nat
  | [] => 0
  | x :: r => uptoBulkEntry x + uptoBulkEntries r
def uptoBulkEntry {H : Type} : Lit × DataW H → Nat
  | (.string bytes, d) => bytes.length + uptoBulk d + 1
  | (_, d) => uptoBulk d + 1
 end
def uptoSmall : (H : Type) → List (DataW H) → Bool := fun _ ds => decide (uptoBulkAll ds ≤ 1048576)
def OpenSpec.upto (s : _root_.Go.ChangeSpec) : _root_.Go.OpenSpec := { _root_.Go.OpenSpec.ofChange s with cond := some uptoSmall }

/-- 'ostlerlaw10.FindOwn', WHERE WHAT IT READS IS OF BULK AT MOST 1048576: true; the input reads as it did. -/
def findOwnUptoRow : OpenClaim := { program := "ytpomcdmlmaimeaa", sum := "7fb716f9ac7f53022abfff17e6584013b95d9854370cb914826170e0fb15fede", func := "ostler/ostlerlaw10.FindOwn", spec := "findOwn", unfollowed := true, recurses := true, apart := false, narrowed := true }
def FindOwnUptoSaid : Prop := findOwnUptoRow.holds Try.pinned (OpenSpec.upto findOwnSpec)

/-- 'ostlerlaw10.FindPrefix', WHERE WHAT IT READS IS OF BULK AT MOST 1048576: true; the input reads as it did. -/
def findPrefixUptoRow : OpenClaim := { program := "ytpomcdmlmaimeaa", sum := "7fb716f9ac7f53022abfff17e6584013b95d9854370cb914826170e0fb15fede", func := "ostler/ostlerlaw10.FindPrefix", spec := "findPrefix", unfollowed := true, recurses := true, apart := false, narrowed := true }
def FindPrefixUptoSaid : Prop := findPrefixUptoRow.holds Try.pinned (OpenSpec.upto findPrefixSpec)

/-- 'ostlerlaw10.FindDeep', WHERE WHAT IT READS IS OF BULK AT MOST 1048576: true; the input reads as it did. -/
def findDeepUptoRow : OpenClaim := { program := "ytpomcdmlmaimeaa", sum := "7fb716f9ac7f53022abfff17e6584013b95d9854370cb914826170e0fb15fede", func := "ostler/ostlerlaw10.FindDeep", spec := "findDeep", unfollowed := true, recurses := true, apart := false, narrowed := true }
def FindDeepUptoSaid : Prop := findDeepUptoRow.holds Try.pinned (OpenSpec.upto findDeepSpec)

/-- 'ostlerlaw10.FindRound', WHERE WHAT IT READS IS OF BULK AT MOST 1048576: true; the input reads as it did. -/
def findRoundUptoRow : OpenClaim := { program := "ytpomcdmlmaimeaa", sum := "7fb716f9ac7f53022abfff17e6584013b95d9854370cb914826170e0fb15fede", func := "ostler/ostlerlaw10.FindRound", spec := "findRound", unfollowed := true, recurses := true, apart := false, narrowed := true }
def FindRoundUptoSaid : Prop := findRoundUptoRow.holds Try.pinned (OpenSpec.upto findRoundSpec)

/-- 'ostlerlaw10.FindFirst', WHERE WHAT IT READS IS OF BULK AT MOST 1048576: true; the input reads as it did. -/
def findFirstUptoRow : OpenClaim := { program := "ytpomcdmlmaimeaa", sum := "7fb716f9ac7f53022abfff17e6584013b95d9854370cb914826170e0fb15fede", func := "ostler/ostlerlaw10.FindFirst", spec := "findFirst", unfollowed := true, recurses := true, apart := false, narrowed := true }
def FindFirstUptoSaid : Prop := findFirstUptoRow.holds Try.pinned (OpenSpec.upto findFirstSpec)

/-- 'ostlerlaw10.FindTells', WHERE WHAT IT READS IS OF BULK AT MOST 1048576: true; the input reads as it did. -/
def findTellsUptoRow : OpenClaim := { program := "ytpomcdmlmaimeaa", sum := "7fb716f9ac7f53022abfff17e6584013b95d9854370cb914826170e0fb15fede", func := "ostler/ostlerlaw10.FindTells", spec := "findTells", unfollowed := true, recurses := true, apart := false, narrowed := true }
def FindTellsUptoSaid : Prop := findTellsUptoRow.holds Try.pinned (OpenSpec.upto findTellsSpec)

/-- 'ostlerlaw10.FindNone', WHERE WHAT IT READS IS OF BULK AT MOST 1048576: true; the input reads as it did. -/
def findNoneUptoRow : OpenClaim := { program := "ytpomcdmlmaimeaa", sum := "7fb716f9ac7f53022abfff17e6584013b95d9854370cb914826170e0fb15fede", func := "ostler/ostlerlaw10.FindNone", spec := "findNone", unfollowed := true, recurses := true, apart := false, narrowed := true }
def FindNoneUptoSaid : Prop := findNoneUptoRow.holds Try.pinned (OpenSpec.upto findNoneSpec)

/-- 'ostlerlaw10.FindEcu', WHERE WHAT IT READS IS OF BULK AT MOST 1048576: true; the input reads as it did. -/
def findEcuUptoRow : OpenClaim := { program := "ytpomcdmlmaimeaa", sum := "7fb716f9ac7f53022abfff17e6584013b95d9854370cb914826170e0fb15fede", func := "ostler/ostlerlaw10.FindEcu", spec := "findEcu", unfollowed := true, recurses := true, apart := false, narrowed := true }
def FindEcuUptoSaid : Prop := findEcuUptoRow.holds Try.pinned (OpenSpec.upto findEcuSpec)

end Rows
end Go.Proofs.Ytpomcdmlmaimeaa

/-
  NARROWER THAN 'FOR EVERY INPUT', by the rows' own cells (each row's printed sentence says how): RepoVersions: laid · RepoUsed: laid · RepoRotates: laid · DirectorAssigns: laid · DirectorMany: laid · RepoList: laid · RepoTrusted: laid · RepoLedger: laid · RepoOfNothing: laid.
  DERIVED. THE GIVEN ROWS OF THIS SEAT. 9 by the template 'for every input the law returns true; each argument reads behind the call as it read before'; 0 by the template 'total and deterministic' (their statements: YtlgkdnmklgbhbaaGreatDoorTotals.lean).
  GIVEN WITH THE SEED: the statements are not yours to turn. If you find one false, say at which input.
  Laid BY PROGRAM, IN A SANDBOX (cutbox-rows.mjs): the forced cells as the released guide's own fill.sh prints them over the translation 85a2f3182146b894… (all of the seat's roots in one cut). By AI agents, Wed Nov 11 2026. No macro, syntax, notation, axiom, sorry.
-/
import Derived.Test.YtlgkdnmklgbhbaaGreatDoorChecked
import GoSem.PinnedTables
import GoSem.Claim
import GoSem.ClaimJoined
import GoSem.ClaimMapViews
import Derived.JoinedTies
import Derived.KernelRfl
namespace Go.Proofs.YtlgkdnmklgbhbaaGreatDoor
/- THE CELL 'sum', in the pinned program and in every row, IS THE sha256 OF THE DUMP (.gsa) THAT YtlgkdnmklgbhbaaGreatDoorProg.lean LOADS. Nothing in Lean hashes anything: it is a label: what it is worth is what the hold of that sum in a sandbox is worth. -/
noncomputable def Tryz.pinned : Pinned := { name := "ytlgkdnmklgbhbaagreatdoor", sum := "85a2f3182146b89425c1773922b1e2752541914d356ec0f7a09117fb3b466b09", checked := Tryz.checked }
namespace Rows
def none {H : Type} : Left H := { results := [], args := [] }

/- WHAT THE LISTED PACKAGE-LEVEL VARIABLES READ AS WHEN THE CALL BEGINS. Each datum BY PROGRAM (the guide's laid-datum.mjs) off the statement by which the dump's own 'gosem.cut.vars' lays the variable. In a bare row this is a premise. The card (YtlgkdnmklgbhbaaGreatDoorCards.lean) ties it to the program's text. -/
def laid_unicode_utf8_acceptRanges {H : Type} : DataW H := .agg [.agg [.lit (.int .u8 128), .lit (.int .u8 191)], .agg [.lit (.int .u8 160), .lit (.int .u8 191)], .agg [.lit (.int .u8 128), .lit (.int .u8 159)], .agg [.lit (.int .u8 144), .lit (.int .u8 191)], .agg [.lit (.int .u8 128), .lit (.int .u8 143)], .agg [.lit (.int .u8 0), .lit (.int .u8 0)], .agg [.lit (.int .u8 0), .lit (.int .u8 0)], .agg [.lit (.int .u8 0), .lit (.int .u8 0)], .agg [.lit (.int .u8 0), .lit (.int .u8 0)], .agg [.lit (.int .u8 0), .lit (.int .u8 0)], .agg [.lit (.int .u8 0), .lit (.int .u8 0)], .agg [.lit (.int .u8 0), .lit (.int .u8 0)], .agg [.lit (.int .u8 0), .lit (.int .u8 0)], .agg [.lit (.int .u8 0), .lit (.int .u8 0)], .agg [.lit (.int .u8 0), .lit (.int .u8 0)], .agg [.lit (.int .u8 0), .lit (.int .u8 0)]]
/-- One of Go's own tables, pinned by name: the form's constant. -/
def laid_unicode_utf8_first : DataW Unit := Go.Pinned.utf8First

/-- 'ostlerlaw16.RepoVersions': WHATEVER THE INPUT: true; the input reads as it did. -/
def repoVersionsSpec : ChangeSpec := { name := "repoVersions", fn := fun _ => fun
  | [d1, d2] => { results := [.lit (.bool true)], args := [d1, d2] }
  | _ => none }
def repoVersionsRow : OpenClaim := { program := "ytlgkdnmklgbhbaagreatdoor", sum := "85a2f3182146b89425c1773922b1e2752541914d356ec0f7a09117fb3b466b09", func := "ostler/ostlerlaw16.RepoVersions", spec := "repoVersions", inPlace := ["internal/bytealg.IndexByteString", "internal/bytealg.IndexString"], unfollowed := true, recurses := true, named := ["unicode/utf8.first", "unicode/utf8.acceptRanges", "internal/bytealg.MaxLen"], apart := false, laid := [("unicode/utf8.acceptRanges", laid_unicode_utf8_acceptRanges), ("unicode/utf8.first", laid_unicode_utf8_first)] }
def RepoVersionsSaid : Prop := repoVersionsRow.holds Tryz.pinned (OpenSpec.ofChange repoVersionsSpec)

/-- ITS FALSE NEIGHBOUR: 'it returns false'. Refute it at one input. -/
def repoVersionsWrong : ChangeSpec := { name := "repoVersions", fn := fun _ => fun
  | [d1, d2] => { results := [.lit (.bool false)], args := [d1, d2] }
  | _ => none }
def RepoVersionsWrongFalsely : Prop := repoVersionsRow.holds Tryz.pinned (OpenSpec.ofChange repoVersionsWrong)

/-- 'ostlerlaw16.RepoUsed': WHATEVER THE INPUT: true; the input reads as it did. -/
def repoUsedSpec : ChangeSpec := { name := "repoUsed", fn := fun _ => fun
  | [d] => { results := [.lit (.bool true)], args := [d] }
  | _ => none }
def repoUsedRow : OpenClaim := { program := "ytlgkdnmklgbhbaagreatdoor", sum := "85a2f3182146b89425c1773922b1e2752541914d356ec0f7a09117fb3b466b09", func := "ostler/ostlerlaw16.RepoUsed", spec := "repoUsed", inPlace := ["internal/bytealg.IndexByteString", "internal/bytealg.IndexString"], unfollowed := true, recurses := true, named := ["unicode/utf8.first", "unicode/utf8.acceptRanges", "internal/bytealg.MaxLen"], apart := false, laid := [("unicode/utf8.acceptRanges", laid_unicode_utf8_acceptRanges), ("unicode/utf8.first", laid_unicode_utf8_first)] }
def RepoUsedSaid : Prop := repoUsedRow.holds Tryz.pinned (OpenSpec.ofChange repoUsedSpec)

/-- ITS FALSE NEIGHBOUR: 'it returns false'. Refute it at one input. -/
def repoUsedWrong : ChangeSpec := { name := "repoUsed", fn := fun _ => fun
  | [d] => { results := [.lit (.bool false)], args := [d] }
  | _ => none }
def RepoUsedWrongFalsely : Prop := repoUsedRow.holds Tryz.pinned (OpenSpec.ofChange repoUsedWrong)

/-- 'ostlerlaw16.RepoRotates': WHATEVER THE INPUT: true; the input reads as it did. -/
def repoRotatesSpec : ChangeSpec := { name := "repoRotates", fn := fun _ => fun
  | [d1, d2] => { results := [.lit (.bool true)], args := [d1, d2] }
  | _ => none }
def repoRotatesRow : OpenClaim := { program := "ytlgkdnmklgbhbaagreatdoor", sum := "85a2f3182146b89425c1773922b1e2752541914d356ec0f7a09117fb3b466b09", func := "ostler/ostlerlaw16.RepoRotates", spec := "repoRotates", inPlace := ["internal/bytealg.IndexByteString", "internal/bytealg.IndexString"], unfollowed := true, recurses := true, named := ["unicode/utf8.first", "unicode/utf8.acceptRanges", "internal/bytealg.MaxLen"], apart := false, laid := [("unicode/utf8.acceptRanges", laid_unicode_utf8_acceptRanges), ("unicode/utf8.first", laid_unicode_utf8_first)] }
def RepoRotatesSaid : Prop := repoRotatesRow.holds Tryz.pinned (OpenSpec.ofChange repoRotatesSpec)

/-- ITS FALSE NEIGHBOUR: 'it returns false'. Refute it at one input. -/
def repoRotatesWrong : ChangeSpec := { name := "repoRotates", fn := fun _ => fun
  | [d1, d2] => { results := [.lit (.bool false)], args := [d1, d2] }
  | _ => none }
def RepoRotatesWrongFalsely : Prop := repoRotatesRow.holds Tryz.pinned (OpenSpec.ofChange repoRotatesWrong)

/-- 'ostlerlaw17.DirectorAssigns': WHATEVER THE INPUT: true; the input reads as it did. -/
def directorAssignsSpec : ChangeSpec := { name := "directorAssigns", fn := fun _ => fun
  | [d] => { results := [.lit (.bool true)], args := [d] }
  | _ => none }
def directorAssignsRow : OpenClaim := { program := "ytlgkdnmklgbhbaagreatdoor", sum := "85a2f3182146b89425c1773922b1e2752541914d356ec0f7a09117fb3b466b09", func := "ostler/ostlerlaw17.DirectorAssigns", spec := "directorAssigns", inPlace := ["internal/bytealg.IndexByteString", "internal/bytealg.IndexString", "internal/bytealg.abigen_runtime_cmpstring", "slices.overlaps[ostler/director.vehicle]", "slices.overlaps[ostler/api.Target]"], unfollowed := true, recurses := true, named := ["unicode/utf8.first", "unicode/utf8.acceptRanges", "internal/bytealg.MaxLen"], apart := false, laid := [("unicode/utf8.acceptRanges", laid_unicode_utf8_acceptRanges), ("unicode/utf8.first", laid_unicode_utf8_first)] }
def DirectorAssignsSaid : Prop := directorAssignsRow.holds Tryz.pinned (OpenSpec.ofChange directorAssignsSpec)

/-- ITS FALSE NEIGHBOUR: 'it returns false'. Refute it at one input. -/
def directorAssignsWrong : ChangeSpec := { name := "directorAssigns", fn := fun _ => fun
  | [d] => { results := [.lit (.bool false)], args := [d] }
  | _ => none }
def DirectorAssignsWrongFalsely : Prop := directorAssignsRow.holds Tryz.pinned (OpenSpec.ofChange directorAssignsWrong)

/-- 'ostlerlaw17.DirectorMany': WHATEVER THE INPUT: true; the input reads as it did. -/
def directorManySpec : ChangeSpec := { name := "directorMany", fn := fun _ => fun
  | [d] => { results := [.lit (.bool true)], args := [d] }
  | _ => none }
def directorManyRow : OpenClaim := { program := "ytlgkdnmklgbhbaagreatdoor", sum := "85a2f3182146b89425c1773922b1e2752541914d356ec0f7a09117fb3b466b09", func := "ostler/ostlerlaw17.DirectorMany", spec := "directorMany", inPlace := ["internal/bytealg.abigen_runtime_cmpstring", "internal/bytealg.IndexByteString", "internal/bytealg.IndexString", "slices.overlaps[ostler/api.Target]", "slices.overlaps[ostler/director.vehicle]"], unfollowed := true, recurses := true, named := ["unicode/utf8.first", "unicode/utf8.acceptRanges", "internal/bytealg.MaxLen"], apart := false, laid := [("unicode/utf8.acceptRanges", laid_unicode_utf8_acceptRanges), ("unicode/utf8.first", laid_unicode_utf8_first)] }
def DirectorManySaid : Prop := directorManyRow.holds Tryz.pinned (OpenSpec.ofChange directorManySpec)

/-- ITS FALSE NEIGHBOUR: 'it returns false'. Refute it at one input. -/
def directorManyWrong : ChangeSpec := { name := "directorMany", fn := fun _ => fun
  | [d] => { results := [.lit (.bool false)], args := [d] }
  | _ => none }
def DirectorManyWrongFalsely : Prop := directorManyRow.holds Tryz.pinned (OpenSpec.ofChange directorManyWrong)

/-- 'ostlerlaw16.RepoList': WHATEVER THE INPUT: true; the input reads as it did. -/
def repoListSpec : ChangeSpec := { name := "repoList", fn := fun _ => fun
  | [d] => { results := [.lit (.bool true)], args := [d] }
  | _ => none }
def repoListRow : OpenClaim := { program := "ytlgkdnmklgbhbaagreatdoor", sum := "85a2f3182146b89425c1773922b1e2752541914d356ec0f7a09117fb3b466b09", func := "ostler/ostlerlaw16.RepoList", spec := "repoList", inPlace := ["internal/bytealg.IndexByteString", "internal/bytealg.IndexString", "internal/bytealg.abigen_runtime_cmpstring", "slices.overlaps[ostler/api.Target]"], unfollowed := true, recurses := true, named := ["unicode/utf8.first", "unicode/utf8.acceptRanges", "internal/bytealg.MaxLen"], apart := false, laid := [("unicode/utf8.acceptRanges", laid_unicode_utf8_acceptRanges), ("unicode/utf8.first", laid_unicode_utf8_first)] }
def RepoListSaid : Prop := repoListRow.holds Tryz.pinned (OpenSpec.ofChange repoListSpec)

/-- ITS FALSE NEIGHBOUR: 'it returns false'. Refute it at one input. -/
def repoListWrong : ChangeSpec := { name := "repoList", fn := fun _ => fun
  | [d] => { results := [.lit (.bool false)], args := [d] }
  | _ => none }
def RepoListWrongFalsely : Prop := repoListRow.holds Tryz.pinned (OpenSpec.ofChange repoListWrong)

/-- 'ostlerlaw16.RepoTrusted': WHATEVER THE INPUT: true; the input reads as it did. -/
def repoTrustedSpec : ChangeSpec := { name := "repoTrusted", fn := fun _ => fun
  | [d1, d2, d3] => { results := [.lit (.bool true)], args := [d1, d2, d3] }
  | _ => none }
def repoTrustedRow : OpenClaim := { program := "ytlgkdnmklgbhbaagreatdoor", sum := "85a2f3182146b89425c1773922b1e2752541914d356ec0f7a09117fb3b466b09", func := "ostler/ostlerlaw16.RepoTrusted", spec := "repoTrusted", inPlace := ["internal/bytealg.IndexByteString", "internal/bytealg.IndexString", "internal/bytealg.abigen_runtime_cmpstring", "slices.overlaps[ostler/api.Target]"], unfollowed := true, recurses := true, named := ["unicode/utf8.first", "unicode/utf8.acceptRanges", "internal/bytealg.MaxLen"], apart := false, laid := [("unicode/utf8.acceptRanges", laid_unicode_utf8_acceptRanges), ("unicode/utf8.first", laid_unicode_utf8_first)] }
def RepoTrustedSaid : Prop := repoTrustedRow.holds Tryz.pinned (OpenSpec.ofChange repoTrustedSpec)

/-- ITS FALSE NEIGHBOUR: 'it returns false'. Refute it at one input. -/
def repoTrustedWrong : ChangeSpec := { name := "repoTrusted", fn := fun _ => fun
  | [d1, d2, d3] => { results := [.lit (.bool false)], args := [d1, d2, d3] }
  | _ => none }
def RepoTrustedWrongFalsely : Prop := repoTrustedRow.holds Tryz.pinned (OpenSpec.ofChange repoTrustedWrong)

/-- 'ostlerlaw16.RepoLedger': WHATEVER THE INPUT: true; the input reads as it did. -/
def repoLedgerSpec : ChangeSpec := { name := "repoLedger", fn := fun _ => fun
  | [d] => { results := [.lit (.bool true)], args := [d] }
  | _ => none }
def repoLedgerRow : OpenClaim := { program := "ytlgkdnmklgbhbaagreatdoor", sum := "85a2f3182146b89425c1773922b1e2752541914d356ec0f7a09117fb3b466b09", func := "ostler/ostlerlaw16.RepoLedger", spec := "repoLedger", inPlace := ["internal/bytealg.IndexByteString", "internal/bytealg.IndexString", "internal/bytealg.abigen_runtime_cmpstring", "slices.overlaps[ostler/api.Target]"], unfollowed := true, recurses := true, named := ["unicode/utf8.first", "unicode/utf8.acceptRanges", "internal/bytealg.MaxLen"], apart := false, laid := [("unicode/utf8.acceptRanges", laid_unicode_utf8_acceptRanges), ("unicode/utf8.first", laid_unicode_utf8_first)] }
def RepoLedgerSaid : Prop := repoLedgerRow.holds Tryz.pinned (OpenSpec.ofChange repoLedgerSpec)

/-- ITS FALSE NEIGHBOUR: 'it returns false'. Refute it at one input. -/
def repoLedgerWrong : ChangeSpec := { name := "repoLedger", fn := fun _ => fun
  | [d] => { results := [.lit (.bool false)], args := [d] }
  | _ => none }
def RepoLedgerWrongFalsely : Prop := repoLedgerRow.holds Tryz.pinned (OpenSpec.ofChange repoLedgerWrong)

/-- 'ostlerlaw16.RepoOfNothing': WHATEVER THE INPUT: true; the input reads as it did. -/
def repoOfNothingSpec : ChangeSpec := { name := "repoOfNothing", fn := fun _ => fun
  | [d] => { results := [.lit (.bool true)], args := [d] }
  | _ => none }
def repoOfNothingRow : OpenClaim := { program := "ytlgkdnmklgbhbaagreatdoor", sum := "85a2f3182146b89425c1773922b1e2752541914d356ec0f7a09117fb3b466b09", func := "ostler/ostlerlaw16.RepoOfNothing", spec := "repoOfNothing", inPlace := ["internal/bytealg.IndexByteString", "internal/bytealg.IndexString", "internal/bytealg.abigen_runtime_cmpstring", "slices.overlaps[ostler/api.Target]"], unfollowed := true, recurses := true, named := ["unicode/utf8.first", "unicode/utf8.acceptRanges", "internal/bytealg.MaxLen"], apart := false, laid := [("unicode/utf8.acceptRanges", laid_unicode_utf8_acceptRanges), ("unicode/utf8.first", laid_unicode_utf8_first)] }
def RepoOfNothingSaid : Prop := repoOfNothingRow.holds Tryz.pinned (OpenSpec.ofChange repoOfNothingSpec)

/-- ITS FALSE NEIGHBOUR: 'it returns false'. Refute it at one input. -/
def repoOfNothingWrong : ChangeSpec := { name := "repoOfNothing", fn := fun _ => fun
  | [d] => { results := [.lit (.bool false)], args := [d] }
  | _ => none }
def RepoOfNothingWrongFalsely : Prop := repoOfNothingRow.holds Tryz.pinned (OpenSpec.ofChange repoOfNothingWrong)

/- THE SECOND FORM. 'bulk': how many values and letters a reading holds, each counted each time it is reached (what is shared counts as often as it is met; a slice's spare places count too). A statement '..UptoSaid' is the law's where the arguments, and the package variables that the reading takes, are together of bulk at most 1048576: NARROWER than '..Said'. Prove '..Said' where nothing that the law and all that it calls make is longer than what came in: it says more and counts as full. Else prove '..UptoSaid'. A law counts once. -/
mutual
def uptoBulk {H : Type} : DataW H → Nat
  | .lit (.string bytes) => bytes.length + 1
  | .lit _ => 1
  | .nil => 1
  | .ptr d => uptoBulk d + 1
  | .slice elems spare => uptoBulkAll elems + uptoBulkAll spare + 1
  | .agg parts => uptoBulkAll parts + 1
  | .iface _ d => uptoBulk d + 1
  | .map entries => uptoBulkEntries entries + 1
  | .held _ => 1
def uptoBulkAll {H : Type} : List (DataW H) → Nat
  | [] => 0
  | d :: r => uptoBulk d + uptoBulkAll r
def uptoBulkEntries {H : Type} : List (Lit × DataW H) → Nat
  | [] => 0
  | x :: r => uptoBulkEntry x + uptoBulkEntries r
def uptoBulkEntry {H : Type} : Lit × DataW H → Nat
  | (.string bytes, d) => bytes.length + uptoBulk d + 1
  | (_, d) => uptoBulk d + 1
 end
def uptoSmall : (H : Type) → List (DataW H) → Bool := fun _ ds => decide (uptoBulkAll ds ≤ 1048576)
def OpenSpec.upto (s : _root_.Go.ChangeSpec) : _root_.Go.OpenSpec := { _root_.Go.OpenSpec.ofChange s with cond := some uptoSmall }

/-- 'ostlerlaw16.RepoVersions', WHERE WHAT IT READS IS OF BULK AT MOST 1048576: true; the input reads as it did. -/
def repoVersionsUptoRow : OpenClaim := { program := "ytlgkdnmklgbhbaagreatdoor", sum := "85a2f3182146b89425c1773922b1e2752541914d356ec0f7a09117fb3b466b09", func := "ostler/ostlerlaw16.RepoVersions", spec := "repoVersions", inPlace := ["internal/bytealg.IndexByteString", "internal/bytealg.IndexString"], unfollowed := true, recurses := true, named := ["unicode/utf8.first", "unicode/utf8.acceptRanges", "internal/bytealg.MaxLen"], apart := false, laid := [("unicode/utf8.acceptRanges", laid_unicode_utf8_acceptRanges), ("unicode/utf8.first", laid_unicode_utf8_first)], narrowed := true }
def RepoVersionsUptoSaid : Prop := repoVersionsUptoRow.holds Tryz.pinned (OpenSpec.upto repoVersionsSpec)

/-- 'ostlerlaw16.RepoUsed', WHERE WHAT IT READS IS OF BULK AT MOST 1048576: true; the input reads as it did. -/
def repoUsedUptoRow : OpenClaim := { program := "ytlgkdnmklgbhbaagreatdoor", sum := "85a2f3182146b89425c1773922b1e2752541914d356ec0f7a09117fb3b466b09", func := "ostler/ostlerlaw16.RepoUsed", spec := "repoUsed", inPlace := ["internal/bytealg.IndexByteString", "internal/bytealg.IndexString"], unfollowed := true, recurses := true, named := ["unicode/utf8.first", "unicode/utf8.acceptRanges", "internal/bytealg.MaxLen"], apart := false, laid := [("unicode/utf8.acceptRanges", laid_unicode_utf8_acceptRanges), ("unicode/utf8.first", laid_unicode_utf8_first)], narrowed := true }
def RepoUsedUptoSaid : Prop := repoUsedUptoRow.holds Tryz.pinned (OpenSpec.upto repoUsedSpec)

/-- 'ostlerlaw16.RepoRotates', WHERE WHAT IT READS IS OF BULK AT MOST 1048576: true; the input reads as it did. -/
def repoRotatesUptoRow : OpenClaim := { program := "ytlgkdnmklgbhbaagreatdoor", sum := "85a2f3182146b89425c1773922b1e2752541914d356ec0f7a09117fb3b466b09", func := "ostler/ostlerlaw16.RepoRotates", spec := "repoRotates", inPlace := ["internal/bytealg.IndexByteString", "internal/bytealg.IndexString"], unfollowed := true, recurses := true, named := ["unicode/utf8.first", "unicode/utf8.acceptRanges", "internal/bytealg.MaxLen"], apart := false, laid := [("unicode/utf8.acceptRanges", laid_unicode_utf8_acceptRanges), ("unicode/utf8.first", laid_unicode_utf8_first)], narrowed := true }
def RepoRotatesUptoSaid : Prop := repoRotatesUptoRow.holds Tryz.pinned (OpenSpec.upto repoRotatesSpec)

/-- 'ostlerlaw17.DirectorAssigns', WHERE WHAT IT READS IS OF BULK AT MOST 1048576: true; the input reads as it did. -/
def directorAssignsUptoRow : OpenClaim := { program := "ytlgkdnmklgbhbaagreatdoor", sum := "85a2f3182146b89425c1773922b1e2752541914d356ec0f7a09117fb3b466b09", func := "ostler/ostlerlaw17.DirectorAssigns", spec := "directorAssigns", inPlace := ["internal/bytealg.IndexByteString", "internal/bytealg.IndexString", "internal/bytealg.abigen_runtime_cmpstring", "slices.overlaps[ostler/director.vehicle]", "slices.overlaps[ostler/api.Target]"], unfollowed := true, recurses := true, named := ["unicode/utf8.first", "unicode/utf8.acceptRanges", "internal/bytealg.MaxLen"], apart := false, laid := [("unicode/utf8.acceptRanges", laid_unicode_utf8_acceptRanges), ("unicode/utf8.first", laid_unicode_utf8_first)], narrowed := true }
def DirectorAssignsUptoSaid : Prop := directorAssignsUptoRow.holds Tryz.pinned (OpenSpec.upto directorAssignsSpec)

/-- 'ostlerlaw17.DirectorMany', WHERE WHAT IT READS IS OF BULK AT MOST 1048576: true; the input reads as it did. -/
def directorManyUptoRow : OpenClaim := { program := "ytlgkdnmklgbhbaagreatdoor", sum := "85a2f3182146b89425c1773922b1e2752541914d356ec0f7a09117fb3b466b09", func := "ostler/ostlerlaw17.DirectorMany", spec := "directorMany", inPlace := ["internal/bytealg.abigen_runtime_cmpstring", "internal/bytealg.IndexByteString", "internal/bytealg.IndexString", "slices.overlaps[ostler/api.Target]", "slices.overlaps[ostler/director.vehicle]"], unfollowed := true, recurses := true, named := ["unicode/utf8.first", "unicode/utf8.acceptRanges", "internal/bytealg.MaxLen"], apart := false, laid := [("unicode/utf8.acceptRanges", laid_unicode_utf8_acceptRanges), ("unicode/utf8.first", laid_unicode_utf8_first)], narrowed := true }
def DirectorManyUptoSaid : Prop := directorManyUptoRow.holds Tryz.pinned (OpenSpec.upto directorManySpec)

/-- 'ostlerlaw16.RepoList', WHERE WHAT IT READS IS OF BULK AT MOST 1048576: true; the input reads as it did. -/
def repoListUptoRow : OpenClaim := { program := "ytlgkdnmklgbhbaagreatdoor", sum := "85a2f3182146b89425c1773922b1e2752541914d356ec0f7a09117fb3b466b09", func := "ostler/ostlerlaw16.RepoList", spec := "repoList", inPlace := ["internal/bytealg.IndexByteString", "internal/bytealg.IndexString", "internal/bytealg.abigen_runtime_cmpstring", "slices.overlaps[ostler/api.Target]"], unfollowed := true, recurses := true, named := ["unicode/utf8.first", "unicode/utf8.acceptRanges", "internal/bytealg.MaxLen"], apart := false, laid := [("unicode/utf8.acceptRanges", laid_unicode_utf8_acceptRanges), ("unicode/utf8.first", laid_unicode_utf8_first)], narrowed := true }
def RepoListUptoSaid : Prop := repoListUptoRow.holds Tryz.pinned (OpenSpec.upto repoListSpec)

/-- 'ostlerlaw16.RepoTrusted', WHERE WHAT IT READS IS OF BULK AT MOST 1048576: true; the input reads as it did. -/
def repoTrustedUptoRow : OpenClaim := { program := "ytlgkdnmklgbhbaagreatdoor", sum := "85a2f3182146b89425c1773922b1e2752541914d356ec0f7a09117fb3b466b09", func := "ostler/ostlerlaw16.RepoTrusted", spec := "repoTrusted", inPlace := ["internal/bytealg.IndexByteString", "internal/bytealg.IndexString", "internal/bytealg.abigen_runtime_cmpstring", "slices.overlaps[ostler/api.Target]"], unfollowed := true, recurses := true, named := ["unicode/utf8.first", "unicode/utf8.acceptRanges", "internal/bytealg.MaxLen"], apart := false, laid := [("unicode/utf8.acceptRanges", laid_unicode_utf8_acceptRanges), ("unicode/utf8.first", laid_unicode_utf8_first)], narrowed := true }
def RepoTrustedUptoSaid : Prop := repoTrustedUptoRow.holds Tryz.pinned (OpenSpec.upto repoTrustedSpec)

/-- 'ostlerlaw16.RepoLedger', WHERE WHAT IT READS IS OF BULK AT MOST 1048576: true; the input reads as it did. -/
def repoLedgerUptoRow : OpenClaim := { program := "ytlgkdnmklgbhbaagreatdoor", sum := "85a2f3182146b89425c1773922b1e2752541914d356ec0f7a09117fb3b466b09", func := "ostler/ostlerlaw16.RepoLedger", spec := "repoLedger", inPlace := ["internal/bytealg.IndexByteString", "internal/bytealg.IndexString", "internal/bytealg.abigen_runtime_cmpstring", "slices.overlaps[ostler/api.Target]"], unfollowed := true, recurses := true, named := ["unicode/utf8.first", "unicode/utf8.acceptRanges", "internal/bytealg.MaxLen"], apart := false, laid := [("unicode/utf8.acceptRanges", laid_unicode_utf8_acceptRanges), ("unicode/utf8.first", laid_unicode_utf8_first)], narrowed := true }
def RepoLedgerUptoSaid : Prop := repoLedgerUptoRow.holds Tryz.pinned (OpenSpec.upto repoLedgerSpec)

/-- 'ostlerlaw16.RepoOfNothing', WHERE WHAT IT READS IS OF BULK AT MOST 1048576: true; the input reads as it did. -/
def repoOfNothingUptoRow : OpenClaim := { program := "ytlgkdnmklgbhbaagreatdoor", sum := "85a2f3182146b89425c1773922b1e2752541914d356ec0f7a09117fb3b466b09", func := "ostler/ostlerlaw16.RepoOfNothing", spec := "repoOfNothing", inPlace := ["internal/bytealg.IndexByteString", "internal/bytealg.IndexString", "internal/bytealg.abigen_runtime_cmpstring", "slices.overlaps[ostler/api.Target]"], unfollowed := true, recurses := true, named := ["unicode/utf8.first", "unicode/utf8.acceptRanges", "internal/bytealg.MaxLen"], apart := false, laid := [("unicode/utf8.acceptRanges", laid_unicode_utf8_acceptRanges), ("unicode/utf8.first", laid_unicode_utf8_first)], narrowed := true }
def RepoOfNothingUptoSaid : Prop := repoOfNothingUptoRow.holds Tryz.pinned (OpenSpec.upto repoOfNothingSpec)

end Rows
end Go.Proofs.YtlgkdnmklgbhbaaGreatDoor

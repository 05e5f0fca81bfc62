/-
  DERIVED. GIVEN WITH THE SEED: THE CARDS: each row of YtlgkdnmklgbhbaaGreatDoorRows.lean that lists a variable, with what it lists TIED to the program's text (the seventh form; the later family's looks); each row that meets fmt, with fmt's text TOLD by the authors' own Lean function (tested against real Go, not proved from fmt's source: count such statements apart). THE CARD IS WHAT COUNTS. Prove the row's statement (the work); the ties are given (YtlgkdnmklgbhbaaGreatDoorTie.lean); close each card by the builder's one call (the guide's Derived/Test/ToyasCard.lean, 'card_holds'). Laid BY PROGRAM, IN A SANDBOX (cutbox-door.mjs). By AI agents, Wed Nov 11 2026. No macro, syntax, notation, axiom, sorry.
-/
import Derived.Test.YtlgkdnmklgbhbaaGreatDoorRows
import GoSem.ClaimSeven
namespace Go.Proofs.YtlgkdnmklgbhbaaGreatDoor
namespace Rows

/-- THE TIED CARD OF 'ostlerlaw16.RepoVersions'. -/
def repoVersionsCard : Claim7 := { stood := { row := repoVersionsRow, standIns := [], harness := (true, "da8406a1d5b797ddbac5730ad46d965f34bf20598023d5d28274b2c1364b812b"), looks := false }, kinds := [], alts := [], laidByText := true, laidKinds := [.data, .pinned], laidTests := true, laidLooks := .later }
def RepoVersionsCardSaid : Prop := Claim7.holds Tryz.pinned (.plain (OpenSpec.ofChange repoVersionsSpec)) repoVersionsCard

/-- THE TIED CARD OF 'ostlerlaw16.RepoUsed'. -/
def repoUsedCard : Claim7 := { stood := { row := repoUsedRow, standIns := [], harness := (true, "da8406a1d5b797ddbac5730ad46d965f34bf20598023d5d28274b2c1364b812b"), looks := false }, kinds := [], alts := [], laidByText := true, laidKinds := [.data, .pinned], laidTests := true, laidLooks := .later }
def RepoUsedCardSaid : Prop := Claim7.holds Tryz.pinned (.plain (OpenSpec.ofChange repoUsedSpec)) repoUsedCard

/-- THE TIED CARD OF 'ostlerlaw16.RepoRotates'. -/
def repoRotatesCard : Claim7 := { stood := { row := repoRotatesRow, standIns := [], harness := (true, "da8406a1d5b797ddbac5730ad46d965f34bf20598023d5d28274b2c1364b812b"), looks := false }, kinds := [], alts := [], laidByText := true, laidKinds := [.data, .pinned], laidTests := true, laidLooks := .later }
def RepoRotatesCardSaid : Prop := Claim7.holds Tryz.pinned (.plain (OpenSpec.ofChange repoRotatesSpec)) repoRotatesCard

/-- THE TIED CARD OF 'ostlerlaw17.DirectorAssigns'. -/
def directorAssignsCard : Claim7 := { stood := { row := directorAssignsRow, standIns := [], harness := (true, "da8406a1d5b797ddbac5730ad46d965f34bf20598023d5d28274b2c1364b812b"), looks := false }, kinds := [], alts := [], laidByText := true, laidKinds := [.data, .pinned], laidTests := true, laidLooks := .later }
def DirectorAssignsCardSaid : Prop := Claim7.holds Tryz.pinned (.plain (OpenSpec.ofChange directorAssignsSpec)) directorAssignsCard

/-- THE TIED CARD OF 'ostlerlaw17.DirectorMany'. -/
def directorManyCard : Claim7 := { stood := { row := directorManyRow, standIns := [], harness := (true, "da8406a1d5b797ddbac5730ad46d965f34bf20598023d5d28274b2c1364b812b"), looks := false }, kinds := [], alts := [], laidByText := true, laidKinds := [.data, .pinned], laidTests := true, laidLooks := .later }
def DirectorManyCardSaid : Prop := Claim7.holds Tryz.pinned (.plain (OpenSpec.ofChange directorManySpec)) directorManyCard

/-- THE TIED CARD OF 'ostlerlaw16.RepoList'. -/
def repoListCard : Claim7 := { stood := { row := repoListRow, standIns := [], harness := (true, "da8406a1d5b797ddbac5730ad46d965f34bf20598023d5d28274b2c1364b812b"), looks := false }, kinds := [], alts := [], laidByText := true, laidKinds := [.data, .pinned], laidTests := true, laidLooks := .later }
def RepoListCardSaid : Prop := Claim7.holds Tryz.pinned (.plain (OpenSpec.ofChange repoListSpec)) repoListCard

/-- THE TIED CARD OF 'ostlerlaw16.RepoTrusted'. -/
def repoTrustedCard : Claim7 := { stood := { row := repoTrustedRow, standIns := [], harness := (true, "da8406a1d5b797ddbac5730ad46d965f34bf20598023d5d28274b2c1364b812b"), looks := false }, kinds := [], alts := [], laidByText := true, laidKinds := [.data, .pinned], laidTests := true, laidLooks := .later }
def RepoTrustedCardSaid : Prop := Claim7.holds Tryz.pinned (.plain (OpenSpec.ofChange repoTrustedSpec)) repoTrustedCard

/-- THE TIED CARD OF 'ostlerlaw16.RepoLedger'. -/
def repoLedgerCard : Claim7 := { stood := { row := repoLedgerRow, standIns := [], harness := (true, "da8406a1d5b797ddbac5730ad46d965f34bf20598023d5d28274b2c1364b812b"), looks := false }, kinds := [], alts := [], laidByText := true, laidKinds := [.data, .pinned], laidTests := true, laidLooks := .later }
def RepoLedgerCardSaid : Prop := Claim7.holds Tryz.pinned (.plain (OpenSpec.ofChange repoLedgerSpec)) repoLedgerCard

/-- THE TIED CARD OF 'ostlerlaw16.RepoOfNothing'. -/
def repoOfNothingCard : Claim7 := { stood := { row := repoOfNothingRow, standIns := [], harness := (true, "da8406a1d5b797ddbac5730ad46d965f34bf20598023d5d28274b2c1364b812b"), looks := false }, kinds := [], alts := [], laidByText := true, laidKinds := [.data, .pinned], laidTests := true, laidLooks := .later }
def RepoOfNothingCardSaid : Prop := Claim7.holds Tryz.pinned (.plain (OpenSpec.ofChange repoOfNothingSpec)) repoOfNothingCard

/-- THE SECOND FORM's CARD OF 'ostlerlaw16.RepoVersions'. -/
def repoVersionsUptoCard : Claim7 := { stood := { row := repoVersionsUptoRow, standIns := [], harness := (true, "da8406a1d5b797ddbac5730ad46d965f34bf20598023d5d28274b2c1364b812b"), looks := false }, kinds := [], alts := [], laidByText := true, laidKinds := [.data, .pinned], laidTests := true, laidLooks := .later }
def RepoVersionsUptoCardSaid : Prop := Claim7.holds Tryz.pinned (.plain (OpenSpec.upto repoVersionsSpec)) repoVersionsUptoCard

/-- THE SECOND FORM's CARD OF 'ostlerlaw16.RepoUsed'. -/
def repoUsedUptoCard : Claim7 := { stood := { row := repoUsedUptoRow, standIns := [], harness := (true, "da8406a1d5b797ddbac5730ad46d965f34bf20598023d5d28274b2c1364b812b"), looks := false }, kinds := [], alts := [], laidByText := true, laidKinds := [.data, .pinned], laidTests := true, laidLooks := .later }
def RepoUsedUptoCardSaid : Prop := Claim7.holds Tryz.pinned (.plain (OpenSpec.upto repoUsedSpec)) repoUsedUptoCard

/-- THE SECOND FORM's CARD OF 'ostlerlaw16.RepoRotates'. -/
def repoRotatesUptoCard : Claim7 := { stood := { row := repoRotatesUptoRow, standIns := [], harness := (true, "da8406a1d5b797ddbac5730ad46d965f34bf20598023d5d28274b2c1364b812b"), looks := false }, kinds := [], alts := [], laidByText := true, laidKinds := [.data, .pinned], laidTests := true, laidLooks := .later }
def RepoRotatesUptoCardSaid : Prop := Claim7.holds Tryz.pinned (.plain (OpenSpec.upto repoRotatesSpec)) repoRotatesUptoCard

/-- THE SECOND FORM's CARD OF 'ostlerlaw17.DirectorAssigns'. -/
def directorAssignsUptoCard : Claim7 := { stood := { row := directorAssignsUptoRow, standIns := [], harness := (true, "da8406a1d5b797ddbac5730ad46d965f34bf20598023d5d28274b2c1364b812b"), looks := false }, kinds := [], alts := [], laidByText := true, laidKinds := [.data, .pinned], laidTests := true, laidLooks := .later }
def DirectorAssignsUptoCardSaid : Prop := Claim7.holds Tryz.pinned (.plain (OpenSpec.upto directorAssignsSpec)) directorAssignsUptoCard

/-- THE SECOND FORM's CARD OF 'ostlerlaw17.DirectorMany'. -/
def directorManyUptoCard : Claim7 := { stood := { row := directorManyUptoRow, standIns := [], harness := (true, "da8406a1d5b797ddbac5730ad46d965f34bf20598023d5d28274b2c1364b812b"), looks := false }, kinds := [], alts := [], laidByText := true, laidKinds := [.data, .pinned], laidTests := true, laidLooks := .later }
def DirectorManyUptoCardSaid : Prop := Claim7.holds Tryz.pinned (.plain (OpenSpec.upto directorManySpec)) directorManyUptoCard

/-- THE SECOND FORM's CARD OF 'ostlerlaw16.RepoList'. -/
def repoListUptoCard : Claim7 := { stood := { row := repoListUptoRow, standIns := [], harness := (true, "da8406a1d5b797ddbac5730ad46d965f34bf20598023d5d28274b2c1364b812b"), looks := false }, kinds := [], alts := [], laidByText := true, laidKinds := [.data, .pinned], laidTests := true, laidLooks := .later }
def RepoListUptoCardSaid : Prop := Claim7.holds Tryz.pinned (.plain (OpenSpec.upto repoListSpec)) repoListUptoCard

/-- THE SECOND FORM's CARD OF 'ostlerlaw16.RepoTrusted'. -/
def repoTrustedUptoCard : Claim7 := { stood := { row := repoTrustedUptoRow, standIns := [], harness := (true, "da8406a1d5b797ddbac5730ad46d965f34bf20598023d5d28274b2c1364b812b"), looks := false }, kinds := [], alts := [], laidByText := true, laidKinds := [.data, .pinned], laidTests := true, laidLooks := .later }
def RepoTrustedUptoCardSaid : Prop := Claim7.holds Tryz.pinned (.plain (OpenSpec.upto repoTrustedSpec)) repoTrustedUptoCard

/-- THE SECOND FORM's CARD OF 'ostlerlaw16.RepoLedger'. -/
def repoLedgerUptoCard : Claim7 := { stood := { row := repoLedgerUptoRow, standIns := [], harness := (true, "da8406a1d5b797ddbac5730ad46d965f34bf20598023d5d28274b2c1364b812b"), looks := false }, kinds := [], alts := [], laidByText := true, laidKinds := [.data, .pinned], laidTests := true, laidLooks := .later }
def RepoLedgerUptoCardSaid : Prop := Claim7.holds Tryz.pinned (.plain (OpenSpec.upto repoLedgerSpec)) repoLedgerUptoCard

/-- THE SECOND FORM's CARD OF 'ostlerlaw16.RepoOfNothing'. -/
def repoOfNothingUptoCard : Claim7 := { stood := { row := repoOfNothingUptoRow, standIns := [], harness := (true, "da8406a1d5b797ddbac5730ad46d965f34bf20598023d5d28274b2c1364b812b"), looks := false }, kinds := [], alts := [], laidByText := true, laidKinds := [.data, .pinned], laidTests := true, laidLooks := .later }
def RepoOfNothingUptoCardSaid : Prop := Claim7.holds Tryz.pinned (.plain (OpenSpec.upto repoOfNothingSpec)) repoOfNothingUptoCard
end Rows
end Go.Proofs.YtlgkdnmklgbhbaaGreatDoor

/- A world for the witness of a card: the settled one, the two tables of utf8 holding what their initialisers lay. -/
import Derived.Test.YtcmbiaibocdfeaaDoorCards
import Derived.Test.YtcmbiaibocdfeaaDoorTie
import Derived.Test.YtcmbiaibocdfeaaDoorOpen
import Derived.Deep.DeepHandedRow
import Derived.Lib.LaidTab
namespace Go.Proofs.YtcmbiaibocdfeaaDoor
open Go
/-- A datum's leaves, in order. -/
noncomputable def leaves : Nat → DataW Unit → List Value
  | 0, _ => []
  | _ + 1, .lit (.int k z) => [.int k z]
  | n + 1, .agg ps => ps.flatMap (leaves n)
  | _ + 1, _ => []
noncomputable def laidHeap (hp : Array Obj) (name : String) (d : DataW Unit) : Array Obj :=
  match Tryd.prog.globalNamed name with
  | some g => hp.modify g fun
      | .cells _ t frozen => .cells (leaves 4 d).toArray t frozen
      | o => o
  | none => hp
noncomputable def laidWorld (os : Os) : World :=
  { World.holding Tryd.prog os ⟨#[], #[], []⟩ with heap := laidHeap (laidHeap (World.holding Tryd.prog os ⟨#[], #[], []⟩).heap "unicode/utf8.acceptRanges" Rows.laid_unicode_utf8_acceptRanges) "unicode/utf8.first" Rows.laid_unicode_utf8_first }
theorem own : ownKnob Tryd.prog.godebug = none := by kernel_rfl
end Go.Proofs.YtcmbiaibocdfeaaDoor

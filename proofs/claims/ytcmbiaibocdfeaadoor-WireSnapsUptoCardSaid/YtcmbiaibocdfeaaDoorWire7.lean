/- The walks of what decodes a root. -/
import Derived.Test.YtcmbiaibocdfeaaDoorWire6
import Derived.Test.YtcmbiaibocdfeaaDoorFwT
namespace Go.Proofs.YtcmbiaibocdfeaaDoor
open Go Go.Fw
set_option maxRecDepth 100000
theorem root_set {a b : Value} {ks z cs : List Value} {k : Nat} (h : ks.length = 2 * k) (hc : cs.length = 2) : splice (a :: b :: (ks ++ z)) (0 + 2 + k * 2) cs = a :: b :: ((ks ++ cs) ++ z.drop 2) := by
  have := splice_app (pre := a :: b :: ks) (z := z) (vs := cs) (o := 0 + 2 + k * 2) (by simp only [List.length_cons]; omega)
  rw [hc] at this
  simpa using this

end Go.Proofs.YtcmbiaibocdfeaaDoor

/- Small facts that the scripts lean on. -/
import Derived.Test.YtcmbiaibocdfeaaDoorOwnB
namespace Go.Fw
/-- What a writer's calls turn is none of what was there at its begin. -/
theorem WSt.base' {T e : TypeId} {w0 w w' : World} {wb : Nat} {g : Int} {v : Value} {l : List UInt8} (st : WSt T e w0 w wb g v l) (he : ExtB (fun k => k = wb ∨ (k : Int) = g) w w') : Ext w0 w' :=
  st.ext.new he fun k hk => by
    have := st.hwb
    rcases hk with rfl | hk
    · exact this
    · rcases st.hg with h | h <;> omega
end Go.Fw

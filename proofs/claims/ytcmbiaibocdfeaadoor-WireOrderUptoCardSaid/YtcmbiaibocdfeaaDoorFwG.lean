/- More of the walk by partial frames: operations whose guard was itself left without a value, and parts of cells. -/
import Derived.Test.YtcmbiaibocdfeaaDoorFwF
import Derived.Laws.IdiomStrings
namespace Go.Fw
theorem Cells.seg {w : World} {b o o' : Nat} {vs : List Value} (h : Cells w b o vs) (us : List Value) (i : Nat) (ho : o' = o + i) (hu : us = (vs.drop i).take us.length) : Cells w b o' us :=
  h.mid i ho fun j u hj => by
    rw [hu, List.getElem?_take] at hj
    split at hj
    · rwa [List.getElem?_drop] at hj
    · cases hj
section
variable {P : Program} {f : FuncId} {n : Nat} {ops : Array Oper} {rest : List Oper} {k : List Item} {env : Env} {w : World} {R : Value → World → Prop}
variable {d : Nat} {op : Op} {ty : TypeId} {pos : String} {af : Array Edge} {i : Nat} {tl : List Nat} {ord : List (Bool × Nat)} {S : World → Prop}
/-- An operation that yields, as one that does. -/
theorem opT_ev {o : Oper} {v : Value} (h : Ev P (· = w) env o v) : OpT P env o w (fun v' w' => v' = v ∧ w' = w) := by
  intro a ha next Q hn
  unfold Oper.wp
  rw [h a.eval ha w rfl]
  exact hn v w ⟨rfl, rfl⟩
theorem wanted_undef {o : Oper} {g : Nat} {t : Bool} {dg : Nat} {a : Act} (ho : o.guard = some (g, t)) (hg : gdst ops g = some dg) (ha : Fits n env a) (hv : env.get dg = some undef) :
    Region.wanted o (yielded ops a.tmps) = false := by
  unfold Region.wanted yielded
  unfold gdst at hg
  rw [ho]
  have := ha.get dg _ hv
  simp only [hg, Option.bind_some, this]
  cases t <;> rfl
theorem runl_no_u {g dg : Nat} {t : Bool} (hg : gdst ops g = some dg) (hv : env.get dg = some undef)
    (h : RunL P f n ops rest k ((d, undef) :: env) w R) : RunL P f n ops (⟨some d, op, ty, pos, af, some (g, t)⟩ :: rest) k env w R := by
  intro hd a ha
  simp only [dstOk, Bool.and_eq_true, Nat.blt_eq] at hd
  unfold wpList
  rw [if_neg (by rw [wanted_undef rfl hg ha hv]; simp)]
  exact h hd.2 _ (ha.put hd.1 undef)
theorem runl_no_udo {g dg : Nat} {t : Bool} (hg : gdst ops g = some dg) (hv : env.get dg = some undef)
    (h : RunL P f n ops rest k env w R) : RunL P f n ops (⟨none, op, ty, pos, af, some (g, t)⟩ :: rest) k env w R := by
  intro hd a ha
  simp only [dstOk, Bool.and_eq_true] at hd
  unfold wpList
  rw [if_neg (by rw [wanted_undef rfl hg ha hv]; simp)]
  exact h hd.2 _ ha
theorem rund_no_u {Z : Env → World → Prop} {g dg : Nat} {t : Bool} (hS : S w) (ho : ops[i]? = some ⟨some d, op, ty, pos, af, some (g, t)⟩) (hg : gdst ops g = some dg) (hv : env.get dg = some undef)
    (h : RunZ P n ops S tl ord Z ((d, undef) :: env) w) : RunZ P n ops S tl ((true, i) :: ord) Z env w := by
  intro hd a ha
  exact ⟨_, undef, ho, .inr ⟨by rw [wanted_undef rfl hg ha hv], rfl⟩, hS, h hd _ (ha.put (dstOk_mem hd (by simpa using ho) _ rfl) undef)⟩
theorem rund_no_uf {Z : Env → World → Prop} {g dg : Nat} {t : Bool} (ho : ops[i]? = some ⟨some d, op, ty, pos, af, some (g, t)⟩) (hg : gdst ops g = some dg) (hv : env.get dg = some undef)
    (hS : S w) (h : RunZ P n ops S tl ord Z ((d, undef) :: env) w) : RunZ P n ops S tl ((false, i) :: ord) Z env w := by
  intro hd a ha
  show wpOp _ _ _ _ _ _ _
  unfold wpOp
  rw [ho]
  simp only []
  rw [if_neg (by rw [wanted_undef rfl hg ha hv]; simp)]
  exact ⟨fun _ => hS, h hd _ (ha.put (dstOk_mem hd (by simpa using ho) _ rfl) undef)⟩
section
variable {C : World → Prop} {dst : Option Tmp} {gd : Option (Nat × Bool)}
/-- A number as one of another kind. -/
theorem ev_convI {x : Operand} {S D : TypeId} {s : TypeDesc} {k k' : IntKind} {n : Int} (m : Int) (hs : P.underlying S = some s) (hd : P.underlying D = some (.int k')) (hx : env.ev x = some (.int k n)) (hm : k'.wrap n = m) :
    Ev P C env ⟨dst, .convert S D x, ty, pos, af, gd⟩ (.int k' m) := by
  intro ρ hρ w _
  have hk : P.intKind D = k' := by simp [Program.intKind, hd]
  have h := run_convert_int (P := P) w S D k n (by rw [hs]; rfl) (by rw [hk]; exact hd)
  rw [hk, hm] at h
  simp [execOp, hρ x _ hx, h]
/-- Bytes as a string. -/
theorem ev_convBS {x : Operand} {S D e : TypeId} (l : List UInt8) {b o cap : Nat} (hs : P.underlying S = some (.slice e)) (he : P.underlying e = some (.int .u8)) (hd : P.underlying D = some .string) (hx : env.ev x = some (.slice (some ⟨b, o, none⟩) l.length cap))
    (hc : ∀ w, C w → Cells w b o (hcells l)) : Ev P C env ⟨dst, .convert S D x, ty, pos, af, gd⟩ (.string ⟨l.toArray⟩) := by
  intro ρ hρ w hw
  have h := run_convert_bytes_back (P := P) w S D e ⟨b, o, none⟩ cap l hs he hd fun j hj => by
    rw [Addr.add_mid]
    exact hc w hw j _ (by simp [hcells, hj])
  simp [execOp, hρ x _ hx, h]
end
end
end Go.Fw

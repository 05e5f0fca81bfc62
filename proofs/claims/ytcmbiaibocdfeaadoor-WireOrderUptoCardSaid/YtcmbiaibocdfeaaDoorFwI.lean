/- More of the walk by partial frames: elements of arrays by value. -/
import Derived.Test.YtcmbiaibocdfeaaDoorFwH
import Derived.Test.YtcmbiaibocdfeaaDoorBytes
import Derived.Test.YtcmbiaibocdfeaaDoorWireR
namespace Go.Fw
section
variable {P : Program} {C : World → Prop} {env : Env} {dst : Option Tmp} {ty : TypeId} {pos : String} {af : Array Edge} {gd : Option (Nat × Bool)}
theorem ev_indexAA {x ix : Operand} {T e : TypeId} {n sz k : Nat} {cs vs : List Value} (ht : arrT P T = some (n, e, sz)) (he : aggT P e = some sz) (hx : env.ev x = some (.agg ⟨cs⟩)) (hi : env.ev ix = some (.int .i64 (k : Int))) (hk : k < n)
    (hv : (cs.drop (k * sz)).take sz = vs) : Ev P C env ⟨dst, .index T x ix, ty, pos, af, gd⟩ (.agg ⟨vs⟩) := by
  intro ρ hρ w _
  unfold arrT at ht
  split at ht
  · rename_i n' e' hu
    cases hq : P.info? e' with
    | none => simp [hq] at ht
    | some inf =>
      simp [hq] at ht
      obtain ⟨rfl, rfl, hs⟩ := ht
      have h := partA (P := P) he hv w
      subst hs
      simp [execOp, hρ x _ hx, hρ ix _ hi, Instr.index, asIntOf, run_underlying hu, hk, sizeOf, typeInfo, hq, h]
  · cases ht
theorem ev_indexA1 {x ix : Operand} {T e : TypeId} {n k : Nat} {cs : List Value} {v : Value} (ht : arrT P T = some (n, e, 1)) (he : isCellT P e = true) (hx : env.ev x = some (.agg ⟨cs⟩)) (hi : env.ev ix = some (.int .i64 (k : Int))) (hk : k < n)
    (hv : cs[k]? = some v) : Ev P C env ⟨dst, .index T x ix, ty, pos, af, gd⟩ v := by
  intro ρ hρ w _
  unfold arrT at ht
  split at ht
  · rename_i n' e' hu
    cases hq : P.info? e' with
    | none => simp [hq] at ht
    | some inf =>
      simp [hq] at ht
      obtain ⟨rfl, rfl, hs⟩ := ht
      have h := part1 (P := P) he hv w
      simp [execOp, hρ x _ hx, hρ ix _ hi, Instr.index, asIntOf, run_underlying hu, hk, sizeOf, typeInfo, hq, hs, h]
  · cases ht
end

/-! ### Digests, keys, roots in memory -/
def RHash (_ : World) (h : List UInt8) (cs : List Value) : Prop := h.length = 32 ∧ cs = hcells h
theorem RHash.stable : Stable RHash := fun _ _ _ _ _ h => h
theorem rhash_any (w w' : World) (x : List UInt8) (cs : List Value) (h : RHash w x cs) : RHash w' x cs := h
theorem rhash_len (w : World) (x : List UInt8) (cs : List Value) (h : RHash w x cs) : cs.length = 32 := by obtain ⟨h1, rfl⟩ := h; rw [hcells_length, h1]
theorem rhash_one {w : World} (x : List UInt8) (cs : List Value) (h : RHash w x cs) : ∀ v ∈ cs, v.oneCell' = true := by obtain ⟨_, rfl⟩ := h; exact hcells_one x
def RKeys (w : World) (k : KeysP) (cs : List Value) : Prop := ∃ a c, cs = [.slice a k.keys.length c, .int .i64 k.need] ∧ SlAt 32 RHash w (.slice a k.keys.length c) k.keys ∧ k.keys.length ≤ c
theorem RKeys.stable : Stable RKeys := fun _ _ _ _ he ⟨a, c, h1, h2, h3⟩ => ⟨a, c, h1, h2.ext RHash.stable he, h3⟩
theorem rkeys_len (w : World) (x : KeysP) (cs : List Value) (h : RKeys w x cs) : cs.length = 2 := by obtain ⟨_, _, rfl, _⟩ := h; rfl
theorem rkeys_one {w : World} (x : KeysP) (cs : List Value) (h : RKeys w x cs) : ∀ v ∈ cs, v.oneCell' = true := by obtain ⟨_, _, rfl, _⟩ := h; simp
def RRoot (w : World) (r : RootP) (cs : List Value) : Prop := ∃ ks, cs = .int .i64 r.ver :: .int .i64 r.exp :: ks ∧ ks.length = 8 ∧ r.roles.length = 4 ∧ Parts 2 RKeys w r.roles ks
theorem RRoot.stable : Stable RRoot := fun _ _ _ _ he ⟨ks, h1, h2, h3, h4⟩ => ⟨ks, h1, h2, h3, h4.mono fun _ _ _ h => RKeys.stable _ _ _ _ he h⟩
theorem rroot_len {w : World} {x : RootP} {cs : List Value} (h : RRoot w x cs) : cs.length = 10 := by
  obtain ⟨ks, rfl, h, _⟩ := h
  show ks.length + 2 = 10
  omega
theorem parts_one {α : Type} {sz : Nat} {R : World → α → List Value → Prop} {w : World} (h1 : ∀ x cs, R w x cs → ∀ v ∈ cs, v.oneCell' = true) {l : List α} {cs : List Value} (h : Parts sz R w l cs) (hl : cs.length = l.length * sz) : ∀ v ∈ cs, v.oneCell' = true := h.all h1 hl
theorem rroot_one {w : World} {x : RootP} {cs : List Value} (h : RRoot w x cs) : ∀ v ∈ cs, v.oneCell' = true := by
  obtain ⟨ks, rfl, h1, h2, h3⟩ := h
  intro v hv
  rcases List.mem_cons.1 hv with rfl | hv
  · rfl
  · rcases List.mem_cons.1 hv with rfl | hv
    · rfl
    · exact parts_one (fun x cs h => rkeys_one x cs h) h3 (by omega) v hv
/-- Segments of a root's keys. -/
theorem RKeys.seg {w : World} {l : List KeysP} {ks : List Value} {k : Nat} (h : Parts 2 RKeys w l ks) (hk : k < l.length) : ∃ c2, (ks.drop (k * 2)).take 2 = c2 ∧ RKeys w l[k] c2 := ⟨_, rfl, h.get (by simp [hk])⟩
end Go.Fw

/- More of the walk by partial frames: numbers by their bits, least and most, nil compared, parts of slices. -/
import Derived.Test.YtcmbiaibocdfeaaDoorFwG
import Derived.Laws.Small
import Derived.Laws.Slices
import Derived.Laws.Pointers
import Derived.Laws.Cover3
import Derived.Laws.CopyRow
import Derived.Laws.IdiomCopy
import Derived.Laws.Strings
namespace Go.Fw
section
variable {P : Program} {C : World → Prop} {env : Env} {dst : Option Tmp} {ty : TypeId} {pos : String} {af : Array Edge} {gd : Option (Nat × Bool)}
theorem ev_mulK {k : IntKind} {x y : Operand} {T U : TypeId} {a b : Int} (m : Int) (hx : env.ev x = some (.int k a)) (hy : env.ev y = some (.int k b)) (hm : k.wrap (a * b) = m) : Ev P C env ⟨dst, .binOp .mul T x y U, ty, pos, af, gd⟩ (.int k m) := by
  intro ρ hρ w _
  subst hm
  simp [execOp, hρ x _ hx, hρ y _ hy, eqGuard, binOp, Op.intArith]
theorem ev_addK {k : IntKind} {x y : Operand} {T U : TypeId} {a b : Int} (m : Int) (hx : env.ev x = some (.int k a)) (hy : env.ev y = some (.int k b)) (hm : k.wrap (a + b) = m) : Ev P C env ⟨dst, .binOp .add T x y U, ty, pos, af, gd⟩ (.int k m) := by
  intro ρ hρ w _
  subst hm
  simp [execOp, hρ x _ hx, hρ y _ hy, eqGuard, binOp, Op.intArith]
theorem ev_subK {k : IntKind} {x y : Operand} {T U : TypeId} {a b : Int} (m : Int) (hx : env.ev x = some (.int k a)) (hy : env.ev y = some (.int k b)) (hm : k.wrap (a - b) = m) : Ev P C env ⟨dst, .binOp .sub T x y U, ty, pos, af, gd⟩ (.int k m) := by
  intro ρ hρ w _
  subst hm
  simp [execOp, hρ x _ hx, hρ y _ hy, eqGuard, binOp, Op.intArith]
theorem ev_and {k : IntKind} {x y : Operand} {T U : TypeId} {a b : Int} (m : Int) (hx : env.ev x = some (.int k a)) (hy : env.ev y = some (.int k b)) (hm : k.wrap (BitVec.ofInt k.bits a &&& BitVec.ofInt k.bits b).toNat = m) : Ev P C env ⟨dst, .binOp .and T x y U, ty, pos, af, gd⟩ (.int k m) := by
  intro ρ hρ w _
  subst hm
  simp [execOp, hρ x _ hx, hρ y _ hy, eqGuard, binOp, Op.intBits]
theorem ev_or {k : IntKind} {x y : Operand} {T U : TypeId} {a b : Int} (m : Int) (hx : env.ev x = some (.int k a)) (hy : env.ev y = some (.int k b)) (hm : k.wrap (BitVec.ofInt k.bits a ||| BitVec.ofInt k.bits b).toNat = m) : Ev P C env ⟨dst, .binOp .or T x y U, ty, pos, af, gd⟩ (.int k m) := by
  intro ρ hρ w _
  subst hm
  simp [execOp, hρ x _ hx, hρ y _ hy, eqGuard, binOp, Op.intBits]
theorem ev_shl {k k' : IntKind} {x y : Operand} {T U : TypeId} {a b : Int} (m : Int) (hx : env.ev x = some (.int k a)) (hy : env.ev y = some (.int k' b)) (hb : ¬ b < 0) (hm : k.wrap (a * 2 ^ (min b.toNat k.bits)) = m) : Ev P C env ⟨dst, .binOp .shl T x y U, ty, pos, af, gd⟩ (.int k m) := by
  intro ρ hρ w _
  subst hm
  simp [execOp, hρ x _ hx, hρ y _ hy, eqGuard, binOp, Op.shift, hb]
theorem ev_shr {k k' : IntKind} {x y : Operand} {T U : TypeId} {a b : Int} (m : Int) (hx : env.ev x = some (.int k a)) (hy : env.ev y = some (.int k' b)) (hb : ¬ b < 0) (hm : a.fdiv (2 ^ (min b.toNat k.bits)) = m) : Ev P C env ⟨dst, .binOp .shr T x y U, ty, pos, af, gd⟩ (.int k m) := by
  intro ρ hρ w _
  subst hm
  simp [execOp, hρ x _ hx, hρ y _ hy, eqGuard, binOp, Op.shift, hb]
theorem ev_min {k k' : IntKind} {x y : Operand} {ats : Array TypeId} {a b : Int} (hx : env.ev x = some (.int k a)) (hy : env.ev y = some (.int k' b)) : Ev P C env ⟨dst, .call { callee := .builtin .min, args := #[x, y], argTypes := ats }, ty, pos, af, gd⟩ (.int k (if b < a then b else a)) := by
  intro ρ hρ w _
  simp [execOp, resolve, invoke, builtin, hρ x _ hx, hρ y _ hy, run_min_int2]
theorem ev_max {k k' : IntKind} {x y : Operand} {ats : Array TypeId} {a b : Int} (hx : env.ev x = some (.int k a)) (hy : env.ev y = some (.int k' b)) : Ev P C env ⟨dst, .call { callee := .builtin .max, args := #[x, y], argTypes := ats }, ty, pos, af, gd⟩ (.int k (if b > a then b else a)) := by
  intro ρ hρ w _
  simp [execOp, resolve, invoke, builtin, hρ x _ hx, hρ y _ hy, run_max_int2]
/-- A part of a slice: its address does not move where nothing is left of it. -/
theorem ev_sliceL_lo {x lo : Operand} {T e : TypeId} {sz n len cap : Nat} {a : Option Addr} (ht : elemT P T = some (e, sz)) (hx : env.ev x = some (.slice a len cap)) (hl : env.ev lo = some (.int .i64 (n : Int))) (hn : n ≤ len) :
    Ev P C env ⟨dst, .slice T x (some lo) none none, ty, pos, af, gd⟩ (.slice (if cap = n then a else a.map (·.add (n * sz))) (len - n) (cap - n)) := by
  intro ρ hρ w _
  unfold elemT at ht
  split at ht
  · rename_i e' hu
    cases hq : P.info? e' with
    | none => simp [hq] at ht
    | some inf =>
      simp [hq] at ht
      obtain ⟨rfl, rfl⟩ := ht
      have he : P.elem T = e' := by simp [Program.elem, hu]
      have h1 := run_slice_l (P := P) w T a len cap (by rw [he]; exact hu) .i64 (n : Int) (by omega) (by omega)
      have h2 := run_sliceAt_slice (P := P) w T (.slice a len cap) (some (.int .i64 (n : Int))) none none (by rw [he]; exact hu)
      rw [h1] at h2
      simp [sizeOf, typeInfo, he, hq, sliced] at h2
      simp [execOp, hρ x _ hx, hρ lo _ hl, h2]
  · cases ht
theorem ev_sliceL_hi {x hi : Operand} {T e : TypeId} {sz n len cap : Nat} {a : Option Addr} (ht : elemT P T = some (e, sz)) (hx : env.ev x = some (.slice a len cap)) (hh : env.ev hi = some (.int .i64 (n : Int))) (hn : n ≤ cap) :
    Ev P C env ⟨dst, .slice T x none (some hi) none, ty, pos, af, gd⟩ (.slice (if cap = 0 then a else a.map (·.add (0 * sz))) n cap) := by
  intro ρ hρ w _
  unfold elemT at ht
  split at ht
  · rename_i e' hu
    cases hq : P.info? e' with
    | none => simp [hq] at ht
    | some inf =>
      simp [hq] at ht
      obtain ⟨rfl, rfl⟩ := ht
      have he : P.elem T = e' := by simp [Program.elem, hu]
      have h1 := run_slice_h (P := P) w T a len cap (by rw [he]; exact hu) .i64 (n : Int) (by omega) (by omega)
      have h2 := run_sliceAt_slice (P := P) w T (.slice a len cap) none (some (.int .i64 (n : Int))) none (by rw [he]; exact hu)
      rw [h1] at h2
      simp [sizeOf, typeInfo, he, hq, sliced] at h2
      simp [execOp, hρ x _ hx, hρ hi _ hh, h2]
  · cases ht
/-- A pointer held against nil. -/
theorem ev_eqlPn {x y : Operand} {T U e : TypeId} {a : Option Addr} (ht : P.underlying T = some (.pointer e)) (hx : env.ev x = some (.pointer a)) (hy : env.ev y = some (.pointer none)) : Ev P C env ⟨dst, .binOp .eql T x y U, ty, pos, af, gd⟩ (.bool a.isNone) := by
  intro ρ hρ w _
  have he : P.pointee T = e := by simp [Program.pointee, ht]
  have h := run_eql_pointer_nil (P := P) w T a (by rw [he]; exact ht)
  simp [execOp, hρ x _ hx, hρ y _ hy, eqGuard, h]
theorem ev_neqPn {x y : Operand} {T U e : TypeId} {a : Option Addr} (ht : P.underlying T = some (.pointer e)) (hx : env.ev x = some (.pointer a)) (hy : env.ev y = some (.pointer none)) : Ev P C env ⟨dst, .binOp .neq T x y U, ty, pos, af, gd⟩ (.bool (!a.isNone)) := by
  intro ρ hρ w _
  have he : P.pointee T = e := by simp [Program.pointee, ht]
  have h := run_neq_pointer_nil (P := P) w T a (by rw [he]; exact ht)
  simp [execOp, hρ x _ hx, hρ y _ hy, eqGuard, h]
/-- A slice held against nil. -/
theorem ev_eqlLn {x y : Operand} {T U e : TypeId} {a : Option Addr} {n c : Nat} (ht : P.underlying T = some (.slice e)) (hx : env.ev x = some (.slice a n c)) (hy : env.ev y = some (.slice none 0 0)) : Ev P C env ⟨dst, .binOp .eql T x y U, ty, pos, af, gd⟩ (.bool a.isNone) := by
  intro ρ hρ w _
  have h : (binOp .eql T (.slice a n c) (.slice none 0 0)).run P w = .ok (.bool a.isNone) w := by
    simp only [binOp]
    simp [run_equal_slice_nil (P := P) w T e a n c ht]
  simp [execOp, hρ x _ hx, hρ y _ hy, eqGuard, h]
/-- All of an array as a slice. -/
theorem ev_sliceA {x : Operand} {T e : TypeId} {n sz b o : Nat} (ht : arrT P T = some (n, e, sz)) (hx : env.ev x = some (.pointer (some ⟨b, o, none⟩))) :
    Ev P C env ⟨dst, .slice T x none none none, ty, pos, af, gd⟩ (.slice (some ⟨b, o, none⟩) n n) := by
  intro ρ hρ w _
  unfold arrT at ht
  split at ht
  · rename_i n' e' hu
    cases hq : P.info? e' with
    | none => simp [hq] at ht
    | some inf =>
      simp [hq] at ht
      obtain ⟨rfl, rfl, rfl⟩ := ht
      have he : P.elem T = e' := by simp [Program.elem, hu]
      have hn : P.arrayLen T = n' := by simp [Program.arrayLen, hu]
      have h := run_sliceAt_array_all (P := P) w T ⟨b, o, none⟩ (by rw [he, hn]; exact hu)
      have e0 : (⟨b, o, none⟩ : Addr).add 0 = ⟨b, o, none⟩ := by rw [Addr.add_mid]; rfl
      simp [sizeOf, typeInfo, he, hn, hq, slicedAt, e0] at h
      simp [execOp, hρ x _ hx, h]
  · cases ht
/-- A byte of a string. -/
theorem ev_indexS {x ix : Operand} {T : TypeId} {s : ByteArray} {k : Nat} (ht : P.underlying T = some .string) (hx : env.ev x = some (.string s)) (hi : env.ev ix = some (.int .i64 (k : Int))) (hk : k < s.size) :
    Ev P C env ⟨dst, .index T x ix, ty, pos, af, gd⟩ (.int .u8 s[k].toNat) := by
  intro ρ hρ w _
  have h := run_index_string (P := P) w T s .i64 (k : Int) ht
  rw [dif_pos (by omega)] at h
  simp [execOp, hρ x _ hx, hρ ix _ hi, h]
/-- copy(d, s) into cells of one each. -/
theorem t_copy {x y : Operand} {dT sT elem t : TypeId} {w : World} {b o dLen dCap sLen sCap b' o' : Nat} {cur cs : List Value} (hu : P.underlying dT = some (.slice elem)) (hs : (P.info? elem).map (·.size) = some 1)
    (hx : env.ev x = some (.slice (some ⟨b, o, none⟩) dLen dCap)) (hy : env.ev y = some (.slice (some ⟨b', o', none⟩) sLen sCap))
    (hg : w.heap[b]? = some (.cells ⟨cur⟩ t (0, 0))) (hn : cs.length = min sLen dLen) (hc : Cells w b' o' cs) (hfit : o + cs.length ≤ cur.length) (h1 : ∀ v ∈ cs, v.oneCell' = true) :
    OpT P env ⟨dst, .call { callee := .builtin .copy, args := #[x, y], argTypes := #[dT, sT] }, ty, pos, af, gd⟩ w fun v w' => v = .int .i64 cs.length ∧ w'.heap[b]? = some (.cells ⟨splice cur o cs⟩ t (0, 0)) ∧ ExtB (fun k => k = b) w w' ∧ w.heap.size ≤ w'.heap.size := by
  intro a ha next Q hnx
  have hr := run_copy_row (P := P) w dT sT ty elem b o dLen dCap ⟨b', o', none⟩ sLen sCap ⟨cur⟩ t cs hu hs hg hn (fun j v hj => by rw [Addr.add_mid]; exact hc j v hj) (by simpa using hfit) h1
  unfold Oper.wp execOp
  simp only [resolve, invoke, builtin, Sem.run_bind, Sem.run_pure, Result.andThen_ok, List.map_toArray, List.map_cons, List.map_nil, ha x _ hx, ha y _ hy, hr]
  obtain ⟨f1, f2, f3⟩ := setRow_facts hg (splice cur o cs).toArray
  exact hnx _ _ ⟨rfl, f1, f2, f3⟩
end
end Go.Fw

/- The walk by partial frames, 3: the operations. -/
import Derived.Test.YtcmbiaibocdfeaaDoorFwB
import Derived.Deep.MidRow
namespace Go.Fw

abbrev Cells (w : World) (b o : Nat) (vs : List Value) : Prop := w.rangeAt b o vs

theorem cell_of_at {w : World} {b o : Nat} {c : Array Value} {T : TypeId} {fr : Nat × Nat} (h : w.heap[b]? = some (.cells c T fr)) : w.cell? ⟨b, o, none⟩ = c[o]? := by
  simp [World.cell?, h]
theorem cells_blk {w : World} {b o : Nat} {c : Array Value} {T : TypeId} {fr : Nat × Nat} {vs : List Value} (h : w.heap[b]? = some (.cells c T fr)) (hv : ∀ i v, vs[i]? = some v → c[o + i]? = some v) : Cells w b o vs :=
  fun j v hj => by rw [cell_of_at h]; exact hv j v hj
theorem cell_blk {w : World} {b o : Nat} {c : Array Value} {T : TypeId} {fr : Nat × Nat} {v : Value} (h : w.heap[b]? = some (.cells c T fr)) (hv : c[o]? = some v) : Cells w b o [v] :=
  cells_blk h fun i u hu => by
    cases i with
    | zero => simp at hu; subst hu; simpa using hv
    | succ i => simp at hu
theorem cells_all {w : World} {b : Nat} {l : List Value} {T : TypeId} {fr : Nat × Nat} (h : w.heap[b]? = some (.cells ⟨l⟩ T fr)) : Cells w b 0 l :=
  cells_blk h fun i u hu => by simpa using hu
theorem Cells.pick {w : World} {b o o' : Nat} {vs : List Value} {v : Value} (h : Cells w b o vs) (i : Nat) (ho : o' = o + i) (hv : vs[i]? = some v) : Cells w b o' [v] := by
  subst ho
  intro j u hu
  cases j with
  | zero => simp at hu; subst hu; simpa using h i _ hv
  | succ j => simp at hu
theorem Cells.mid {w : World} {b o o' : Nat} {vs us : List Value} (h : Cells w b o vs) (i : Nat) (ho : o' = o + i) (hv : ∀ j u, us[j]? = some u → vs[i + j]? = some u) : Cells w b o' us := by
  subst ho
  intro j u hu
  have := h (i + j) u (hv j u hu)
  rwa [← Nat.add_assoc] at this
theorem Cells.ext {w w' : World} {b o : Nat} {vs : List Value} (h : Cells w b o vs) (he : Ext w w') : Cells w' b o vs := by
  intro j v hj
  have h1 := h j v hj
  unfold World.cell? at h1 ⊢
  split at h1
  · rename_i c T fr hc
    rw [he.at hc]
    exact h1
  · cases h1
theorem Cells.extB {M : Nat → Prop} {w w' : World} {b o : Nat} {vs : List Value} (h : Cells w b o vs) (he : ExtB M w w') (hm : ¬ M b) : Cells w' b o vs := by
  intro j v hj
  have h1 := h j v hj
  unfold World.cell? at h1 ⊢
  split at h1
  · rename_i c T fr hc
    rw [he.at hc hm]
    exact h1
  · cases h1

@[simp] theorem one_string (s : ByteArray) : Value.oneCell' (.string s) = true := rfl
@[simp] theorem one_int (k : IntKind) (n : Int) : Value.oneCell' (.int k n) = true := rfl
@[simp] theorem one_bool (b : Bool) : Value.oneCell' (.bool b) = true := rfl
@[simp] theorem one_slice (a : Option Addr) (n c : Nat) : Value.oneCell' (.slice a n c) = true := rfl
@[simp] theorem one_pointer (a : Option Addr) : Value.oneCell' (.pointer a) = true := rfl
@[simp] theorem one_func (f : Fn) (a b : Array Value) : Value.oneCell' (.func f a b) = true := rfl
/-! ### Facts on types, in the form that the laws ask for -/
def fldOff (P : Program) (T : TypeId) (i : Nat) : Option Nat :=
  match P.underlying T with
  | some (.struct fs) => match fs[i]? with
    | some f => if P.cellsOf f.type = 0 then none else some f.offset
    | none => none
  | _ => none
def isCellT (P : Program) (T : TypeId) : Bool :=
  match P.underlying T with
  | some (.struct _) | some (.array _ _) | none => false
  | some _ => true
def aggT (P : Program) (T : TypeId) : Option Nat :=
  match P.underlying T with
  | some (.struct _) | some (.array _ _) => (P.info? T).map (·.size)
  | _ => none
def elemT (P : Program) (T : TypeId) : Option (TypeId × Nat) :=
  match P.underlying T with
  | some (.slice e) => (P.info? e).map fun i => (e, i.size)
  | _ => none
def arrT (P : Program) (T : TypeId) : Option (Nat × TypeId × Nat) :=
  match P.underlying T with
  | some (.array n e) => (P.info? e).map fun i => (n, e, i.size)
  | _ => none
def zeroT (P : Program) (T : TypeId) : Option Value := (P.info? T).bind (·.zero)
def callable (P : Program) (f : FuncId) : Bool :=
  match P.funcs[f]? with
  | some fn => fn.body.isSome && !(fn.name == "runtime.NumGoroutine")
  | none => false

section
variable {P : Program} {C : World → Prop} {env : Env} {dst : Option Tmp} {ty : TypeId} {pos : String} {af : Array Edge} {gd : Option (Nat × Bool)}

theorem ev_move {x : Operand} {v : Value} (hx : env.ev x = some v) : Ev P C env ⟨dst, .move x, ty, pos, af, gd⟩ v := by
  intro ρ hρ w _
  simp [execOp, hρ x v hx, pure, Sem.run]
theorem ev_assign {x : Operand} {v : Value} (hx : env.ev x = some v) : Ev P C env ⟨dst, .assign x, ty, pos, af, gd⟩ v := by
  intro ρ hρ w _
  simp [execOp, hρ x v hx, pure, Sem.run]
theorem ev_pick {c x y : Operand} {t : Bool} {a b v : Value} (hc : env.ev c = some (.bool t)) (hx : env.ev x = some a) (hy : env.ev y = some b) (hv : (if t = true then a else b) = v) : Ev P C env ⟨dst, .pick c x y, ty, pos, af, gd⟩ v := by
  intro ρ hρ w _
  subst hv
  simp [execOp, hρ c _ hc, hρ x a hx, hρ y b hy, asBool]
theorem ev_nilCheck {x : Operand} {a : Addr} (hx : env.ev x = some (.pointer (some a))) : Ev P C env ⟨dst, .nilCheck x, ty, pos, af, gd⟩ (.pointer (some a)) := by
  intro ρ hρ w _
  simp [execOp, hρ x _ hx]
theorem ev_nilCheckF {x : Operand} {g : FuncId} {fs cs : Array Value} (hx : env.ev x = some (.func (.func g) fs cs)) : Ev P C env ⟨dst, .nilCheck x, ty, pos, af, gd⟩ (.func (.func g) fs cs) := by
  intro ρ hρ w _
  simp [execOp, hρ x _ hx]
theorem ev_extract {x : Operand} {i : Nat} {vs : Array Value} {v : Value} (hx : env.ev x = some (.tuple vs)) (hv : vs[i]? = some v) : Ev P C env ⟨dst, .extract x i, ty, pos, af, gd⟩ v := by
  intro ρ hρ w _
  simp [execOp, hρ x _ hx, Instr.extract, hv]
theorem ev_makeFunc {fn : Fn} {first captured : List Operand} {a b : List Value} (ha : env.evs first = some a) (hb : env.evs captured = some b) :
    Ev P C env ⟨dst, .makeFunc fn ⟨first⟩ ⟨captured⟩, ty, pos, af, gd⟩ (.func fn ⟨a⟩ ⟨b⟩) := by
  intro ρ hρ w _
  have key : ∀ (xs : List Operand) (vs : List Value), env.evs xs = some vs → xs.map ρ = vs := by
    intro xs
    induction xs with
    | nil => intro vs e; simp [Env.evs] at e; simp [e]
    | cons x r ih =>
      intro vs e
      unfold Env.evs at e
      split at e
      · cases e
      · rename_i v hv
        split at e
        · cases e
        · rename_i l hl
          cases e
          simp [hρ x v hv, ih l hl]
  simp [execOp, Instr.makeFunc, key _ _ ha, key _ _ hb]

theorem ev_fieldAddr {x : Operand} {T : TypeId} {i off b o : Nat} (hf : fldOff P T i = some off) (hx : env.ev x = some (.pointer (some ⟨b, o, none⟩))) :
    Ev P C env ⟨dst, .fieldAddr T x i, ty, pos, af, gd⟩ (.pointer (some ⟨b, o + off, none⟩)) := by
  intro ρ hρ w _
  unfold fldOff at hf
  split at hf
  · rename_i fs hfs
    split at hf
    · rename_i f hff
      split at hf
      · cases hf
      · rename_i hne
        cases hf
        cases hq : P.info? f.type with
        | none => simp [Program.cellsOf, hq] at hne
        | some inf =>
          have hsz : inf.size ≠ 0 := by simpa [Program.cellsOf, hq] using hne
          simp [execOp, hρ x _ hx, Instr.fieldAt, run_underlying hfs, hff, Instr.sureAddr, fieldPlace, sizeOf, typeInfo, hq, hsz, Addr.add_mid]
    · cases hf
  · cases hf
theorem ev_load1 {x : Operand} {T : TypeId} {b o : Nat} {v : Value} (ht : isCellT P T = true) (hx : env.ev x = some (.pointer (some ⟨b, o, none⟩))) (hc : ∀ w, C w → Cells w b o [v]) :
    Ev P C env ⟨dst, .load T x, ty, pos, af, gd⟩ v := by
  intro ρ hρ w hw
  have h1 : w.cell? ⟨b, o, none⟩ = some v := by simpa using hc w hw 0 v rfl
  unfold isCellT at ht
  cases hu : P.underlying T with
  | none => simp [hu] at ht
  | some d =>
    have hd : (match d with | .struct _ | .array _ _ => true | _ => false) = false := by
      rw [hu] at ht
      cases d <;> simp at ht ⊢
    cases d <;> first
      | (simp at hd; done)
      | simp [execOp, hρ x _ hx, Instr.loadAt, Instr.sureAddr, loadVar, isAgg, run_underlying hu, load, Sem.run, h1]
theorem ev_loadA {x : Operand} {T : TypeId} {b o n : Nat} {vs : List Value} (ht : aggT P T = some n) (hn : vs.length = n) (hx : env.ev x = some (.pointer (some ⟨b, o, none⟩))) (hc : ∀ w, C w → Cells w b o vs) :
    Ev P C env ⟨dst, .load T x, ty, pos, af, gd⟩ (.agg ⟨vs⟩) := by
  intro ρ hρ w hw
  have hd : ∃ d, P.underlying T = some d ∧ d.isRow = true ∧ (P.info? T).map (·.size) = some vs.length := by
    unfold aggT at ht
    split at ht <;> first
      | exact ⟨_, by assumption, rfl, by rw [ht, hn]⟩
      | cases ht
  obtain ⟨d, hu, hr, hi⟩ := hd
  have := run_loadVar_mid (P := P) w b o T vs d (hc w hw) hu hr hi
  simp [execOp, hρ x _ hx, Instr.loadAt, Instr.sureAddr, this]

theorem ev_indexAddr {x ix : Operand} {T e : TypeId} {sz b o k len cap : Nat} (ht : elemT P T = some (e, sz)) (hx : env.ev x = some (.slice (some ⟨b, o, none⟩) len cap)) (hi : env.ev ix = some (.int .i64 (k : Int))) (hk : k < len) :
    Ev P C env ⟨dst, .indexAddr T x ix, ty, pos, af, gd⟩ (.pointer (some ⟨b, o + k * sz, none⟩)) := by
  intro ρ hρ w _
  unfold elemT at ht
  split at ht
  · rename_i e' hu
    cases hq : P.info? e' with
    | none => simp [hq] at ht
    | some inf =>
      simp [hq] at ht
      obtain ⟨rfl, rfl⟩ := ht
      have h1 : (0 : Int) ≤ k ∧ (k : Int) < len := by omega
      simp [execOp, hρ x _ hx, hρ ix _ hi, Instr.indexAt, asIntOf, run_underlying hu, hk, sizeOf, typeInfo, hq, Addr.add_mid]
  · cases ht
theorem ev_indexAddrA {kd : IntKind} {x ix : Operand} {T e : TypeId} {n sz b o k : Nat} (ht : arrT P T = some (n, e, sz)) (hx : env.ev x = some (.pointer (some ⟨b, o, none⟩))) (hi : env.ev ix = some (.int kd (k : Int))) (hk : k < n) :
    Ev P C env ⟨dst, .indexAddr T x ix, ty, pos, af, gd⟩ (.pointer (some ⟨b, o + k * sz, none⟩)) := by
  intro ρ hρ w _
  unfold arrT at ht
  split at ht
  · rename_i n' e' hu
    cases hq : P.info? e' with
    | none => simp [hq] at ht
    | some inf =>
      simp [hq] at ht
      obtain ⟨rfl, rfl, rfl⟩ := ht
      simp [execOp, hρ x _ hx, hρ ix _ hi, Instr.indexAt, Instr.sureAddr, asIntOf, run_underlying hu, hk, sizeOf, typeInfo, hq, Addr.add_mid]
  · cases ht
def isStringT (P : Program) (T : TypeId) : Bool := match P.underlying T with | some .string => true | _ => false
def isSliceT (P : Program) (T : TypeId) : Bool := match P.underlying T with | some (.slice _) => true | _ => false
theorem ev_lenS {x : Operand} {T : TypeId} {s : ByteArray} (ht : isStringT P T = true) (hx : env.ev x = some (.string s)) :
    Ev P C env ⟨dst, .call { callee := .builtin .len, args := #[x], argTypes := #[T] }, ty, pos, af, gd⟩ (.int .i64 (s.size : Int)) := by
  intro ρ hρ w _
  unfold isStringT at ht
  split at ht
  · rename_i hu
    simp [execOp, resolve, invoke, builtin, Builtin.len_, hρ x _ hx, run_underlying hu, goInt]
  · cases ht
theorem ev_lenL {x : Operand} {T : TypeId} {a : Option Addr} {n c : Nat} (ht : isSliceT P T = true) (hx : env.ev x = some (.slice a n c)) :
    Ev P C env ⟨dst, .call { callee := .builtin .len, args := #[x], argTypes := #[T] }, ty, pos, af, gd⟩ (.int .i64 (n : Int)) := by
  intro ρ hρ w _
  unfold isSliceT at ht
  split at ht
  · rename_i e hu
    simp [execOp, resolve, invoke, builtin, Builtin.len_, hρ x _ hx, run_underlying hu, goInt]
  · cases ht

theorem sliceBound_run {w : World} {n : Nat} {y : Nat} {code : BoundsCode} (h : n ≤ y) : (Instr.sliceBound (.int .i64 (n : Int)) y code).run P w = .ok n w := by
  have : (0 : Int) ≤ n ∧ (n : Int) ≤ y := by omega
  simp [Instr.sliceBound, asIntOf, h]
theorem ev_sliceS_hi {x hi : Operand} {T : TypeId} {s : ByteArray} {n : Nat} (ht : isStringT P T = true) (hx : env.ev x = some (.string s)) (hh : env.ev hi = some (.int .i64 (n : Int))) (hn : n ≤ s.size) :
    Ev P C env ⟨dst, .slice T x none (some hi) none, ty, pos, af, gd⟩ (.string (s.extract 0 n)) := by
  intro ρ hρ w _
  unfold isStringT at ht
  split at ht
  · rename_i hu
    simp [execOp, hρ x _ hx, hρ hi _ hh, Instr.sliceAt, Instr.slice, run_underlying hu, Instr.sliceBounds, sliceBound_run hn]
  · cases ht
theorem ev_sliceS_lo {x lo : Operand} {T : TypeId} {s : ByteArray} {n : Nat} (ht : isStringT P T = true) (hx : env.ev x = some (.string s)) (hh : env.ev lo = some (.int .i64 (n : Int))) (hn : n ≤ s.size) :
    Ev P C env ⟨dst, .slice T x (some lo) none none, ty, pos, af, gd⟩ (.string (s.extract n s.size)) := by
  intro ρ hρ w _
  unfold isStringT at ht
  split at ht
  · rename_i hu
    simp [execOp, hρ x _ hx, hρ lo _ hh, Instr.sliceAt, Instr.slice, run_underlying hu, Instr.sliceBounds, sliceBound_run hn]
  · cases ht

/-! ### Numbers, strings, bools -/
theorem wrap_i64 {x : Int} (h1 : -9223372036854775808 ≤ x) (h2 : x ≤ 9223372036854775807) : IntKind.i64.wrap x = x := by
  simp only [IntKind.wrap, IntKind.bits, IntKind.signed]
  simp
  omega
theorem ev_add {x y : Operand} {T U : TypeId} {a b : Int} (hx : env.ev x = some (.int .i64 a)) (hy : env.ev y = some (.int .i64 b)) (h1 : -9223372036854775808 ≤ a + b) (h2 : a + b ≤ 9223372036854775807) :
    Ev P C env ⟨dst, .binOp .add T x y U, ty, pos, af, gd⟩ (.int .i64 (a + b)) := by
  intro ρ hρ w _
  simp [execOp, hρ x _ hx, hρ y _ hy, eqGuard, binOp, Op.intArith, wrap_i64 h1 h2]
/-- A sum that may turn over. -/
theorem ev_addW {x y : Operand} {T U : TypeId} {a b : Int} (hx : env.ev x = some (.int .i64 a)) (hy : env.ev y = some (.int .i64 b)) :
    Ev P C env ⟨dst, .binOp .add T x y U, ty, pos, af, gd⟩ (.int .i64 (IntKind.i64.wrap (a + b))) := by
  intro ρ hρ w _
  simp [execOp, hρ x _ hx, hρ y _ hy, eqGuard, binOp, Op.intArith]
theorem ev_sub {x y : Operand} {T U : TypeId} {a b : Int} (hx : env.ev x = some (.int .i64 a)) (hy : env.ev y = some (.int .i64 b)) (h1 : -9223372036854775808 ≤ a - b) (h2 : a - b ≤ 9223372036854775807) :
    Ev P C env ⟨dst, .binOp .sub T x y U, ty, pos, af, gd⟩ (.int .i64 (a - b)) := by
  intro ρ hρ w _
  simp [execOp, hρ x _ hx, hρ y _ hy, eqGuard, binOp, Op.intArith, wrap_i64 h1 h2]
theorem ev_lss {k : IntKind} {x y : Operand} {T U : TypeId} {a b : Int} (hx : env.ev x = some (.int k a)) (hy : env.ev y = some (.int k b)) : Ev P C env ⟨dst, .binOp .lss T x y U, ty, pos, af, gd⟩ (.bool (decide (a < b))) := by
  intro ρ hρ w _
  simp [execOp, hρ x _ hx, hρ y _ hy, eqGuard, binOp, Op.intCmp]
theorem ev_leq {k : IntKind} {x y : Operand} {T U : TypeId} {a b : Int} (hx : env.ev x = some (.int k a)) (hy : env.ev y = some (.int k b)) : Ev P C env ⟨dst, .binOp .leq T x y U, ty, pos, af, gd⟩ (.bool (decide (a ≤ b))) := by
  intro ρ hρ w _
  simp [execOp, hρ x _ hx, hρ y _ hy, eqGuard, binOp, Op.intCmp]
theorem ev_gtr {k : IntKind} {x y : Operand} {T U : TypeId} {a b : Int} (hx : env.ev x = some (.int k a)) (hy : env.ev y = some (.int k b)) : Ev P C env ⟨dst, .binOp .gtr T x y U, ty, pos, af, gd⟩ (.bool (decide (b < a))) := by
  intro ρ hρ w _
  simp [execOp, hρ x _ hx, hρ y _ hy, eqGuard, binOp, Op.intCmp]
theorem ev_geq {k : IntKind} {x y : Operand} {T U : TypeId} {a b : Int} (hx : env.ev x = some (.int k a)) (hy : env.ev y = some (.int k b)) : Ev P C env ⟨dst, .binOp .geq T x y U, ty, pos, af, gd⟩ (.bool (decide (b ≤ a))) := by
  intro ρ hρ w _
  simp [execOp, hρ x _ hx, hρ y _ hy, eqGuard, binOp, Op.intCmp]
theorem int_beq (a b : Int) : (a == b) = decide (a = b) := by by_cases h : a = b <;> simp [h]
theorem ev_eqlI {k : IntKind} {x y : Operand} {T U : TypeId} {a b : Int} (hx : env.ev x = some (.int k a)) (hy : env.ev y = some (.int k b)) : Ev P C env ⟨dst, .binOp .eql T x y U, ty, pos, af, gd⟩ (.bool (decide (a = b))) := by
  intro ρ hρ w _
  simp [execOp, hρ x _ hx, hρ y _ hy, eqGuard, binOp, Op.intCmp, int_beq]
theorem ev_neqI {k : IntKind} {x y : Operand} {T U : TypeId} {a b : Int} (hx : env.ev x = some (.int k a)) (hy : env.ev y = some (.int k b)) : Ev P C env ⟨dst, .binOp .neq T x y U, ty, pos, af, gd⟩ (.bool (decide (a ≠ b))) := by
  intro ρ hρ w _
  have : (a != b) = decide (a ≠ b) := by by_cases h : a = b <;> simp [h]
  simp [execOp, hρ x _ hx, hρ y _ hy, eqGuard, binOp, Op.intCmp, this]
theorem str_beq (a b : ByteArray) : (a.toList == b.toList) = decide (a = b) := by
  rw [ByteArray.toList_eq, ByteArray.toList_eq]
  by_cases h : a = b
  · subst h; simp
  · have : ¬ (a.data = b.data) := fun e => h (by cases a; cases b; simpa using e)
    simp [h, this]
theorem ev_eqlS {x y : Operand} {T U : TypeId} {a b : ByteArray} (hx : env.ev x = some (.string a)) (hy : env.ev y = some (.string b)) : Ev P C env ⟨dst, .binOp .eql T x y U, ty, pos, af, gd⟩ (.bool (decide (a = b))) := by
  intro ρ hρ w _
  simp [execOp, hρ x _ hx, hρ y _ hy, eqGuard, binOp, Op.stringOp, str_beq]
theorem ev_neqS {x y : Operand} {T U : TypeId} {a b : ByteArray} (hx : env.ev x = some (.string a)) (hy : env.ev y = some (.string b)) : Ev P C env ⟨dst, .binOp .neq T x y U, ty, pos, af, gd⟩ (.bool (decide (a ≠ b))) := by
  intro ρ hρ w _
  have : (!(a.toList == b.toList)) = decide (a ≠ b) := by rw [str_beq]; by_cases h : a = b <;> simp [h]
  simp only [execOp, hρ x _ hx, hρ y _ hy]
  simp [eqGuard, binOp, Op.stringOp, str_beq]
/-- a is ahead of b, byte by byte. -/
def strLt (a b : ByteArray) : Bool := Op.bytesLess a.toList b.toList
theorem ev_lssS {x y : Operand} {T U : TypeId} {a b : ByteArray} (hx : env.ev x = some (.string a)) (hy : env.ev y = some (.string b)) : Ev P C env ⟨dst, .binOp .lss T x y U, ty, pos, af, gd⟩ (.bool (strLt a b)) := by
  intro ρ hρ w _
  simp [execOp, hρ x _ hx, hρ y _ hy, eqGuard, binOp, Op.stringOp, strLt]
theorem ev_geqS {x y : Operand} {T U : TypeId} {a b : ByteArray} (hx : env.ev x = some (.string a)) (hy : env.ev y = some (.string b)) : Ev P C env ⟨dst, .binOp .geq T x y U, ty, pos, af, gd⟩ (.bool (!strLt a b)) := by
  intro ρ hρ w _
  simp [execOp, hρ x _ hx, hρ y _ hy, eqGuard, binOp, Op.stringOp, strLt]
theorem ev_addS {x y : Operand} {T U : TypeId} {a b : ByteArray} (hx : env.ev x = some (.string a)) (hy : env.ev y = some (.string b)) (h : a.size + b.size ≤ 9223372036854775807) : Ev P C env ⟨dst, .binOp .add T x y U, ty, pos, af, gd⟩ (.string (a ++ b)) := by
  intro ρ hρ w _
  have h' : ¬ ((a.size : Int) + b.size > IntKind.i64.max) := by simp [IntKind.max, IntKind.signed, IntKind.bits]; omega
  simp only [execOp, hρ x _ hx, hρ y _ hy]
  simp [eqGuard, binOp, Op.stringOp]
  omega
theorem ev_eqlB {x y : Operand} {T U : TypeId} {a b : Bool} (ht : P.underlying T = some .bool) (hx : env.ev x = some (.bool a)) (hy : env.ev y = some (.bool b)) : Ev P C env ⟨dst, .binOp .eql T x y U, ty, pos, af, gd⟩ (.bool (a == b)) := by
  intro ρ hρ w _
  have h1 : (Op.equal T (.bool a) (.bool b)).run P w = .ok (a == b) w := by
    unfold Op.equal Op.maxDepth Op.equalIn
    simp [run_underlying ht]
  simp [execOp, hρ x _ hx, hρ y _ hy, eqGuard, binOp, h1]
theorem ev_not {x : Operand} {T : TypeId} {a : Bool} (hx : env.ev x = some (.bool a)) : Ev P C env ⟨dst, .unOp .not T x, ty, pos, af, gd⟩ (.bool (!a)) := by
  intro ρ hρ w _
  simp [execOp, hρ x _ hx, Op.unary]
end
end Go.Fw

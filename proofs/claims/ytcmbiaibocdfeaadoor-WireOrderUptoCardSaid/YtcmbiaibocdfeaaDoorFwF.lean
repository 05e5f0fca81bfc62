/- The walk by partial frames, 6: structs held against each other; make. -/
import Derived.Test.YtcmbiaibocdfeaaDoorFwE
import Derived.Stop.BytesEq
import Derived.Laws.MakeOwn
namespace Go.Fw
def hcells (h : List UInt8) : List Value := h.map fun b => .int .u8 b.toNat
theorem hcells_length (h : List UInt8) : (hcells h).length = h.length := by simp [hcells]
@[simp] theorem hcells_one (h : List UInt8) : ∀ v ∈ hcells h, v.oneCell' = true := by
  intro v hv
  simp only [hcells, List.mem_map] at hv
  obtain ⟨b, _, rfl⟩ := hv
  rfl

section
variable {P : Program}
/-- Two values of a type are held against each other. -/
def EqV (P : Program) (d : Nat) (T : TypeId) (a b : Value) (r : Bool) : Prop := ∀ w, (Op.equalIn d T a b).run P w = .ok r w
def EqFs (P : Program) (d : Nat) (fs : List Field) (xs ys : Array Value) (r : Bool) : Prop := ∀ w, (Op.eqFields d xs ys fs).run P w = .ok r w
theorem eqv_int {d : Nat} {T : TypeId} {k : IntKind} {a b : Int} (h : P.underlying T = some (.int k)) : EqV P (d + 1) T (.int k a) (.int k b) (decide (a = b)) := fun w => by
  rw [run_equalIn_int w d T k k a b h, int_beq]
theorem eqv_bool {d : Nat} {T : TypeId} {a b : Bool} (h : P.underlying T = some .bool) : EqV P (d + 1) T (.bool a) (.bool b) (decide (a = b)) := fun w => by
  rw [run_equalIn_bool w d T a b h]
  cases a <;> cases b <;> rfl
theorem eqv_string {d : Nat} {T : TypeId} {a b : ByteArray} (h : P.underlying T = some .string) : EqV P (d + 1) T (.string a) (.string b) (decide (a = b)) := fun w => by
  rw [run_equalIn_string w d T a b h, str_beq]
theorem eqv_hash {d : Nat} {T e n : TypeId} {a b : List UInt8} (h : P.underlying T = some (.array n e)) (he : P.underlying e = some (.int .u8)) (hs : (P.info? e).map (·.size) = some 1) (ha : a.length = n) (hb : b.length = n) :
    EqV P (d + 2) T (.agg ⟨hcells a⟩) (.agg ⟨hcells b⟩) (decide (a = b)) := fun w => by
  have hsz : ∀ w, (sizeOf e).run P w = .ok 1 w := fun w => by
    cases hq : P.info? e with
    | none => simp [hq] at hs
    | some i =>
      have : i.size = 1 := by simpa [hq] using hs
      simp [sizeOf, typeInfo, hq, this]
  have := run_equalIn_bytes w d T e n h he hsz a b ha hb
  have e1 : (List.map Extern.Stop.cell a).toArray = ⟨hcells a⟩ := rfl
  have e2 : (List.map Extern.Stop.cell b).toArray = ⟨hcells b⟩ := rfl
  rw [e1, e2] at this
  rw [this]
  congr 1
  by_cases h : a = b <;> simp [h]
theorem eqv_struct {d : Nat} {T : TypeId} {fs : Array Field} {xs ys : List Value} {r : Bool} (h : P.underlying T = some (.struct fs)) (hp : P.stoodInHeld T = false) (hf : EqFs P d fs.toList ⟨xs⟩ ⟨ys⟩ r) : EqV P (d + 1) T (.agg ⟨xs⟩) (.agg ⟨ys⟩) r := fun w => by
  have e : P.fieldsOf T = fs := by simp [Program.fieldsOf, h]
  rw [run_equalIn_struct w d T ⟨xs⟩ ⟨ys⟩ (by rw [e]; exact h) hp, e]
  exact hf w
theorem eqf_nil {d : Nat} {xs ys : Array Value} : EqFs P d [] xs ys true := fun w => by simp [Op.eqFields]
theorem eqf_cons {d : Nat} {f : Field} {fs : List Field} {xs ys : Array Value} {a b : Value} {r1 r2 : Bool} (hn : (f.name != "_") = true) (ha : ∀ w, (part f.type xs f.offset).run P w = .ok a w) (hb : ∀ w, (part f.type ys f.offset).run P w = .ok b w)
    (he : EqV P d f.type a b r1) (hr : EqFs P d fs xs ys r2) : EqFs P d (f :: fs) xs ys (r1 && r2) := fun w => by
  have hn' : f.name ≠ "_" := by simpa using hn
  have he' := he w
  simp only [Op.eqFields, hn', ne_eq, not_false_eq_true, if_true, Sem.run_bind, ha, hb, he', Result.andThen_ok]
  cases r1
  · simp
  · simpa using hr w
theorem part1 {T : TypeId} {xs : List Value} {off : Nat} {v : Value} (ht : isCellT P T = true) (h : xs[off]? = some v) : ∀ w, (part T ⟨xs⟩ off).run P w = .ok v w := fun w => by
  unfold isCellT at ht
  cases hu : P.underlying T with
  | none => simp [hu] at ht
  | some d =>
    rw [hu] at ht
    cases d <;> first
      | (simp at ht; done)
      | simp [part, isAgg, run_underlying hu, h]
theorem partA {T : TypeId} {xs vs : List Value} {off n : Nat} (ht : aggT P T = some n) (h : (xs.drop off).take n = vs) : ∀ w, (part T ⟨xs⟩ off).run P w = .ok (.agg ⟨vs⟩) w := fun w => by
  have key : ∃ d, P.underlying T = some d ∧ d.isRow = true ∧ (P.info? T).map (·.size) = some n := by
    unfold aggT at ht
    split at ht <;> first
      | exact ⟨_, by assumption, rfl, ht⟩
      | cases ht
  obtain ⟨d, hu, hr, hi⟩ := key
  cases hq : P.info? T with
  | none => simp [hq] at hi
  | some i =>
    have hs : i.size = n := by simpa [hq] using hi
    have he : (Array.mk xs).extract off (off + n) = ⟨vs⟩ := by
      rw [← h]
      apply Array.ext'
      simp
    cases d <;> first
      | (simp [TypeDesc.isRow] at hr; done)
      | simp [part, isAgg, run_underlying hu, sizeOf, typeInfo, hq, hs, h]

variable {C : World → Prop} {env : Env} {dst : Option Tmp} {ty : TypeId} {pos : String} {af : Array Edge} {gd : Option (Nat × Bool)}
theorem ev_eqlA {x y : Operand} {T U : TypeId} {a b : Array Value} {r : Bool} (hx : env.ev x = some (.agg a)) (hy : env.ev y = some (.agg b)) (hg : P.eqGuardType P.depth T = false) (he : EqV P 10000 T (.agg a) (.agg b) r) :
    Ev P C env ⟨dst, .binOp .eql T x y U, ty, pos, af, gd⟩ (.bool r) := by
  intro ρ hρ w _
  have h1 := run_eqGuard_agg (P := P) w .eql T x y a b hg
  have h2 := he w
  simp [execOp, hρ x _ hx, hρ y _ hy, h1, run_eql_struct, h2]
theorem ev_neqA {x y : Operand} {T U : TypeId} {a b : Array Value} {r : Bool} (hx : env.ev x = some (.agg a)) (hy : env.ev y = some (.agg b)) (hg : P.eqGuardType P.depth T = false) (he : EqV P 10000 T (.agg a) (.agg b) r) :
    Ev P C env ⟨dst, .binOp .neq T x y U, ty, pos, af, gd⟩ (.bool (!r)) := by
  intro ρ hρ w _
  have h1 := run_eqGuard_agg (P := P) w .neq T x y a b hg
  have h2 := he w
  simp [execOp, hρ x _ hx, hρ y _ hy, h1, run_neq_struct, h2]

theorem made_one (z : Value) (n : Nat) : madeCells #[z] n = ⟨List.replicate n z⟩ := by
  apply Array.ext'
  simp only [madeCells, Array.toList_map, Array.toList_range]
  rw [List.eq_replicate_iff]
  refine ⟨by simp, fun b hb => ?_⟩
  simp only [List.mem_map] at hb
  obtain ⟨i, _, rfl⟩ := hb
  simp [Nat.mod_one]
/-- make([]T, n), T of one cell: n cells of zero. -/
theorem t_make {x y : Operand} {T e by_ n : Nat} {z : Value} {w : World} (ht : elemF P T e 1 by_ = true) (hz : zeroT P e = some z) (hz1 : z.cells = #[z]) (hx : env.ev x = some (.int .i64 (n : Int))) (hy : env.ev y = some (.int .i64 (n : Int))) (hb : n * by_ ≤ 140737488355328) (hn : n ≤ 140737488355328) :
    OpT P env ⟨dst, .makeSlice T x y, ty, pos, af, gd⟩ w fun r w' => ∃ b, r = .slice (some ⟨b, 0, none⟩) n n ∧ w'.heap[b]? = some (.cells ⟨List.replicate n z⟩ e (0, 0)) ∧ Ext w w' ∧ w.heap.size ≤ b ∧ b < w'.heap.size := by
  intro a ha next Q hnx
  obtain ⟨i, z', hu, hi, hsz, hbt, hpos, hz', hzs⟩ := elemF_spec ht
  have hzz : z' = z := by simpa [zeroT, hi, hz'] using hz
  subst hzz
  have hr := run_make (P := P) w T e i z' hu hi hz' .i64 .i64 (n : Int) (n : Int) (by omega) (Int.le_refl _) (by rw [hbt, Int.mul_comm, ← Int.natCast_mul]; omega) (by omega)
  unfold Oper.wp
  have : (execOp a.eval ⟨dst, .makeSlice T x y, ty, pos, af, gd⟩).run P w = .ok (.value (.slice (some ⟨w.heap.size, 0, none⟩) n n)) (w.alloc (.cells ⟨List.replicate n z'⟩ e)) := by
    have e1 : ((n : Int)).toNat = n := by omega
    rw [e1, hsz, Nat.mul_one, hz1, made_one] at hr
    simp [execOp, ha x _ hx, ha y _ hy, hr]
  rw [this]
  have hnb := newBlk_alloc w ⟨List.replicate n z'⟩ e
  exact hnx _ _ ⟨_, rfl, hnb.blk, hnb.ext, hnb.new, hnb.lt⟩
end
end Go.Fw

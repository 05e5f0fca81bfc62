/- The walk by partial frames: what a call of a function of the program comes to, from a list of what some of its slots hold. -/
import Derived.WalkKit
import Derived.OrdersHeld
import Derived.Deep.MidRow
import Derived.Laws.Tables
import Derived.Great.BuildSlice
import Derived.Laws.OwnMore
import Derived.Stop.BytesEq
import Derived.Laws.MakeOwn
import Derived.Laws.IdiomStrings
import Derived.Laws.Small
import Derived.Laws.Slices
import Derived.Laws.Pointers
import Derived.Laws.Cover3
import Derived.Laws.CopyRow
import Derived.Laws.IdiomCopy
import Derived.Laws.Strings
import Derived.Laws.Externs
import Derived.Lib.Overlaps
import Derived.Lib.Bytealg
import Derived.Lib.AppendZerosOnto
namespace Go.Fw

/-- What some slots hold. -/
abbrev Env := List (Nat × Value)
def Env.get : Env → Nat → Option Value
  | [], _ => none
  | (k, v) :: r, t => bif Nat.beq k t then some v else Env.get r t
def Env.ev (env : Env) : Operand → Option Value
  | .tmp t => env.get t
  | .const v => some v
  | .global g => some (.pointer (some ⟨g, 0, none⟩))
  | .func f => some (.func (.func f) #[] #[])
def Env.evs (env : Env) : List Operand → Option (List Value)
  | [] => some []
  | x :: r => match env.ev x with
    | none => none
    | some v => match Env.evs env r with
      | none => none
      | some l => some (v :: l)
def Env.evps (env : Env) : List (Nat × Operand) → Option (List (Nat × Value))
  | [] => some []
  | (i, x) :: r => match env.ev x with
    | none => none
    | some v => match Env.evps env r with
      | none => none
      | some l => some ((i, v) :: l)
def Env.le : Env → Env → Prop
  | [], _ => True
  | (t, v) :: r, e => e.get t = some v ∧ Env.le r e
def Env.of : Nat → List Value → Env
  | _, [] => []
  | i, v :: r => (i, v) :: Env.of (i + 1) r

structure Fits (n : Nat) (env : Env) (a : Act) : Prop where
  size : a.tmps.size = n
  get : ∀ t v, env.get t = some v → a.tmps[t]? = some v
  defers : a.defers = []

theorem Fits.ev {n : Nat} {env : Env} {a : Act} (h : Fits n env a) {x : Operand} {v : Value} (hx : env.ev x = some v) : a.eval x = v := by
  cases x with
  | tmp t =>
    have := h.get t v hx;simp [Act.eval, this]
  | const u => simpa [Env.ev, Act.eval] using hx
  | global g => simpa [Env.ev, Act.eval] using hx
  | func f => simpa [Env.ev, Act.eval] using hx

theorem Fits.put {n : Nat} {env : Env} {a : Act} (h : Fits n env a) {d : Nat} (hd : d < n) (v : Value) : Fits n ((d, v) :: env) (a.put (some d) v) := by
  refine ⟨by simp [Act.put, h.size], fun t u ht => ?_, h.defers⟩;unfold Env.get at ht
  cases hb : Nat.beq d t with
  | true =>
    have e : d = t := Nat.eq_of_beq_eq_true hb;subst e;rw [hb] at ht;simp only [cond_true, Option.some.injEq] at ht;subst ht;simp [Act.put, h.size, hd]
  | false =>
    have e : d ≠ t := Nat.ne_of_beq_eq_false hb;rw [hb] at ht;simp only [cond_false] at ht;simp [Act.put, Array.getElem?_setIfInBounds_ne e, h.get t u ht]

theorem Env.get_of_le : ∀ {e e' : Env}, Env.le e e' → ∀ {t v}, e.get t = some v → e'.get t = some v
  | [], _, _, t, v, h => by simp [Env.get] at h
  | (k, u) :: r, e', hle, t, v, h => by
    unfold Env.get at h
    cases hb : Nat.beq k t with
    | true =>
      have e : k = t := Nat.eq_of_beq_eq_true hb;subst e;rw [hb] at h;simp only [cond_true, Option.some.injEq] at h;subst h;exact hle.1
    | false =>
      rw [hb] at h;simp only [cond_false] at h;exact Env.get_of_le hle.2 h

theorem Fits.le {n : Nat} {e e' : Env} {a : Act} (h : Fits n e' a) (hle : Env.le e e') : Fits n e a :=
  ⟨h.size, fun _ _ ht => h.get _ _ (Env.get_of_le hle ht), h.defers⟩

/-- From here on the call returns, and R holds of what it hands back and of the world behind it. -/
def Run (P : Program) (f : FuncId) (n : Nat) (todo : List Item) (env : Env) (w : World) (R : Value → World → Prop) : Prop :=
  ∀ (b : Frame) (a : Act) (cs : List Frame), b.fn = f → b.kind = .normal → Fits n env a →
    ∃ v w' fr, R v w' ∧ Steps P (lone (b.at a todo) cs w) (lone fr cs w') ∧ fr.fn = f ∧ fr.leaving P w' (.returned v)

/-- A call returns, and R holds. -/
def Ret (P : Program) (f : FuncId) (args : List Value) (w : World) (R : Value → World → Prop) : Prop :=
  Calls P f ⟨args⟩ w fun e w' => ∃ v, e = .returned v ∧ R v w'

theorem Ret.mono {P : Program} {f : FuncId} {args : List Value} {w : World} {R R' : Value → World → Prop} (h : Ret P f args w R) (hr : ∀ v w', R v w' → R' v w') : Ret P f args w R' :=
  Calls.mono h fun _ _ ⟨v, he, hv⟩ => ⟨v, he, hr _ _ hv⟩

theorem fits_of : ∀ (l : List Value) (i n : Nat) (pre : List Value), pre.length = i → i + l.length ≤ n →
    ∀ t v, (Env.of i l).get t = some v → ((pre ++ l).toArray ++ Array.replicate (n - (pre ++ l).toArray.size) undef)[t]? = some v
  | [], _, _, _, _, _, t, v, h => by simp [Env.of, Env.get] at h
  | x :: r, i, n, pre, hp, hl, t, v, h => by
    unfold Env.of Env.get at h
    cases hb : Nat.beq i t with
    | true =>
      have e : i = t := Nat.eq_of_beq_eq_true hb;rw [hb] at h;simp only [cond_true, Option.some.injEq] at h;subst h e;have h1 : (pre ++ x :: r)[i]? = some x := by rw [List.getElem?_append_right (by omega)]; simp [hp]
      rw [Array.getElem?_append_left (by simp at hl ⊢; omega)]
      simpa using h1
    | false =>
      rw [hb] at h;simp only [cond_false] at h;have := fits_of r (i + 1) n (pre ++ [x]) (by simp [hp]) (by simp at hl; omega) t v h
      simpa using this

theorem Qt {P : Program} {f : FuncId} {fn : Func} {c : Code} {n : Nat} {args : List Value} {w : World} {R : Value → World → Prop}
    (hf : P.funcs[f]? = some fn) (hb : fn.body = some c) (hn : fn.ntmps = n) (hl : Nat.ble args.length n = true)
    (h : Run P f n [.code c] (Env.of 0 args) w R) : Ret P f args w R := by
  intro cs
  let b : Frame := { (default : Frame) with fn := f, kind := .normal }
  have henter : Frame.enter P f ⟨args⟩ .normal =
      b.at { tmps := ⟨args⟩ ++ Array.replicate (fn.ntmps - (Array.mk args).size) undef, defers := [] } [.code c] := by
    simp [Frame.enter, Frame.at, hf, hb, b]
  have hle : args.length ≤ n := Nat.le_of_ble_eq_true hl;obtain ⟨v, w', fr, hR, hs, hfn, hlv⟩ := h b { tmps := ⟨args⟩ ++ Array.replicate (fn.ntmps - (Array.mk args).size) undef, defers := [] } cs rfl rfl
    ⟨by simp [hn]; omega, fun t v ht => by
      have := fits_of args 0 n [] rfl (by omega) t v ht
      simpa [hn] using this, rfl⟩
  exact ⟨.returned v, w', fr, ⟨v, rfl, hR⟩, by rw [henter]; exact hs, hfn, hlv⟩

section
variable {P : Program} {f : FuncId} {n : Nat} {k : List Item} {env : Env} {w : World} {R : Value → World → Prop}

theorem Run.le {todo : List Item} {e' : Env} (h : Run P f n todo e' w R) (hle : Env.le e' env) : Run P f n todo env w R :=
  fun b a cs h1 h2 h3 => h b a cs h1 h2 (h3.le hle)

theorem run_step {todo todo' : List Item} (hs : ∀ (b : Frame) (a : Act) (cs : List Frame), b.fn = f → Fits n env a → step P (lone (b.at a todo) cs w) = .next (lone (b.at a todo') cs w))
    (h : Run P f n todo' env w R) : Run P f n todo env w R :=
  fun b a cs h1 h2 h3 => let ⟨v, w', fr, r, s, l⟩ := h b a cs h1 h2 h3; ⟨v, w', fr, r, .head (hs b a cs h1 h3) s, l⟩

theorem Qe {x y : Code} (h : Run P f n (.code x :: .code y :: k) env w R) : Run P f n (.code (.seq x y) :: k) env w R := run_step (fun _ _ _ _ _ => step_seq) h
theorem Qx (h : Run P f n k env w R) : Run P f n (.code .skip :: k) env w R := run_step (fun _ _ _ _ _ => step_skip) h
theorem Zb {id : Nat} (h : Run P f n k env w R) : Run P f n (.inBlock id :: k) env w R := run_step (fun _ _ _ _ _ => step_inBlock) h
theorem Qu {id : Nat} {c : Code} (h : Run P f n (.code c :: .inBlock id :: k) env w R) : Run P f n (.code (.block id c) :: k) env w R := run_step (fun _ _ _ _ _ => step_block) h
theorem Zl {id : Nat} {k' : List Item} (hk : exitTo id k = some k') (h : Run P f n k' env w R) : Run P f n (.code (.exit id) :: k) env w R := run_step (fun _ _ _ _ _ => step_exit hk) h
theorem run_cond {c : Operand} {x y : Code} {t : Bool} (hc : env.ev c = some (.bool t)) (h : Run P f n (.code (if t then x else y) :: k) env w R) : Run P f n (.code (.cond c x y) :: k) env w R :=
  run_step (fun _ _ _ _ hf => step_cond (hf.ev hc)) h
theorem run_cond_true {c : Operand} {x y : Code} {t : Bool} (hc : env.ev c = some (.bool t)) (ht : t = true) (h : Run P f n (.code x :: k) env w R) : Run P f n (.code (.cond c x y) :: k) env w R :=
  run_cond hc (by rw [ht]; exact h)
theorem Qr {c : Operand} {x y : Code} {t : Bool} (hc : env.ev c = some (.bool t)) (ht : t = false) (h : Run P f n (.code y :: k) env w R) : Run P f n (.code (.cond c x y) :: k) env w R :=
  run_cond hc (by rw [ht]; exact h)
theorem run_cond_split {c : Operand} {x y : Code} {t : Bool} (hc : env.ev c = some (.bool t)) (h1 : t = true → Run P f n (.code x :: k) env w R) (h2 : t = false → Run P f n (.code y :: k) env w R) : Run P f n (.code (.cond c x y) :: k) env w R := by
  cases t
  · exact Qr hc rfl (h2 rfl)
  · exact run_cond_true hc rfl (h1 rfl)
theorem run_dcond {c : Operand} {x y : Code} {p : Prop} [Decidable p] (hc : env.ev c = some (.bool (decide p))) (h1 : p → Run P f n (.code x :: k) env w R) (h2 : ¬ p → Run P f n (.code y :: k) env w R) : Run P f n (.code (.cond c x y) :: k) env w R :=
  run_cond_split hc (fun h => h1 (of_decide_eq_true h)) (fun h => h2 (of_decide_eq_false h))
theorem run_inLoop {c : Code} (h : Run P f n (.code c :: .inLoop c :: k) env w R) : Run P f n (.inLoop c :: k) env w R := run_step (fun _ _ _ _ _ => step_inLoop) h
theorem run_loop1 {c : Code} (h : Run P f n (.code c :: .inLoop c :: k) env w R) : Run P f n (.code (.loop c) :: k) env w R := run_step (fun _ _ _ _ _ => step_loop) h

/-- A loop: ι is what turns from round to round, E the slots that are read later, J what holds at each round's head, μ goes down. -/
theorem run_loop {ι : Type} (E : ι → Env) (J : ι → World → Prop) (μ : ι → Nat) (i0 : ι) {c : Code} (hle : Env.le (E i0) env) (hJ : J i0 w)
    (round : ∀ i w, J i w → (∀ i' w' env', μ i' < μ i → Env.le (E i') env' → J i' w' → Run P f n (.inLoop c :: k) env' w' R) → Run P f n (.code c :: .inLoop c :: k) (E i) w R) :
    Run P f n (.code (.loop c) :: k) env w R := by
  have key : ∀ m i w, μ i = m → J i w → Run P f n (.code c :: .inLoop c :: k) (E i) w R := by
    intro m
    induction m using Nat.strongRecOn with
    | _ m ih =>
      intro i w hm hJ;exact round i w hJ fun i' w' env' hlt hle hJ' => run_inLoop ((ih _ (hm ▸ hlt) i' w' rfl hJ').le hle)
  exact run_loop1 ((key _ i0 w rfl hJ).le hle)

/-- A place where ways meet: what follows is walked once. -/
theorem run_cut1 {ι : Type} (E : ι → Env) (J : ι → World → Prop) {a c : Code} (h1 : ∀ i w, J i w → Run P f n (.code c :: k) (E i) w R)
    (h2 : (∀ i w env, Env.le (E i) env → J i w → Run P f n (.code c :: k) env w R) → Run P f n (.code a :: .code c :: k) env w R) :
    Run P f n (.code (.seq a c) :: k) env w R :=
  Qe (h2 fun i w env hle hJ => (h1 i w hJ).le hle)
theorem leaving_of {fn : Func} {a : Act} {b : Frame} {todo : List Item} {v : Value} (hb : b.fn = f) (hk : b.kind = .normal) (hf : P.funcs[f]? = some fn) (hd : a.defers = [])
    (hr : (results fn a.tmps).run P w = .ok v w) : ({ b.at a todo with mode := .returning } : Frame).leaving P w (.returned v) :=
  ⟨rfl, hd, hk, fn, by simpa [Frame.at, hb] using hf, hr⟩

theorem Qo {fn : Func} {v : Value} (hf : P.funcs[f]? = some fn) (hr : ∀ a : Act, Fits n env a → (results fn a.tmps).run P w = .ok v w) (h : R v w) : Run P f n (.code .ret :: k) env w R :=
  fun b a cs h1 h2 h3 => ⟨v, w, _, h, .one step_ret, h1, leaving_of h1 h2 hf h3.defers (hr a h3)⟩
theorem run_end_any {fn : Func} {v : Value} (hf : P.funcs[f]? = some fn) (hr : ∀ a : Act, Fits n env a → (results fn a.tmps).run P w = .ok v w) (h : R v w) : Run P f n [] env w R :=
  fun b a cs h1 h2 h3 => ⟨v, w, _, h, .one step_end, h1, leaving_of h1 h2 hf h3.defers (hr a h3)⟩

theorem res1 {fn : Func} {t : Tmp} {v : Value} (hr : fn.results = #[.tmp t]) (hv : env.get t = some v) : ∀ a : Act, Fits n env a → (results fn a.tmps).run P w = .ok v w := by
  intro a h;rw [results_tmp hr];simp [h.get t v hv]
theorem res0 {fn : Func} (hr : fn.results = #[]) : ∀ a : Act, Fits n env a → (results fn a.tmps).run P w = .ok (.tuple #[]) w := by
  intro a h;rw [results_none hr]
theorem res2 {fn : Func} {t t' : Tmp} {v v' : Value} (hr : fn.results = #[.tmp t, .tmp t']) (hv : env.get t = some v) (hv' : env.get t' = some v') : ∀ a : Act, Fits n env a → (results fn a.tmps).run P w = .ok (.tuple #[v, v']) w := by
  intro a h;rw [results_tmp2 hr];simp [h.get t v hv, h.get t' v' hv']
end
end Go.Fw
/- The walk by partial frames, 2: regions, in the order of the text or in an open one; memory that stays. -/
namespace Go.Fw

/-- All that was there, but for the blocks of M, is as it was. -/
structure ExtB (M : Nat → Prop) (w w' : World) : Prop where
  os : w'.os = w.os
  tape : w'.tape = w.tape
  output : w'.output = w.output
  size : w.heap.size ≤ w'.heap.size
  blk : ∀ k o, ¬ M k → w.heap[k]? = some o → w'.heap[k]? = some o
abbrev Ext (w w' : World) : Prop := ExtB (fun _ => False) w w'

theorem ExtB.refl (M : Nat → Prop) (w : World) : ExtB M w w := ⟨rfl, rfl, rfl, Nat.le_refl _, fun _ _ _ h => h⟩
theorem ExtB.trans {M : Nat → Prop} {a b c : World} (h : ExtB M a b) (g : ExtB M b c) : ExtB M a c :=
  ⟨g.os.trans h.os, g.tape.trans h.tape, g.output.trans h.output, Nat.le_trans h.size g.size, fun k o hk ho => g.blk k o hk (h.blk k o hk ho)⟩
theorem ExtB.mono {M M' : Nat → Prop} {a b : World} (h : ExtB M a b) (hm : ∀ k, k < a.heap.size → M k → M' k) : ExtB M' a b :=
  ⟨h.os, h.tape, h.output, h.size, fun k o hk ho => h.blk k o (fun hM => hk (hm k (Array.getElem?_eq_some_iff.1 ho).1 hM)) ho⟩
/-- What turned behind a was not there ahead of it. -/
theorem ExtB.new {M : Nat → Prop} {a b c : World} (h : Ext a b) (g : ExtB M b c) (hm : ∀ k, M k → a.heap.size ≤ k) : Ext a c :=
  ⟨g.os.trans h.os, g.tape.trans h.tape, g.output.trans h.output, Nat.le_trans h.size g.size, fun k o hk ho =>
    g.blk k o (fun hM => by have := hm k hM; have := (Array.getElem?_eq_some_iff.1 ho).1; omega) (h.blk k o hk ho)⟩
theorem ExtB.newB {M M' : Nat → Prop} {a b c : World} (h : ExtB M a b) (g : ExtB M' b c) (hm : ∀ k, M' k → a.heap.size ≤ k ∨ M k) : ExtB M a c :=
  ⟨g.os.trans h.os, g.tape.trans h.tape, g.output.trans h.output, Nat.le_trans h.size g.size, fun k o hk ho =>
    g.blk k o (fun hM => by rcases hm k hM with h1 | h1
                            · have := (Array.getElem?_eq_some_iff.1 ho).1; omega
                            · exact hk h1) (h.blk k o hk ho)⟩
theorem Ext.at {w w' : World} (h : Ext w w') {k : Nat} {o : Obj} (ho : w.heap[k]? = some o) : w'.heap[k]? = some o := h.blk k o (fun x => x) ho
theorem Ext.toB {M : Nat → Prop} {w w' : World} (h : Ext w w') : ExtB M w w' := h.mono fun _ _ x => x.elim
theorem ExtB.at {M : Nat → Prop} {w w' : World} (h : ExtB M w w') {k : Nat} {o : Obj} (ho : w.heap[k]? = some o) (hk : ¬ M k) : w'.heap[k]? = some o := h.blk k o hk ho
theorem Qz {w : World} {k : Nat} {o : Obj} (h : w.heap[k]? = some o) : k < w.heap.size := (Array.getElem?_eq_some_iff.1 h).1
theorem Ext.drew (w : World) : Ext w w.drew := ⟨rfl, rfl, rfl, Nat.le_refl _, fun _ _ _ h => h⟩
theorem Ext.alloc (w : World) (o : Obj) : Ext w (w.alloc o) := by
  refine ⟨rfl, rfl, rfl, by simp, fun k x _ h => ?_⟩;have := Qz h;show (w.heap.push o)[k]? = _;rw [Array.getElem?_push, if_neg (by omega)];exact h
theorem at_alloc (w : World) (o : Obj) : (w.alloc o).heap[w.heap.size]? = some o := by
  show (w.heap.push o)[_]? = _;simp
theorem Ext.below {w w' : World} (h : Ext w w') : RowKit.Below w.heap.size w w' :=
  ⟨h.os, h.tape, h.output, h.size, fun k hk => by
    have : w.heap[k]? = some w.heap[k] := Array.getElem?_eq_getElem hk;rw [this]
    exact h.at this⟩
/-- One block has turned. -/
theorem ExtB.at1 {b : Nat} {w w' : World} (h : ExtB (fun k => k = b) w w') {k : Nat} {o : Obj} (ho : w.heap[k]? = some o) (hk : k ≠ b) : w'.heap[k]? = some o := h.blk k o hk ho
theorem ExtB.new1 {k : Nat} {a b c : World} (h : Ext a b) (g : ExtB (fun j => j = k) b c) (hk : a.heap.size ≤ k) : Ext a c := h.new g fun j e => by subst e; exact hk
theorem ExtB.newB1 {M : Nat → Prop} {k : Nat} {a b c : World} (h : ExtB M a b) (g : ExtB (fun j => j = k) b c) (hk : a.heap.size ≤ k ∨ M k) : ExtB M a c := h.newB g fun j e => by subst e; exact hk
/-- What an operation yields in every world of C, and nothing else happens. -/
def Agree (env : Env) (ρ : Operand → Value) : Prop := ∀ x u, env.ev x = some u → ρ x = u
def Ev (P : Program) (C : World → Prop) (env : Env) (o : Oper) (v : Value) : Prop :=
  ∀ ρ : Operand → Value, Agree env ρ → ∀ w, C w → (execOp ρ o).run P w = .ok (.value v) w
/-- What an operation comes to in a world. -/
def OpT (P : Program) (env : Env) (o : Oper) (w : World) (K : Value → World → Prop) : Prop :=
  ∀ a : Act, Agree env a.eval → ∀ (next : Act → World → Prop) (Q : Exit → Act → World → Prop), (∀ v w', K v w' → next (a.put o.dst v) w') → o.wp P a w next Q

theorem Fits.agree {n : Nat} {env : Env} {a : Act} (h : Fits n env a) : Agree env a.eval := fun _ _ hx => h.ev hx

/-- The post of a region in a run. -/
def QZ (n : Nat) (Z : Env → World → Prop) : Exit → Act → World → Prop
  | .normal, a, w => ∃ env, Fits n env a ∧ Z env w
  | _, _, _ => False
abbrev QR (P : Program) (f : FuncId) (n : Nat) (k : List Item) (R : Value → World → Prop) : Exit → Act → World → Prop := QZ n fun env w => Run P f n k env w R

def dstOk (n : Nat) : List Oper → Bool
  | [] => true
  | o :: r => (match o.dst with | none => true | some d => Nat.blt d n) && dstOk n r

def RunL (P : Program) (f : FuncId) (n : Nat) (ops : Array Oper) (l : List Oper) (k : List Item) (env : Env) (w : World) (R : Value → World → Prop) : Prop :=
  dstOk n l = true → ∀ a, Fits n env a → wpList P ops (QR P f n k R) l a w

section
variable {P : Program} {f : FuncId} {n : Nat} {k : List Item} {env : Env} {w : World} {R : Value → World → Prop}

theorem run_of_wp {c : Code} (h : ∀ a, Fits n env a → c.wp P (QR P f n k R) a w) : Run P f n (.code c :: k) env w R := by
  intro b a cs h1 h2 h3;obtain ⟨e, a', w', hq, harr⟩ := h a h3 b k cs
  cases e with
  | normal =>
    obtain ⟨env', hf, hrun⟩ := hq;obtain ⟨v, w'', fr, r, s, l⟩ := hrun b a' cs h1 h2 hf;exact ⟨v, w'', fr, r, Steps.trans harr s, l⟩
  | _ => exact hq.elim

theorem Qb {id : Nat} {l : List Oper} (hd : dstOk n l = true) (h : RunL P f n l.toArray l k env w R) : Run P f n (.code (.region id l.toArray false) :: k) env w R :=
  run_of_wp fun a ha => wp_region_lit (h hd a ha)

variable {ops : Array Oper} {rest : List Oper} {d : Nat} {op : Op} {ty : TypeId} {pos : String} {af : Array Edge}

theorem Qd (h : Run P f n k env w R) : RunL P f n ops [] k env w R := fun _ _ ha => ⟨env, ha, h⟩

theorem Qa {v : Value} (he : Ev P (· = w) env ⟨some d, op, ty, pos, af, none⟩ v) (h : RunL P f n ops rest k ((d, v) :: env) w R) :
    RunL P f n ops (⟨some d, op, ty, pos, af, none⟩ :: rest) k env w R := by
  intro hd a ha;simp only [dstOk, Bool.and_eq_true, Nat.blt_eq] at hd;unfold wpList;rw [if_pos (by simp [Region.wanted])];refine .inl ?_;unfold Oper.wp;rw [he a.eval ha.agree w rfl];exact h hd.2 _ (ha.put hd.1 v)

theorem Ql {K : Value → World → Prop} (he : OpT P env ⟨some d, op, ty, pos, af, none⟩ w K) (h : ∀ v w', K v w' → RunL P f n ops rest k ((d, v) :: env) w' R) :
    RunL P f n ops (⟨some d, op, ty, pos, af, none⟩ :: rest) k env w R := by
  intro hd a ha;simp only [dstOk, Bool.and_eq_true, Nat.blt_eq] at hd;unfold wpList;rw [if_pos (by simp [Region.wanted])];exact .inl (he a ha.agree _ _ fun v w' hk => h v w' hk hd.2 _ (ha.put hd.1 v))

theorem Zc {K : Value → World → Prop} (he : OpT P env ⟨none, op, ty, pos, af, none⟩ w K) (h : ∀ v w', K v w' → RunL P f n ops rest k env w' R) :
    RunL P f n ops (⟨none, op, ty, pos, af, none⟩ :: rest) k env w R := by
  intro hd a ha;simp only [dstOk, Bool.and_eq_true] at hd;unfold wpList;rw [if_pos (by simp [Region.wanted])];exact .inl (he a ha.agree _ _ fun v w' hk => h v w' hk hd.2 _ ha)

/-- The slot of a guard. -/
def gdst (ops : Array Oper) (g : Nat) : Option Nat := (ops[g]?).bind (·.dst)
theorem wanted_of {o : Oper} {g : Nat} {t b : Bool} {dg : Nat} {a : Act} (ho : o.guard = some (g, t)) (hg : gdst ops g = some dg) (ha : Fits n env a) (hv : env.get dg = some (.bool b)) :
    Region.wanted o (yielded ops a.tmps) = (b == t) := by
  unfold Region.wanted yielded;unfold gdst at hg;rw [ho];have := ha.get dg _ hv;simp only [hg, Option.bind_some, this];cases b <;> cases t <;> rfl

/-- An operation under a guard: it is carried out, or its slot is left without a value. -/
theorem Qh {v : Value} {g dg : Nat} {t b : Bool} (hg : gdst ops g = some dg) (hv : env.get dg = some (.bool b)) (hb : b = t)
    (he : Ev P (· = w) env ⟨some d, op, ty, pos, af, some (g, t)⟩ v) (h : RunL P f n ops rest k ((d, v) :: env) w R) :
    RunL P f n ops (⟨some d, op, ty, pos, af, some (g, t)⟩ :: rest) k env w R := by
  intro hd a ha;simp only [dstOk, Bool.and_eq_true, Nat.blt_eq] at hd;unfold wpList;rw [if_pos (by rw [wanted_of rfl hg ha hv, hb]; simp)];refine .inl ?_;unfold Oper.wp;rw [he a.eval ha.agree w rfl];exact h hd.2 _ (ha.put hd.1 v)
theorem runl_op_g {K : Value → World → Prop} {g dg : Nat} {t b : Bool} (hg : gdst ops g = some dg) (hv : env.get dg = some (.bool b)) (hb : b = t)
    (he : OpT P env ⟨some d, op, ty, pos, af, some (g, t)⟩ w K) (h : ∀ v w', K v w' → RunL P f n ops rest k ((d, v) :: env) w' R) :
    RunL P f n ops (⟨some d, op, ty, pos, af, some (g, t)⟩ :: rest) k env w R := by
  intro hd a ha;simp only [dstOk, Bool.and_eq_true, Nat.blt_eq] at hd;unfold wpList;rw [if_pos (by rw [wanted_of rfl hg ha hv, hb]; simp)];exact .inl (he a ha.agree _ _ fun v w' hk => h v w' hk hd.2 _ (ha.put hd.1 v))
theorem Qn {g dg : Nat} {t b : Bool} (hg : gdst ops g = some dg) (hv : env.get dg = some (.bool b)) (hb : b = !t)
    (h : RunL P f n ops rest k ((d, undef) :: env) w R) : RunL P f n ops (⟨some d, op, ty, pos, af, some (g, t)⟩ :: rest) k env w R := by
  intro hd a ha;simp only [dstOk, Bool.and_eq_true, Nat.blt_eq] at hd;unfold wpList;rw [if_neg (by rw [wanted_of rfl hg ha hv, hb]; cases t <;> simp)];exact h hd.2 _ (ha.put hd.1 undef)
/-! ### A region whose order is open -/
section
variable {Q : Exit → Act → World → Prop} {S : World → Prop}
/-- Whatever order is picked, and S holds behind each operation that is carried out, but for those that wait for all that leans on S. -/
def wpAnyG (P : Program) (ops : Array Oper) (Q : Exit → Act → World → Prop) (S : World → Prop) (pre : Nat → Bool) : Nat → Array Bool → Act → World → Prop
  | 0, listed, a, w => Region.ready .any ops listed = [] ∧ Q .normal a w
  | fuel + 1, listed, a, w =>
    (Region.ready .any ops listed = [] → Q .normal a w) ∧
    ∀ i ∈ Region.ready .any ops listed, wpOp P ops Q i (fun a' w' => (pre i = true → S w → S w') ∧ wpAnyG P ops Q S pre fuel (listed.setIfInBounds i true) a' w') a w
theorem wpAny_of_G {pre : Nat → Bool} : ∀ (fuel : Nat) (listed : Array Bool) (a : Act) (w : World), wpAnyG P ops Q S pre fuel listed a w → wpAny P .any ops Q fuel listed a w
  | 0, _, _, _, h => h
  | fuel + 1, _, _, _, h => ⟨h.1, fun i hi => wpOp_mono (fun a' w' h' => wpAny_of_G fuel _ a' w' h'.2) (h.2 i hi)⟩
/-- Number j comes up behind number i. -/
def waits (ops : Array Oper) : Nat → Nat → Nat → Bool
  | 0, _, _ => false
  | f + 1, j, i => match ops[j]? with
    | some oj => oj.after.any fun e => Region.binds .any e && (Nat.beq e.on i || waits ops f e.on i)
    | none => false
def Closed (ops : Array Oper) (listed : Array Bool) : Prop := ∀ (j : Nat) (oj : Oper), listed.getD j false = true → ops[j]? = some oj → ∀ e ∈ oj.after, Region.binds .any e = true → listed.getD e.on false = true
theorem waits_listed {listed : Array Bool} (hc : Closed ops listed) {i : Nat} : ∀ (f j : Nat) (oj : Oper), ops[j]? = some oj → (∀ e ∈ oj.after, Region.binds .any e = true → listed.getD e.on false = true) → waits ops f j i = true → listed.getD i false = true
  | 0, _, _, _, _, h => by simp [waits] at h
  | f + 1, j, oj, hj, hall, h => by
    simp only [waits, hj, Array.any_eq_true', Bool.and_eq_true, Bool.or_eq_true] at h;obtain ⟨e, he, hb, h⟩ := h;have hl := hall e he hb;rcases h with h | h
    · rw [← Nat.eq_of_beq_eq_true h]; exact hl
    · cases ho : ops[e.on]? with
      | none => cases f <;> simp [waits, ho] at h
      | some oe => exact waits_listed hc f e.on oe ho (fun e' he' hb' => hc e.on oe hl ho e' he' hb') h
theorem closed_set {listed : Array Bool} (hc : Closed ops listed) {i : Nat} (hi : i ∈ Region.ready .any ops listed) : Closed ops (listed.setIfInBounds i true) := by
  intro j oj hj ho e he hb;obtain ⟨_, oi, hoi, hall⟩ := mem_ready.1 hi;have key : listed.getD e.on false = true → (listed.setIfInBounds i true).getD e.on false = true := getD_set_true;by_cases hij : i = j
  · subst hij;rw [hoi] at ho;cases ho;exact key (hall e he hb)
  · refine key (hc j oj ?_ ho e he hb)
    simpa [Array.getElem?_setIfInBounds_ne hij] using hj
theorem wpAnyG_first {pre : Nat → Bool} {i : Nat} {oi : Oper} {v : Value} (hi : ops[i]? = some oi) (hsel : ∀ (j : Nat) (o : Oper) cs b, ops[j]? = some o → o.op ≠ .select cs b)
    (hQ : ∀ c a w, Q (.panic c) (a.put oi.dst v) w → Q (.panic c) a w)
    (htl : ∀ j, pre j = false → waits ops 6 j i = true) :
    ∀ (fuel : Nat) (listed : Array Bool) (a : Act) (w : World), Closed ops listed →
      (∀ j oj, ops[j]? = some oj → j ≠ i → listed.getD j true = false → (∀ e ∈ oj.after, Region.binds .any e = true → e.on ≠ i) → oi.apart ops oj = true) →
      i ∈ Region.ready .any ops listed → YieldsIf P ops S oi v a → S w →
      wpAnyG P ops Q S pre fuel (listed.setIfInBounds i true) (a.put oi.dst v) w → wpAnyG P ops Q S pre (fuel + 1) listed a w := by
  intro fuel
  induction fuel with
  | zero =>
    intro listed a w _ _ hr hy hS H;refine ⟨fun h => (by rw [h] at hr; cases hr), fun j hj => ?_⟩;by_cases hji : j = i
    · subst hji; exact hy.wpOp hi hS ⟨fun _ _ => hS, H⟩
    · have := ready_mono hj hji;rw [H.1] at this;cases this
  | succ fuel ih =>
    intro listed a w hcl hfree hr hy hS H;refine ⟨fun h => (by rw [h] at hr; cases hr), fun j hj => ?_⟩;by_cases hji : j = i
    · subst hji; exact hy.wpOp hi hS ⟨fun _ _ => hS, H⟩
    · have h1 := H.2 j (ready_mono hj hji);obtain ⟨hjun, oj, hoj, hall⟩ := mem_ready.1 hj
      have hnot : ∀ e ∈ oj.after, Region.binds .any e = true → e.on ≠ i := fun e he hb heq => by
        have h1 := hall e he hb;have h0 := (mem_ready.1 hr).1;rw [heq] at h1;rcases Nat.lt_or_ge i listed.size with h' | h'
        · simp [h'] at h0 h1; rw [h0] at h1; cases h1
        · simp [Array.getElem?_eq_none h'] at h1
      have hpre : pre j = true := by
        cases hp : pre j with
        | true => rfl
        | false =>
          have h1 := waits_listed hcl 6 j oj hoj hall (htl j hp);have h0 := (mem_ready.1 hr).1;rcases Nat.lt_or_ge i listed.size with h' | h'
          · simp [h'] at h0 h1; rw [h0] at h1; cases h1
          · simp [Array.getElem?_eq_none h'] at h1
      have h2 := wpOp_putIf hoj (hfree j oj hoj hji hjun hnot) (fun cs b => hsel i oi cs b hi) (fun cs b => hsel j oj cs b hoj) hQ hy h1;have hfree' : ∀ k ok, ops[k]? = some ok → k ≠ i → (listed.setIfInBounds j true).getD k true = false →
          (∀ e ∈ ok.after, Region.binds .any e = true → e.on ≠ i) → oi.apart ops ok = true := fun k ok hk hki hun hno => by
        refine hfree k ok hk hki ?_ hno;by_cases hjk : j = k
        · subst hjk; exact hjun
        · rw [getD_set_ne true hjk] at hun; exact hun
      refine wpOp_mono (fun a' w' h3 => ⟨h3.2.1, ih (listed.setIfInBounds j true) a' w' (closed_set hcl hj) hfree' (ready_mono hr (Ne.symm hji)) h3.1 (h3.2.1 hpre hS) ?_⟩) h2;rw [Array.setIfInBounds_comm _ _ hji];exact h3.2.2
/-- An operation that looks at no world. -/
def pureOp : Op → Bool
  | .move _ => true
  | .assign _ => true
  | .extract _ _ => true
  | _ => false
theorem pure_any {ρ : Operand → Value} {o : Oper} {v : Value} {w : World} (hp : pureOp o.op = true) (h : (execOp ρ o).run P w = .ok (.value v) w) (w' : World) : (execOp ρ o).run P w' = .ok (.value v) w' := by
  obtain ⟨dst, op, ty, pos, af, gd⟩ := o;cases op <;> simp only [pureOp, Bool.false_eq_true] at hp
  case move x => simp only [execOp, pure, Sem.run] at h ⊢; simpa using h
  case assign x => simp only [execOp, pure, Sem.run] at h ⊢; simpa using h
  case extract x i =>
    simp only [execOp] at h ⊢;cases hv : ρ x <;> simp_all [Instr.extract]
    rename_i vs
    cases hq : vs[i]? <;> simp_all
theorem wpAnyG_pure {pre : Nat → Bool} {i : Nat} {oi : Oper} {v : Value} (hi : ops[i]? = some oi) (hsel : ∀ (j : Nat) (o : Oper) cs b, ops[j]? = some o → o.op ≠ .select cs b)
    (hQ : ∀ c a w, Q (.panic c) (a.put oi.dst v) w → Q (.panic c) a w) :
    ∀ (fuel : Nat) (listed : Array Bool) (a : Act) (w : World), Closed ops listed →
      (∀ j oj, ops[j]? = some oj → j ≠ i → listed.getD j true = false → (∀ e ∈ oj.after, Region.binds .any e = true → e.on ≠ i) → oi.apart ops oj = true) →
      i ∈ Region.ready .any ops listed → YieldsIf P ops (fun _ => True) oi v a →
      wpAnyG P ops Q S pre fuel (listed.setIfInBounds i true) (a.put oi.dst v) w → wpAnyG P ops Q S pre (fuel + 1) listed a w := by
  intro fuel
  induction fuel with
  | zero =>
    intro listed a w _ _ hr hy H;refine ⟨fun h => (by rw [h] at hr; cases hr), fun j hj => ?_⟩;by_cases hji : j = i
    · subst hji; exact hy.wpOp hi trivial ⟨fun _ hS => hS, H⟩
    · have := ready_mono hj hji;rw [H.1] at this;cases this
  | succ fuel ih =>
    intro listed a w hcl hfree hr hy H;refine ⟨fun h => (by rw [h] at hr; cases hr), fun j hj => ?_⟩;by_cases hji : j = i
    · subst hji; exact hy.wpOp hi trivial ⟨fun _ hS => hS, H⟩
    · have h1 := H.2 j (ready_mono hj hji);obtain ⟨hjun, oj, hoj, hall⟩ := mem_ready.1 hj
      have hnot : ∀ e ∈ oj.after, Region.binds .any e = true → e.on ≠ i := fun e he hb heq => by
        have h1 := hall e he hb;have h0 := (mem_ready.1 hr).1;rw [heq] at h1;rcases Nat.lt_or_ge i listed.size with h' | h'
        · simp [h'] at h0 h1; rw [h0] at h1; cases h1
        · simp [Array.getElem?_eq_none h'] at h1
      have h2 := wpOp_putIf hoj (hfree j oj hoj hji hjun hnot) (fun cs b => hsel i oi cs b hi) (fun cs b => hsel j oj cs b hoj) hQ hy h1;have hfree' : ∀ k ok, ops[k]? = some ok → k ≠ i → (listed.setIfInBounds j true).getD k true = false →
          (∀ e ∈ ok.after, Region.binds .any e = true → e.on ≠ i) → oi.apart ops ok = true := fun k ok hk hki hun hno => by
        refine hfree k ok hk hki ?_ hno;by_cases hjk : j = k
        · subst hjk; exact hjun
        · rw [getD_set_ne true hjk] at hun; exact hun
      refine wpOp_mono (fun a' w' h3 => ⟨h3.2.1, ih (listed.setIfInBounds j true) a' w' (closed_set hcl hj) hfree' (ready_mono hr (Ne.symm hji)) h3.1 ?_⟩) h2;rw [Array.setIfInBounds_comm _ _ hji];exact h3.2.2
theorem wpAnyG_done {pre : Nat → Bool} {listed : Array Bool} {a : Act} {w : World} (hr : Region.ready .any ops listed = []) (h : Q .normal a w) : ∀ fuel, wpAnyG P ops Q S pre fuel listed a w
  | 0 => ⟨hr, h⟩
  | _ + 1 => ⟨fun _ => h, by rw [hr]; simp⟩
end

/-- The operations of tl wait for number i. -/
def waitAll (ops : Array Oper) (tl : List Nat) (i : Nat) : Bool :=
  tl.all fun j => waits ops 6 j i
def pureAt (ops : Array Oper) (i : Nat) : Bool := match ops[i]? with | some o => pureOp o.op | none => false
/-- An order in which it may be walked: (true, i): number i yields in every world of S, and is taken first; (false, i): nothing but number i may come up. -/
def seqOk (ops : Array Oper) (tl : List Nat) : List (Bool × Nat) → Array Bool → Bool
  | [], listed => (Region.ready .any ops listed).isEmpty
  | (true, i) :: r, listed => Region.free .any ops listed i && (Region.ready .any ops listed).contains i && (waitAll ops tl i || pureAt ops i) && seqOk ops tl r (listed.setIfInBounds i true)
  | (false, i) :: r, listed => (Region.ready .any ops listed == [i]) && seqOk ops tl r (listed.setIfInBounds i true)
def drawOk (n : Nat) (ops : Array Oper) (tl : List Nat) (ord : List (Bool × Nat)) : Bool :=
  Region.noSelect ops && dstOk n ops.toList && Nat.beq ord.length ops.size && seqOk ops tl ord (Array.replicate ops.size false)

def heldSeq (P : Program) (ops : Array Oper) (Q : Exit → Act → World → Prop) (S : World → Prop) (tl : List Nat) : List (Bool × Nat) → Act → World → Prop
  | [], a, w => Q .normal a w
  | (true, i) :: r, a, w => ∃ o v, ops[i]? = some o ∧ YieldsIf P ops S o v a ∧ S w ∧ heldSeq P ops Q S tl r (a.put o.dst v) w
  | (false, i) :: r, a, w => wpOp P ops Q i (fun a' w' => (tl.contains i = false → S w') ∧ heldSeq P ops Q S tl r a' w') a w

theorem wpAnyG_of_seq {Q : Exit → Act → World → Prop} {S : World → Prop} {tl : List Nat} (hQ : ∀ c a w, ¬ Q (.panic c) a w) (hs : Region.noSelect ops = true) :
    ∀ (ord : List (Bool × Nat)) (listed : Array Bool) (a : Act) (w : World), Closed ops listed → seqOk ops tl ord listed = true → heldSeq P ops Q S tl ord a w → wpAnyG P ops Q S (fun i => !tl.contains i) ord.length listed a w
  | [], listed, a, w, _, hok, h => wpAnyG_done (by simpa [seqOk] using hok) h _
  | (true, i) :: r, listed, a, w, hcl, hok, h => by
    simp only [seqOk, Bool.and_eq_true] at hok;obtain ⟨o, v, hi, hy, hS, hr⟩ := h;have hrdy : i ∈ Region.ready .any ops listed := by simpa using hok.1.1.2
    rcases Bool.or_eq_true _ _ ▸ hok.1.2 with hw | hw
    · refine wpAnyG_first hi (Region.noSelect_spec hs) (fun c a w hp => (hQ c _ _ hp).elim) (fun j hp => ?_) _ listed a w hcl (Region.free_spec hi hok.1.1.1) hrdy hy hS (wpAnyG_of_seq hQ hs r _ _ _ (closed_set hcl hrdy) hok.2 hr);unfold waitAll at hw;rw [List.all_eq_true] at hw;exact hw j (by simpa using hp)
    · have hp : pureOp o.op = true := by unfold pureAt at hw; rw [hi] at hw; exact hw
      have hy' : YieldsIf P ops (fun _ => True) o v a := by
        rcases hy with ⟨h1, h2⟩ | h1
        · exact .inl ⟨h1, fun w' _ => pure_any hp (h2 w hS) w'⟩
        · exact .inr h1
      exact wpAnyG_pure hi (Region.noSelect_spec hs) (fun c a w hp => (hQ c _ _ hp).elim) _ listed a w hcl (Region.free_spec hi hok.1.1.1) hrdy hy' (wpAnyG_of_seq hQ hs r _ _ _ (closed_set hcl hrdy) hok.2 hr)
  | (false, i) :: r, listed, a, w, hcl, hok, h => by
    simp only [seqOk, Bool.and_eq_true, beq_iff_eq] at hok;have hrdy : i ∈ Region.ready .any ops listed := by rw [hok.1]; simp
    refine ⟨fun h0 => (by rw [hok.1] at h0; cases h0), fun j hj => ?_⟩;rw [hok.1] at hj;obtain rfl : j = i := by simpa using hj
    exact wpOp_mono (fun a' w' ⟨hS', h'⟩ => ⟨fun hp _ => hS' (by simpa using hp), wpAnyG_of_seq hQ hs r _ _ _ (closed_set hcl hrdy) hok.2 h'⟩) h
theorem closed_none (n : Nat) : Closed ops (Array.replicate n false) := by
  intro j oj hj;simp only [Array.getD_eq_getD_getElem?, Array.getElem?_replicate] at hj;split at hj <;> simp at hj

/-- Along an order, and Z holds of what some slots hold behind it. -/
def RunZ (P : Program) (n : Nat) (ops : Array Oper) (S : World → Prop) (tl : List Nat) (ord : List (Bool × Nat)) (Z : Env → World → Prop) (env : Env) (w : World) : Prop :=
  dstOk n ops.toList = true → ∀ a, Fits n env a → heldSeq P ops (QZ n Z) S tl ord a w
abbrev RunD (P : Program) (f : FuncId) (n : Nat) (ops : Array Oper) (S : World → Prop) (tl : List Nat) (ord : List (Bool × Nat)) (k : List Item) (env : Env) (w : World) (R : Value → World → Prop) : Prop :=
  RunZ P n ops S tl ord (fun env w => Run P f n k env w R) env w

theorem run_draw {id : Nat} (hm : P.follows .mixedOrders = true) (S : World → Prop) (tl : List Nat) (ord : List (Bool × Nat)) (hok : drawOk n ops tl ord = true)
    (h : ∀ w', Ext w w' → RunD P f n ops S tl ord k env w' R) : Run P f n (.code (.region id ops true) :: k) env w R := by
  simp only [drawOk, Bool.and_eq_true] at hok;obtain ⟨⟨⟨h1, h2⟩, h3⟩, h4⟩ := hok;refine run_of_wp fun a ha => ?_
  refine wp_region_any hm (wpAny_of_G (S := S) (pre := fun i => !tl.contains i) _ _ _ _ ?_);have := wpAnyG_of_seq (P := P) (Q := QR P f n k R) (S := S) (tl := tl) (fun _ _ _ h => h) h1 ord _ a w.drew (closed_none _) h4 (h w.drew (Ext.drew w) h2 a ha);rw [Nat.eq_of_beq_eq_true h3] at this;exact this

theorem dstOk_mem : ∀ {l : List Oper} {i : Nat} {o : Oper}, dstOk n l = true → l[i]? = some o → ∀ d, o.dst = some d → d < n
  | [], i, o, _, h, _, _ => by simp at h
  | x :: r, 0, o, hd, h, d, e => by
    simp at h;subst h;simp only [dstOk, Bool.and_eq_true, e, Nat.blt_eq] at hd;exact hd.1
  | x :: r, i + 1, o, hd, h, d, e => by
    simp only [dstOk, Bool.and_eq_true] at hd;exact dstOk_mem hd.2 (by simpa using h) d e

variable {S : World → Prop} {tl : List Nat} {ord : List (Bool × Nat)} {i : Nat} {Z : Env → World → Prop}
theorem Zj (h : Z env w) : RunZ P n ops S tl [] Z env w := fun _ _ ha => ⟨env, ha, h⟩

theorem Qi {v : Value} (hS : S w) (ho : ops[i]? = some ⟨some d, op, ty, pos, af, none⟩) (he : Ev P S env ⟨some d, op, ty, pos, af, none⟩ v) (h : RunZ P n ops S tl ord Z ((d, v) :: env) w) :
    RunZ P n ops S tl ((true, i) :: ord) Z env w := by
  intro hd a ha;exact ⟨_, v, ho, .inl ⟨by simp [Region.wanted], fun w' hw' => he _ ha.agree w' hw'⟩, hS, h hd _ (ha.put (dstOk_mem hd (by simpa using ho) _ rfl) v)⟩
theorem Zf {v : Value} {g dg : Nat} {t b : Bool} (hS : S w) (ho : ops[i]? = some ⟨some d, op, ty, pos, af, some (g, t)⟩) (hg : gdst ops g = some dg) (hv : env.get dg = some (.bool b)) (hb : b = t)
    (he : Ev P S env ⟨some d, op, ty, pos, af, some (g, t)⟩ v) (h : RunZ P n ops S tl ord Z ((d, v) :: env) w) :
    RunZ P n ops S tl ((true, i) :: ord) Z env w := by
  intro hd a ha;exact ⟨_, v, ho, .inl ⟨by rw [wanted_of rfl hg ha hv, hb]; simp, fun w' hw' => he _ ha.agree w' hw'⟩, hS, h hd _ (ha.put (dstOk_mem hd (by simpa using ho) _ rfl) v)⟩
theorem Zn {g dg : Nat} {t b : Bool} (hS : S w) (ho : ops[i]? = some ⟨some d, op, ty, pos, af, some (g, t)⟩) (hg : gdst ops g = some dg) (hv : env.get dg = some (.bool b)) (hb : b = !t)
    (h : RunZ P n ops S tl ord Z ((d, undef) :: env) w) : RunZ P n ops S tl ((true, i) :: ord) Z env w := by
  intro hd a ha;exact ⟨_, undef, ho, .inr ⟨by rw [wanted_of rfl hg ha hv, hb]; cases t <;> simp, rfl⟩, hS, h hd _ (ha.put (dstOk_mem hd (by simpa using ho) _ rfl) undef)⟩

theorem rund_go {o : Oper} (ho : ops[i]? = some o) (hw : ∀ a, Fits n env a → Region.wanted o (yielded ops a.tmps) = true) {K : Value → World → Prop} (he : OpT P env o w K)
    (h : ∀ v w', K v w' → (tl.contains i = false → S w') ∧ ∀ a, Fits n env a → dstOk n ops.toList = true → heldSeq P ops (QZ n Z) S tl ord (a.put o.dst v) w') : RunZ P n ops S tl ((false, i) :: ord) Z env w := by
  intro hd a ha;show wpOp _ _ _ _ _ _ _;unfold wpOp;rw [ho];simp only [];rw [if_pos (hw a ha)];exact .inl (he a ha.agree _ _ fun v w' hk => ⟨(h v w' hk).1, (h v w' hk).2 a ha hd⟩)
theorem Ze {K : Value → World → Prop} (ho : ops[i]? = some ⟨some d, op, ty, pos, af, none⟩) (he : OpT P env ⟨some d, op, ty, pos, af, none⟩ w K)
    (h : ∀ v w', K v w' → S w' ∧ RunZ P n ops S tl ord Z ((d, v) :: env) w') : RunZ P n ops S tl ((false, i) :: ord) Z env w :=
  rund_go ho (fun _ _ => by simp [Region.wanted]) he fun v w' hk => ⟨fun _ => (h v w' hk).1, fun a ha hd => (h v w' hk).2 hd _ (ha.put (dstOk_mem hd (by simpa using ho) _ rfl) v)⟩
theorem rund_do {K : Value → World → Prop} (ho : ops[i]? = some ⟨none, op, ty, pos, af, none⟩) (he : OpT P env ⟨none, op, ty, pos, af, none⟩ w K)
    (h : ∀ v w', K v w' → S w' ∧ RunZ P n ops S tl ord Z env w') : RunZ P n ops S tl ((false, i) :: ord) Z env w :=
  rund_go ho (fun _ _ => by simp [Region.wanted]) he fun v w' hk => ⟨fun _ => (h v w' hk).1, fun a ha hd => (h v w' hk).2 hd _ ha⟩
/-- An operation that waits for all that leans on S. -/
theorem rund_opT {K : Value → World → Prop} (ht : tl.contains i = true) (ho : ops[i]? = some ⟨some d, op, ty, pos, af, none⟩) (he : OpT P env ⟨some d, op, ty, pos, af, none⟩ w K)
    (h : ∀ v w', K v w' → RunZ P n ops S tl ord Z ((d, v) :: env) w') : RunZ P n ops S tl ((false, i) :: ord) Z env w :=
  rund_go ho (fun _ _ => by simp [Region.wanted]) he fun v w' hk => ⟨fun e => (by rw [ht] at e; cases e), fun a ha hd => (h v w' hk) hd _ (ha.put (dstOk_mem hd (by simpa using ho) _ rfl) v)⟩
theorem rund_doT {K : Value → World → Prop} (ht : tl.contains i = true) (ho : ops[i]? = some ⟨none, op, ty, pos, af, none⟩) (he : OpT P env ⟨none, op, ty, pos, af, none⟩ w K)
    (h : ∀ v w', K v w' → RunZ P n ops S tl ord Z env w') : RunZ P n ops S tl ((false, i) :: ord) Z env w :=
  rund_go ho (fun _ _ => by simp [Region.wanted]) he fun v w' hk => ⟨fun e => (by rw [ht] at e; cases e), fun a ha hd => (h v w' hk) hd _ ha⟩
theorem rund_op_g {K : Value → World → Prop} {g dg : Nat} {t b : Bool} (ho : ops[i]? = some ⟨some d, op, ty, pos, af, some (g, t)⟩) (hg : gdst ops g = some dg) (hv : env.get dg = some (.bool b)) (hb : b = t)
    (he : OpT P env ⟨some d, op, ty, pos, af, some (g, t)⟩ w K) (h : ∀ v w', K v w' → S w' ∧ RunZ P n ops S tl ord Z ((d, v) :: env) w') : RunZ P n ops S tl ((false, i) :: ord) Z env w :=
  rund_go ho (fun a ha => by rw [wanted_of rfl hg ha hv, hb]; simp) he fun v w' hk => ⟨fun _ => (h v w' hk).1, fun a ha hd => (h v w' hk).2 hd _ (ha.put (dstOk_mem hd (by simpa using ho) _ rfl) v)⟩
theorem rund_no_gf {g dg : Nat} {t b : Bool} (ho : ops[i]? = some ⟨some d, op, ty, pos, af, some (g, t)⟩) (hg : gdst ops g = some dg) (hv : env.get dg = some (.bool b)) (hb : b = !t)
    (hS : S w) (h : RunZ P n ops S tl ord Z ((d, undef) :: env) w) : RunZ P n ops S tl ((false, i) :: ord) Z env w := by
  intro hd a ha;show wpOp _ _ _ _ _ _ _;unfold wpOp;rw [ho];simp only [];rw [if_neg (by rw [wanted_of rfl hg ha hv, hb]; cases t <;> simp)];exact ⟨fun _ => hS, h hd _ (ha.put (dstOk_mem hd (by simpa using ho) _ rfl) undef)⟩
end
end Go.Fw
/- The walk by partial frames, 3: the operations. -/
namespace Go.Fw

abbrev Cells (w : World) (b o : Nat) (vs : List Value) : Prop := w.rangeAt b o vs

theorem cell_of_at {w : World} {b o : Nat} {c : Array Value} {T : TypeId} {fr : Nat × Nat} (h : w.heap[b]? = some (.cells c T fr)) : w.cell? ⟨b, o, none⟩ = c[o]? := by
  simp [World.cell?, h]
theorem cells_blk {w : World} {b o : Nat} {c : Array Value} {T : TypeId} {fr : Nat × Nat} {vs : List Value} (h : w.heap[b]? = some (.cells c T fr)) (hv : ∀ i v, vs[i]? = some v → c[o + i]? = some v) : Cells w b o vs :=
  fun j v hj => by rw [cell_of_at h]; exact hv j v hj
theorem Qv {w : World} {b o : Nat} {c : Array Value} {T : TypeId} {fr : Nat × Nat} {v : Value} (h : w.heap[b]? = some (.cells c T fr)) (hv : c[o]? = some v) : Cells w b o [v] :=
  cells_blk h fun i u hu => by
    cases i with
    | zero => simp at hu; subst hu; simpa using hv
    | succ i => simp at hu
theorem Qj {w : World} {b : Nat} {l : List Value} {T : TypeId} {fr : Nat × Nat} (h : w.heap[b]? = some (.cells ⟨l⟩ T fr)) : Cells w b 0 l :=
  cells_blk h fun i u hu => by simpa using hu
theorem Cells.pick {w : World} {b o o' : Nat} {vs : List Value} {v : Value} (h : Cells w b o vs) (i : Nat) (ho : o' = o + i) (hv : vs[i]? = some v) : Cells w b o' [v] := by
  subst ho;intro j u hu
  cases j with
  | zero => simp at hu; subst hu; simpa using h i _ hv
  | succ j => simp at hu
theorem Cells.mid {w : World} {b o o' : Nat} {vs us : List Value} (h : Cells w b o vs) (i : Nat) (ho : o' = o + i) (hv : ∀ j u, us[j]? = some u → vs[i + j]? = some u) : Cells w b o' us := by
  subst ho;intro j u hu;have := h (i + j) u (hv j u hu)
  rwa [← Nat.add_assoc] at this
theorem Cells.ext {w w' : World} {b o : Nat} {vs : List Value} (h : Cells w b o vs) (he : Ext w w') : Cells w' b o vs := by
  intro j v hj;have h1 := h j v hj;unfold World.cell? at h1 ⊢;split at h1
  · rename_i c T fr hc
    rw [he.at hc];exact h1
  · cases h1
theorem Cells.extB {M : Nat → Prop} {w w' : World} {b o : Nat} {vs : List Value} (h : Cells w b o vs) (he : ExtB M w w') (hm : ¬ M b) : Cells w' b o vs := by
  intro j v hj;have h1 := h j v hj;unfold World.cell? at h1 ⊢;split at h1
  · rename_i c T fr hc
    rw [he.at hc hm];exact h1
  · cases h1

@[simp] theorem one_string (s : ByteArray) : Value.oneCell' (.string s) = true := rfl
@[simp] theorem one_int (k : IntKind) (n : Int) : Value.oneCell' (.int k n) = true := rfl
@[simp] theorem one_bool (b : Bool) : Value.oneCell' (.bool b) = true := rfl
@[simp] theorem one_slice (a : Option Addr) (n c : Nat) : Value.oneCell' (.slice a n c) = true := rfl
@[simp] theorem one_pointer (a : Option Addr) : Value.oneCell' (.pointer a) = true := rfl
@[simp] theorem one_func (f : Fn) (a b : Array Value) : Value.oneCell' (.func f a b) = true := rfl
/-! ### Facts on types, in the form that the laws ask for -/
def fldOff (P : Program) (T : TypeId) (i : Nat) : Option Nat :=
  match P.underlying T with
  | some (.struct fs) => match fs[i]? with
    | some f => if P.cellsOf f.type = 0 then none else some f.offset
    | none => none
  | _ => none
def isCellT (P : Program) (T : TypeId) : Bool :=
  match P.underlying T with
  | some (.struct _) | some (.array _ _) | none => false
  | some _ => true
def aggT (P : Program) (T : TypeId) : Option Nat :=
  match P.underlying T with
  | some (.struct _) | some (.array _ _) => (P.info? T).map (·.size)
  | _ => none
def elemT (P : Program) (T : TypeId) : Option (TypeId × Nat) :=
  match P.underlying T with
  | some (.slice e) => (P.info? e).map fun i => (e, i.size)
  | _ => none
def arrT (P : Program) (T : TypeId) : Option (Nat × TypeId × Nat) :=
  match P.underlying T with
  | some (.array n e) => (P.info? e).map fun i => (n, e, i.size)
  | _ => none
def zeroT (P : Program) (T : TypeId) : Option Value := (P.info? T).bind (·.zero)
def callable (P : Program) (f : FuncId) : Bool :=
  match P.funcs[f]? with
  | some fn => fn.body.isSome && !(fn.name == "runtime.NumGoroutine")
  | none => false

section
variable {P : Program} {C : World → Prop} {env : Env} {dst : Option Tmp} {ty : TypeId} {pos : String} {af : Array Edge} {gd : Option (Nat × Bool)}

theorem Qc {x : Operand} {v : Value} (hx : env.ev x = some v) : Ev P C env ⟨dst, .move x, ty, pos, af, gd⟩ v := by
  intro ρ hρ w _;simp [execOp, hρ x v hx, pure, Sem.run]
theorem Qg {x : Operand} {v : Value} (hx : env.ev x = some v) : Ev P C env ⟨dst, .assign x, ty, pos, af, gd⟩ v := by
  intro ρ hρ w _;simp [execOp, hρ x v hx, pure, Sem.run]
theorem Qq {c x y : Operand} {t : Bool} {a b v : Value} (hc : env.ev c = some (.bool t)) (hx : env.ev x = some a) (hy : env.ev y = some b) (hv : (if t = true then a else b) = v) : Ev P C env ⟨dst, .pick c x y, ty, pos, af, gd⟩ v := by
  intro ρ hρ w _;subst hv;simp [execOp, hρ c _ hc, hρ x a hx, hρ y b hy, asBool]
theorem Qs {x : Operand} {a : Addr} (hx : env.ev x = some (.pointer (some a))) : Ev P C env ⟨dst, .nilCheck x, ty, pos, af, gd⟩ (.pointer (some a)) := by
  intro ρ hρ w _;simp [execOp, hρ x _ hx]
theorem Zd {x : Operand} {i : Nat} {vs : Array Value} {v : Value} (hx : env.ev x = some (.tuple vs)) (hv : vs[i]? = some v) : Ev P C env ⟨dst, .extract x i, ty, pos, af, gd⟩ v := by
  intro ρ hρ w _;simp [execOp, hρ x _ hx, Instr.extract, hv]
theorem ev_makeFunc {fn : Fn} {first captured : List Operand} {a b : List Value} (ha : env.evs first = some a) (hb : env.evs captured = some b) :
    Ev P C env ⟨dst, .makeFunc fn ⟨first⟩ ⟨captured⟩, ty, pos, af, gd⟩ (.func fn ⟨a⟩ ⟨b⟩) := by
  intro ρ hρ w _
  have key : ∀ (xs : List Operand) (vs : List Value), env.evs xs = some vs → xs.map ρ = vs := by
    intro xs
    induction xs with
    | nil => intro vs e; simp [Env.evs] at e; simp [e]
    | cons x r ih =>
      intro vs e;unfold Env.evs at e;split at e
      · cases e
      · rename_i v hv
        split at e
        · cases e
        · rename_i l hl
          cases e;simp [hρ x v hv, ih l hl]
  simp [execOp, Instr.makeFunc, key _ _ ha, key _ _ hb]

theorem Qf {x : Operand} {T : TypeId} {i off b o : Nat} (hf : fldOff P T i = some off) (hx : env.ev x = some (.pointer (some ⟨b, o, none⟩))) :
    Ev P C env ⟨dst, .fieldAddr T x i, ty, pos, af, gd⟩ (.pointer (some ⟨b, o + off, none⟩)) := by
  intro ρ hρ w _;unfold fldOff at hf;split at hf
  · rename_i fs hfs
    split at hf
    · rename_i f hff
      split at hf
      · cases hf
      · rename_i hne
        cases hf
        cases hq : P.info? f.type with
        | none => simp [Program.cellsOf, hq] at hne
        | some inf =>
          have hsz : inf.size ≠ 0 := by simpa [Program.cellsOf, hq] using hne
          simp [execOp, hρ x _ hx, Instr.fieldAt, run_underlying hfs, hff, Instr.sureAddr, fieldPlace, sizeOf, typeInfo, hq, hsz, Addr.add_mid]
    · cases hf
  · cases hf
theorem Qm {x : Operand} {T : TypeId} {b o : Nat} {v : Value} (ht : isCellT P T = true) (hx : env.ev x = some (.pointer (some ⟨b, o, none⟩))) (hc : ∀ w, C w → Cells w b o [v]) :
    Ev P C env ⟨dst, .load T x, ty, pos, af, gd⟩ v := by
  intro ρ hρ w hw;have h1 : w.cell? ⟨b, o, none⟩ = some v := by simpa using hc w hw 0 v rfl
  unfold isCellT at ht
  cases hu : P.underlying T with
  | none => simp [hu] at ht
  | some d =>
    have hd : (match d with | .struct _ | .array _ _ => true | _ => false) = false := by
      rw [hu] at ht;cases d <;> simp at ht ⊢
    cases d <;> first
      | (simp at hd; done)
      | simp [execOp, hρ x _ hx, Instr.loadAt, Instr.sureAddr, loadVar, isAgg, run_underlying hu, load, Sem.run, h1]
theorem Qw {x : Operand} {T : TypeId} {b o n : Nat} {vs : List Value} (ht : aggT P T = some n) (hn : vs.length = n) (hx : env.ev x = some (.pointer (some ⟨b, o, none⟩))) (hc : ∀ w, C w → Cells w b o vs) :
    Ev P C env ⟨dst, .load T x, ty, pos, af, gd⟩ (.agg ⟨vs⟩) := by
  intro ρ hρ w hw
  have hd : ∃ d, P.underlying T = some d ∧ d.isRow = true ∧ (P.info? T).map (·.size) = some vs.length := by
    unfold aggT at ht;split at ht <;> first
      | exact ⟨_, by assumption, rfl, by rw [ht, hn]⟩
      | cases ht
  obtain ⟨d, hu, hr, hi⟩ := hd;have := run_loadVar_mid (P := P) w b o T vs d (hc w hw) hu hr hi;simp [execOp, hρ x _ hx, Instr.loadAt, Instr.sureAddr, this]

theorem Zi {x ix : Operand} {T e : TypeId} {sz b o k len cap : Nat} (ht : elemT P T = some (e, sz)) (hx : env.ev x = some (.slice (some ⟨b, o, none⟩) len cap)) (hi : env.ev ix = some (.int .i64 (k : Int))) (hk : k < len) :
    Ev P C env ⟨dst, .indexAddr T x ix, ty, pos, af, gd⟩ (.pointer (some ⟨b, o + k * sz, none⟩)) := by
  intro ρ hρ w _;unfold elemT at ht;split at ht
  · rename_i e' hu
    cases hq : P.info? e' with
    | none => simp [hq] at ht
    | some inf =>
      simp [hq] at ht;obtain ⟨rfl, rfl⟩ := ht;have h1 : (0 : Int) ≤ k ∧ (k : Int) < len := by omega
      simp [execOp, hρ x _ hx, hρ ix _ hi, Instr.indexAt, asIntOf, run_underlying hu, hk, sizeOf, typeInfo, hq, Addr.add_mid]
  · cases ht
theorem Qy {kd : IntKind} {x ix : Operand} {T e : TypeId} {n sz b o k : Nat} (ht : arrT P T = some (n, e, sz)) (hx : env.ev x = some (.pointer (some ⟨b, o, none⟩))) (hi : env.ev ix = some (.int kd (k : Int))) (hk : k < n) :
    Ev P C env ⟨dst, .indexAddr T x ix, ty, pos, af, gd⟩ (.pointer (some ⟨b, o + k * sz, none⟩)) := by
  intro ρ hρ w _;unfold arrT at ht;split at ht
  · rename_i n' e' hu
    cases hq : P.info? e' with
    | none => simp [hq] at ht
    | some inf =>
      simp [hq] at ht;obtain ⟨rfl, rfl, rfl⟩ := ht;simp [execOp, hρ x _ hx, hρ ix _ hi, Instr.indexAt, Instr.sureAddr, asIntOf, run_underlying hu, hk, sizeOf, typeInfo, hq, Addr.add_mid]
  · cases ht
def isStringT (P : Program) (T : TypeId) : Bool := match P.underlying T with | some .string => true | _ => false
def isSliceT (P : Program) (T : TypeId) : Bool := match P.underlying T with | some (.slice _) => true | _ => false
theorem ev_lenS {x : Operand} {T : TypeId} {s : ByteArray} (ht : isStringT P T = true) (hx : env.ev x = some (.string s)) :
    Ev P C env ⟨dst, .call { callee := .builtin .len, args := #[x], argTypes := #[T] }, ty, pos, af, gd⟩ (.int .i64 (s.size : Int)) := by
  intro ρ hρ w _;unfold isStringT at ht;split at ht
  · rename_i hu
    simp [execOp, resolve, invoke, builtin, Builtin.len_, hρ x _ hx, run_underlying hu, goInt]
  · cases ht
theorem ev_lenL {x : Operand} {T : TypeId} {a : Option Addr} {n c : Nat} (ht : isSliceT P T = true) (hx : env.ev x = some (.slice a n c)) :
    Ev P C env ⟨dst, .call { callee := .builtin .len, args := #[x], argTypes := #[T] }, ty, pos, af, gd⟩ (.int .i64 (n : Int)) := by
  intro ρ hρ w _;unfold isSliceT at ht;split at ht
  · rename_i e hu
    simp [execOp, resolve, invoke, builtin, Builtin.len_, hρ x _ hx, run_underlying hu, goInt]
  · cases ht

theorem sliceBound_run {w : World} {n : Nat} {y : Nat} {code : BoundsCode} (h : n ≤ y) : (Instr.sliceBound (.int .i64 (n : Int)) y code).run P w = .ok n w := by
  have : (0 : Int) ≤ n ∧ (n : Int) ≤ y := by omega
  simp [Instr.sliceBound, asIntOf, h]
theorem ev_sliceS_hi {x hi : Operand} {T : TypeId} {s : ByteArray} {n : Nat} (ht : isStringT P T = true) (hx : env.ev x = some (.string s)) (hh : env.ev hi = some (.int .i64 (n : Int))) (hn : n ≤ s.size) :
    Ev P C env ⟨dst, .slice T x none (some hi) none, ty, pos, af, gd⟩ (.string (s.extract 0 n)) := by
  intro ρ hρ w _;unfold isStringT at ht;split at ht
  · rename_i hu
    simp [execOp, hρ x _ hx, hρ hi _ hh, Instr.sliceAt, Instr.slice, run_underlying hu, Instr.sliceBounds, sliceBound_run hn]
  · cases ht
theorem ev_sliceS_lo {x lo : Operand} {T : TypeId} {s : ByteArray} {n : Nat} (ht : isStringT P T = true) (hx : env.ev x = some (.string s)) (hh : env.ev lo = some (.int .i64 (n : Int))) (hn : n ≤ s.size) :
    Ev P C env ⟨dst, .slice T x (some lo) none none, ty, pos, af, gd⟩ (.string (s.extract n s.size)) := by
  intro ρ hρ w _;unfold isStringT at ht;split at ht
  · rename_i hu
    simp [execOp, hρ x _ hx, hρ lo _ hh, Instr.sliceAt, Instr.slice, run_underlying hu, Instr.sliceBounds, sliceBound_run hn]
  · cases ht

/-! ### Numbers, strings, bools -/
theorem wrap_i64 {x : Int} (h1 : -9223372036854775808 ≤ x) (h2 : x ≤ 9223372036854775807) : IntKind.i64.wrap x = x := by
  simp only [IntKind.wrap, IntKind.bits, IntKind.signed];simp;omega
theorem ev_add {x y : Operand} {T U : TypeId} {a b : Int} (hx : env.ev x = some (.int .i64 a)) (hy : env.ev y = some (.int .i64 b)) (h1 : -9223372036854775808 ≤ a + b) (h2 : a + b ≤ 9223372036854775807) :
    Ev P C env ⟨dst, .binOp .add T x y U, ty, pos, af, gd⟩ (.int .i64 (a + b)) := by
  intro ρ hρ w _;simp [execOp, hρ x _ hx, hρ y _ hy, eqGuard, binOp, Op.intArith, wrap_i64 h1 h2]
theorem ev_sub {x y : Operand} {T U : TypeId} {a b : Int} (hx : env.ev x = some (.int .i64 a)) (hy : env.ev y = some (.int .i64 b)) (h1 : -9223372036854775808 ≤ a - b) (h2 : a - b ≤ 9223372036854775807) :
    Ev P C env ⟨dst, .binOp .sub T x y U, ty, pos, af, gd⟩ (.int .i64 (a - b)) := by
  intro ρ hρ w _;simp [execOp, hρ x _ hx, hρ y _ hy, eqGuard, binOp, Op.intArith, wrap_i64 h1 h2]
theorem ev_lss {k : IntKind} {x y : Operand} {T U : TypeId} {a b : Int} (hx : env.ev x = some (.int k a)) (hy : env.ev y = some (.int k b)) : Ev P C env ⟨dst, .binOp .lss T x y U, ty, pos, af, gd⟩ (.bool (decide (a < b))) := by
  intro ρ hρ w _;simp [execOp, hρ x _ hx, hρ y _ hy, eqGuard, binOp, Op.intCmp]
theorem ev_leq {k : IntKind} {x y : Operand} {T U : TypeId} {a b : Int} (hx : env.ev x = some (.int k a)) (hy : env.ev y = some (.int k b)) : Ev P C env ⟨dst, .binOp .leq T x y U, ty, pos, af, gd⟩ (.bool (decide (a ≤ b))) := by
  intro ρ hρ w _;simp [execOp, hρ x _ hx, hρ y _ hy, eqGuard, binOp, Op.intCmp]
theorem ev_gtr {k : IntKind} {x y : Operand} {T U : TypeId} {a b : Int} (hx : env.ev x = some (.int k a)) (hy : env.ev y = some (.int k b)) : Ev P C env ⟨dst, .binOp .gtr T x y U, ty, pos, af, gd⟩ (.bool (decide (b < a))) := by
  intro ρ hρ w _;simp [execOp, hρ x _ hx, hρ y _ hy, eqGuard, binOp, Op.intCmp]
theorem ev_geq {k : IntKind} {x y : Operand} {T U : TypeId} {a b : Int} (hx : env.ev x = some (.int k a)) (hy : env.ev y = some (.int k b)) : Ev P C env ⟨dst, .binOp .geq T x y U, ty, pos, af, gd⟩ (.bool (decide (b ≤ a))) := by
  intro ρ hρ w _;simp [execOp, hρ x _ hx, hρ y _ hy, eqGuard, binOp, Op.intCmp]
theorem int_beq (a b : Int) : (a == b) = decide (a = b) := by by_cases h : a = b <;> simp [h]
theorem ev_eqlI {k : IntKind} {x y : Operand} {T U : TypeId} {a b : Int} (hx : env.ev x = some (.int k a)) (hy : env.ev y = some (.int k b)) : Ev P C env ⟨dst, .binOp .eql T x y U, ty, pos, af, gd⟩ (.bool (decide (a = b))) := by
  intro ρ hρ w _;simp [execOp, hρ x _ hx, hρ y _ hy, eqGuard, binOp, Op.intCmp, int_beq]
theorem ev_neqI {k : IntKind} {x y : Operand} {T U : TypeId} {a b : Int} (hx : env.ev x = some (.int k a)) (hy : env.ev y = some (.int k b)) : Ev P C env ⟨dst, .binOp .neq T x y U, ty, pos, af, gd⟩ (.bool (decide (a ≠ b))) := by
  intro ρ hρ w _;have : (a != b) = decide (a ≠ b) := by by_cases h : a = b <;> simp [h]
  simp [execOp, hρ x _ hx, hρ y _ hy, eqGuard, binOp, Op.intCmp, this]
theorem str_beq (a b : ByteArray) : (a.toList == b.toList) = decide (a = b) := by
  rw [ByteArray.toList_eq, ByteArray.toList_eq];by_cases h : a = b
  · subst h; simp
  · have : ¬ (a.data = b.data) := fun e => h (by cases a; cases b; simpa using e)
    simp [h, this]
theorem ev_eqlS {x y : Operand} {T U : TypeId} {a b : ByteArray} (hx : env.ev x = some (.string a)) (hy : env.ev y = some (.string b)) : Ev P C env ⟨dst, .binOp .eql T x y U, ty, pos, af, gd⟩ (.bool (decide (a = b))) := by
  intro ρ hρ w _;simp [execOp, hρ x _ hx, hρ y _ hy, eqGuard, binOp, Op.stringOp, str_beq]
theorem ev_neqS {x y : Operand} {T U : TypeId} {a b : ByteArray} (hx : env.ev x = some (.string a)) (hy : env.ev y = some (.string b)) : Ev P C env ⟨dst, .binOp .neq T x y U, ty, pos, af, gd⟩ (.bool (decide (a ≠ b))) := by
  intro ρ hρ w _;have : (!(a.toList == b.toList)) = decide (a ≠ b) := by rw [str_beq]; by_cases h : a = b <;> simp [h]
  simp only [execOp, hρ x _ hx, hρ y _ hy];simp [eqGuard, binOp, Op.stringOp, str_beq]
/-- a is ahead of b, byte by byte. -/
def strLt (a b : ByteArray) : Bool := Op.bytesLess a.toList b.toList
theorem ev_lssS {x y : Operand} {T U : TypeId} {a b : ByteArray} (hx : env.ev x = some (.string a)) (hy : env.ev y = some (.string b)) : Ev P C env ⟨dst, .binOp .lss T x y U, ty, pos, af, gd⟩ (.bool (strLt a b)) := by
  intro ρ hρ w _;simp [execOp, hρ x _ hx, hρ y _ hy, eqGuard, binOp, Op.stringOp, strLt]
theorem ev_geqS {x y : Operand} {T U : TypeId} {a b : ByteArray} (hx : env.ev x = some (.string a)) (hy : env.ev y = some (.string b)) : Ev P C env ⟨dst, .binOp .geq T x y U, ty, pos, af, gd⟩ (.bool (!strLt a b)) := by
  intro ρ hρ w _;simp [execOp, hρ x _ hx, hρ y _ hy, eqGuard, binOp, Op.stringOp, strLt]
theorem ev_not {x : Operand} {T : TypeId} {a : Bool} (hx : env.ev x = some (.bool a)) : Ev P C env ⟨dst, .unOp .not T x, ty, pos, af, gd⟩ (.bool (!a)) := by
  intro ρ hρ w _;simp [execOp, hρ x _ hx, Op.unary]
end
end Go.Fw
/- The walk by partial frames, 4: the operations that make memory or write it; calls; what a call hands back. -/
namespace Go.Fw

theorem eqw {w : World} {p : World → Prop} (h : p w) : ∀ w', w' = w → p w' := fun _ e => e ▸ h

section
variable {P : Program} {env : Env} {dst : Option Tmp} {ty : TypeId} {pos : String} {af : Array Edge} {gd : Option (Nat × Bool)} {w : World}

/-- A new variable, known whole. -/
structure NewBlk (w : World) (c : Array Value) (T : TypeId) (w' : World) (b : Nat) : Prop where
  blk : w'.heap[b]? = some (.cells c T (0, 0))
  ext : Ext w w'
  new : w.heap.size ≤ b
  lt : b < w'.heap.size
theorem newBlk_alloc (w : World) (c : Array Value) (T : TypeId) : NewBlk w c T (w.alloc (.cells c T)) w.heap.size :=
  ⟨at_alloc w _, Ext.alloc w _, Nat.le_refl _, by simp⟩

theorem t_new {o : Oper} {c : Array Value} {T : TypeId} (h : ∀ ρ : Operand → Value, Agree env ρ → (execOp ρ o).run P w = .ok (.value (.pointer (some ⟨w.heap.size, 0, none⟩))) (w.alloc (.cells c T))) :
    OpT P env o w fun v w' => ∃ b, v = .pointer (some ⟨b, 0, none⟩) ∧ w'.heap[b]? = some (.cells c T (0, 0)) ∧ Ext w w' ∧ w.heap.size ≤ b ∧ b < w'.heap.size := by
  intro a ha next Q hn
  unfold Oper.wp;rw [h a.eval ha];have := newBlk_alloc w c T;exact hn _ _ ⟨_, rfl, this.blk, this.ext, this.new, this.lt⟩

theorem t_boxA {x : Operand} {T : TypeId} {l : List Value} (hx : env.ev x = some (.agg ⟨l⟩)) :
    OpT P env ⟨dst, .box T x, ty, pos, af, gd⟩ w fun r w' => ∃ b, r = .pointer (some ⟨b, 0, none⟩) ∧ w'.heap[b]? = some (.cells ⟨l⟩ T (0, 0)) ∧ Ext w w' ∧ w.heap.size ≤ b ∧ b < w'.heap.size :=
  t_new fun ρ hρ => by
    simp [execOp, hρ x _ hx, Instr.box, newVar, newRow, Value.cells]
theorem Zk {T : TypeId} {z : Value} {c : Array Value} (hz : zeroT P T = some z) (hc : z.cells = c) :
    OpT P env ⟨dst, .alloc T, ty, pos, af, gd⟩ w fun r w' => ∃ b, r = .pointer (some ⟨b, 0, none⟩) ∧ w'.heap[b]? = some (.cells c T (0, 0)) ∧ Ext w w' ∧ w.heap.size ≤ b ∧ b < w'.heap.size :=
  t_new fun ρ hρ => by
    unfold zeroT at hz
    cases hq : P.info? T with
    | none => simp [hq] at hz
    | some inf =>
      have hz' : inf.zero = some z := by simpa [hq] using hz
      simp [execOp, Instr.alloc, zeroValue, typeInfo, hq, hz', newVar, newRow, hc]

/-! ### Stores into a block that is known -/
def splice (c : List Value) (o : Nat) (vs : List Value) : List Value := c.take o ++ vs ++ c.drop (o + vs.length)
theorem splice_whole {c vs : List Value} (h : vs.length = c.length) : splice c 0 vs = vs := by simp [splice, h]

theorem run_storeCells_splice {P : Program} {w : World} {b o : Nat} {c vs : List Value} {T : TypeId} (h : w.heap[b]? = some (.cells ⟨c⟩ T (0, 0))) (hfit : o + vs.length ≤ c.length) (h1 : ∀ v ∈ vs, v.oneCell' = true) :
    (storeCells ⟨b, o, none⟩ vs).run P w = .ok () (w.setRow b (splice c o vs).toArray) := by
  have := run_storeCells_at P b o T vs 0 ⟨c⟩ w h (by simpa using hfit) h1
  simpa [splice] using this

theorem setRow_facts {w : World} {b : Nat} {c : Array Value} {T : TypeId} {fr : Nat × Nat} (h : w.heap[b]? = some (.cells c T fr)) (c' : Array Value) :
    (w.setRow b c').heap[b]? = some (.cells c' T fr) ∧ ExtB (fun k => k = b) w (w.setRow b c') ∧ w.heap.size ≤ (w.setRow b c').heap.size := by
  refine ⟨?_, ⟨rfl, rfl, rfl, by simp [World.setRow], fun k o hk ho => ?_⟩, by simp [World.setRow]⟩
  · simp [World.setRow, Array.getElem?_modify, h]
  · simp only [World.setRow, Array.getElem?_modify];rw [if_neg (fun e => hk e.symm)];exact ho

theorem t_store {x y : Operand} {T T' : TypeId} {b o n : Nat} {c vs : List Value} {v : Value} (hn : (P.info? T).map (·.size) = some n) (hx : env.ev x = some (.pointer (some ⟨b, o, none⟩))) (hy : env.ev y = some v)
    (hv : v.cells = ⟨vs⟩) (hl : vs.length = n) (hb : w.heap[b]? = some (.cells ⟨c⟩ T' (0, 0))) (hfit : o + vs.length ≤ c.length) (h1 : ∀ v ∈ vs, v.oneCell' = true) :
    OpT P env ⟨dst, .store T x y, ty, pos, af, gd⟩ w fun _ w' => w'.heap[b]? = some (.cells ⟨splice c o vs⟩ T' (0, 0)) ∧ ExtB (fun k => k = b) w w' ∧ w.heap.size ≤ w'.heap.size := by
  intro a ha next Q hnx
  unfold Oper.wp
  cases hq : P.info? T with
  | none => simp [hq] at hn
  | some inf =>
    have hsz : inf.size = n := by simpa [hq] using hn
    have hs := run_storeCells_splice (P := P) hb hfit h1
    have : (execOp a.eval ⟨dst, .store T x y, ty, pos, af, gd⟩).run P w = .ok .skip (w.setRow b (splice c o vs).toArray) := by
      simp [execOp, ha x _ hx, ha y _ hy, Instr.storeAt, Instr.sureAddr, storeVar, sizeOf, typeInfo, hq, hv, hl, hsz, hs]
    rw [this];obtain ⟨f1, f2, f3⟩ := setRow_facts hb (splice c o vs).toArray;exact hnx undef _ ⟨by simpa using f1, f2, f3⟩
/-- One cell. -/
theorem t_store1 {x y : Operand} {T T' : TypeId} {b o : Nat} {c : List Value} {v : Value} (hn : (P.info? T).map (·.size) = some 1) (hx : env.ev x = some (.pointer (some ⟨b, o, none⟩))) (hy : env.ev y = some v)
    (hv : v.cells = #[v]) (h1 : v.oneCell' = true) (hb : w.heap[b]? = some (.cells ⟨c⟩ T' (0, 0))) (hfit : o < c.length) :
    OpT P env ⟨dst, .store T x y, ty, pos, af, gd⟩ w fun _ w' => w'.heap[b]? = some (.cells ⟨c.set o v⟩ T' (0, 0)) ∧ ExtB (fun k => k = b) w w' ∧ w.heap.size ≤ w'.heap.size := by
  have hsp : splice c o [v] = c.set o v := by
    simp only [splice, List.length_cons, List.length_nil];rw [List.set_eq_take_append_cons_drop, if_pos hfit];simp
  have := t_store (P := P) (env := env) (dst := dst) (ty := ty) (pos := pos) (af := af) (gd := gd) (w := w) (vs := [v]) (n := 1) hn hx hy hv rfl hb (by simp; omega) (by simpa using h1);rw [hsp] at this;exact this
/-- The whole block. -/
theorem Zg {x y : Operand} {T T' : TypeId} {b n : Nat} {c vs : List Value} (hn : (P.info? T).map (·.size) = some n) (hx : env.ev x = some (.pointer (some ⟨b, 0, none⟩))) (hy : env.ev y = some (.agg ⟨vs⟩))
    (hl : vs.length = n) (hc : c.length = n) (hb : w.heap[b]? = some (.cells ⟨c⟩ T' (0, 0))) (h1 : ∀ v ∈ vs, v.oneCell' = true) :
    OpT P env ⟨dst, .store T x y, ty, pos, af, gd⟩ w fun _ w' => w'.heap[b]? = some (.cells ⟨vs⟩ T' (0, 0)) ∧ ExtB (fun k => k = b) w w' ∧ w.heap.size ≤ w'.heap.size := by
  have := t_store (P := P) (env := env) (dst := dst) (ty := ty) (pos := pos) (af := af) (gd := gd) (w := w) (vs := vs) (n := n) hn hx hy rfl hl hb (by omega) h1;rw [splice_whole (by omega)] at this;exact this

/-! ### Composite literals -/
def placesT (P : Program) (T : TypeId) : Option (List (Nat × Nat)) :=
  match P.underlying T with
  | some (.struct fs) => fs.toList.mapM (fun f => (P.info? f.type).map fun i => (f.offset, i.size))
  | some (.array n e) => (P.info? e).map fun i => (List.range n).map fun k => (k * i.size, i.size)
  | _ => none
def fillL (ps : List (Nat × Nat)) : List (Nat × Value) → List Value → Option (List Value)
  | [], z => some z
  | (i, v) :: r, z => match ps[i]? with
    | none => none
    | some (off, size) => if v.cells.size = size ∧ off + size ≤ z.length then fillL ps r (z.take off ++ v.cells.toList ++ z.drop (off + size)) else none

theorem foldl_set : ∀ (vs : List Value) (k : Nat) (off : Nat) (z : List Value), off + k + vs.length ≤ z.length →
    (vs.zipIdx k).foldl (fun (cs : Array Value) (c, j) => cs.setIfInBounds (off + j) c) ⟨z⟩ = ⟨z.take (off + k) ++ vs ++ z.drop (off + k + vs.length)⟩
  | [], k, off, z, _ => by simp
  | v :: r, k, off, z, h => by
    simp only [List.zipIdx_cons, List.foldl_cons, List.setIfInBounds_toArray];have := foldl_set r (k + 1) off (z.set (off + k) v) (by simp at h ⊢; omega);rw [this];simp only [List.length_cons] at h ⊢
    congr 1
    have e1 : (z.set (off + k) v).take (off + (k + 1)) = z.take (off + k) ++ [v] := by
      rw [List.set_eq_take_append_cons_drop, if_pos (by omega)];have hl : (List.take (off + k) z).length = off + k := by simp; omega
      rw [List.take_append, hl];have : off + (k + 1) - (off + k) = 1 := by omega
      rw [this, List.take_of_length_le (by omega)];simp
    have e2 : (z.set (off + k) v).drop (off + (k + 1) + r.length) = z.drop (off + k + (r.length + 1)) := by
      rw [List.drop_set_of_lt (by omega)]
      congr 1
      omega
    rw [e1, e2];simp

theorem fill_eq {place : Nat → Option (Nat × Nat)} {ps : List (Nat × Nat)} (hp : ∀ i p, ps[i]? = some p → place i = some p) : ∀ (parts : List (Nat × Value)) (z out : List Value), fillL ps parts z = some out → Instr.fill place ⟨z⟩ parts = some ⟨out⟩
  | [], z, out, h => by simp [fillL] at h; simp [Instr.fill, h]
  | (i, v) :: r, z, out, h => by
    unfold fillL at h;unfold Instr.fill
    cases hq : ps[i]? with
    | none => simp [hq] at h
    | some p =>
      rw [hp i p hq];obtain ⟨off, size⟩ := p;simp only [hq] at h ⊢;split at h
      · rename_i hc
        rw [if_neg (by simp; omega)]
        have hz : (Array.foldl (fun (cs : Array Value) (x : Value × Nat) => cs.setIfInBounds (off + x.2) x.1) ⟨z⟩ v.cells.zipIdx) = ⟨z.take off ++ v.cells.toList ++ z.drop (off + size)⟩ := by
          have := foldl_set v.cells.toList 0 off z (by simp; omega);simp only [Nat.add_zero, Array.length_toList, hc.1] at this;rw [← this, ← Array.foldl_toList];simp [Array.toList_zipIdx]
        have hfin := fill_eq hp r _ out h;rw [← hz] at hfin;exact hfin
      · cases h

theorem built_eq {T : TypeId} {ps : List (Nat × Nat)} {z out : List Value} {v0 : Value} {vs : List (Nat × Value)} (hp : placesT P T = some ps) (hz : zeroT P T = some v0) (hv0 : v0.cells = ⟨z⟩) (ho : fillL ps vs z = some out) : P.built T vs = some ⟨out⟩ := by
  unfold placesT at hp;unfold zeroT at hz;unfold Program.built
  cases hq : P.info? T with
  | none => simp [hq] at hz
  | some inf =>
    have hz' : inf.zero = some v0 := by simpa [hq] using hz
    cases hu : P.underlying T with
    | none => simp [hu] at hp
    | some d =>
      rw [hu] at hp;cases d <;> first
        | (simp at hp; done)
        | skip
      case struct fs =>
        simp only at hp;simp only [hz', hp, hv0];exact fill_eq (fun i p h => by simpa using h) vs z out ho
      case array n e =>
        simp only at hp
        cases he : P.info? e with
        | none => simp [he] at hp
        | some ie =>
          simp only [he, Option.map_some, Option.some.injEq] at hp;simp only [hz', he, hv0];refine fill_eq (fun i p h => ?_) vs z out ho;subst hp;simp only [List.getElem?_map] at h;by_cases hi : i < n
          · rw [List.getElem?_range hi] at h
            simpa using h
          · rw [List.getElem?_eq_none (by simp; omega)] at h;cases h

theorem evps_eq {ρ : Operand → Value} (hρ : Agree env ρ) : ∀ (xs : List (Nat × Operand)) (us : List (Nat × Value)), env.evps xs = some us → (xs.map fun (i, x) => (i, ρ x)) = us := by
  intro xs
  induction xs with
  | nil => intro us e; simp [Env.evps] at e; simp [e]
  | cons x r ih =>
    obtain ⟨i, x⟩ := x;intro us e;unfold Env.evps at e;split at e
    · cases e
    · rename_i v hv
      split at e
      · cases e
      · rename_i l hl
        cases e;simp [hρ x v hv, ih l hl]
theorem evs_eq {ρ : Operand → Value} (hρ : Agree env ρ) : ∀ (xs : List Operand) (us : List Value), env.evs xs = some us → xs.map ρ = us := by
  intro xs
  induction xs with
  | nil => intro us e; simp [Env.evs] at e; simp [e]
  | cons x r ih =>
    intro us e;unfold Env.evs at e;split at e
    · cases e
    · rename_i v hv
      split at e
      · cases e
      · rename_i l hl
        cases e;simp [hρ x v hv, ih l hl]

theorem ev_build {C : World → Prop} {T : TypeId} {parts : List (Nat × Operand)} {ps : List (Nat × Nat)} {z out : List Value} {v0 : Value} {vs : List (Nat × Value)} (hp : placesT P T = some ps) (hz : zeroT P T = some v0) (hv0 : v0.cells = ⟨z⟩)
    (hx : env.evps parts = some vs) (ho : fillL ps vs z = some out) : Ev P C env ⟨dst, .build T ⟨parts⟩, ty, pos, af, gd⟩ (.agg ⟨out⟩) := by
  intro ρ hρ w _;have h1 := built_eq hp hz hv0 ho;have h2 := evps_eq hρ _ _ hx;have h3 := run_build (P := P) w T (List.toArray vs) ⟨out⟩ (by simpa using h1)
  have : (Array.map (fun (x : Nat × Operand) => (x.1, ρ x.2)) ⟨parts⟩) = List.toArray vs := by
    rw [← h2]; simp
  simp [execOp, this, h3]

/-- A slice literal. -/
theorem Zh {T e sz len : Nat} {parts : List (Nat × Operand)} {z out : List Value} {v0 : Value} {vs : List (Nat × Value)} (hu : P.underlying T = some (.slice e)) (he : (P.info? e).map (·.size) = some sz) (hz : zeroT P e = some v0) (hv0 : v0.cells = ⟨z⟩) (hzl : z.length = sz)
    (hsm : len * sz ≤ 16777216) (hpos : len * sz ≠ 0) (hx : env.evps parts = some vs) (ho : fillL ((List.range len).map fun i => (i * sz, sz)) vs ((List.range (len * sz)).map fun i => z.getD (i % sz) undef) = some out) :
    OpT P env ⟨dst, .buildSlice T len ⟨parts⟩, ty, pos, af, gd⟩ w fun r w' => ∃ b, r = .slice (some ⟨b, 0, none⟩) len len ∧ w'.heap[b]? = some (.cells ⟨out⟩ e (0, 0)) ∧ Ext w w' ∧ w.heap.size ≤ b ∧ b < w'.heap.size := by
  intro a ha next Q hn
  unfold Oper.wp;have h2 := evps_eq ha _ _ hx
  have hps : (Array.map (fun (x : Nat × Operand) => (x.1, a.eval x.2)) ⟨parts⟩) = List.toArray vs := by
    rw [← h2]; simp
  unfold zeroT at hz
  cases hq : P.info? e with
  | none => simp [hq] at hz
  | some inf =>
    have hz' : inf.zero = some v0 := by simpa [hq] using hz
    have hs : inf.size = sz := by simpa [hq] using he
    have hzz : ((Array.range (len * sz)).map fun x => z.toArray[x % z.length]!) = ⟨(List.range (len * sz)).map fun i => z.getD (i % sz) undef⟩ := by
      apply Array.ext'
      simp only [Array.toList_map, Array.toList_range]
      apply List.map_congr_left
      intro i hi;rw [hzl]
      have hsz : 0 < sz := by
        rcases Nat.eq_zero_or_pos sz with h | h
        · rw [h] at hpos; simp at hpos
        · exact h
      have hlt : i % sz < z.length := by rw [hzl]; exact Nat.mod_lt _ hsz
      simp [hlt]
    have hfill := fill_eq (place := fun i => some (i * sz, sz)) (fun i p h => by
      by_cases hi : i < len
      · rw [List.getElem?_map, List.getElem?_range hi] at h
        simpa using h
      · rw [List.getElem?_eq_none (by simp; omega)] at h
        cases h) vs _ out ho
    have hrun : (execOp a.eval ⟨dst, .buildSlice T len ⟨parts⟩, ty, pos, af, gd⟩).run P w = .ok (.value (.slice (some ⟨w.heap.size, 0, none⟩) len len)) (w.alloc (.cells ⟨out⟩ e)) := by
      have := run_buildSlice (P := P) w T e len (List.toArray vs) ⟨out⟩ inf v0 hu hq hz' (by rw [hs]; omega) (by rw [hs]; omega) (by
        rw [hs, hv0];simp only [List.size_toArray];rw [hzz]
        exact hfill)
      simp [execOp, hps, this]
    rw [hrun];have := newBlk_alloc w ⟨out⟩ e;exact hn _ _ ⟨_, rfl, this.blk, this.ext, this.new, this.lt⟩

/-! ### Calls -/
theorem callable_spec {g : FuncId} (h : callable P g = true) : ∃ fn, P.funcs[g]? = some fn ∧ fn.body.isNone = false ∧ (fn.name == "runtime.NumGoroutine") = false := by
  unfold callable at h;split at h
  · rename_i fn hf
    simp only [Bool.and_eq_true, Bool.not_eq_true'] at h;refine ⟨fn, hf, ?_, h.2⟩
    cases hb : fn.body with
    | none => rw [hb] at h; simp at h
    | some c => rfl
  · cases h
theorem t_callv {x : Operand} {g : FuncId} {xs : List Operand} {vs fs cs : List Value} {ats : Array TypeId} {K : Value → World → Prop} (hg : callable P g = true) (hf : env.ev x = some (.func (.func g) ⟨fs⟩ ⟨cs⟩)) (hx : env.evs xs = some vs) (h : Ret P g (fs ++ vs ++ cs) w K) :
    OpT P env ⟨dst, .call { callee := .value x, args := ⟨xs⟩, argTypes := ats }, ty, pos, af, gd⟩ w K := by
  intro a ha next Q hn
  have hxs := evs_eq ha _ _ hx;obtain ⟨fn, hfn, hb, hnm⟩ := callable_spec hg
  have : (execOp a.eval ⟨dst, .call { callee := .value x, args := ⟨xs⟩, argTypes := ats }, ty, pos, af, gd⟩).run P w = .ok (.enter g ⟨fs ++ vs ++ cs⟩) w := by
    have hb' : ¬ fn.body = none := by intro e; rw [e] at hb; cases hb
    have hnm' : ¬ fn.name = "runtime.NumGoroutine" := by simpa using hnm
    simp [execOp, resolve, ha x _ hf, Deferred.ofValue, invoke, callFunc, program, Sem.run, hfn, hb', hnm', hxs]
  unfold Oper.wp;rw [this, Oper.upon_enter];exact Calls.mono h fun e w' ⟨v, he, hK⟩ => by subst he; exact hn v w' hK
theorem Qp {g : FuncId} {xs : List Operand} {vs : List Value} {ats : Array TypeId} {K : Value → World → Prop} (hg : callable P g = true) (hx : env.evs xs = some vs) (h : Ret P g vs w K) :
    OpT P env ⟨dst, .call { callee := .value (.func g), args := ⟨xs⟩, argTypes := ats }, ty, pos, af, gd⟩ w K :=
  t_callv (fs := []) (cs := []) hg rfl hx (by simpa using h)
end

section
variable {P : Program} {n : Nat} {env : Env} {w : World}
theorem resC {fn : Func} {t : Tmp} {T : TypeId} {b o : Nat} {v : Value} (hr : fn.results = #[.cell t T]) (hv : env.get t = some (.pointer (some ⟨b, o, none⟩))) (hl : (loadVar T ⟨b, o, none⟩).run P w = .ok v w) :
    ∀ a : Act, Fits n env a → (results fn a.tmps).run P w = .ok v w := by
  intro a h;simp [results, hr, h.get t _ hv, asAddr, hl]
theorem resCT {fn : Func} {t u : Tmp} {T : TypeId} {b o : Nat} {v v' : Value} (hr : fn.results = #[.cell t T, .tmp u]) (hv : env.get t = some (.pointer (some ⟨b, o, none⟩))) (hl : (loadVar T ⟨b, o, none⟩).run P w = .ok v w)
    (hv' : env.get u = some v') : ∀ a : Act, Fits n env a → (results fn a.tmps).run P w = .ok (.tuple #[v, v']) w := by
  intro a h;simp [results, hr, h.get t _ hv, h.get u _ hv', asAddr, hl]
theorem Zm {T : TypeId} {b o m : Nat} {vs : List Value} (ht : aggT P T = some m) (hn : vs.length = m) (hc : Cells w b o vs) : (loadVar T ⟨b, o, none⟩).run P w = .ok (.agg ⟨vs⟩) w := by
  have hd : ∃ d, P.underlying T = some d ∧ d.isRow = true ∧ (P.info? T).map (·.size) = some vs.length := by
    unfold aggT at ht;split at ht <;> first
      | exact ⟨_, by assumption, rfl, by rw [ht, hn]⟩
      | cases ht
  obtain ⟨d, hu, hr, hi⟩ := hd
  simpa using run_loadVar_mid (P := P) w b o T vs d hc hu hr hi
end
end Go.Fw
/- The walk by partial frames, 5: rows of the call's own, and append. -/
namespace Go.Fw

/-- v is a slice over a row of the call's own (in block g, if it has one), that holds xs: n elements of sz cells. -/
def Own (w : World) (e : TypeId) (sz : Nat) (v : Value) (n : Nat) (xs : List Value) (g : Int) : Prop := w.ownsRow 0 e sz v n xs ∧ ∀ k, v.ownBlock = some k → (k : Int) = g

theorem own_nil (w : World) (e : TypeId) (sz : Nat) (g : Int) : Own w e sz (.slice none 0 0) 0 [] g := ⟨World.ownsRow_nil w 0 e sz, fun _ h => by cases h⟩
theorem own_lit {w : World} {b n e sz : Nat} {cs : List Value} (h : w.heap[b]? = some (.cells ⟨cs⟩ e (0, 0))) (hn : n ≤ maxLen) (hl : cs.length = n * sz) : Own w e sz (.slice (some ⟨b, 0, none⟩) n n) n cs b :=
  ⟨⟨hl, .inr ⟨b, n, ⟨cs⟩, rfl, Nat.zero_le _, h, Nat.le_refl _, hn, by simpa using hl, by rw [← hl]; exact List.take_length⟩⟩, fun k hk => by simp [Value.ownBlock] at hk; simp [hk]⟩
theorem Own.len {w : World} {e : TypeId} {sz : Nat} {v : Value} {n : Nat} {xs : List Value} {g : Int} (h : Own w e sz v n xs g) : xs.length = n * sz := h.1.1
theorem Own.keep {w w' : World} {e : TypeId} {sz : Nat} {v : Value} {n : Nat} {xs : List Value} {g : Int} (h : Own w e sz v n xs g) {M : Nat → Prop} (he : ExtB M w w') (hm : ∀ k : Nat, (k : Int) = g → ¬ M k) : Own w' e sz v n xs g := by
  obtain ⟨⟨h1, h2⟩, h3⟩ := h;refine ⟨⟨h1, ?_⟩, h3⟩;rcases h2 with hn | ⟨g', cap, cur, rfl, hb, hg, rest⟩
  · exact .inl hn
  · exact .inr ⟨g', cap, cur, rfl, hb, he.at hg (hm g' (h3 g' rfl)), rest⟩
theorem Own.ext {w w' : World} {e : TypeId} {sz : Nat} {v : Value} {n : Nat} {xs : List Value} {g : Int} (h : Own w e sz v n xs g) (he : Ext w w') : Own w' e sz v n xs g := h.keep he fun _ _ x => x
theorem Own.ext1 {w w' : World} {e : TypeId} {sz : Nat} {v : Value} {n : Nat} {xs : List Value} {g : Int} (h : Own w e sz v n xs g) {b : Nat} (he : ExtB (fun k => k = b) w w') (hb : g ≠ b) : Own w' e sz v n xs g := h.keep he fun k hk e => by omega
/-- It reads as its elements. -/
theorem Own.cells {w : World} {e : TypeId} {sz : Nat} {v : Value} {n : Nat} {xs : List Value} {g : Int} (h : Own w e sz v n xs g) :
    (v = .slice none 0 0 ∧ n = 0 ∧ xs = []) ∨ ∃ cap, ∃ b : Nat, (b : Int) = g ∧ v = .slice (some ⟨b, 0, none⟩) n cap ∧ Cells w b 0 xs ∧ n ≤ cap ∧ b < w.heap.size := by
  obtain ⟨⟨h1, h2⟩, h3⟩ := h;rcases h2 with ⟨hv, hn⟩ | ⟨g', cap, cur, rfl, hb, hg, hnc, hcm, hsz, htake⟩
  · exact .inl ⟨hv, hn, List.eq_nil_of_length_eq_zero (by rw [h1, hn]; simp)⟩
  · refine .inr ⟨cap, g', h3 g' rfl, rfl, cells_blk hg fun i u hu => ?_, hnc, Qz hg⟩;rw [← htake, List.getElem?_take] at hu;split at hu
    · simpa using hu
    · cases hu

/-- A row of the call's own has turned. -/
theorem ExtB.atG {g : Int} {w w' : World} (h : ExtB (fun k => (k : Int) = g) w w') {k : Nat} {o : Obj} (ho : w.heap[k]? = some o) (hk : (k : Int) ≠ g) : w'.heap[k]? = some o := h.blk k o hk ho
theorem ExtB.newG {g : Int} {a b c : World} (h : Ext a b) (e : ExtB (fun j => (j : Int) = g) b c) (hk : (a.heap.size : Int) ≤ g ∨ g < 0) : Ext a c := h.new e fun j hj => by omega
theorem ExtB.newBG {M : Nat → Prop} {g : Int} {a b c : World} (h : ExtB M a b) (e : ExtB (fun j => (j : Int) = g) b c) (hk : ∀ k : Nat, (k : Int) = g → a.heap.size ≤ k ∨ M k) : ExtB M a c := h.newB e fun j hj => hk j hj

def elemF (P : Program) (T e sz by_ : Nat) : Bool :=
  match P.underlying T, P.info? e with
  | some (.slice e'), some i => Nat.beq e' e && Nat.beq i.size sz && Nat.beq i.bytes by_ && Nat.blt 0 sz && (match i.zero with | some z => Nat.beq z.cells.size sz | none => false)
  | _, _ => false
theorem elemF_spec {P : Program} {T e sz by_ : Nat} (h : elemF P T e sz by_ = true) : ∃ i z, P.underlying T = some (.slice e) ∧ P.info? e = some i ∧ i.size = sz ∧ i.bytes = by_ ∧ 0 < sz ∧ i.zero = some z ∧ z.cells.size = sz := by
  unfold elemF at h;split at h
  · rename_i e' i hu hi
    simp only [Bool.and_eq_true] at h;obtain ⟨⟨⟨⟨h1, h2⟩, h3⟩, h4⟩, h5⟩ := h;have h1 := Nat.eq_of_beq_eq_true h1;subst h1;split at h5
    · rename_i z hz
      exact ⟨i, z, hu, hi, Nat.eq_of_beq_eq_true h2, Nat.eq_of_beq_eq_true h3, by simpa [Nat.blt_eq] using h4, hz, Nat.eq_of_beq_eq_true h5⟩
    · cases h5
  · cases h

/-- What append hands back. -/
structure Appended (w : World) (e : TypeId) (sz : Nat) (g : Int) (n : Nat) (xs : List Value) (v' : Value) (w' : World) (g' : Int) : Prop where
  own : Own w' e sz v' n xs g'
  ext : ExtB (fun k => (k : Int) = g) w w'
  size : w.heap.size ≤ w'.heap.size
  new : g' = g ∨ w.heap.size ≤ g' ∧ g' < w'.heap.size

section
variable {P : Program} {env : Env} {dst : Option Tmp} {ty : TypeId} {pos : String} {af : Array Edge} {gd : Option (Nat × Bool)} {w : World}

theorem grownRow {w : World} {e sz n cap : Nat} {z : Value} {cs : List Value} (hz : z.cells.size = sz) (hl : cs.length = n * sz) (hn : n ≤ cap) (hc : cap ≤ maxLen) {a : Array Value} (ha : a = cs.toArray ++ Builtin.zeroCells z.cells (cap - n)) :
    Own (w.drew.alloc (.cells a e)) e sz (.slice (some ⟨w.heap.size, 0, none⟩) n cap) n cs (w.heap.size : Int) := by
  subst ha;refine ⟨⟨hl, .inr ⟨w.heap.size, cap, _, rfl, Nat.zero_le _, heap_alloc_new w.drew _, hn, hc, ?_, ?_⟩⟩, fun k hk => by simp [Value.ownBlock] at hk; simp [hk]⟩
  · simp only [Array.size_append, List.size_toArray, size_zeroCells, hz, hl, ← Nat.add_mul]
    congr 1
    omega
  · simp only [Array.toList_append];rw [← hl];exact List.take_left
theorem ext_drew_alloc (w : World) (o : Obj) : Ext w (w.drew.alloc o) := (Ext.drew w).trans (Ext.alloc _ o)

theorem run_append_some {T e sz by_ n m c : Nat} {v : Value} {xs news : List Value} {g : Int} {b o : Nat} (ty : TypeId) (ht : elemF P T e sz by_ = true) (hown : Own w e sz v n xs g) (hl : news.length = m * sz) (hc : Cells w b o news)
    (h1 : ∀ u ∈ news, u.oneCell' = true) (h63 : n + m ≤ maxLen) (hby : (n + m) * by_ ≤ 140737488355328) :
    ∃ v' w' g', (Builtin.append_ #[T, T] ty #[v, .slice (some ⟨b, o, none⟩) m c]).run P w = .ok v' w' ∧ Appended w e sz g (n + m) (xs ++ news) v' w' g' := by
  obtain ⟨i, z, hu, hi, hsz, hbt, hpos, hz, hzs⟩ := elemF_spec ht;subst hsz hbt;have hsmall : n + m ≤ 9223372036854775807 := by simp only [maxLen] at h63; omega
  have hnews : ∀ j u, news[j]? = some u → w.cell? ((⟨b, o, none⟩ : Addr).add j) = some u := fun j u hj => by rw [Addr.add_mid]; exact hc j u hj
  obtain ⟨⟨hxl, hv⟩, hog⟩ := hown;have hlen : (xs ++ news).length = (n + m) * i.size := by rw [List.length_append, hxl, hl, Nat.add_mul]
  rcases hv with ⟨rfl, rfl⟩ | ⟨g', cap, cur, rfl, hbg, hg, hnc, hcm, hcs, htake⟩
  · have hx : xs = [] := List.eq_nil_of_length_eq_zero (by simpa using hxl);subst hx;by_cases hm : m = 0
    · subst hm;have hn : news = [] := List.eq_nil_of_length_eq_zero (by simpa using hl);subst hn;refine ⟨.slice none 0 0, w, g, ?_, own_nil _ _ _ _, ExtB.refl _ _, Nat.le_refl _, .inl rfl⟩;simp [Builtin.append_, run_underlying hu, sizeOf, typeInfo, hi, Builtin.lenOf, Builtin.firstCells, loadCells, loadCellsFrom]
    · have hr := run_append_nil (P := P) w T ty e i z hu hi hz ⟨b, o, none⟩ m c news hl hnews (by omega) (by omega) (by simp only [Nat.zero_add] at hby; omega);have hge := grownCap_ge w m 0 e;have hcap := grownCap_le_maxLen w m 0 e (by omega);refine ⟨_, _, w.heap.size, hr, ?_, (ext_drew_alloc w _).toB, (ext_drew_alloc w _).size, .inr ⟨Int.le_refl _, Int.ofNat_lt.2 (by simp)⟩⟩;have := grownRow (w := w) (e := e) (z := z) (cs := news) hzs hl hge hcap rfl
      simpa using this
  · have hgg : (g' : Int) = g := hog g' rfl;subst hgg;by_cases hroom : n + m ≤ cap
    · have hfit : n * i.size + news.length ≤ cur.size := by rw [hl, hcs, ← Nat.add_mul]; exact Nat.mul_le_mul_right _ hroom
      have hr := run_append_room (P := P) w T ty e i hu hi g' n cap cur hg ⟨b, o, none⟩ m c news hl hnews h1 hroom hfit;refine ⟨_, _, g', hr, ⟨⟨hlen, .inr ⟨g', cap, _, rfl, hbg, setRow_heap w g' cur _ e _ hg, hroom, hcm, ?_, ?_⟩⟩, fun k hk => by simp [Value.ownBlock] at hk; simp [hk]⟩, ?_, ?_, .inl rfl⟩
      · simp only [List.size_toArray, List.length_append, List.length_take, List.length_drop, Array.length_toList];omega
      · rw [htake, ← hlen];exact List.take_left
      · exact (setRow_facts hg _).2.1.mono fun k _ e => by subst e; rfl
      · exact (setRow_facts hg _).2.2
    · have holds : ∀ j u, xs[j]? = some u → w.cell? ((⟨g', 0, none⟩ : Addr).add j) = some u := by
        have hown : w.ownsRow 0 e i.size (.slice (some ⟨g', 0, none⟩) n cap) n xs := ⟨hxl, .inr ⟨g', cap, cur, rfl, hbg, hg, hnc, hcm, hcs, htake⟩⟩
        exact hown.cells (g := g') rfl
      have hr := run_append_grow (P := P) w T ty e i z hu hi hz ⟨g', 0, none⟩ n cap xs hxl holds ⟨b, o, none⟩ m c news hl hnews (by omega) (by omega) (growslice_fits (by omega) hby);have hge := grownCap_ge w (n + m) cap e;have hcap := grownCap_le_maxLen w (n + m) cap e h63;refine ⟨_, _, w.heap.size, hr, ?_, (ext_drew_alloc w _).toB, (ext_drew_alloc w _).size, .inr ⟨Int.le_refl _, Int.ofNat_lt.2 (by simp)⟩⟩;exact grownRow (w := w) (e := e) (z := z) (cs := xs ++ news) hzs hlen hge hcap (by simp)

/-- append(v, y...), y a slice that reads as news. -/
theorem t_append {x y : Operand} {T e sz by_ n m c : Nat} {v : Value} {xs news : List Value} {g : Int} {b o : Nat} (ht : elemF P T e sz by_ = true) (hx : env.ev x = some v) (hy : env.ev y = some (.slice (some ⟨b, o, none⟩) m c))
    (hown : Own w e sz v n xs g) (hl : news.length = m * sz) (hc : Cells w b o news) (h1 : ∀ u ∈ news, u.oneCell' = true) (h63 : n + m ≤ maxLen) (hby : (n + m) * by_ ≤ 140737488355328) :
    OpT P env ⟨dst, .call { callee := .builtin .append, args := #[x, y], argTypes := #[T, T] }, ty, pos, af, gd⟩ w fun v' w' => ∃ g', Appended w e sz g (n + m) (xs ++ news) v' w' g' := by
  intro a ha next Q hn
  obtain ⟨v', w', g', hr, hap⟩ := run_append_some ty ht hown hl hc h1 h63 hby (c := c);unfold Oper.wp execOp;simp only [resolve, invoke, builtin, Sem.run_bind, Sem.run_pure, Result.andThen_ok, List.map_toArray, List.map_cons, List.map_nil, ha x _ hx, ha y _ hy, hr];exact hn _ _ ⟨g', hap⟩
end
end Go.Fw
/- The walk by partial frames, 6: structs held against each other; make. -/
namespace Go.Fw
def hcells (h : List UInt8) : List Value := h.map fun b => .int .u8 b.toNat
theorem Qk (h : List UInt8) : (hcells h).length = h.length := by simp [hcells]
@[simp] theorem hcells_one (h : List UInt8) : ∀ v ∈ hcells h, v.oneCell' = true := by
  intro v hv;simp only [hcells, List.mem_map] at hv;obtain ⟨b, _, rfl⟩ := hv;rfl

section
variable {P : Program}
/-- Two values of a type are held against each other. -/
def EqV (P : Program) (d : Nat) (T : TypeId) (a b : Value) (r : Bool) : Prop := ∀ w, (Op.equalIn d T a b).run P w = .ok r w
def EqFs (P : Program) (d : Nat) (fs : List Field) (xs ys : Array Value) (r : Bool) : Prop := ∀ w, (Op.eqFields d xs ys fs).run P w = .ok r w
theorem eqv_hash {d : Nat} {T e n : TypeId} {a b : List UInt8} (h : P.underlying T = some (.array n e)) (he : P.underlying e = some (.int .u8)) (hs : (P.info? e).map (·.size) = some 1) (ha : a.length = n) (hb : b.length = n) :
    EqV P (d + 2) T (.agg ⟨hcells a⟩) (.agg ⟨hcells b⟩) (decide (a = b)) := fun w => by
  have hsz : ∀ w, (sizeOf e).run P w = .ok 1 w := fun w => by
    cases hq : P.info? e with
    | none => simp [hq] at hs
    | some i =>
      have : i.size = 1 := by simpa [hq] using hs
      simp [sizeOf, typeInfo, hq, this]
  have := run_equalIn_bytes w d T e n h he hsz a b ha hb;have e1 : (List.map Extern.Stop.cell a).toArray = ⟨hcells a⟩ := rfl;have e2 : (List.map Extern.Stop.cell b).toArray = ⟨hcells b⟩ := rfl;rw [e1, e2] at this;rw [this]
  congr 1
  by_cases h : a = b <;> simp [h]
theorem part1 {T : TypeId} {xs : List Value} {off : Nat} {v : Value} (ht : isCellT P T = true) (h : xs[off]? = some v) : ∀ w, (part T ⟨xs⟩ off).run P w = .ok v w := fun w => by
  unfold isCellT at ht
  cases hu : P.underlying T with
  | none => simp [hu] at ht
  | some d =>
    rw [hu] at ht;cases d <;> first
      | (simp at ht; done)
      | simp [part, isAgg, run_underlying hu, h]
theorem partA {T : TypeId} {xs vs : List Value} {off n : Nat} (ht : aggT P T = some n) (h : (xs.drop off).take n = vs) : ∀ w, (part T ⟨xs⟩ off).run P w = .ok (.agg ⟨vs⟩) w := fun w => by
  have key : ∃ d, P.underlying T = some d ∧ d.isRow = true ∧ (P.info? T).map (·.size) = some n := by
    unfold aggT at ht;split at ht <;> first
      | exact ⟨_, by assumption, rfl, ht⟩
      | cases ht
  obtain ⟨d, hu, hr, hi⟩ := key
  cases hq : P.info? T with
  | none => simp [hq] at hi
  | some i =>
    have hs : i.size = n := by simpa [hq] using hi
    have he : (Array.mk xs).extract off (off + n) = ⟨vs⟩ := by
      rw [← h]
      apply Array.ext'
      simp
    cases d <;> first
      | (simp [TypeDesc.isRow] at hr; done)
      | simp [part, isAgg, run_underlying hu, sizeOf, typeInfo, hq, hs, h]

variable {C : World → Prop} {env : Env} {dst : Option Tmp} {ty : TypeId} {pos : String} {af : Array Edge} {gd : Option (Nat × Bool)}
theorem ev_eqlA {x y : Operand} {T U : TypeId} {a b : Array Value} {r : Bool} (hx : env.ev x = some (.agg a)) (hy : env.ev y = some (.agg b)) (hg : P.eqGuardType P.depth T = false) (he : EqV P 10000 T (.agg a) (.agg b) r) :
    Ev P C env ⟨dst, .binOp .eql T x y U, ty, pos, af, gd⟩ (.bool r) := by
  intro ρ hρ w _;have h1 := run_eqGuard_agg (P := P) w .eql T x y a b hg;have h2 := he w;simp [execOp, hρ x _ hx, hρ y _ hy, h1, run_eql_struct, h2]
theorem ev_neqA {x y : Operand} {T U : TypeId} {a b : Array Value} {r : Bool} (hx : env.ev x = some (.agg a)) (hy : env.ev y = some (.agg b)) (hg : P.eqGuardType P.depth T = false) (he : EqV P 10000 T (.agg a) (.agg b) r) :
    Ev P C env ⟨dst, .binOp .neq T x y U, ty, pos, af, gd⟩ (.bool (!r)) := by
  intro ρ hρ w _;have h1 := run_eqGuard_agg (P := P) w .neq T x y a b hg;have h2 := he w;simp [execOp, hρ x _ hx, hρ y _ hy, h1, run_neq_struct, h2]

end
end Go.Fw
/- More of the walk by partial frames: operations whose guard was itself left without a value, and parts of cells. -/
namespace Go.Fw
theorem Cells.seg {w : World} {b o o' : Nat} {vs : List Value} (h : Cells w b o vs) (us : List Value) (i : Nat) (ho : o' = o + i) (hu : us = (vs.drop i).take us.length) : Cells w b o' us :=
  h.mid i ho fun j u hj => by
    rw [hu, List.getElem?_take] at hj;split at hj
    · rwa [List.getElem?_drop] at hj
    · cases hj
section
variable {P : Program} {f : FuncId} {n : Nat} {ops : Array Oper} {rest : List Oper} {k : List Item} {env : Env} {w : World} {R : Value → World → Prop}
variable {d : Nat} {op : Op} {ty : TypeId} {pos : String} {af : Array Edge} {i : Nat} {tl : List Nat} {ord : List (Bool × Nat)} {S : World → Prop}
/-- An operation that yields, as one that does. -/
theorem opT_ev {o : Oper} {v : Value} (h : Ev P (· = w) env o v) : OpT P env o w (fun v' w' => v' = v ∧ w' = w) := by
  intro a ha next Q hn
  unfold Oper.wp;rw [h a.eval ha w rfl];exact hn v w ⟨rfl, rfl⟩
theorem wanted_undef {o : Oper} {g : Nat} {t : Bool} {dg : Nat} {a : Act} (ho : o.guard = some (g, t)) (hg : gdst ops g = some dg) (ha : Fits n env a) (hv : env.get dg = some undef) :
    Region.wanted o (yielded ops a.tmps) = false := by
  unfold Region.wanted yielded;unfold gdst at hg;rw [ho];have := ha.get dg _ hv;simp only [hg, Option.bind_some, this];cases t <;> rfl
theorem runl_no_u {g dg : Nat} {t : Bool} (hg : gdst ops g = some dg) (hv : env.get dg = some undef)
    (h : RunL P f n ops rest k ((d, undef) :: env) w R) : RunL P f n ops (⟨some d, op, ty, pos, af, some (g, t)⟩ :: rest) k env w R := by
  intro hd a ha;simp only [dstOk, Bool.and_eq_true, Nat.blt_eq] at hd;unfold wpList;rw [if_neg (by rw [wanted_undef rfl hg ha hv]; simp)];exact h hd.2 _ (ha.put hd.1 undef)
theorem rund_no_u {Z : Env → World → Prop} {g dg : Nat} {t : Bool} (hS : S w) (ho : ops[i]? = some ⟨some d, op, ty, pos, af, some (g, t)⟩) (hg : gdst ops g = some dg) (hv : env.get dg = some undef)
    (h : RunZ P n ops S tl ord Z ((d, undef) :: env) w) : RunZ P n ops S tl ((true, i) :: ord) Z env w := by
  intro hd a ha;exact ⟨_, undef, ho, .inr ⟨by rw [wanted_undef rfl hg ha hv], rfl⟩, hS, h hd _ (ha.put (dstOk_mem hd (by simpa using ho) _ rfl) undef)⟩
theorem rund_no_uf {Z : Env → World → Prop} {g dg : Nat} {t : Bool} (ho : ops[i]? = some ⟨some d, op, ty, pos, af, some (g, t)⟩) (hg : gdst ops g = some dg) (hv : env.get dg = some undef)
    (hS : S w) (h : RunZ P n ops S tl ord Z ((d, undef) :: env) w) : RunZ P n ops S tl ((false, i) :: ord) Z env w := by
  intro hd a ha;show wpOp _ _ _ _ _ _ _;unfold wpOp;rw [ho];simp only [];rw [if_neg (by rw [wanted_undef rfl hg ha hv]; simp)];exact ⟨fun _ => hS, h hd _ (ha.put (dstOk_mem hd (by simpa using ho) _ rfl) undef)⟩
section
variable {C : World → Prop} {dst : Option Tmp} {gd : Option (Nat × Bool)}
/-- A number as one of another kind. -/
theorem ev_convI {x : Operand} {S D : TypeId} {s : TypeDesc} {k k' : IntKind} {n : Int} (m : Int) (hs : P.underlying S = some s) (hd : P.underlying D = some (.int k')) (hx : env.ev x = some (.int k n)) (hm : k'.wrap n = m) :
    Ev P C env ⟨dst, .convert S D x, ty, pos, af, gd⟩ (.int k' m) := by
  intro ρ hρ w _;have hk : P.intKind D = k' := by simp [Program.intKind, hd]
  have h := run_convert_int (P := P) w S D k n (by rw [hs]; rfl) (by rw [hk]; exact hd);rw [hk, hm] at h;simp [execOp, hρ x _ hx, h]
end
end
end Go.Fw
/- More of the walk by partial frames: numbers by their bits, least and most, nil compared, parts of slices. -/
namespace Go.Fw
section
variable {P : Program} {C : World → Prop} {env : Env} {dst : Option Tmp} {ty : TypeId} {pos : String} {af : Array Edge} {gd : Option (Nat × Bool)}
theorem ev_mulK {k : IntKind} {x y : Operand} {T U : TypeId} {a b : Int} (m : Int) (hx : env.ev x = some (.int k a)) (hy : env.ev y = some (.int k b)) (hm : k.wrap (a * b) = m) : Ev P C env ⟨dst, .binOp .mul T x y U, ty, pos, af, gd⟩ (.int k m) := by
  intro ρ hρ w _;subst hm;simp [execOp, hρ x _ hx, hρ y _ hy, eqGuard, binOp, Op.intArith]
theorem ev_addK {k : IntKind} {x y : Operand} {T U : TypeId} {a b : Int} (m : Int) (hx : env.ev x = some (.int k a)) (hy : env.ev y = some (.int k b)) (hm : k.wrap (a + b) = m) : Ev P C env ⟨dst, .binOp .add T x y U, ty, pos, af, gd⟩ (.int k m) := by
  intro ρ hρ w _;subst hm;simp [execOp, hρ x _ hx, hρ y _ hy, eqGuard, binOp, Op.intArith]
theorem ev_subK {k : IntKind} {x y : Operand} {T U : TypeId} {a b : Int} (m : Int) (hx : env.ev x = some (.int k a)) (hy : env.ev y = some (.int k b)) (hm : k.wrap (a - b) = m) : Ev P C env ⟨dst, .binOp .sub T x y U, ty, pos, af, gd⟩ (.int k m) := by
  intro ρ hρ w _;subst hm;simp [execOp, hρ x _ hx, hρ y _ hy, eqGuard, binOp, Op.intArith]
theorem ev_and {k : IntKind} {x y : Operand} {T U : TypeId} {a b : Int} (m : Int) (hx : env.ev x = some (.int k a)) (hy : env.ev y = some (.int k b)) (hm : k.wrap (BitVec.ofInt k.bits a &&& BitVec.ofInt k.bits b).toNat = m) : Ev P C env ⟨dst, .binOp .and T x y U, ty, pos, af, gd⟩ (.int k m) := by
  intro ρ hρ w _;subst hm;simp [execOp, hρ x _ hx, hρ y _ hy, eqGuard, binOp, Op.intBits]
theorem ev_or {k : IntKind} {x y : Operand} {T U : TypeId} {a b : Int} (m : Int) (hx : env.ev x = some (.int k a)) (hy : env.ev y = some (.int k b)) (hm : k.wrap (BitVec.ofInt k.bits a ||| BitVec.ofInt k.bits b).toNat = m) : Ev P C env ⟨dst, .binOp .or T x y U, ty, pos, af, gd⟩ (.int k m) := by
  intro ρ hρ w _;subst hm;simp [execOp, hρ x _ hx, hρ y _ hy, eqGuard, binOp, Op.intBits]
theorem ev_shl {k k' : IntKind} {x y : Operand} {T U : TypeId} {a b : Int} (m : Int) (hx : env.ev x = some (.int k a)) (hy : env.ev y = some (.int k' b)) (hb : ¬ b < 0) (hm : k.wrap (a * 2 ^ (min b.toNat k.bits)) = m) : Ev P C env ⟨dst, .binOp .shl T x y U, ty, pos, af, gd⟩ (.int k m) := by
  intro ρ hρ w _;subst hm;simp [execOp, hρ x _ hx, hρ y _ hy, eqGuard, binOp, Op.shift, hb]
theorem ev_shr {k k' : IntKind} {x y : Operand} {T U : TypeId} {a b : Int} (m : Int) (hx : env.ev x = some (.int k a)) (hy : env.ev y = some (.int k' b)) (hb : ¬ b < 0) (hm : a.fdiv (2 ^ (min b.toNat k.bits)) = m) : Ev P C env ⟨dst, .binOp .shr T x y U, ty, pos, af, gd⟩ (.int k m) := by
  intro ρ hρ w _;subst hm;simp [execOp, hρ x _ hx, hρ y _ hy, eqGuard, binOp, Op.shift, hb]
theorem ev_min {k k' : IntKind} {x y : Operand} {ats : Array TypeId} {a b : Int} (hx : env.ev x = some (.int k a)) (hy : env.ev y = some (.int k' b)) : Ev P C env ⟨dst, .call { callee := .builtin .min, args := #[x, y], argTypes := ats }, ty, pos, af, gd⟩ (.int k (if b < a then b else a)) := by
  intro ρ hρ w _;simp [execOp, resolve, invoke, builtin, hρ x _ hx, hρ y _ hy, run_min_int2]
theorem ev_max {k k' : IntKind} {x y : Operand} {ats : Array TypeId} {a b : Int} (hx : env.ev x = some (.int k a)) (hy : env.ev y = some (.int k' b)) : Ev P C env ⟨dst, .call { callee := .builtin .max, args := #[x, y], argTypes := ats }, ty, pos, af, gd⟩ (.int k (if b > a then b else a)) := by
  intro ρ hρ w _;simp [execOp, resolve, invoke, builtin, hρ x _ hx, hρ y _ hy, run_max_int2]
/-- A part of a slice: its address does not move where nothing is left of it. -/
theorem ev_sliceL_lo {x lo : Operand} {T e : TypeId} {sz n len cap : Nat} {a : Option Addr} (ht : elemT P T = some (e, sz)) (hx : env.ev x = some (.slice a len cap)) (hl : env.ev lo = some (.int .i64 (n : Int))) (hn : n ≤ len) :
    Ev P C env ⟨dst, .slice T x (some lo) none none, ty, pos, af, gd⟩ (.slice (if cap = n then a else a.map (·.add (n * sz))) (len - n) (cap - n)) := by
  intro ρ hρ w _;unfold elemT at ht;split at ht
  · rename_i e' hu
    cases hq : P.info? e' with
    | none => simp [hq] at ht
    | some inf =>
      simp [hq] at ht;obtain ⟨rfl, rfl⟩ := ht;have he : P.elem T = e' := by simp [Program.elem, hu]
      have h1 := run_slice_l (P := P) w T a len cap (by rw [he]; exact hu) .i64 (n : Int) (by omega) (by omega);have h2 := run_sliceAt_slice (P := P) w T (.slice a len cap) (some (.int .i64 (n : Int))) none none (by rw [he]; exact hu);rw [h1] at h2;simp [sizeOf, typeInfo, he, hq, sliced] at h2;simp [execOp, hρ x _ hx, hρ lo _ hl, h2]
  · cases ht
theorem ev_sliceL_hi {x hi : Operand} {T e : TypeId} {sz n len cap : Nat} {a : Option Addr} (ht : elemT P T = some (e, sz)) (hx : env.ev x = some (.slice a len cap)) (hh : env.ev hi = some (.int .i64 (n : Int))) (hn : n ≤ cap) :
    Ev P C env ⟨dst, .slice T x none (some hi) none, ty, pos, af, gd⟩ (.slice (if cap = 0 then a else a.map (·.add (0 * sz))) n cap) := by
  intro ρ hρ w _;unfold elemT at ht;split at ht
  · rename_i e' hu
    cases hq : P.info? e' with
    | none => simp [hq] at ht
    | some inf =>
      simp [hq] at ht;obtain ⟨rfl, rfl⟩ := ht;have he : P.elem T = e' := by simp [Program.elem, hu]
      have h1 := run_slice_h (P := P) w T a len cap (by rw [he]; exact hu) .i64 (n : Int) (by omega) (by omega);have h2 := run_sliceAt_slice (P := P) w T (.slice a len cap) none (some (.int .i64 (n : Int))) none (by rw [he]; exact hu);rw [h1] at h2;simp [sizeOf, typeInfo, he, hq, sliced] at h2;simp [execOp, hρ x _ hx, hρ hi _ hh, h2]
  · cases ht
/-- A pointer held against nil. -/
theorem ev_eqlPn {x y : Operand} {T U e : TypeId} {a : Option Addr} (ht : P.underlying T = some (.pointer e)) (hx : env.ev x = some (.pointer a)) (hy : env.ev y = some (.pointer none)) : Ev P C env ⟨dst, .binOp .eql T x y U, ty, pos, af, gd⟩ (.bool a.isNone) := by
  intro ρ hρ w _;have he : P.pointee T = e := by simp [Program.pointee, ht]
  have h := run_eql_pointer_nil (P := P) w T a (by rw [he]; exact ht);simp [execOp, hρ x _ hx, hρ y _ hy, eqGuard, h]
theorem ev_neqPn {x y : Operand} {T U e : TypeId} {a : Option Addr} (ht : P.underlying T = some (.pointer e)) (hx : env.ev x = some (.pointer a)) (hy : env.ev y = some (.pointer none)) : Ev P C env ⟨dst, .binOp .neq T x y U, ty, pos, af, gd⟩ (.bool (!a.isNone)) := by
  intro ρ hρ w _;have he : P.pointee T = e := by simp [Program.pointee, ht]
  have h := run_neq_pointer_nil (P := P) w T a (by rw [he]; exact ht);simp [execOp, hρ x _ hx, hρ y _ hy, eqGuard, h]
/-- A slice held against nil. -/
theorem ev_eqlLn {x y : Operand} {T U e : TypeId} {a : Option Addr} {n c : Nat} (ht : P.underlying T = some (.slice e)) (hx : env.ev x = some (.slice a n c)) (hy : env.ev y = some (.slice none 0 0)) : Ev P C env ⟨dst, .binOp .eql T x y U, ty, pos, af, gd⟩ (.bool a.isNone) := by
  intro ρ hρ w _
  have h : (binOp .eql T (.slice a n c) (.slice none 0 0)).run P w = .ok (.bool a.isNone) w := by
    simp only [binOp];simp [run_equal_slice_nil (P := P) w T e a n c ht]
  simp [execOp, hρ x _ hx, hρ y _ hy, eqGuard, h]
/-- All of an array as a slice. -/
theorem ev_sliceA {x : Operand} {T e : TypeId} {n sz b o : Nat} (ht : arrT P T = some (n, e, sz)) (hx : env.ev x = some (.pointer (some ⟨b, o, none⟩))) :
    Ev P C env ⟨dst, .slice T x none none none, ty, pos, af, gd⟩ (.slice (some ⟨b, o, none⟩) n n) := by
  intro ρ hρ w _;unfold arrT at ht;split at ht
  · rename_i n' e' hu
    cases hq : P.info? e' with
    | none => simp [hq] at ht
    | some inf =>
      simp [hq] at ht;obtain ⟨rfl, rfl, rfl⟩ := ht;have he : P.elem T = e' := by simp [Program.elem, hu]
      have hn : P.arrayLen T = n' := by simp [Program.arrayLen, hu]
      have h := run_sliceAt_array_all (P := P) w T ⟨b, o, none⟩ (by rw [he, hn]; exact hu);have e0 : (⟨b, o, none⟩ : Addr).add 0 = ⟨b, o, none⟩ := by rw [Addr.add_mid]; rfl
      simp [sizeOf, typeInfo, he, hn, hq, slicedAt, e0] at h;simp [execOp, hρ x _ hx, h]
  · cases ht
/-- A byte of a string. -/
theorem ev_indexS {x ix : Operand} {T : TypeId} {s : ByteArray} {k : Nat} (ht : P.underlying T = some .string) (hx : env.ev x = some (.string s)) (hi : env.ev ix = some (.int .i64 (k : Int))) (hk : k < s.size) :
    Ev P C env ⟨dst, .index T x ix, ty, pos, af, gd⟩ (.int .u8 s[k].toNat) := by
  intro ρ hρ w _;have h := run_index_string (P := P) w T s .i64 (k : Int) ht;rw [dif_pos (by omega)] at h;simp [execOp, hρ x _ hx, hρ ix _ hi, h]
/-- copy(d, s) into cells of one each. -/
theorem t_copy {x y : Operand} {dT sT elem t : TypeId} {w : World} {b o dLen dCap sLen sCap b' o' : Nat} {cur cs : List Value} (hu : P.underlying dT = some (.slice elem)) (hs : (P.info? elem).map (·.size) = some 1)
    (hx : env.ev x = some (.slice (some ⟨b, o, none⟩) dLen dCap)) (hy : env.ev y = some (.slice (some ⟨b', o', none⟩) sLen sCap))
    (hg : w.heap[b]? = some (.cells ⟨cur⟩ t (0, 0))) (hn : cs.length = min sLen dLen) (hc : Cells w b' o' cs) (hfit : o + cs.length ≤ cur.length) (h1 : ∀ v ∈ cs, v.oneCell' = true) :
    OpT P env ⟨dst, .call { callee := .builtin .copy, args := #[x, y], argTypes := #[dT, sT] }, ty, pos, af, gd⟩ w fun v w' => v = .int .i64 cs.length ∧ w'.heap[b]? = some (.cells ⟨splice cur o cs⟩ t (0, 0)) ∧ ExtB (fun k => k = b) w w' ∧ w.heap.size ≤ w'.heap.size := by
  intro a ha next Q hnx
  have hr := run_copy_row (P := P) w dT sT ty elem b o dLen dCap ⟨b', o', none⟩ sLen sCap ⟨cur⟩ t cs hu hs hg hn (fun j v hj => by rw [Addr.add_mid]; exact hc j v hj) (by simpa using hfit) h1;unfold Oper.wp execOp;simp only [resolve, invoke, builtin, Sem.run_bind, Sem.run_pure, Result.andThen_ok, List.map_toArray, List.map_cons, List.map_nil, ha x _ hx, ha y _ hy, hr];obtain ⟨f1, f2, f3⟩ := setRow_facts hg (splice cur o cs).toArray;exact hnx _ _ ⟨rfl, f1, f2, f3⟩
end
end Go.Fw
/- The walk by partial frames: a region whose order is open, where at some places either of two operations may come up. -/
namespace Go.Fw
/-- Orders: one, or a begin and two ways to go on, each with an operation of its own first. -/
inductive OT where
  | seq (ord : List (Bool × Nat))
  | alt (pre : List (Bool × Nat)) (t u : OT)
def hdL : List (Bool × Nat) → Option Nat
  | (false, i) :: _ => some i
  | _ => none
def OT.hd : OT → Option Nat
  | .seq ord => hdL ord
  | .alt pre _ _ => hdL pre
def seqOkF (ops : Array Oper) (tl : List Nat) : List (Bool × Nat) → Bool → Array Bool → (Array Bool → Bool) → Bool
  | [], _, listed, e => e listed
  | (true, i) :: r, _, listed, e => Region.free .any ops listed i && (Region.ready .any ops listed).contains i && (waitAll ops tl i || pureAt ops i) && seqOkF ops tl r false (listed.setIfInBounds i true) e
  | (false, i) :: r, first, listed, e => (first && (Region.ready .any ops listed).contains i || Region.ready .any ops listed == [i]) && seqOkF ops tl r false (listed.setIfInBounds i true) e
def treeOk (ops : Array Oper) (tl : List Nat) : OT → Nat → Bool → Array Bool → Bool
  | .seq ord, m, first, listed => Nat.beq ord.length m && seqOkF ops tl ord first listed fun l => (Region.ready .any ops l).isEmpty
  | .alt pre t u, m, first, listed => Nat.ble pre.length m && seqOkF ops tl pre first listed fun l =>
      (match t.hd, u.hd with | some i, some j => Region.ready .any ops l == [i, j] | _, _ => false) && treeOk ops tl t (m - pre.length) true l && treeOk ops tl u (m - pre.length) true l
def drawOkT (n : Nat) (ops : Array Oper) (tl : List Nat) (t : OT) : Bool :=
  Region.noSelect ops && dstOk n ops.toList && treeOk ops tl t ops.size false (Array.replicate ops.size false)

section
variable {P : Program} {f : FuncId} {n : Nat} {k : List Item} {env : Env} {w : World} {R : Value → World → Prop} {ops : Array Oper}
def RunT (P : Program) (n : Nat) (ops : Array Oper) (S : World → Prop) (tl : List Nat) : OT → (Z : Env → World → Prop) → Env → World → Prop
  | .seq ord, Z, env, w => RunZ P n ops S tl ord Z env w
  | .alt pre t u, Z, env, w => RunZ P n ops S tl pre (fun env w => RunT P n ops S tl t Z env w ∧ RunT P n ops S tl u Z env w) env w

theorem wp_QZ {o : Oper} {a : Act} {w : World} {K : Act → World → Prop} {Z Z' : Env → World → Prop} (h : o.wp P a w K (QZ n Z')) : o.wp P a w K (QZ n Z) := by
  unfold Oper.wp Oper.upon at *;split at h
  · exact h
  · exact h
  · exact h
  · refine Calls.mono h fun e w' he => ?_
    cases e with
    | returned v => exact he
    | panicked c => exact he.elim
    | outgrown => obtain ⟨_, _, hh⟩ := he; exact hh.elim
  · exact h
  · exact h.elim
  · exact h.elim
theorem wpOp_QZ {i : Nat} {K : Act → World → Prop} {a : Act} {w : World} {Z Z' : Env → World → Prop} (h : wpOp P ops (QZ n Z') i K a w) : wpOp P ops (QZ n Z) i K a w := by
  unfold wpOp at *;split
  · simpa [*] using h
  · rename_i o ho
    simp only [ho] at h;split
    · rename_i hw
      rw [if_pos hw] at h;rcases h with h | ⟨_, _, _, h⟩
      · exact .inl (wp_QZ h)
      · exact h.elim
    · rename_i hw
      rw [if_neg hw] at h;exact h
variable {S : World → Prop} {tl : List Nat} {Z Z' : Env → World → Prop}
theorem of_seqF (hs : Region.noSelect ops = true) {m : Nat} {e : Array Bool → Bool} (hend : ∀ l a w, Closed ops l → e l = true → QZ n Z' .normal a w → wpAnyG P ops (QZ n Z) S (fun i => !tl.contains i) m l a w) :
    ∀ (ord : List (Bool × Nat)) (listed : Array Bool) (a : Act) (w : World), Closed ops listed → seqOkF ops tl ord false listed e = true → heldSeq P ops (QZ n Z') S tl ord a w → wpAnyG P ops (QZ n Z) S (fun i => !tl.contains i) (ord.length + m) listed a w
  | [], listed, a, w, hcl, hok, h => by rw [List.length_nil, Nat.zero_add]; exact hend listed a w hcl hok h
  | (true, i) :: r, listed, a, w, hcl, hok, h => by
    simp only [seqOkF, Bool.and_eq_true] at hok;obtain ⟨o, v, hi, hy, hS, hr⟩ := h;have hrdy : i ∈ Region.ready .any ops listed := by simpa using hok.1.1.2
    rw [show ((true, i) :: r).length + m = (r.length + m) + 1 by simp only [List.length_cons]; omega];rcases Bool.or_eq_true _ _ ▸ hok.1.2 with hw | hw
    · refine wpAnyG_first hi (Region.noSelect_spec hs) (fun c a w hp => hp.elim) (fun j hp => ?_) _ listed a w hcl (Region.free_spec hi hok.1.1.1) hrdy hy hS (of_seqF hs hend r _ _ _ (closed_set hcl hrdy) hok.2 hr);unfold waitAll at hw;rw [List.all_eq_true] at hw;exact hw j (by simpa using hp)
    · have hp : pureOp o.op = true := by unfold pureAt at hw; rw [hi] at hw; exact hw
      have hy' : YieldsIf P ops (fun _ => True) o v a := by
        rcases hy with ⟨h1, h2⟩ | h1
        · exact .inl ⟨h1, fun w' _ => pure_any hp (h2 w hS) w'⟩
        · exact .inr h1
      exact wpAnyG_pure hi (Region.noSelect_spec hs) (fun c a w hp => hp.elim) _ listed a w hcl (Region.free_spec hi hok.1.1.1) hrdy hy' (of_seqF hs hend r _ _ _ (closed_set hcl hrdy) hok.2 hr)
  | (false, i) :: r, listed, a, w, hcl, hok, h => by
    simp only [seqOkF, Bool.and_eq_true, Bool.false_and, Bool.false_or, beq_iff_eq] at hok;have hrdy : i ∈ Region.ready .any ops listed := by rw [hok.1]; simp
    rw [show ((false, i) :: r).length + m = (r.length + m) + 1 by simp only [List.length_cons]; omega];refine ⟨fun h0 => (by rw [hok.1] at h0; cases h0), fun j hj => ?_⟩;rw [hok.1] at hj;obtain rfl : j = i := by simpa using hj
    exact wpOp_QZ (wpOp_mono (fun a' w' ⟨hS', h'⟩ => ⟨fun hp _ => hS' (by simpa using hp), of_seqF hs hend r _ _ _ (closed_set hcl hrdy) hok.2 h'⟩) h)
/-- The first operation of a way to go on. -/
theorem of_seqT (hs : Region.noSelect ops = true) {m : Nat} {e : Array Bool → Bool} (hend : ∀ l a w, Closed ops l → e l = true → QZ n Z' .normal a w → wpAnyG P ops (QZ n Z) S (fun i => !tl.contains i) m l a w)
    {ord : List (Bool × Nat)} {listed : Array Bool} {a : Act} {w : World} (hcl : Closed ops listed) (hok : seqOkF ops tl ord true listed e = true) (h : heldSeq P ops (QZ n Z') S tl ord a w) {i : Nat} (hi : hdL ord = some i) :
    ∃ q, ord.length + m = q + 1 ∧ wpOp P ops (QZ n Z) i (fun a' w' => ((!tl.contains i) = true → S w → S w') ∧ wpAnyG P ops (QZ n Z) S (fun i => !tl.contains i) q (listed.setIfInBounds i true) a' w') a w := by
  cases ord with
  | nil => cases hi
  | cons p r =>
    obtain ⟨b, i'⟩ := p
    cases b with
    | true => cases hi
    | false =>
      cases hi;simp only [seqOkF, Bool.and_eq_true, Bool.true_and, Bool.or_eq_true] at hok
      have hrdy : i ∈ Region.ready .any ops listed := by
        rcases hok.1 with h1 | h1
        · simpa using h1
        · have : Region.ready .any ops listed = [i] := by simpa using h1
          rw [this]; simp
      refine ⟨r.length + m, by simp only [List.length_cons]; omega, ?_⟩;exact wpOp_QZ (wpOp_mono (fun a' w' ⟨hS', h'⟩ => ⟨fun hp _ => hS' (by simpa using hp), of_seqF hs hend r _ _ _ (closed_set hcl hrdy) hok.2 h'⟩) h)
theorem of_tree (hs : Region.noSelect ops = true) (hd : dstOk n ops.toList = true) : ∀ (t : OT) (m : Nat) (listed : Array Bool) (a : Act) (env : Env) (w : World), Closed ops listed → Fits n env a → RunT P n ops S tl t Z env w →
    (treeOk ops tl t m false listed = true → wpAnyG P ops (QZ n Z) S (fun i => !tl.contains i) m listed a w) ∧
    (∀ i, t.hd = some i → treeOk ops tl t m true listed = true → ∃ q, m = q + 1 ∧ wpOp P ops (QZ n Z) i (fun a' w' => ((!tl.contains i) = true → S w → S w') ∧ wpAnyG P ops (QZ n Z) S (fun i => !tl.contains i) q (listed.setIfInBounds i true) a' w') a w)
  | .seq ord, m, listed, a, env, w, hcl, ha, h => by
    have hend : ∀ l a w, Closed ops l → (Region.ready .any ops l).isEmpty = true → QZ n Z .normal a w → wpAnyG P ops (QZ n Z) S (fun i => !tl.contains i) 0 l a w := fun l a w _ he hz => wpAnyG_done (by simpa using he) hz 0
    refine ⟨fun hok => ?_, fun i hi hok => ?_⟩
    · simp only [treeOk, Bool.and_eq_true] at hok;rw [← Nat.eq_of_beq_eq_true hok.1];exact of_seqF hs hend ord listed a w hcl hok.2 (h hd a ha)
    · simp only [treeOk, Bool.and_eq_true] at hok;rw [← Nat.eq_of_beq_eq_true hok.1];exact of_seqT hs hend hcl hok.2 (h hd a ha) hi
  | .alt pre t u, m, listed, a, env, w, hcl, ha, h => by
    have hend : ∀ l a w, Closed ops l → ((match t.hd, u.hd with | some i, some j => Region.ready .any ops l == [i, j] | _, _ => false) && treeOk ops tl t (m - pre.length) true l && treeOk ops tl u (m - pre.length) true l) = true →
        QZ n (fun env w => RunT P n ops S tl t Z env w ∧ RunT P n ops S tl u Z env w) .normal a w → wpAnyG P ops (QZ n Z) S (fun i => !tl.contains i) (m - pre.length) l a w := by
      intro l a w hcl he hz;obtain ⟨env, ha, ht, hu⟩ := hz;simp only [Bool.and_eq_true] at he;obtain ⟨⟨he1, he2⟩, he3⟩ := he
      cases hti : t.hd with
      | none => rw [hti] at he1; cases he1
      | some i =>
        cases huj : u.hd with
        | none => rw [hti, huj] at he1; cases he1
        | some j =>
          rw [hti, huj] at he1;have hrd : Region.ready .any ops l = [i, j] := by simpa using he1
          obtain ⟨q, hq, h1⟩ := (of_tree hs hd t _ l a env w hcl ha ht).2 i hti he2;obtain ⟨q', hq', h2⟩ := (of_tree hs hd u _ l a env w hcl ha hu).2 j huj he3;rw [hq];obtain rfl : q = q' := by omega
          refine ⟨fun h0 => (by rw [hrd] at h0; cases h0), fun k hk => ?_⟩;rw [hrd] at hk;simp only [List.mem_cons, List.not_mem_nil, or_false] at hk;rcases hk with rfl | rfl
          · exact h1
          · exact h2
    refine ⟨fun hok => ?_, fun i hi hok => ?_⟩
    · simp only [treeOk, Bool.and_eq_true] at hok;obtain ⟨hle, hok⟩ := hok;rw [show m = pre.length + (m - pre.length) by have := Nat.le_of_ble_eq_true hle; omega];refine of_seqF hs (fun l a w h1 h2 h3 => hend l a w h1 ?_ h3) pre listed a w hcl hok (h hd a ha)
      simpa only [Bool.and_eq_true] using h2
    · simp only [treeOk, Bool.and_eq_true] at hok;obtain ⟨hle, hok⟩ := hok;rw [show m = pre.length + (m - pre.length) by have := Nat.le_of_ble_eq_true hle; omega];refine of_seqT hs (fun l a w h1 h2 h3 => hend l a w h1 ?_ h3) hcl hok (h hd a ha) hi
      simpa only [Bool.and_eq_true] using h2
theorem run_drawT {id : Nat} (hm : P.follows .mixedOrders = true) (S : World → Prop) (tl : List Nat) (t : OT) (hok : drawOkT n ops tl t = true)
    (h : ∀ w', Ext w w' → RunT P n ops S tl t (fun env w => Run P f n k env w R) env w') : Run P f n (.code (.region id ops true) :: k) env w R := by
  simp only [drawOkT, Bool.and_eq_true] at hok;obtain ⟨⟨h1, h2⟩, h3⟩ := hok;refine run_of_wp fun a ha => ?_
  refine wp_region_any hm (wpAny_of_G (S := S) (pre := fun i => !tl.contains i) _ _ _ _ ?_);exact (of_tree h1 h2 t ops.size _ a env w.drew (closed_none _) ha (h w.drew (Ext.drew w))).1 h3
theorem runt_seq {ord : List (Bool × Nat)} (h : RunZ P n ops S tl ord Z env w) : RunT P n ops S tl (.seq ord) Z env w := h
theorem runt_alt {pre : List (Bool × Nat)} {t u : OT} (h : RunZ P n ops S tl pre (fun env w => RunT P n ops S tl t Z env w ∧ RunT P n ops S tl u Z env w) env w) : RunT P n ops S tl (.alt pre t u) Z env w := h
end
end Go.Fw
/- More operations on numbers: xor, complement, quotient, rest. -/
namespace Go.Fw
variable {P : Program} {C : World → Prop} {env : Env} {dst : Option Tmp} {ty : TypeId} {pos : String} {af : Array Edge} {gd : Option (Nat × Bool)}
theorem ev_xor {k : IntKind} {x y : Operand} {T U : TypeId} {a b : Int} (m : Int) (hx : env.ev x = some (.int k a)) (hy : env.ev y = some (.int k b)) (hm : k.wrap (BitVec.ofInt k.bits a ^^^ BitVec.ofInt k.bits b).toNat = m) : Ev P C env ⟨dst, .binOp .xor T x y U, ty, pos, af, gd⟩ (.int k m) := by
  intro ρ hρ w _;subst hm;simp [execOp, hρ x _ hx, hρ y _ hy, eqGuard, binOp, Op.intBits]
theorem ev_quo {k : IntKind} {x y : Operand} {T U : TypeId} {a b : Int} (m : Int) (hx : env.ev x = some (.int k a)) (hy : env.ev y = some (.int k b)) (hb : b ≠ 0) (hm : k.wrap (a.tdiv b) = m) : Ev P C env ⟨dst, .binOp .quo T x y U, ty, pos, af, gd⟩ (.int k m) := by
  intro ρ hρ w _;subst hm;simp [execOp, hρ x _ hx, hρ y _ hy, eqGuard, binOp, Op.intDiv, hb]
theorem ev_rem {k : IntKind} {x y : Operand} {T U : TypeId} {a b : Int} (m : Int) (hx : env.ev x = some (.int k a)) (hy : env.ev y = some (.int k b)) (hb : b ≠ 0) (hm : a.tmod b = m) : Ev P C env ⟨dst, .binOp .rem T x y U, ty, pos, af, gd⟩ (.int k m) := by
  intro ρ hρ w _;subst hm;simp [execOp, hρ x _ hx, hρ y _ hy, eqGuard, binOp, Op.intDiv, hb]
theorem ev_com {k : IntKind} {x : Operand} {T : TypeId} {a : Int} (m : Int) (hx : env.ev x = some (.int k a)) (hm : k.wrap (BitVec.ofInt k.bits (if k.signed then -1 else k.max) ^^^ BitVec.ofInt k.bits a).toNat = m) : Ev P C env ⟨dst, .unOp .xor T x, ty, pos, af, gd⟩ (.int k m) := by
  intro ρ hρ w _;subst hm;simp [execOp, hρ x _ hx, Op.unary, Op.intBits]
/-- An array from a place on, as a slice. -/
theorem ev_sliceA_lo {x y : Operand} {T e : TypeId} {n sz b o l : Nat} (ht : arrT P T = some (n, e, sz)) (hx : env.ev x = some (.pointer (some ⟨b, o, none⟩))) (hy : env.ev y = some (.int .i64 (l : Int))) (hl : l < n) :
    Ev P C env ⟨dst, .slice T x (some y) none none, ty, pos, af, gd⟩ (.slice (some ⟨b, o + l * sz, none⟩) (n - l) (n - l)) := by
  intro ρ hρ w _;unfold arrT at ht;split at ht
  · rename_i n' e' hu
    cases hq : P.info? e' with
    | none => simp [hq] at ht
    | some inf =>
      simp [hq] at ht;obtain ⟨rfl, rfl, rfl⟩ := ht;have he : P.elem T = e' := by simp [Program.elem, hu]
      have hn : P.arrayLen T = n' := by simp [Program.arrayLen, hu]
      have h := run_sliceAt_array_l (P := P) w T ⟨b, o, none⟩ (by rw [he, hn]; exact hu) .i64 (l : Int) (by omega) (by rw [hn]; omega);have e0 : (⟨b, o, none⟩ : Addr).add (l * inf.size) = ⟨b, o + l * inf.size, none⟩ := by rw [Addr.add_mid]
      have e1 : ¬ n' = l := by omega
      simp [sizeOf, typeInfo, he, hn, hq, slicedAt, e0, e1] at h;simp [execOp, hρ x _ hx, hρ y _ hy, h]
  · cases ht
theorem ev_indexSK {ik : IntKind} {x ix : Operand} {T : TypeId} {s : ByteArray} {k : Nat} (ht : P.underlying T = some .string) (hx : env.ev x = some (.string s)) (hi : env.ev ix = some (.int ik (k : Int))) (hk : k < s.size) :
    Ev P C env ⟨dst, .index T x ix, ty, pos, af, gd⟩ (.int .u8 s[k].toNat) := by
  intro ρ hρ w _;have h := run_index_string (P := P) w T s ik (k : Int) ht;rw [dif_pos (by omega)] at h;simp [execOp, hρ x _ hx, hρ ix _ hi, h]
end Go.Fw
/- More of the walk by partial frames: append to a row that is full; calls of what has no body. -/
namespace Go.Fw
section
variable {P : Program} {C : World → Prop} {env : Env} {dst : Option Tmp} {ty : TypeId} {pos : String} {af : Array Edge} {gd : Option (Nat × Bool)} {w : World}
/-- append(x, y...), x a slice without room, wherever it lies: a new row. -/
theorem t_appendFull {x y : Operand} {T e sz by_ n m cap c : Nat} {xs news : List Value} {b o b2 o2 : Nat} (ht : elemF P T e sz by_ = true) (hx : env.ev x = some (.slice (some ⟨b, o, none⟩) n cap)) (hy : env.ev y = some (.slice (some ⟨b2, o2, none⟩) m c))
    (hxl : xs.length = n * sz) (hcx : Cells w b o xs) (hl : news.length = m * sz) (hc : Cells w b2 o2 news) (hg : cap < n + m) (h63 : n + m ≤ maxLen) (hby : (n + m) * by_ ≤ 140737488355328) :
    OpT P env ⟨dst, .call { callee := .builtin .append, args := #[x, y], argTypes := #[T, T] }, ty, pos, af, gd⟩ w fun v' w' => ∃ b' : Nat, Own w' e sz v' (n + m) (xs ++ news) b' ∧ Ext w w' ∧ w.heap.size ≤ b' ∧ b' < w'.heap.size := by
  intro a ha next Q hn
  obtain ⟨i, z, hu, hi, hsz, hbt, hpos, hz, hzs⟩ := elemF_spec ht;subst hsz hbt;have hsmall : n + m ≤ 9223372036854775807 := by simp only [maxLen] at h63; omega
  have hr := run_append_grow (P := P) w T ty e i z hu hi hz ⟨b, o, none⟩ n cap xs hxl (fun j u hj => by rw [Addr.add_mid]; exact hcx j u hj) ⟨b2, o2, none⟩ m c news hl (fun j u hj => by rw [Addr.add_mid]; exact hc j u hj) hg (by omega) (growslice_fits hg hby);have hlen : (xs ++ news).length = (n + m) * i.size := by rw [List.length_append, hxl, hl, Nat.add_mul]
  unfold Oper.wp execOp;simp only [resolve, invoke, builtin, Sem.run_bind, Sem.run_pure, Result.andThen_ok, List.map_toArray, List.map_cons, List.map_nil, ha x _ hx, ha y _ hy, hr];refine hn _ _ ⟨w.heap.size, grownRow (w := w) (e := e) (z := z) (cs := xs ++ news) hzs hlen (grownCap_ge w (n + m) cap e) (grownCap_le_maxLen w (n + m) cap e h63) (by simp), ext_drew_alloc w _, Nat.le_refl _, by simp⟩
/-- A field of a struct's value, of one cell. -/
theorem ev_field1 {x : Operand} {T : TypeId} {i : Nat} {fs : Array Field} {fd : Field} {cs : List Value} {v : Value} (hu : P.underlying T = some (.struct fs)) (hi : fs[i]? = some fd) (hc : isCellT P fd.type = true) (hx : env.ev x = some (.agg ⟨cs⟩)) (hv : cs[fd.offset]? = some v) :
    Ev P C env ⟨dst, .field T x i, ty, pos, af, gd⟩ v := by
  intro ρ hρ w _;have h := part1 (P := P) hc hv w;simp [execOp, hρ x _ hx, Instr.field, asAgg, run_underlying hu, hi, h]
end
end Go.Fw
/- More of the walk by partial frames: parts of rows, copy and clear of rows of any elements, append of so many zeros to a row without room. -/
namespace Go.Fw
section
variable {P : Program} {C : World → Prop} {env : Env} {dst : Option Tmp} {ty : TypeId} {pos : String} {af : Array Edge} {gd : Option (Nat × Bool)} {w : World}
theorem ev_sliceR_lh {x lo hi : Operand} {T e : TypeId} {sz l n len cap b o : Nat} (ht : elemT P T = some (e, sz)) (hx : env.ev x = some (.slice (some ⟨b, o, none⟩) len cap)) (hl : env.ev lo = some (.int .i64 (l : Int))) (hh : env.ev hi = some (.int .i64 (n : Int))) (h1 : l ≤ n) (h2 : n ≤ cap) (h3 : l < cap) :
    Ev P C env ⟨dst, .slice T x (some lo) (some hi) none, ty, pos, af, gd⟩ (.slice (some ⟨b, o + l * sz, none⟩) (n - l) (cap - l)) := by
  intro ρ hρ w _;unfold elemT at ht;split at ht
  · rename_i e' hu
    cases hq : P.info? e' with
    | none => simp [hq] at ht
    | some inf =>
      simp [hq] at ht;obtain ⟨rfl, rfl⟩ := ht;have hne : ¬ cap = l := by omega
      simp [execOp, hρ x _ hx, hρ lo _ hl, hρ hi _ hh, Instr.sliceAt, Instr.slice, run_underlying hu, Instr.sliceBounds, sliceBound_run h1, sliceBound_run h2, sizeOf, typeInfo, hq, hne, Addr.add_mid]
  · cases ht
end
end Go.Fw
/- The walk by partial frames: a region whose order is open and whose operations, but for a tail, come up in whatever order: each yields one value in every world of S and ends in a world of S. -/
namespace Go.Fw
def memN : List Nat → Nat → Bool
  | [], _ => false
  | x :: r, t => Nat.beq x t || memN r t
theorem memN_iff : ∀ {l : List Nat} {t : Nat}, memN l t = true ↔ t ∈ l
  | [], t => by simp [memN]
  | x :: r, t => by
    simp only [memN, Bool.or_eq_true, List.mem_cons, memN_iff];constructor
    · rintro (h | h)
      · exact .inl (Nat.eq_of_beq_eq_true h).symm
      · exact .inr h
    · rintro (h | h)
      · subst h; exact .inl (Nat.beq_refl _)
      · exact .inr h
/-- What the slots of ts hold. -/
def Env.only (ts : List Nat) : Env → Env
  | [] => []
  | (t, v) :: r => bif memN ts t then (t, v) :: Env.only ts r else Env.only ts r
theorem Env.only_get {ts : List Nat} : ∀ {env : Env} {t : Nat}, (env.only ts).get t = bif memN ts t then env.get t else none
  | [], t => by cases memN ts t <;> rfl
  | (s, v) :: r, t => by
    unfold Env.only
    cases hs : memN ts s with
    | true =>
      simp only [cond_true, Env.get]
      cases hb : Nat.beq s t with
      | true =>
        obtain rfl := Nat.eq_of_beq_eq_true hb;simp [hs]
      | false => simp only [cond_false]; exact Env.only_get
    | false =>
      simp only [cond_false, Env.get];rw [Env.only_get]
      cases hb : Nat.beq s t with
      | true =>
        obtain rfl := Nat.eq_of_beq_eq_true hb;simp [hs]
      | false => rfl
def dstAt (ops : Array Oper) (i : Nat) : Option Nat := (ops[i]?).bind (·.dst)
def edgeTo (o : Oper) (j : Nat) : Bool := o.after.any fun e => Region.binds .any e && Nat.beq e.on j
def notIn (ts : List Nat) : Option Nat → Bool
  | none => true
  | some d => !memN ts d
def apartD : Option Nat → Option Nat → Bool
  | some d, some d' => !Nat.beq d d'
  | _, _ => true
/-- Operations of which each waits for those ahead alone, and whose slots are written once. -/
def chkF (ops : Array Oper) : List Nat → List (Nat × List Nat) → Bool
  | _, [] => true
  | done, (i, ts) :: r => (match ops[i]? with
      | some o => o.guard.isNone && (o.after.all fun e => !Region.binds .any e || memN done e.on) && notIn ts o.dst && !memN done i && r.all fun q => apartD o.dst (dstAt ops q.1) && notIn ts (dstAt ops q.1) && !Nat.beq i q.1
      | none => false) && chkF ops (i :: done) r
def depF (ops : Array Oper) (ord : List (Nat × List Nat)) : Bool :=
  ord.all fun p => ord.all fun q => match dstAt ops q.1 with
    | none => true
    | some d => !memN p.2 d || (match ops[p.1]? with | some o => edgeTo o q.1 | none => false)
def tailF (ops : Array Oper) (free : List Nat) : Bool :=
  (List.range ops.size).all fun j => memN free j || free.all fun i => waits ops 24 j i
def canonF (n : Nat) (free : List Nat) : Array Bool := ((List.range n).map (memN free)).toArray
def drawOkQ (n : Nat) (ops : Array Oper) (ord : List (Nat × List Nat)) (tl : List Nat) (tail : List (Bool × Nat)) : Bool :=
  Region.noSelect ops && dstOk n ops.toList && Nat.beq (ord.length + tail.length) ops.size && chkF ops [] ord && depF ops ord && tailF ops (ord.map (·.1)) && seqOk ops tl tail (canonF ops.size (ord.map (·.1)))

section
variable {P : Program} {f : FuncId} {n : Nat} {k : List Item} {env : Env} {w : World} {R : Value → World → Prop} {ops : Array Oper} {S : World → Prop}
/-- Operations in whatever order, and Z holds of what the slots hold behind them. -/
def RunQ (P : Program) (ops : Array Oper) (S : World → Prop) : List (Nat × List Nat) → (Env → Prop) → Env → Prop
  | [], Z, env => Z env
  | (i, ts) :: r, Z, env => ∃ o v, ops[i]? = some o ∧ (∀ w, S w → OpT P (env.only ts) o w fun u w' => (∀ d, o.dst = some d → u = v) ∧ S w') ∧ RunQ P ops S r Z (match o.dst with | some d => (d, v) :: env | none => env)

theorem Agree.le {E E' : Env} {ρ : Operand → Value} (h : Agree E' ρ) (hle : ∀ t u, E.get t = some u → E'.get t = some u) : Agree E ρ := by
  intro x u hx
  cases x with
  | tmp t => exact h (.tmp t) u (hle t u hx)
  | const v => exact h (.const v) u hx
  | global g => exact h (.global g) u hx
  | func g => exact h (.func g) u hx

def Held (P : Program) (ops : Array Oper) (S : World → Prop) (envF : Env) (p : Nat × List Nat) : Prop :=
  ∃ o, ops[p.1]? = some o ∧ ∀ w, S w → OpT P (envF.only p.2) o w fun u w' => (∀ d, o.dst = some d → envF.get d = some u) ∧ S w'
theorem OpT.weaken {E E' : Env} {o : Oper} {K K' : Value → World → Prop} (h : OpT P E o w K) (hle : ∀ t u, E.get t = some u → E'.get t = some u) (hk : ∀ v w, K v w → K' v w) : OpT P E' o w K' :=
  fun a ha next Q hn => h a (ha.le hle) next Q fun v w' hkk => hn v w' (hk v w' hkk)
theorem OpT.imp {E : Env} {o : Oper} {K K' : Value → World → Prop} {w : World} (h : OpT P E o w K) (hk : ∀ v w, K v w → K' v w) : OpT P E o w K' := h.weaken (fun _ _ h => h) hk
theorem runQ_held {Z : Env → Prop} : ∀ (ord : List (Nat × List Nat)) (done : List Nat) (env : Env), chkF ops done ord = true → RunQ P ops S ord Z env →
    ∃ envF : Env, Z envF ∧ (∀ p ∈ ord, Held P ops S envF p) ∧ ∀ t, (∀ p ∈ ord, dstAt ops p.1 ≠ some t) → envF.get t = env.get t
  | [], _, env, _, h => ⟨env, h, by simp, fun _ _ => rfl⟩
  | (i, ts) :: r, done, env, hc, h => by
    obtain ⟨o, v, ho, hop, hr⟩ := h;simp only [chkF, ho, Bool.and_eq_true, List.all_eq_true] at hc;obtain ⟨⟨⟨⟨⟨hg, hed⟩, hown⟩, hnd⟩, hrest⟩, hc⟩ := hc;obtain ⟨envF, hz, hall, hkeep⟩ := runQ_held r _ _ hc hr;have hdst : dstAt ops i = o.dst := by simp [dstAt, ho]
    have hd : ∀ d, o.dst = some d → envF.get d = some v := by
      intro d hd
      rw [hkeep d (fun p hp he => by
        have := (hrest p hp).1.1;rw [hd, he] at this
        simp [apartD] at this)]
      simp [hd, Env.get]
    have hts : ∀ t, memN ts t = true → envF.get t = env.get t := by
      intro t ht
      rw [hkeep t (fun p hp he => by
        have := (hrest p hp).1.2;rw [he] at this
        simp [notIn, ht] at this)]
      cases hod : o.dst with
      | none => rfl
      | some d =>
        show Env.get ((d, v) :: env) t = env.get t;rw [Env.get];rw [hod] at hown
        cases hb : Nat.beq d t with
        | true =>
          obtain rfl := Nat.eq_of_beq_eq_true hb;simp [notIn, ht] at hown
        | false => rfl
    refine ⟨envF, hz, fun p hp => ?_, fun t ht => ?_⟩
    · rcases List.mem_cons.1 hp with rfl | hp
      · refine ⟨o, ho, fun w hS => (hop w hS).weaken (fun t u hu => ?_) fun u w' hu => ⟨fun d he => by rw [hd d he, hu.1 d he], hu.2⟩⟩;rw [Env.only_get] at hu ⊢
        cases hm : memN ts t with
        | false => rw [hm] at hu; cases hu
        | true => rw [hm] at hu; simpa [hts t hm] using hu
      · exact hall p hp
    · rw [hkeep t (fun p hp => ht p (List.mem_cons_of_mem _ hp))];have h1 := ht (i, ts) (by simp);simp only [hdst] at h1
      cases hod : o.dst with
      | none => rfl
      | some d =>
        simp only [Env.get]
        cases hb : Nat.beq d t with
        | true => exact absurd (by rw [hod, Nat.eq_of_beq_eq_true hb]) h1
        | false => rfl

theorem first_rem {rem : List Nat} : ∀ (ord : List (Nat × List Nat)) (done : List Nat), chkF ops done ord = true → (∀ i ∈ done, i ∉ rem) → (∃ p ∈ ord, p.1 ∈ rem) →
    ∃ i o, i ∈ rem ∧ ops[i]? = some o ∧ ∀ e ∈ o.after, Region.binds .any e = true → e.on ∉ rem ∧ (e.on ∈ done ∨ ∃ p ∈ ord, p.1 = e.on)
  | [], _, _, _, h => by obtain ⟨p, hp, _⟩ := h; cases hp
  | (i, ts) :: r, done, hc, hd, h => by
    have hc0 := hc;simp only [chkF, Bool.and_eq_true] at hc;obtain ⟨hi, hc⟩ := hc
    cases ho : ops[i]? with
    | none => rw [ho] at hi; cases hi
    | some o =>
      rw [ho] at hi;simp only [Bool.and_eq_true, Array.all_eq_true_iff_forall_mem] at hi;by_cases hm : i ∈ rem
      · refine ⟨i, o, hm, ho, fun e he hb => ?_⟩;have h1 := hi.1.1.1.2 e he;rw [hb] at h1;have h2 : e.on ∈ done := memN_iff.1 (by simpa using h1);exact ⟨hd _ h2, .inl h2⟩
      · obtain ⟨j, oj, hj, hoj, hall⟩ := first_rem r (i :: done) hc (fun j hj => by
          rcases List.mem_cons.1 hj with rfl | hj
          · exact hm
          · exact hd j hj) (by
          obtain ⟨p, hp, hpr⟩ := h;rcases List.mem_cons.1 hp with rfl | hp
          · exact absurd hpr hm
          · exact ⟨p, hp, hpr⟩)
        refine ⟨j, oj, hj, hoj, fun e he hb => ?_⟩;obtain ⟨h1, h2⟩ := hall e he hb;refine ⟨h1, ?_⟩;rcases h2 with h2 | ⟨p, hp, hpe⟩
        · rcases List.mem_cons.1 h2 with h2 | h2
          · exact .inr ⟨(i, ts), by simp, h2.symm⟩
          · exact .inl h2
        · exact .inr ⟨p, List.mem_cons_of_mem _ hp, hpe⟩
theorem chk_nodup : ∀ (ord : List (Nat × List Nat)) (done : List Nat), chkF ops done ord = true → (ord.map (·.1)).Nodup
  | [], _, _ => by simp
  | (i, ts) :: r, done, hc => by
    simp only [chkF, Bool.and_eq_true] at hc;obtain ⟨hi, hc⟩ := hc
    cases ho : ops[i]? with
    | none => rw [ho] at hi; cases hi
    | some o =>
      rw [ho] at hi;simp only [Bool.and_eq_true, List.all_eq_true] at hi;rw [List.map_cons, List.nodup_cons];refine ⟨fun h => ?_, chk_nodup r _ hc⟩;obtain ⟨p, hp, hpe⟩ := List.mem_map.1 h;have := (hi.2 p hp).2;rw [hpe] at this;simp at this
theorem chk_guard : ∀ (ord : List (Nat × List Nat)) (done : List Nat), chkF ops done ord = true → ∀ p ∈ ord, ∃ o, ops[p.1]? = some o ∧ o.guard = none
  | [], _, _ => by simp
  | (i, ts) :: r, done, hc => by
    intro p hp;simp only [chkF, Bool.and_eq_true] at hc;obtain ⟨hi, hc⟩ := hc;rcases List.mem_cons.1 hp with rfl | hp
    · cases ho : ops[i]? with
      | none => rw [ho] at hi; cases hi
      | some o =>
        rw [ho] at hi;simp only [Bool.and_eq_true] at hi;exact ⟨o, rfl, by simpa using hi.1.1.1.1⟩
    · exact chk_guard r _ hc p hp

theorem of_free {Q : Exit → Act → World → Prop} {ord : List (Nat × List Nat)} {envF : Env} {m : Nat} (hd : dstOk n ops.toList = true)
    (hc : chkF ops [] ord = true) (hdep : depF ops ord = true) (htl : tailF ops (ord.map (·.1)) = true) (hall : ∀ p ∈ ord, Held P ops S envF p)
    (hend : ∀ a w, Fits n envF a → S w → Closed ops (canonF ops.size (ord.map (·.1))) → wpAny P .any ops Q m (canonF ops.size (ord.map (·.1))) a w) :
    ∀ (q : Nat) (rem : List Nat) (listed : Array Bool) (a : Act) (w : World), rem.length = q → rem.Nodup → (∀ i ∈ rem, i ∈ ord.map (·.1)) → listed.size = ops.size →
      (∀ j, j < ops.size → listed.getD j false = (memN (ord.map (·.1)) j && !memN rem j)) → Closed ops listed → S w → a.tmps.size = n → a.defers = [] →
      (∀ t u, envF.get t = some u → (∀ j ∈ rem, dstAt ops j ≠ some t) → a.tmps[t]? = some u) → wpAny P .any ops Q (q + m) listed a w := by
  intro q
  induction q with
  | zero =>
    intro rem listed a w hl hn hsub hsz hli hcl hS has hdf hinv;obtain rfl := List.eq_nil_of_length_eq_zero hl
    have he : listed = canonF ops.size (ord.map (·.1)) := by
      apply Array.ext
      · simp [canonF, hsz]
      · intro j h1 h2;have := hli j (by omega);rw [Array.getD_eq_getD_getElem?, Array.getElem?_eq_getElem h1] at this;simp only [Option.getD_some] at this;rw [this];simp [canonF, memN]
    rw [Nat.zero_add];subst he;exact hend a w ⟨has, fun t u h => hinv t u h (by simp), hdf⟩ hS hcl
  | succ q ih =>
    intro rem listed a w hl hn hsub hsz hli hcl hS has hdf hinv
    have hof : ∀ j, j ∈ rem → j < ops.size := by
      intro j hj;obtain ⟨p, hp, rfl⟩ := List.mem_map.1 (hsub j hj);obtain ⟨o, ho, _⟩ := hall p hp;exact (Array.getElem?_eq_some_iff.1 ho).1
    have hun : ∀ j, j ∈ rem → listed.getD j true = false := by
      intro j hj;have h1 := hli j (hof j hj);rw [memN_iff.2 hj] at h1;have h2 : j < listed.size := by rw [hsz]; exact hof j hj
      rw [Array.getD_eq_getD_getElem?, Array.getElem?_eq_getElem h2] at h1 ⊢
      simpa using h1
    rw [show q + 1 + m = (q + m) + 1 by omega];refine ⟨fun h0 => ?_, fun i hi => ?_⟩
    · exfalso
      obtain ⟨j0, hj0⟩ : ∃ j, j ∈ rem := by
        cases rem with
        | nil => simp at hl
        | cons x r => exact ⟨x, by simp⟩
      obtain ⟨p, hp, hpe⟩ := List.mem_map.1 (hsub j0 hj0);obtain ⟨i, o, hir, ho, hed⟩ := first_rem (rem := rem) ord [] hc (by simp) ⟨p, hp, hpe ▸ hj0⟩
      have : i ∈ Region.ready .any ops listed := mem_ready.2 ⟨hun i hir, o, ho, fun e he hb => by
        obtain ⟨h1, h2⟩ := hed e he hb;obtain ⟨p', hp', hpe'⟩ := h2.resolve_left (by simp);have hmem : e.on ∈ ord.map (·.1) := List.mem_map.2 ⟨p', hp', hpe'⟩;obtain ⟨o', ho', _⟩ := hall p' hp';have hlt : e.on < ops.size := by rw [← hpe']; exact (Array.getElem?_eq_some_iff.1 ho').1
        rw [hli _ hlt, memN_iff.2 hmem]
        cases hm : memN rem e.on with
        | false => rfl
        | true => exact absurd (memN_iff.1 hm) h1⟩
      rw [h0] at this;cases this
    · obtain ⟨hiu, o, ho, hed⟩ := mem_ready.1 hi;have hlt : i < ops.size := (Array.getElem?_eq_some_iff.1 ho).1
      have hir : i ∈ rem := by
        cases hm : memN rem i with
        | true => exact memN_iff.1 hm
        | false =>
          exfalso
          have h1 := hli i hlt;have h2 : i < listed.size := by omega
          rw [Array.getD_eq_getD_getElem?, Array.getElem?_eq_getElem h2] at h1 hiu;simp only [Option.getD_some] at h1 hiu;rw [hiu, hm] at h1
          cases hf : memN (ord.map (·.1)) i with
          | true => rw [hf] at h1; cases h1
          | false =>
            have h3 := htl;simp only [tailF, List.all_eq_true, List.mem_range, Bool.or_eq_true] at h3
            obtain ⟨j0, hj0⟩ : ∃ j, j ∈ rem := by
              cases rem with
              | nil => simp at hl
              | cons x r => exact ⟨x, by simp⟩
            have h4 := ((h3 i hlt).resolve_left (by rw [hf]; simp)) j0 (hsub j0 hj0);have h5 := waits_listed hcl 24 i o ho hed h4;have h6 := hli j0 (hof j0 hj0);rw [h5, memN_iff.2 hj0] at h6;simp at h6
      obtain ⟨p, hp, rfl⟩ := List.mem_map.1 (hsub i hir);obtain ⟨o', ho', hop⟩ := hall p hp;obtain ⟨o'', ho'', hg⟩ := chk_guard ord [] hc p hp;rw [ho] at ho' ho'';cases ho';cases ho''
      have hag : Agree (envF.only p.2) a.eval := by
        have hget : ∀ t u, (envF.only p.2).get t = some u → a.tmps[t]? = some u := by
          intro t u hu;rw [Env.only_get] at hu
          cases hm : memN p.2 t with
          | false => rw [hm] at hu; cases hu
          | true =>
            rw [hm] at hu;refine hinv t u hu fun j hj he => ?_
            obtain ⟨q', hq', rfl⟩ := List.mem_map.1 (hsub j hj);simp only [depF, List.all_eq_true] at hdep;have h1 := hdep p hp q' hq';rw [he] at h1;simp only [hm, ho, Bool.not_true, Bool.false_or, edgeTo, Array.any_eq_true', Bool.and_eq_true] at h1;obtain ⟨e, he', hb, hon⟩ := h1;have h2 := hed e he' hb;rw [Nat.eq_of_beq_eq_true hon] at h2;have h3 := hli _ (hof _ hj);rw [h2, memN_iff.2 hj] at h3;simp at h3
        intro x u hx
        cases x with
        | tmp t =>
          have := hget t u hx;simp [Act.eval, this]
        | const v => simpa [Env.ev, Act.eval] using hx
        | global g => simpa [Env.ev, Act.eval] using hx
        | func g => simpa [Env.ev, Act.eval] using hx
      show wpOp _ _ _ _ _ _ _;unfold wpOp;rw [ho];simp only [];rw [if_pos (by simp [Region.wanted, hg])];refine .inl (hop w hS a hag _ _ fun v w' hk => ?_);obtain ⟨hv, hS'⟩ := hk;have hdd : ∀ d, o.dst = some d → d < n := dstOk_mem hd (by simpa using ho);have hmem : ∀ j, j ∈ rem.erase p.1 ↔ j ∈ rem ∧ j ≠ p.1 := fun j => by rw [hn.mem_erase_iff]; exact And.comm
      refine ih (rem.erase p.1) _ _ _ (by rw [List.length_erase_of_mem hir]; omega) (hn.erase _) (fun j hj => hsub j ((hmem j).1 hj).1) (by simp [hsz]) (fun j hj => ?_) (closed_set hcl hi) hS' ?_ ?_ ?_
      · by_cases hji : p.1 = j
        · subst hji;rw [Array.getD_eq_getD_getElem?, Array.getElem?_setIfInBounds_self_of_lt (by omega)]
          have h1 : memN (rem.erase p.1) p.1 = false := by
            cases hm : memN (rem.erase p.1) p.1 with
            | false => rfl
            | true => exact absurd rfl ((hmem _).1 (memN_iff.1 hm)).2
          rw [h1, memN_iff.2 (hsub _ hir)];rfl
        · rw [getD_set_ne false hji, hli j hj]
          have h1 : memN (rem.erase p.1) j = memN rem j := by
            cases hm : memN rem j with
            | true => exact memN_iff.2 ((hmem j).2 ⟨memN_iff.1 hm, Ne.symm hji⟩)
            | false =>
              cases hm' : memN (rem.erase p.1) j with
              | false => rfl
              | true => rw [memN_iff.2 ((hmem j).1 (memN_iff.1 hm')).1] at hm; cases hm
          rw [h1]
      · cases hod : o.dst with
        | none => exact has
        | some d => simp [Act.put, has]
      · cases hod : o.dst with
        | none => exact hdf
        | some d => exact hdf
      · intro t u hu hnr;have hdst : dstAt ops p.1 = o.dst := by simp [dstAt, ho]
        cases hod : o.dst with
        | none =>
          refine hinv t u hu fun j hj => ?_
          by_cases hji : j = p.1
          · subst hji; rw [hdst, hod]; simp
          · exact hnr j ((hmem j).2 ⟨hj, hji⟩)
        | some d =>
          by_cases htd : d = t
          · subst htd;have := hv d hod;rw [hu] at this;cases this;have := hdd d hod;simp [Act.put, has, this]
          · have h1 := hinv t u hu fun j hj => by
              by_cases hji : j = p.1
              · subst hji; rw [hdst, hod]; simpa using htd
              · exact hnr j ((hmem j).2 ⟨hj, hji⟩)
            simp [Act.put, Array.getElem?_setIfInBounds_ne htd, h1]

theorem run_drawQ {id : Nat} (hm : P.follows .mixedOrders = true) (S : World → Prop) (ord : List (Nat × List Nat)) (tl : List Nat) (tail : List (Bool × Nat)) (hok : drawOkQ n ops ord tl tail = true)
    (hS : ∀ w', Ext w w' → S w') (h : RunQ P ops S ord (fun env => ∀ w', S w' → RunD P f n ops S tl tail k env w' R) env) : Run P f n (.code (.region id ops true) :: k) env w R := by
  simp only [drawOkQ, Bool.and_eq_true] at hok;obtain ⟨⟨⟨⟨⟨⟨h1, h2⟩, h3⟩, h4⟩, h5⟩, h6⟩, h7⟩ := hok;refine run_of_wp fun a ha => ?_
  refine wp_region_any hm ?_;obtain ⟨envF, hz, hall, hkeep⟩ := runQ_held ord [] env h4 h;rw [show ops.size = ord.length + tail.length from (Nat.eq_of_beq_eq_true h3).symm]
  have hlen : ∀ p ∈ ord, p.1 < ops.size := fun p hp => by
    obtain ⟨o, ho, _⟩ := hall p hp;exact (Array.getElem?_eq_some_iff.1 ho).1
  have := of_free (P := P) (Q := QR P f n k R) (S := S) (m := tail.length) h2 h4 h5 h6 hall (fun a w ha' hS' hcl => ?_) ord.length (ord.map (·.1)) (Array.replicate ops.size false) a w.drew (by simp) (chk_nodup ord [] h4) (fun i hi => hi) (by simp) (fun j hj => by
      rw [Array.getD_eq_getD_getElem?, Array.getElem?_replicate, if_pos hj]
      cases memN (ord.map (·.1)) j <;> rfl) (closed_none _) (hS _ (Ext.drew w)) ha.size ha.defers (fun t u hu hn => ?_)
  · rw [show ord.length + tail.length = ops.size from Nat.eq_of_beq_eq_true h3] at this ⊢;exact this
  · exact wpAny_of_G (S := S) (pre := fun i => !tl.contains i) _ _ _ _ (wpAnyG_of_seq (P := P) (Q := QR P f n k R) (S := S) (tl := tl) (fun _ _ _ h => h) h1 tail _ a w hcl h7 (hz w hS' h2 a ha'))
  · refine ha.get t u ?_;rw [← hkeep t (fun p hp => hn p.1 (List.mem_map.2 ⟨p, hp, rfl⟩))];exact hu
variable {d : Nat} {op : Op} {ty : TypeId} {pos : String} {af : Array Edge} {i : Nat} {ts : List Nat} {ord : List (Nat × List Nat)} {Z : Env → Prop}
theorem runq_nil (h : Z env) : RunQ P ops S [] Z env := h
theorem runq_ev {v : Value} (ho : ops[i]? = some ⟨some d, op, ty, pos, af, none⟩) (he : Ev P S (env.only ts) ⟨some d, op, ty, pos, af, none⟩ v) (h : RunQ P ops S ord Z ((d, v) :: env)) : RunQ P ops S ((i, ts) :: ord) Z env :=
  ⟨_, v, ho, fun w hw a ha next Q hn => by
    unfold Oper.wp;rw [he a.eval ha w hw]
    exact hn v w ⟨fun _ _ => rfl, hw⟩, h⟩
theorem runq_op {v : Value} (ho : ops[i]? = some ⟨some d, op, ty, pos, af, none⟩) (he : ∀ w, S w → OpT P (env.only ts) ⟨some d, op, ty, pos, af, none⟩ w fun u w' => u = v ∧ S w') (h : RunQ P ops S ord Z ((d, v) :: env)) : RunQ P ops S ((i, ts) :: ord) Z env :=
  ⟨_, v, ho, fun w hw a ha next Q hn => he w hw a ha next Q fun u w' hu => hn u w' ⟨fun _ _ => hu.1, hu.2⟩, h⟩
/-- A number that is known by an equation. -/
theorem runq_absE {kk : IntKind} {m : Int} (h : ∀ m', m' = m → RunQ P ops S ord Z ((d, .int kk m') :: env)) : RunQ P ops S ord Z ((d, .int kk m) :: env) := h m rfl
end
end Go.Fw
/- The walk by partial frames: a region whose order is open, where at some places one of two or of three operations may come up. -/
namespace Go.Fw
/-- Orders: one, or a begin and two or three ways to go on, each with an operation of its own first. -/
inductive OU where
  | seq (ord : List (Bool × Nat))
  | alt (pre : List (Bool × Nat)) (t u : OU)
  | alt3 (pre : List (Bool × Nat)) (t u v : OU)
def OU.hd : OU → Option Nat
  | .seq ord => hdL ord
  | .alt pre _ _ => hdL pre
  | .alt3 pre _ _ _ => hdL pre
def treeOkU (ops : Array Oper) (tl : List Nat) : OU → Nat → Bool → Array Bool → Bool
  | .seq ord, m, first, listed => Nat.beq ord.length m && seqOkF ops tl ord first listed fun l => (Region.ready .any ops l).isEmpty
  | .alt pre t u, m, first, listed => Nat.ble pre.length m && seqOkF ops tl pre first listed fun l =>
      (match t.hd, u.hd with | some i, some j => Region.ready .any ops l == [i, j] | _, _ => false) && treeOkU ops tl t (m - pre.length) true l && treeOkU ops tl u (m - pre.length) true l
  | .alt3 pre t u v, m, first, listed => Nat.ble pre.length m && seqOkF ops tl pre first listed fun l =>
      (match t.hd, u.hd, v.hd with | some i, some j, some k => Region.ready .any ops l == [i, j, k] | _, _, _ => false) && treeOkU ops tl t (m - pre.length) true l && treeOkU ops tl u (m - pre.length) true l && treeOkU ops tl v (m - pre.length) true l
def drawOkU (n : Nat) (ops : Array Oper) (tl : List Nat) (t : OU) : Bool :=
  Region.noSelect ops && dstOk n ops.toList && treeOkU ops tl t ops.size false (Array.replicate ops.size false)

section
variable {P : Program} {f : FuncId} {n : Nat} {k : List Item} {env : Env} {w : World} {R : Value → World → Prop} {ops : Array Oper}
def RunU (P : Program) (n : Nat) (ops : Array Oper) (S : World → Prop) (tl : List Nat) : OU → (Z : Env → World → Prop) → Env → World → Prop
  | .seq ord, Z, env, w => RunZ P n ops S tl ord Z env w
  | .alt pre t u, Z, env, w => RunZ P n ops S tl pre (fun env w => RunU P n ops S tl t Z env w ∧ RunU P n ops S tl u Z env w) env w
  | .alt3 pre t u v, Z, env, w => RunZ P n ops S tl pre (fun env w => RunU P n ops S tl t Z env w ∧ RunU P n ops S tl u Z env w ∧ RunU P n ops S tl v Z env w) env w
variable {S : World → Prop} {tl : List Nat} {Z Z' : Env → World → Prop}
end
end Go.Fw
/- What holds as long as only some blocks are turned. -/
namespace Go.Fw
/-- P holds in every world that grew out of w while only blocks of M were turned. -/
def Fz (M : Nat → Prop) (P : World → Prop) (w : World) : Prop := ∀ w', ExtB M w w' → P w'
theorem Fz.here {M : Nat → Prop} {P : World → Prop} {w : World} (h : Fz M P w) : P w := h w (ExtB.refl _ _)
theorem Fz.step {M M' : Nat → Prop} {P : World → Prop} {w w' : World} (h : Fz M P w) (e : ExtB M' w w') (hm : ∀ k, k < w.heap.size → M' k → M k) : Fz M P w' := fun _ e' => h _ ((e.mono hm).trans e')
/-- The blocks that may be turned from now on: those of before, or new ones. -/
theorem Fz.turn {M M' : Nat → Prop} {P : World → Prop} {w w' : World} (h : Fz M P w) (e : ExtB M w w') (hm : ∀ k, M' k → M k ∨ w.heap.size ≤ k) : Fz M' P w' := fun _ e' =>
  h _ (e.newB e' fun k hk => (hm k hk).elim Or.inr Or.inl)
theorem Fz.mono {M : Nat → Prop} {P Q : World → Prop} {w : World} (h : Fz M P w) (hq : ∀ w', P w' → Q w') : Fz M Q w := fun w' e => hq _ (h w' e)
theorem Fz.of {M : Nat → Prop} {P : World → Prop} {w : World} (h : ∀ w', ExtB M w w' → P w') : Fz M P w := h
end Go.Fw
/- Numbers and records as bytes, in plain lists: what wire writes and reads. -/
namespace Go.Fw

/-! ### What is written -/
def encU (u : Nat) : List UInt8 := if u < 128 then [UInt8.ofNat u] else UInt8.ofNat (u % 128 + 128) :: encU (u / 128)
termination_by u
decreasing_by omega
def clampN (v : Int) : Nat := (max 0 (min v 4611686018427387904)).toNat
def encN (v : Int) : List UInt8 := encU (clampN v)
def encNs (l : List Int) : List UInt8 := l.flatMap encN
def encBs (b : List UInt8) : List UInt8 := encN b.length ++ b

/-! ### What is read -/
structure RS where
  rest : List UInt8
  bad : Bool
def RS.fail : RS := ⟨[], true⟩
def RS.ok (s : RS) : Prop := s.bad = true → s.rest = []
def rdN (i u : Nat) : List UInt8 → Option (Nat × List UInt8)
  | [] => none
  | c :: r =>
    if 9 ≤ i ∨ (0 < i ∧ c = 0) then none
    else if c.toNat < 128 then (if 4611686018427387904 < u + c.toNat * 128 ^ i then none else some (u + c.toNat * 128 ^ i, r))
    else rdN (i + 1) (u + (c.toNat - 128) * 128 ^ i) r
def RS.num (s : RS) : Int × RS := match rdN 0 0 s.rest with
  | some (u, r) => (u, ⟨r, s.bad⟩)
  | none => (0, .fail)
def RS.raw (s : RS) (n : Int) : List UInt8 × RS :=
  if n < 0 ∨ (s.rest.length : Int) < n then ([], .fail) else (s.rest.take n.toNat, ⟨s.rest.drop n.toNat, s.bad⟩)
def RS.bytes (s : RS) : List UInt8 × RS := s.num.2.raw s.num.1
def RS.hash (s : RS) : List UInt8 × RS := let p := s.raw 32; (if p.1.length = 32 then p.1 else List.replicate 32 0, p.2)
def RS.whole (s : RS) : Bool := !s.bad && s.rest.isEmpty
def takenL {α : Type} (take : RS → α × RS) : Nat → List α → RS → List α × RS
  | 0, acc, s => (acc, s)
  | n + 1, acc, s => if s.bad = true then (acc, s) else takenL take n (acc ++ [(take s).1]) (take s).2

/-! ### A number is written in one way alone -/
theorem encU_small {u : Nat} (h : u < 128) : encU u = [UInt8.ofNat u] := by rw [encU, if_pos h]
theorem encU_more {u : Nat} (h : ¬ u < 128) : encU u = UInt8.ofNat (u % 128 + 128) :: encU (u / 128) := by rw [encU, if_neg h]
theorem encU_ne (u : Nat) : encU u ≠ [] := by
  by_cases h : u < 128
  · rw [encU_small h]; simp
  · rw [encU_more h]; simp
theorem clampN_nat {n : Nat} (h : n ≤ 4611686018427387904) : clampN (n : Int) = n := by unfold clampN; omega
/-- What was read is what is written of it. -/
theorem rdN_enc : ∀ (l : List UInt8) (i u n : Nat) (r : List UInt8), rdN i u l = some (n, r) → ∃ m, n = u + m * 128 ^ i ∧ l = encU m ++ r ∧ (0 < i → m ≠ 0) ∧ n ≤ 4611686018427387904
  | [], i, u, n, r, h => by simp [rdN] at h
  | c :: l, i, u, n, r, h => by
    rw [rdN] at h;split at h
    · cases h
    · rename_i h0
      have hc : c.toNat < 256 := c.toNat_lt;split at h
      · rename_i hlt
        split at h
        · cases h
        · rename_i hle
          simp only [Option.some.injEq, Prod.mk.injEq] at h;obtain ⟨rfl, rfl⟩ := h;refine ⟨c.toNat, rfl, ?_, fun hi hz => ?_, by omega⟩
          · rw [encU_small hlt]; simp
          · exact h0 (.inr ⟨hi, by apply UInt8.toNat_inj.1; simpa using hz⟩)
      · rename_i hge
        obtain ⟨m, hn, hl, hm, hb⟩ := rdN_enc l (i + 1) _ n r h;have hm0 := hm (by omega);refine ⟨m * 128 + (c.toNat - 128), ?_, ?_, fun _ => by omega, hb⟩
        · rw [hn, Nat.add_mul, Nat.mul_assoc, Nat.pow_succ, Nat.mul_comm 128 (128 ^ i)];omega
        · rw [encU_more (by omega)];have h1 : (m * 128 + (c.toNat - 128)) / 128 = m := by omega
          have h2 : (m * 128 + (c.toNat - 128)) % 128 = c.toNat - 128 := by omega
          rw [h1, h2, hl];have h3 : c.toNat - 128 + 128 = c.toNat := by omega
          rw [h3];simp
/-- What is written is read as it was. -/
theorem rdN_of_enc (r : List UInt8) : ∀ (k m i u : Nat), m < 128 ^ (k + 1) → i + k < 9 → (0 < i → m ≠ 0) → u + m * 128 ^ i ≤ 4611686018427387904 → rdN i u (encU m ++ r) = some (u + m * 128 ^ i, r)
  | k, m, i, u, hm, hi, h0, hb => by
    by_cases h : m < 128
    · rw [encU_small h];have h1 : (UInt8.ofNat m).toNat = m := by simp; omega
      simp only [List.cons_append, List.nil_append, rdN, h1];rw [if_neg, if_pos h, if_neg (by omega)];rintro (h2 | ⟨h2, h3⟩)
      · omega
      · have := congrArg UInt8.toNat h3;rw [h1] at this;exact h0 h2 this
    · rw [encU_more h];have h1 : (UInt8.ofNat (m % 128 + 128)).toNat = m % 128 + 128 := by simp; omega
      simp only [List.cons_append, rdN, h1];rw [if_neg, if_neg (by omega)]
      · cases k with
        | zero => simp at hm; omega
        | succ k =>
          have hp : m / 128 < 128 ^ (k + 1) := by
            rw [Nat.div_lt_iff_lt_mul (by omega), ← Nat.pow_succ];exact hm
          have e : u + (m % 128 + 128 - 128) * 128 ^ i + m / 128 * 128 ^ (i + 1) = u + m * 128 ^ i := by
            have h2 : m = m / 128 * 128 + m % 128 := by omega
            have h3 : m * 128 ^ i = (m / 128 * 128 + m % 128) * 128 ^ i := by rw [← h2]
            rw [h3, Nat.add_mul, Nat.pow_succ, Nat.add_sub_cancel, Nat.mul_comm (128 ^ i) 128, Nat.mul_assoc];omega
          have := rdN_of_enc r k (m / 128) (i + 1) (u + (m % 128 + 128 - 128) * 128 ^ i) hp (by omega) (fun _ => by omega) (by rw [e]; exact hb);rw [this, e]
      · rintro (h2 | ⟨h2, h3⟩)
        · omega
        · have := congrArg UInt8.toNat h3;rw [h1] at this;simp at this
end Go.Fw
/- Records as bytes, in plain lists: two ways to read them, and that they agree. -/
namespace Go.Fw

/-! ### What reads, and what is written of it -/
def Sticky {α : Type} (take : RS → α × RS) : Prop := ∀ s, s.bad = true → (take s).2.bad = true
def Reads {α : Type} (take : RS → α × RS) (enc : α → List UInt8) : Prop := ∀ s, (take s).2.bad = false → s.bad = false ∧ s.rest = enc (take s).1 ++ (take s).2.rest
/-- Two ways to read: alike, or neither gives what may be. -/
def Close {α : Type} (may : α → Bool) (t1 t2 : RS → α × RS) : Prop := ∀ s, t1 s = t2 s ∨ (((t1 s).2.bad = true ∨ may (t1 s).1 = false) ∧ ((t2 s).2.bad = true ∨ may (t2 s).1 = false))
def rowsA {α : Type} (take : RS → α × RS) : Nat → List α → RS → List α × RS
  | 0, acc, s => (acc, s)
  | n + 1, acc, s => rowsA take n (acc ++ [(take s).1]) (take s).2
theorem num_nonneg (s : RS) : 0 ≤ s.num.1 := by
  unfold RS.num;split <;> simp
theorem num_le (s : RS) : s.num.1 ≤ 4611686018427387904 := by
  unfold RS.num;split
  · rename_i u r hq
    obtain ⟨m, _, _, _, hb⟩ := rdN_enc _ _ _ _ _ hq;show (u : Int) ≤ _;omega
  · decide
theorem raw_len_le (s : RS) (n : Int) : (s.raw n).1.length ≤ s.rest.length := by
  unfold RS.raw;split <;> simp; omega
theorem hash_len (s : RS) : s.hash.1.length = 32 := by
  show (if (s.raw 32).1.length = 32 then (s.raw 32).1 else List.replicate 32 0).length = 32;split
  · assumption
  · simp
theorem rowsA_all {α : Type} {take : RS → α × RS} {p : α → Prop} (h : ∀ s, p (take s).1) : ∀ (n : Nat) (acc : List α) (s : RS), (∀ x ∈ acc, p x) → ∀ x ∈ (rowsA take n acc s).1, p x
  | 0, acc, s, ha => ha
  | n + 1, acc, s, ha => by
    unfold rowsA
    exact rowsA_all h n _ _ (fun x hx => by
        rcases List.mem_append.1 hx with hx | hx
        · exact ha x hx
        · obtain rfl : x = (take s).1 := by simpa using hx
          exact h s)
/-! ### Bytes of a kind as a record -/
def decP {α : Type} (kind : Int) (take : RS → α × RS) (may : α → Bool) (b : List UInt8) : Option α :=
  if (RS.mk b false).num.1 ≠ kind then none
  else if (take (RS.mk b false).num.2).2.whole && may (take (RS.mk b false).num.2).1 then some (take (RS.mk b false).num.2).1 else none
def kindS (kind : Int) (b : List UInt8) : RS := if (RS.mk b false).num.1 ≠ kind then .fail else (RS.mk b false).num.2
def decR {α : Type} (kind : Int) (take : RS → α × RS) (may : α → Bool) (enc : α → List UInt8) (b : List UInt8) : Option α :=
  if (take (kindS kind b)).2.whole && (may (take (kindS kind b)).1 && decide (b = enc (take (kindS kind b)).1)) then some (take (kindS kind b)).1 else none
def encP {α : Type} (kind : Int) (may : α → Bool) (enc : α → List UInt8) (x : α) : List UInt8 := if may x then encN kind ++ enc x else []
def encE {α : Type} (may : α → Bool) (x : α) : Int := if may x then 0 else 1
def optE {α : Type} : Option α → Int | some _ => 0 | none => 2

/-! ### Keys, roots -/
def numB (n : Int) : Bool := decide (0 ≤ n) && decide (n ≤ 1073741824)
def verB (n : Int) : Bool := decide (1 ≤ n) && decide (n ≤ 1073741824)
structure KeysP where
  keys : List (List UInt8)
  need : Int
structure RootP where
  ver : Int
  exp : Int
  roles : List KeysP
def isKeysP (k : KeysP) : Bool := decide (1 ≤ k.keys.length) && (decide (k.keys.length ≤ 4) && (decide (1 ≤ k.need) && (decide (k.need ≤ k.keys.length) && decide k.keys.Nodup)))
def isRootP (r : RootP) : Bool := r.roles.all isKeysP && (verB r.ver && numB r.exp)
def encKeys (k : KeysP) : List UInt8 := encN k.keys.length ++ (k.keys.flatMap id ++ encN k.need)
def encRoot (r : RootP) : List UInt8 := encN r.ver ++ (encN r.exp ++ r.roles.flatMap encKeys)
def RS.keys (f : Nat → Nat) (s : RS) : KeysP × RS :=
  (⟨(takenL RS.hash (f s.num.1.toNat) [] s.num.2).1, (takenL RS.hash (f s.num.1.toNat) [] s.num.2).2.num.1⟩, (takenL RS.hash (f s.num.1.toNat) [] s.num.2).2.num.2)
def RS.root (f : Nat → Nat) (s : RS) : RootP × RS :=
  (⟨s.num.1, s.num.2.num.1, (rowsA (RS.keys f) 4 [] s.num.2.num.2).1⟩, (rowsA (RS.keys f) 4 [] s.num.2.num.2).2)
end Go.Fw
/- Digests whose values are left open; rows of numbers of four bytes. -/
namespace Go.Fw
/-- Some digest. -/
def IsH (v : Value) : Prop := ∃ h : List UInt8, h.length = 32 ∧ v = .agg ⟨hcells h⟩
def u32s (xs : List Int) : List Value := xs.map (.int .u32)
theorem u32s_len (xs : List Int) : (u32s xs).length = xs.length := by simp [u32s]
theorem u32s_get {xs : List Int} {i : Nat} (h : i < xs.length) : (u32s xs)[i]? = some (.int .u32 xs[i]) := by simp [u32s, h]
theorem u32s_set (xs : List Int) (i : Nat) (v : Int) : (u32s xs).set i (.int .u32 v) = u32s (xs.set i v) := by simp [u32s, List.map_set]
theorem u32s_one (xs : List Int) : ∀ v ∈ u32s xs, v.oneCell' = true := by
  intro v hv;simp only [u32s, List.mem_map] at hv;obtain ⟨x, _, rfl⟩ := hv;rfl
theorem u32s_zero (n : Nat) : u32s (List.replicate n 0) = List.replicate n (.int .u32 0) := by simp [u32s]
theorem fill8 (k : IntKind) (a b c d e f g h : Int) : fillL ((List.range 8).map fun k => (k * 1, 1)) [(0, .int k a), (1, .int k b), (2, .int k c), (3, .int k d), (4, .int k e), (5, .int k f), (6, .int k g), (7, .int k h)] (List.replicate 8 (.int k 0)) = some [.int k a, .int k b, .int k c, .int k d, .int k e, .int k f, .int k g, .int k h] := by
  rw [show List.range 8 = [0, 1, 2, 3, 4, 5, 6, 7] from rfl];simp [fillL, Value.cells, List.replicate]
end Go.Fw
namespace Go.Fw
/-- A row of single cells is laid one by one. -/
theorem fill_row {ps : List (Nat × Nat)} : ∀ (xs pre z : List Value), (∀ v ∈ xs, v.cells = #[v]) → (∀ i, i < pre.length + xs.length → ps[i]? = some (i * 1, 1)) → z.length = xs.length → fillL ps ((xs.zipIdx pre.length).map fun x => (x.2, x.1)) (pre ++ z) = some (pre ++ xs)
  | [], pre, z, _, _, hz => by
    have : z = [] := List.eq_nil_of_length_eq_zero hz;subst this;simp [fillL]
  | v :: xs, pre, z, hv, hp, hz => by
    match z, hz with
    | y :: z, hz =>
      have h1 := hp pre.length (by simp);have h2 := hv v (by simp);rw [List.zipIdx_cons, List.map_cons];unfold fillL;simp only [h1];have h3 : v.cells.size = 1 ∧ pre.length * 1 + 1 ≤ (pre ++ y :: z).length := ⟨by rw [h2]; rfl, by simp⟩
      rw [if_pos h3]
      have h4 : (pre ++ y :: z).take (pre.length * 1) ++ v.cells.toList ++ (pre ++ y :: z).drop (pre.length * 1 + 1) = (pre ++ [v]) ++ z := by
        rw [h2, Nat.mul_one, List.take_left, List.drop_append];simp
      rw [h4];have := fill_row (ps := ps) xs (pre ++ [v]) z (fun u hu => hv u (by simp [hu])) (fun i hi => hp i (by simp at hi ⊢; omega)) (by simpa using hz);rw [List.length_append] at this
      simpa using this
theorem hset (bs : List UInt8) (i : Nat) (v : Int) (h0 : 0 ≤ v) (h1 : v < 256) : (hcells bs).set i (.int .u8 v) = hcells (bs.set i (UInt8.ofNat v.toNat)) := by
  have h2 : ((UInt8.ofNat v.toNat).toNat : Int) = v := by
    have : (UInt8.ofNat v.toNat).toNat = v.toNat := by simp; omega
    rw [this]; omega
  unfold hcells;rw [List.map_set, h2]
theorem wrap_u8 (v : Int) : 0 ≤ IntKind.u8.wrap v ∧ IntKind.u8.wrap v < 256 := by
  unfold IntKind.wrap;simp [IntKind.bits, IntKind.signed];omega
end Go.Fw
/- SHA-256 as the program's steps come to it, in plain lists. -/
namespace Go.Fw
def uand (a b : Int) : Int := IntKind.u32.wrap (BitVec.ofInt IntKind.u32.bits a &&& BitVec.ofInt IntKind.u32.bits b).toNat
def uor (a b : Int) : Int := IntKind.u32.wrap (BitVec.ofInt IntKind.u32.bits a ||| BitVec.ofInt IntKind.u32.bits b).toNat
def uxor (a b : Int) : Int := IntKind.u32.wrap (BitVec.ofInt IntKind.u32.bits a ^^^ BitVec.ofInt IntKind.u32.bits b).toNat
def ucom (a : Int) : Int := IntKind.u32.wrap (BitVec.ofInt IntKind.u32.bits (if IntKind.u32.signed then -1 else IntKind.u32.max) ^^^ BitVec.ofInt IntKind.u32.bits a).toNat
def uadd (a b : Int) : Int := IntKind.u32.wrap (a + b)
def ushl (a b : Int) : Int := IntKind.u32.wrap (a * 2 ^ (min b.toNat IntKind.u32.bits))
def ushr (a b : Int) : Int := a.fdiv (2 ^ (min b.toNat IntKind.u32.bits))
def turnF (x : Int) (n : Nat) : Int := uor (ushr x (n : Int)) (ushl x ((32 - n : Nat) : Int))
def ds0F (x : Int) : Int := uxor (uxor (turnF x 7) (turnF x 18)) (ushr x 3)
def ds1F (x : Int) : Int := uxor (uxor (turnF x 17) (turnF x 19)) (ushr x 10)
def db0F (x : Int) : Int := uxor (uxor (turnF x 2) (turnF x 13)) (turnF x 22)
def db1F (x : Int) : Int := uxor (uxor (turnF x 6) (turnF x 11)) (turnF x 25)
def dchF (x y z : Int) : Int := uxor (uand x y) (uand (ucom x) z)
def dmoF (x y z : Int) : Int := uxor (uxor (uand x y) (uand x z)) (uand y z)
def gb (l : List UInt8) (i : Nat) : UInt8 := l.getD i 0
def gi (l : List Int) (i : Nat) : Int := l.getD i 0
theorem gb_get {l : List UInt8} {i : Nat} (h : i < l.length) : gb l i = l[i] := by simp [gb, h]
theorem gi_get {l : List Int} {i : Nat} (h : i < l.length) : gi l i = l[i] := by simp [gi, h]
def b32 (c : UInt8) : Int := IntKind.u32.wrap (c.toNat : Int)
def ldF (l : List UInt8) (k : Nat) : Int := uor (uor (uor (ushl (b32 (gb l (4 * k))) 24) (ushl (b32 (gb l (4 * k + 1))) 16)) (ushl (b32 (gb l (4 * k + 2))) 8)) (b32 (gb l (4 * k + 3)))
def loadL (l : List UInt8) : Nat → Nat → List Int → List Int
  | _, 0, wb => wb
  | k, n + 1, wb => loadL l (k + 1) n (wb.set k (ldF l k))
def nextW (wb : List Int) (k : Nat) : Int := uadd (uadd (uadd (gi wb (k - 16)) (ds0F (gi wb (k - 15)))) (gi wb (k - 7))) (ds1F (gi wb (k - 2)))
def schL : Nat → Nat → List Int → List Int
  | _, 0, wb => wb
  | k, n + 1, wb => schL (k + 1) n (wb.set k (nextW wb k))
def t1F (ks wb : List Int) (k : Nat) (vs : List Int) : Int := uadd (uadd (uadd (uadd (gi vs 7) (db1F (gi vs 4))) (dchF (gi vs 4) (gi vs 5) (gi vs 6))) (gi ks k)) (gi wb k)
def t2F (vs : List Int) : Int := uadd (db0F (gi vs 0)) (dmoF (gi vs 0) (gi vs 1) (gi vs 2))
def stepF (ks wb : List Int) (k : Nat) (vs : List Int) : List Int := [uadd (t1F ks wb k vs) (t2F vs), gi vs 0, gi vs 1, gi vs 2, uadd (gi vs 3) (t1F ks wb k vs), gi vs 4, gi vs 5, gi vs 6]
def rndL (ks wb : List Int) : Nat → Nat → List Int → List Int
  | _, 0, vs => vs
  | k, n + 1, vs => rndL ks wb (k + 1) n (stepF ks wb k vs)
def addL (vs : List Int) : Nat → Nat → List Int → List Int
  | _, 0, ys => ys
  | k, n + 1, ys => addL vs (k + 1) n (ys.set k (uadd (gi ys k) (gi vs k)))
def wF (l : List UInt8) : List Int := schL 16 48 (loadL l 0 16 (List.replicate 64 0))
def cmpF (ks xs : List Int) (l : List UInt8) : List Int := addL (rndL ks (wF l) 0 64 xs) 0 8 xs
theorem step_of {N k : Nat} (h : k < N) : N - k = (N - (k + 1)) + 1 := by omega
theorem loadL_step (l : List UInt8) (wb : List Int) {k : Nat} (h : k < 16) : loadL l k (16 - k) wb = loadL l (k + 1) (16 - (k + 1)) (wb.set k (ldF l k)) := by rw [step_of h]; rfl
theorem schL_step (wb : List Int) {k : Nat} (h : k < 64) : schL k (64 - k) wb = schL (k + 1) (64 - (k + 1)) (wb.set k (nextW wb k)) := by rw [step_of h]; rfl
theorem rndL_step (ks wb vs : List Int) {k : Nat} (h : k < 64) : rndL ks wb k (64 - k) vs = rndL ks wb (k + 1) (64 - (k + 1)) (stepF ks wb k vs) := by rw [step_of h]; rfl
theorem addL_step (vs ys : List Int) {k : Nat} (h : k < 8) : addL vs k (8 - k) ys = addL vs (k + 1) (8 - (k + 1)) (ys.set k (uadd (gi ys k) (gi vs k))) := by rw [step_of h]; rfl
theorem addL_len (vs : List Int) : ∀ (n k : Nat) (ys : List Int), (addL vs k n ys).length = ys.length
  | 0, _, _ => rfl
  | n + 1, k, ys => by rw [addL, addL_len vs n, List.length_set]
theorem cmpF_len (ks xs : List Int) (l : List UInt8) : (cmpF ks xs l).length = xs.length := addL_len _ _ _ _
/-! ### Bytes of any length -/
def blkP (ks xs : List Int) (l : List UInt8) : List Int × List UInt8 := if 64 ≤ l.length then blkP ks (cmpF ks xs l) (l.drop 64) else (xs, l)
termination_by l.length
decreasing_by rw [List.length_drop]; omega
theorem blkP_more {ks xs : List Int} {l : List UInt8} (h : 64 ≤ l.length) : blkP ks xs l = blkP ks (cmpF ks xs l) (l.drop 64) := by rw [blkP, if_pos h]
theorem blkP_end {ks xs : List Int} {l : List UInt8} (h : ¬ 64 ≤ l.length) : blkP ks xs l = (xs, l) := by rw [blkP, if_neg h]
def u8F (v : Int) : UInt8 := UInt8.ofNat (IntKind.u8.wrap v).toNat
def lastF (r : List UInt8) : List UInt8 := (r ++ List.replicate (128 - r.length) 0).set r.length 128
def endM (q : Nat) : Nat := if 56 ≤ q then 2 else 1
def shr64 (a b : Int) : Int := a.fdiv (2 ^ (min b.toNat IntKind.u64.bits))
def dgF (n : Nat) : Int := IntKind.u64.wrap (IntKind.u64.wrap (n : Int) * 2 ^ (min (3 : Int).toNat IntKind.u64.bits))
def lenL (dg : Int) (e : Nat) : Nat → Nat → List UInt8 → List UInt8
  | _, 0, bs => bs
  | k, n + 1, bs => lenL dg e (k + 1) n (bs.set (e - 1 - k) (u8F (shr64 dg ((8 * k : Nat) : Int))))
def finL (ks : List Int) (bs : List UInt8) : Nat → Nat → List Int → List Int
  | _, 0, xs => xs
  | k, n + 1, xs => finL ks bs (k + 1) n (cmpF ks xs (bs.drop (64 * k)))
def outL (xs : List Int) : Nat → Nat → List UInt8 → List UInt8
  | _, 0, hs => hs
  | k, n + 1, hs => outL xs (k + 1) n ((((hs.set (4 * k) (u8F (ushr (gi xs k) 24))).set (4 * k + 1) (u8F (ushr (gi xs k) 16))).set (4 * k + 2) (u8F (ushr (gi xs k) 8))).set (4 * k + 3) (u8F (gi xs k)))
theorem lenL_step (dg : Int) (e : Nat) (bs : List UInt8) {k : Nat} (h : k < 8) : lenL dg e k (8 - k) bs = lenL dg e (k + 1) (8 - (k + 1)) (bs.set (e - 1 - k) (u8F (shr64 dg ((8 * k : Nat) : Int)))) := by rw [step_of h]; rfl
theorem finL_step (ks : List Int) (bs : List UInt8) (xs : List Int) {m k : Nat} (h : k < m) : finL ks bs k (m - k) xs = finL ks bs (k + 1) (m - (k + 1)) (cmpF ks xs (bs.drop (64 * k))) := by rw [step_of h]; rfl
theorem outL_step (xs : List Int) (hs : List UInt8) {k : Nat} (h : k < 8) : outL xs k (8 - k) hs = outL xs (k + 1) (8 - (k + 1)) ((((hs.set (4 * k) (u8F (ushr (gi xs k) 24))).set (4 * k + 1) (u8F (ushr (gi xs k) 16))).set (4 * k + 2) (u8F (ushr (gi xs k) 8))).set (4 * k + 3) (u8F (gi xs k))) := by rw [step_of h]; rfl
theorem outL_len (xs : List Int) : ∀ (n k : Nat) (hs : List UInt8), (outL xs k n hs).length = hs.length
  | 0, _, _ => rfl
  | n + 1, k, hs => by rw [outL, outL_len xs n]; simp only [List.length_set]
def shaOf (ks st : List Int) (l : List UInt8) : List UInt8 :=
  outL (finL ks (lenL (dgF l.length) (64 * endM (blkP ks st l).2.length) 0 8 (lastF (blkP ks st l).2)) 0 (endM (blkP ks st l).2.length) (blkP ks st l).1) 0 8 (List.replicate 32 0)
theorem shaOf_len (ks st : List Int) (l : List UInt8) : (shaOf ks st l).length = 32 := by unfold shaOf; rw [outL_len]; rfl
/-- A number that is known by an equation. -/
theorem runl_absE {P : Program} {f : FuncId} {n : Nat} {ops : Array Oper} {rest : List Oper} {k : List Item} {d : Nat} {kk : IntKind} {m : Int} {env : Env} {w : World} {R : Value → World → Prop} (h : ∀ m', m' = m → RunL P f n ops rest k ((d, .int kk m') :: env) w R) : RunL P f n ops rest k ((d, .int kk m) :: env) w R := h m rfl
theorem rund_absE {P : Program} {n : Nat} {ops : Array Oper} {S : World → Prop} {tl : List Nat} {ord : List (Bool × Nat)} {Z : Env → World → Prop} {d : Nat} {kk : IntKind} {m : Int} {env : Env} {w : World} (h : ∀ m', m' = m → RunZ P n ops S tl ord Z ((d, .int kk m') :: env) w) : RunZ P n ops S tl ord Z ((d, .int kk m) :: env) w := h m rfl
end Go.Fw
/- The reference's SHA-256 (bytes laid behind, blocks, digits one by one) and the program's: one function, in plain lists. -/
namespace Go.Fw
theorem loadL_congr {l l' : List UInt8} : ∀ (n k : Nat) (wb : List Int), (∀ i, i < 4 * (k + n) → gb l i = gb l' i) → loadL l k n wb = loadL l' k n wb
  | 0, _, _, _ => rfl
  | n + 1, k, wb, h => by
    have e : ldF l k = ldF l' k := by
      unfold ldF;rw [h (4 * k) (by omega), h (4 * k + 1) (by omega), h (4 * k + 2) (by omega), h (4 * k + 3) (by omega)]
    rw [loadL, loadL, e];exact loadL_congr n (k + 1) _ fun i hi => h i (by omega)
theorem gb_app {l t : List UInt8} {i : Nat} (h : i < l.length) : gb (l ++ t) i = gb l i := by
  simp [gb, List.getElem?_append_left h]
theorem cmpF_app (ks xs : List Int) {l t : List UInt8} (h : 64 ≤ l.length) : cmpF ks xs (l ++ t) = cmpF ks xs l := by
  unfold cmpF wF;rw [loadL_congr (l := l ++ t) (l' := l) 16 0 _ fun i hi => gb_app (by omega)]
theorem cmpF_take (ks xs : List Int) {l : List UInt8} (h : 64 ≤ l.length) : cmpF ks xs (l.take 64) = cmpF ks xs l := by
  have := cmpF_app ks xs (l := l.take 64) (t := l.drop 64) (by rw [List.length_take]; omega);rw [List.take_append_drop] at this;exact this.symm
theorem blkP_app (ks : List Int) (t : List UInt8) : ∀ (m : Nat) (xs : List Int) (l : List UInt8), l.length = m → blkP ks xs (l ++ t) = blkP ks (blkP ks xs l).1 ((blkP ks xs l).2 ++ t) := by
  intro m
  induction m using Nat.strongRecOn with
  | _ m ih =>
    intro xs l hl;by_cases h : 64 ≤ l.length
    · rw [blkP_more (l := l) h, blkP_more (l := l ++ t) (by rw [List.length_append]; omega), cmpF_app ks xs h, List.drop_append_of_le_length h];exact ih (l.drop 64).length (by rw [List.length_drop]; omega) _ _ rfl
    · rw [blkP_end (l := l) h]
theorem blkP_rest (ks : List Int) : ∀ (m : Nat) (xs : List Int) (l : List UInt8), l.length = m → (blkP ks xs l).2.length = l.length % 64 := by
  intro m
  induction m using Nat.strongRecOn with
  | _ m ih =>
    intro xs l hl;by_cases h : 64 ≤ l.length
    · rw [blkP_more h, ih (l.drop 64).length (by rw [List.length_drop]; omega) _ _ rfl, List.length_drop];omega
    · rw [blkP_end h];show l.length = _;omega
def len8 (dg : Int) : List UInt8 := [u8F (shr64 dg 56), u8F (shr64 dg 48), u8F (shr64 dg 40), u8F (shr64 dg 32), u8F (shr64 dg 24), u8F (shr64 dg 16), u8F (shr64 dg 8), u8F (shr64 dg 0)]
theorem set_mid {A B : List UInt8} {x v : UInt8} {i : Nat} (h : A.length = i) : (A ++ x :: B).set i v = A ++ v :: B := by
  subst h;rw [List.set_append_right _ _ (Nat.le_refl _), Nat.sub_self];rfl
theorem lenL_mid (dg : Int) (A B : List UInt8) (e : Nat) (h : A.length + 8 = e) : lenL dg e 0 8 (A ++ (List.replicate 8 0 ++ B)) = A ++ (len8 dg ++ B) := by
  have e7 : e - 1 - 0 = A.length + 7 := by omega
  have e6 : e - 1 - (0 + 1) = A.length + 6 := by omega
  have e5 : e - 1 - (0 + 1 + 1) = A.length + 5 := by omega
  have e4 : e - 1 - (0 + 1 + 1 + 1) = A.length + 4 := by omega
  have e3 : e - 1 - (0 + 1 + 1 + 1 + 1) = A.length + 3 := by omega
  have e2 : e - 1 - (0 + 1 + 1 + 1 + 1 + 1) = A.length + 2 := by omega
  have e1 : e - 1 - (0 + 1 + 1 + 1 + 1 + 1 + 1) = A.length + 1 := by omega
  have e0 : e - 1 - (0 + 1 + 1 + 1 + 1 + 1 + 1 + 1) = A.length := by omega
  simp only [lenL, e7, e6, e5, e4, e3, e2, e1, e0]
  have hs : ∀ (k : Nat) (C : List UInt8) (v : UInt8), (A ++ C).set (A.length + k) v = A ++ C.set k v := fun k C v => by
    rw [List.set_append_right _ _ (by omega), Nat.add_sub_cancel_left]
  have hs0 : ∀ (C : List UInt8) (v : UInt8), (A ++ C).set A.length v = A ++ C.set 0 v := fun C v => hs 0 C v
  simp only [hs, hs0];rfl
/-- What the reference lays behind the bytes. -/
def padZ (n : Nat) : Nat := (119 - n % 64) % 64
def padF (l : List UInt8) : List UInt8 := l ++ ([128] ++ List.replicate (padZ l.length) 0 ++ len8 (dgF l.length))
def out1 (xs : List Int) : Nat → Nat → List UInt8 → List UInt8
  | _, 0, hs => hs
  | k, n + 1, hs => out1 xs (k + 1) n (hs.set k (u8F (ushr (gi xs (k / 4)) ((24 - 8 * (k % 4) : Nat) : Int))))
theorem out1_step (xs : List Int) (hs : List UInt8) {k : Nat} (h : k < 32) : out1 xs k (32 - k) hs = out1 xs (k + 1) (32 - (k + 1)) (hs.set k (u8F (ushr (gi xs (k / 4)) ((24 - 8 * (k % 4) : Nat) : Int)))) := by rw [step_of h]; rfl
theorem ushr0 (x : Int) : ushr x 0 = x := by unfold ushr; simp
theorem out1_eq (xs : List Int) : ∀ (n k : Nat) (hs : List UInt8), out1 xs (4 * k) (4 * n) hs = outL xs k n hs
  | 0, _, _ => rfl
  | n + 1, k, hs => by
    rw [outL, ← out1_eq xs n (k + 1), show 4 * (n + 1) = 4 * n + 1 + 1 + 1 + 1 by omega];simp only [out1];rw [show 4 * k / 4 = k by omega, show (4 * k + 1) / 4 = k by omega, show (4 * k + 1 + 1) / 4 = k by omega, show (4 * k + 1 + 1 + 1) / 4 = k by omega];rw [show 4 * k % 4 = 0 by omega, show (4 * k + 1) % 4 = 1 by omega, show (4 * k + 1 + 1) % 4 = 2 by omega, show (4 * k + 1 + 1 + 1) % 4 = 3 by omega];rw [show ((24 - 8 * 3 : Nat) : Int) = 0 from rfl, ushr0];rfl
def refOf (ks st : List Int) (l : List UInt8) : List UInt8 := out1 (blkP ks st (padF l)).1 0 32 (List.replicate 32 0)
theorem last_eq (r : List UInt8) (h : r.length < 128) : lastF r = r ++ (128 :: List.replicate (127 - r.length) 0) := by
  unfold lastF;rw [show 128 - r.length = (127 - r.length) + 1 by omega, List.replicate_succ, set_mid rfl]
theorem refOf_eq (ks st : List Int) (l : List UInt8) : refOf ks st l = shaOf ks st l := by
  unfold refOf shaOf;rw [show 32 = 4 * 8 from rfl, show 0 = 4 * 0 from rfl, out1_eq];refine congrArg (fun x => outL x 0 8 (List.replicate 32 0)) ?_;have hr := blkP_rest ks _ st l rfl;unfold padF;rw [blkP_app ks _ _ st l rfl];generalize (blkP ks st l).1 = xs;generalize (blkP ks st l).2 = r at hr
  have hz : padZ l.length = if 56 ≤ r.length then 119 - r.length else 55 - r.length := by
    unfold padZ;split <;> omega
  have hrl : r.length < 64 := by omega
  rw [last_eq r (by omega)];unfold endM;by_cases h : 56 ≤ r.length
  · simp only [if_pos h] at hz ⊢;rw [hz]
    have e1 : r ++ (128 :: List.replicate (127 - r.length) 0) = (r ++ [128] ++ List.replicate (119 - r.length) 0) ++ (List.replicate 8 0 ++ []) := by
      rw [show 127 - r.length = (119 - r.length) + 8 by omega, ← List.replicate_append_replicate];simp
    have e2 : r ++ ([128] ++ List.replicate (119 - r.length) 0 ++ len8 (dgF l.length)) = (r ++ [128] ++ List.replicate (119 - r.length) 0) ++ (len8 (dgF l.length) ++ []) := by simp
    rw [e1, lenL_mid _ _ _ _ (by simp; omega), ← e2];have hlen : (r ++ ([128] ++ List.replicate (119 - r.length) 0 ++ len8 (dgF l.length))).length = 128 := by simp [len8]; omega
    generalize r ++ ([128] ++ List.replicate (119 - r.length) 0 ++ len8 (dgF l.length)) = m at hlen;rw [blkP_more (by omega), blkP_more (by rw [List.length_drop]; omega), blkP_end (by simp only [List.length_drop]; omega)];simp [finL]
  · simp only [if_neg h] at hz ⊢;rw [hz]
    have e1 : r ++ (128 :: List.replicate (127 - r.length) 0) = (r ++ [128] ++ List.replicate (55 - r.length) 0) ++ (List.replicate 8 0 ++ List.replicate 64 0) := by
      rw [show 127 - r.length = (55 - r.length) + (8 + 64) by omega, ← List.replicate_append_replicate, ← List.replicate_append_replicate];simp
    have e2 : r ++ ([128] ++ List.replicate (55 - r.length) 0 ++ len8 (dgF l.length)) = (r ++ [128] ++ List.replicate (55 - r.length) 0) ++ len8 (dgF l.length) := by simp
    rw [e1, lenL_mid _ _ _ _ (by simp; omega), ← List.append_assoc _ (len8 _), ← e2];have hlen : (r ++ ([128] ++ List.replicate (55 - r.length) 0 ++ len8 (dgF l.length))).length = 64 := by simp [len8]; omega
    generalize r ++ ([128] ++ List.replicate (55 - r.length) 0 ++ len8 (dgF l.length)) = m at hlen;rw [blkP_more (by omega), blkP_end (by simp only [List.length_drop]; omega)];simp only [finL, Nat.mul_zero, List.drop_zero];rw [cmpF_app ks xs (by omega)]
end Go.Fw

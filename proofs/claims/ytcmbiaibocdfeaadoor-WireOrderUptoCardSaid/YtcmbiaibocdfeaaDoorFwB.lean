/- The walk by partial frames, 2: regions, in the order of the text or in an open one; memory that stays. -/
import Derived.Test.YtcmbiaibocdfeaaDoorFwA
namespace Go.Fw

/-- All that was there, but for the blocks of M, is as it was. -/
structure ExtB (M : Nat → Prop) (w w' : World) : Prop where
  os : w'.os = w.os
  tape : w'.tape = w.tape
  output : w'.output = w.output
  size : w.heap.size ≤ w'.heap.size
  blk : ∀ k o, ¬ M k → w.heap[k]? = some o → w'.heap[k]? = some o
abbrev Ext (w w' : World) : Prop := ExtB (fun _ => False) w w'

theorem ExtB.refl (M : Nat → Prop) (w : World) : ExtB M w w := ⟨rfl, rfl, rfl, Nat.le_refl _, fun _ _ _ h => h⟩
theorem ExtB.trans {M : Nat → Prop} {a b c : World} (h : ExtB M a b) (g : ExtB M b c) : ExtB M a c :=
  ⟨g.os.trans h.os, g.tape.trans h.tape, g.output.trans h.output, Nat.le_trans h.size g.size, fun k o hk ho => g.blk k o hk (h.blk k o hk ho)⟩
theorem ExtB.mono {M M' : Nat → Prop} {a b : World} (h : ExtB M a b) (hm : ∀ k, k < a.heap.size → M k → M' k) : ExtB M' a b :=
  ⟨h.os, h.tape, h.output, h.size, fun k o hk ho => h.blk k o (fun hM => hk (hm k (Array.getElem?_eq_some_iff.1 ho).1 hM)) ho⟩
/-- What turned behind a was not there ahead of it. -/
theorem ExtB.new {M : Nat → Prop} {a b c : World} (h : Ext a b) (g : ExtB M b c) (hm : ∀ k, M k → a.heap.size ≤ k) : Ext a c :=
  ⟨g.os.trans h.os, g.tape.trans h.tape, g.output.trans h.output, Nat.le_trans h.size g.size, fun k o hk ho =>
    g.blk k o (fun hM => by have := hm k hM; have := (Array.getElem?_eq_some_iff.1 ho).1; omega) (h.blk k o hk ho)⟩
theorem ExtB.newB {M M' : Nat → Prop} {a b c : World} (h : ExtB M a b) (g : ExtB M' b c) (hm : ∀ k, M' k → a.heap.size ≤ k ∨ M k) : ExtB M a c :=
  ⟨g.os.trans h.os, g.tape.trans h.tape, g.output.trans h.output, Nat.le_trans h.size g.size, fun k o hk ho =>
    g.blk k o (fun hM => by rcases hm k hM with h1 | h1
                            · have := (Array.getElem?_eq_some_iff.1 ho).1; omega
                            · exact hk h1) (h.blk k o hk ho)⟩
theorem Ext.at {w w' : World} (h : Ext w w') {k : Nat} {o : Obj} (ho : w.heap[k]? = some o) : w'.heap[k]? = some o := h.blk k o (fun x => x) ho
theorem Ext.toB {M : Nat → Prop} {w w' : World} (h : Ext w w') : ExtB M w w' := h.mono fun _ _ x => x.elim
theorem ExtB.at {M : Nat → Prop} {w w' : World} (h : ExtB M w w') {k : Nat} {o : Obj} (ho : w.heap[k]? = some o) (hk : ¬ M k) : w'.heap[k]? = some o := h.blk k o hk ho
theorem lt_of_at {w : World} {k : Nat} {o : Obj} (h : w.heap[k]? = some o) : k < w.heap.size := (Array.getElem?_eq_some_iff.1 h).1
theorem Ext.drew (w : World) : Ext w w.drew := ⟨rfl, rfl, rfl, Nat.le_refl _, fun _ _ _ h => h⟩
theorem Ext.alloc (w : World) (o : Obj) : Ext w (w.alloc o) := by
  refine ⟨rfl, rfl, rfl, by simp, fun k x _ h => ?_⟩
  have := lt_of_at h
  show (w.heap.push o)[k]? = _
  rw [Array.getElem?_push, if_neg (by omega)]
  exact h
theorem at_alloc (w : World) (o : Obj) : (w.alloc o).heap[w.heap.size]? = some o := by
  show (w.heap.push o)[_]? = _
  simp
theorem Ext.below {w w' : World} (h : Ext w w') : RowKit.Below w.heap.size w w' :=
  ⟨h.os, h.tape, h.output, h.size, fun k hk => by
    have : w.heap[k]? = some w.heap[k] := Array.getElem?_eq_getElem hk
    rw [this]
    exact h.at this⟩
/-- One block has turned. -/
theorem ExtB.at1 {b : Nat} {w w' : World} (h : ExtB (fun k => k = b) w w') {k : Nat} {o : Obj} (ho : w.heap[k]? = some o) (hk : k ≠ b) : w'.heap[k]? = some o := h.blk k o hk ho
theorem ExtB.new1 {k : Nat} {a b c : World} (h : Ext a b) (g : ExtB (fun j => j = k) b c) (hk : a.heap.size ≤ k) : Ext a c := h.new g fun j e => by subst e; exact hk
theorem ExtB.newB1 {M : Nat → Prop} {k : Nat} {a b c : World} (h : ExtB M a b) (g : ExtB (fun j => j = k) b c) (hk : a.heap.size ≤ k ∨ M k) : ExtB M a c := h.newB g fun j e => by subst e; exact hk
/-- What an operation yields in every world of C, and nothing else happens. -/
def Agree (env : Env) (ρ : Operand → Value) : Prop := ∀ x u, env.ev x = some u → ρ x = u
def Ev (P : Program) (C : World → Prop) (env : Env) (o : Oper) (v : Value) : Prop :=
  ∀ ρ : Operand → Value, Agree env ρ → ∀ w, C w → (execOp ρ o).run P w = .ok (.value v) w
/-- What an operation comes to in a world. -/
def OpT (P : Program) (env : Env) (o : Oper) (w : World) (K : Value → World → Prop) : Prop :=
  ∀ a : Act, Agree env a.eval → ∀ (next : Act → World → Prop) (Q : Exit → Act → World → Prop), (∀ v w', K v w' → next (a.put o.dst v) w') → o.wp P a w next Q

theorem Fits.agree {n : Nat} {env : Env} {a : Act} (h : Fits n env a) : Agree env a.eval := fun _ _ hx => h.ev hx

/-- The post of a region in a run. -/
def QZ (n : Nat) (Z : Env → World → Prop) : Exit → Act → World → Prop
  | .normal, a, w => ∃ env, Fits n env a ∧ Z env w
  | _, _, _ => False
abbrev QR (P : Program) (f : FuncId) (n : Nat) (k : List Item) (R : Value → World → Prop) : Exit → Act → World → Prop := QZ n fun env w => Run P f n k env w R

def dstOk (n : Nat) : List Oper → Bool
  | [] => true
  | o :: r => (match o.dst with | none => true | some d => Nat.blt d n) && dstOk n r

def RunL (P : Program) (f : FuncId) (n : Nat) (ops : Array Oper) (l : List Oper) (k : List Item) (env : Env) (w : World) (R : Value → World → Prop) : Prop :=
  dstOk n l = true → ∀ a, Fits n env a → wpList P ops (QR P f n k R) l a w

section
variable {P : Program} {f : FuncId} {n : Nat} {k : List Item} {env : Env} {w : World} {R : Value → World → Prop}

theorem run_of_wp {c : Code} (h : ∀ a, Fits n env a → c.wp P (QR P f n k R) a w) : Run P f n (.code c :: k) env w R := by
  intro b a cs h1 h2 h3
  obtain ⟨e, a', w', hq, harr⟩ := h a h3 b k cs
  cases e with
  | normal =>
    obtain ⟨env', hf, hrun⟩ := hq
    obtain ⟨v, w'', fr, r, s, l⟩ := hrun b a' cs h1 h2 hf
    exact ⟨v, w'', fr, r, Steps.trans harr s, l⟩
  | _ => exact hq.elim

theorem run_region {id : Nat} {l : List Oper} (hd : dstOk n l = true) (h : RunL P f n l.toArray l k env w R) : Run P f n (.code (.region id l.toArray false) :: k) env w R :=
  run_of_wp fun a ha => wp_region_lit (h hd a ha)

variable {ops : Array Oper} {rest : List Oper} {d : Nat} {op : Op} {ty : TypeId} {pos : String} {af : Array Edge}

theorem runl_nil (h : Run P f n k env w R) : RunL P f n ops [] k env w R := fun _ _ ha => ⟨env, ha, h⟩

theorem runl_ev {v : Value} (he : Ev P (· = w) env ⟨some d, op, ty, pos, af, none⟩ v) (h : RunL P f n ops rest k ((d, v) :: env) w R) :
    RunL P f n ops (⟨some d, op, ty, pos, af, none⟩ :: rest) k env w R := by
  intro hd a ha
  simp only [dstOk, Bool.and_eq_true, Nat.blt_eq] at hd
  unfold wpList
  rw [if_pos (by simp [Region.wanted])]
  refine .inl ?_
  unfold Oper.wp
  rw [he a.eval ha.agree w rfl]
  exact h hd.2 _ (ha.put hd.1 v)

theorem runl_op {K : Value → World → Prop} (he : OpT P env ⟨some d, op, ty, pos, af, none⟩ w K) (h : ∀ v w', K v w' → RunL P f n ops rest k ((d, v) :: env) w' R) :
    RunL P f n ops (⟨some d, op, ty, pos, af, none⟩ :: rest) k env w R := by
  intro hd a ha
  simp only [dstOk, Bool.and_eq_true, Nat.blt_eq] at hd
  unfold wpList
  rw [if_pos (by simp [Region.wanted])]
  exact .inl (he a ha.agree _ _ fun v w' hk => h v w' hk hd.2 _ (ha.put hd.1 v))

theorem runl_do {K : Value → World → Prop} (he : OpT P env ⟨none, op, ty, pos, af, none⟩ w K) (h : ∀ v w', K v w' → RunL P f n ops rest k env w' R) :
    RunL P f n ops (⟨none, op, ty, pos, af, none⟩ :: rest) k env w R := by
  intro hd a ha
  simp only [dstOk, Bool.and_eq_true] at hd
  unfold wpList
  rw [if_pos (by simp [Region.wanted])]
  exact .inl (he a ha.agree _ _ fun v w' hk => h v w' hk hd.2 _ ha)

/-- The slot of a guard. -/
def gdst (ops : Array Oper) (g : Nat) : Option Nat := (ops[g]?).bind (·.dst)
theorem wanted_of {o : Oper} {g : Nat} {t b : Bool} {dg : Nat} {a : Act} (ho : o.guard = some (g, t)) (hg : gdst ops g = some dg) (ha : Fits n env a) (hv : env.get dg = some (.bool b)) :
    Region.wanted o (yielded ops a.tmps) = (b == t) := by
  unfold Region.wanted yielded
  unfold gdst at hg
  rw [ho]
  have := ha.get dg _ hv
  simp only [hg, Option.bind_some, this]
  cases b <;> cases t <;> rfl

/-- An operation under a guard: it is carried out, or its slot is left without a value. -/
theorem runl_ev_g {v : Value} {g dg : Nat} {t b : Bool} (hg : gdst ops g = some dg) (hv : env.get dg = some (.bool b)) (hb : b = t)
    (he : Ev P (· = w) env ⟨some d, op, ty, pos, af, some (g, t)⟩ v) (h : RunL P f n ops rest k ((d, v) :: env) w R) :
    RunL P f n ops (⟨some d, op, ty, pos, af, some (g, t)⟩ :: rest) k env w R := by
  intro hd a ha
  simp only [dstOk, Bool.and_eq_true, Nat.blt_eq] at hd
  unfold wpList
  rw [if_pos (by rw [wanted_of rfl hg ha hv, hb]; simp)]
  refine .inl ?_
  unfold Oper.wp
  rw [he a.eval ha.agree w rfl]
  exact h hd.2 _ (ha.put hd.1 v)
theorem runl_op_g {K : Value → World → Prop} {g dg : Nat} {t b : Bool} (hg : gdst ops g = some dg) (hv : env.get dg = some (.bool b)) (hb : b = t)
    (he : OpT P env ⟨some d, op, ty, pos, af, some (g, t)⟩ w K) (h : ∀ v w', K v w' → RunL P f n ops rest k ((d, v) :: env) w' R) :
    RunL P f n ops (⟨some d, op, ty, pos, af, some (g, t)⟩ :: rest) k env w R := by
  intro hd a ha
  simp only [dstOk, Bool.and_eq_true, Nat.blt_eq] at hd
  unfold wpList
  rw [if_pos (by rw [wanted_of rfl hg ha hv, hb]; simp)]
  exact .inl (he a ha.agree _ _ fun v w' hk => h v w' hk hd.2 _ (ha.put hd.1 v))
theorem runl_no_g {g dg : Nat} {t b : Bool} (hg : gdst ops g = some dg) (hv : env.get dg = some (.bool b)) (hb : b = !t)
    (h : RunL P f n ops rest k ((d, undef) :: env) w R) : RunL P f n ops (⟨some d, op, ty, pos, af, some (g, t)⟩ :: rest) k env w R := by
  intro hd a ha
  simp only [dstOk, Bool.and_eq_true, Nat.blt_eq] at hd
  unfold wpList
  rw [if_neg (by rw [wanted_of rfl hg ha hv, hb]; cases t <;> simp)]
  exact h hd.2 _ (ha.put hd.1 undef)
theorem runl_no_gdo {g dg : Nat} {t b : Bool} (hg : gdst ops g = some dg) (hv : env.get dg = some (.bool b)) (hb : b = !t)
    (h : RunL P f n ops rest k env w R) : RunL P f n ops (⟨none, op, ty, pos, af, some (g, t)⟩ :: rest) k env w R := by
  intro hd a ha
  simp only [dstOk, Bool.and_eq_true] at hd
  unfold wpList
  rw [if_neg (by rw [wanted_of rfl hg ha hv, hb]; cases t <;> simp)]
  exact h hd.2 _ ha

/-! ### A region whose order is open -/
section
variable {Q : Exit → Act → World → Prop} {S : World → Prop}
/-- Whatever order is picked, and S holds behind each operation that is carried out, but for those that wait for all that leans on S. -/
def wpAnyG (P : Program) (ops : Array Oper) (Q : Exit → Act → World → Prop) (S : World → Prop) (pre : Nat → Bool) : Nat → Array Bool → Act → World → Prop
  | 0, listed, a, w => Region.ready .any ops listed = [] ∧ Q .normal a w
  | fuel + 1, listed, a, w =>
    (Region.ready .any ops listed = [] → Q .normal a w) ∧
    ∀ i ∈ Region.ready .any ops listed, wpOp P ops Q i (fun a' w' => (pre i = true → S w → S w') ∧ wpAnyG P ops Q S pre fuel (listed.setIfInBounds i true) a' w') a w
theorem wpAny_of_G {pre : Nat → Bool} : ∀ (fuel : Nat) (listed : Array Bool) (a : Act) (w : World), wpAnyG P ops Q S pre fuel listed a w → wpAny P .any ops Q fuel listed a w
  | 0, _, _, _, h => h
  | fuel + 1, _, _, _, h => ⟨h.1, fun i hi => wpOp_mono (fun a' w' h' => wpAny_of_G fuel _ a' w' h'.2) (h.2 i hi)⟩
/-- Number j comes up behind number i. -/
def waits (ops : Array Oper) : Nat → Nat → Nat → Bool
  | 0, _, _ => false
  | f + 1, j, i => match ops[j]? with
    | some oj => oj.after.any fun e => Region.binds .any e && (Nat.beq e.on i || waits ops f e.on i)
    | none => false
def Closed (ops : Array Oper) (listed : Array Bool) : Prop := ∀ (j : Nat) (oj : Oper), listed.getD j false = true → ops[j]? = some oj → ∀ e ∈ oj.after, Region.binds .any e = true → listed.getD e.on false = true
theorem waits_listed {listed : Array Bool} (hc : Closed ops listed) {i : Nat} : ∀ (f j : Nat) (oj : Oper), ops[j]? = some oj → (∀ e ∈ oj.after, Region.binds .any e = true → listed.getD e.on false = true) → waits ops f j i = true → listed.getD i false = true
  | 0, _, _, _, _, h => by simp [waits] at h
  | f + 1, j, oj, hj, hall, h => by
    simp only [waits, hj, Array.any_eq_true', Bool.and_eq_true, Bool.or_eq_true] at h
    obtain ⟨e, he, hb, h⟩ := h
    have hl := hall e he hb
    rcases h with h | h
    · rw [← Nat.eq_of_beq_eq_true h]; exact hl
    · cases ho : ops[e.on]? with
      | none => cases f <;> simp [waits, ho] at h
      | some oe => exact waits_listed hc f e.on oe ho (fun e' he' hb' => hc e.on oe hl ho e' he' hb') h
theorem closed_set {listed : Array Bool} (hc : Closed ops listed) {i : Nat} (hi : i ∈ Region.ready .any ops listed) : Closed ops (listed.setIfInBounds i true) := by
  intro j oj hj ho e he hb
  obtain ⟨_, oi, hoi, hall⟩ := mem_ready.1 hi
  have key : listed.getD e.on false = true → (listed.setIfInBounds i true).getD e.on false = true := getD_set_true
  by_cases hij : i = j
  · subst hij
    rw [hoi] at ho
    cases ho
    exact key (hall e he hb)
  · refine key (hc j oj ?_ ho e he hb)
    simpa [Array.getElem?_setIfInBounds_ne hij] using hj
theorem wpAnyG_first {pre : Nat → Bool} {i : Nat} {oi : Oper} {v : Value} (hi : ops[i]? = some oi) (hsel : ∀ (j : Nat) (o : Oper) cs b, ops[j]? = some o → o.op ≠ .select cs b)
    (hQ : ∀ c a w, Q (.panic c) (a.put oi.dst v) w → Q (.panic c) a w)
    (htl : ∀ j, pre j = false → waits ops 6 j i = true) :
    ∀ (fuel : Nat) (listed : Array Bool) (a : Act) (w : World), Closed ops listed →
      (∀ j oj, ops[j]? = some oj → j ≠ i → listed.getD j true = false → (∀ e ∈ oj.after, Region.binds .any e = true → e.on ≠ i) → oi.apart ops oj = true) →
      i ∈ Region.ready .any ops listed → YieldsIf P ops S oi v a → S w →
      wpAnyG P ops Q S pre fuel (listed.setIfInBounds i true) (a.put oi.dst v) w → wpAnyG P ops Q S pre (fuel + 1) listed a w := by
  intro fuel
  induction fuel with
  | zero =>
    intro listed a w _ _ hr hy hS H
    refine ⟨fun h => (by rw [h] at hr; cases hr), fun j hj => ?_⟩
    by_cases hji : j = i
    · subst hji; exact hy.wpOp hi hS ⟨fun _ _ => hS, H⟩
    · have := ready_mono hj hji
      rw [H.1] at this
      cases this
  | succ fuel ih =>
    intro listed a w hcl hfree hr hy hS H
    refine ⟨fun h => (by rw [h] at hr; cases hr), fun j hj => ?_⟩
    by_cases hji : j = i
    · subst hji; exact hy.wpOp hi hS ⟨fun _ _ => hS, H⟩
    · have h1 := H.2 j (ready_mono hj hji)
      obtain ⟨hjun, oj, hoj, hall⟩ := mem_ready.1 hj
      have hnot : ∀ e ∈ oj.after, Region.binds .any e = true → e.on ≠ i := fun e he hb heq => by
        have h1 := hall e he hb
        have h0 := (mem_ready.1 hr).1
        rw [heq] at h1
        rcases Nat.lt_or_ge i listed.size with h' | h'
        · simp [h'] at h0 h1; rw [h0] at h1; cases h1
        · simp [Array.getElem?_eq_none h'] at h1
      have hpre : pre j = true := by
        cases hp : pre j with
        | true => rfl
        | false =>
          have h1 := waits_listed hcl 6 j oj hoj hall (htl j hp)
          have h0 := (mem_ready.1 hr).1
          rcases Nat.lt_or_ge i listed.size with h' | h'
          · simp [h'] at h0 h1; rw [h0] at h1; cases h1
          · simp [Array.getElem?_eq_none h'] at h1
      have h2 := wpOp_putIf hoj (hfree j oj hoj hji hjun hnot) (fun cs b => hsel i oi cs b hi) (fun cs b => hsel j oj cs b hoj) hQ hy h1
      have hfree' : ∀ k ok, ops[k]? = some ok → k ≠ i → (listed.setIfInBounds j true).getD k true = false →
          (∀ e ∈ ok.after, Region.binds .any e = true → e.on ≠ i) → oi.apart ops ok = true := fun k ok hk hki hun hno => by
        refine hfree k ok hk hki ?_ hno
        by_cases hjk : j = k
        · subst hjk; exact hjun
        · rw [getD_set_ne true hjk] at hun; exact hun
      refine wpOp_mono (fun a' w' h3 => ⟨h3.2.1, ih (listed.setIfInBounds j true) a' w' (closed_set hcl hj) hfree' (ready_mono hr (Ne.symm hji)) h3.1 (h3.2.1 hpre hS) ?_⟩) h2
      rw [Array.setIfInBounds_comm _ _ hji]
      exact h3.2.2
/-- An operation that looks at no world. -/
def pureOp : Op → Bool
  | .move _ => true
  | .assign _ => true
  | .extract _ _ => true
  | _ => false
theorem pure_any {ρ : Operand → Value} {o : Oper} {v : Value} {w : World} (hp : pureOp o.op = true) (h : (execOp ρ o).run P w = .ok (.value v) w) (w' : World) : (execOp ρ o).run P w' = .ok (.value v) w' := by
  obtain ⟨dst, op, ty, pos, af, gd⟩ := o
  cases op <;> simp only [pureOp, Bool.false_eq_true] at hp
  case move x => simp only [execOp, pure, Sem.run] at h ⊢; simpa using h
  case assign x => simp only [execOp, pure, Sem.run] at h ⊢; simpa using h
  case extract x i =>
    simp only [execOp] at h ⊢
    cases hv : ρ x <;> simp_all [Instr.extract]
    rename_i vs
    cases hq : vs[i]? <;> simp_all
theorem wpAnyG_pure {pre : Nat → Bool} {i : Nat} {oi : Oper} {v : Value} (hi : ops[i]? = some oi) (hsel : ∀ (j : Nat) (o : Oper) cs b, ops[j]? = some o → o.op ≠ .select cs b)
    (hQ : ∀ c a w, Q (.panic c) (a.put oi.dst v) w → Q (.panic c) a w) :
    ∀ (fuel : Nat) (listed : Array Bool) (a : Act) (w : World), Closed ops listed →
      (∀ j oj, ops[j]? = some oj → j ≠ i → listed.getD j true = false → (∀ e ∈ oj.after, Region.binds .any e = true → e.on ≠ i) → oi.apart ops oj = true) →
      i ∈ Region.ready .any ops listed → YieldsIf P ops (fun _ => True) oi v a →
      wpAnyG P ops Q S pre fuel (listed.setIfInBounds i true) (a.put oi.dst v) w → wpAnyG P ops Q S pre (fuel + 1) listed a w := by
  intro fuel
  induction fuel with
  | zero =>
    intro listed a w _ _ hr hy H
    refine ⟨fun h => (by rw [h] at hr; cases hr), fun j hj => ?_⟩
    by_cases hji : j = i
    · subst hji; exact hy.wpOp hi trivial ⟨fun _ hS => hS, H⟩
    · have := ready_mono hj hji
      rw [H.1] at this
      cases this
  | succ fuel ih =>
    intro listed a w hcl hfree hr hy H
    refine ⟨fun h => (by rw [h] at hr; cases hr), fun j hj => ?_⟩
    by_cases hji : j = i
    · subst hji; exact hy.wpOp hi trivial ⟨fun _ hS => hS, H⟩
    · have h1 := H.2 j (ready_mono hj hji)
      obtain ⟨hjun, oj, hoj, hall⟩ := mem_ready.1 hj
      have hnot : ∀ e ∈ oj.after, Region.binds .any e = true → e.on ≠ i := fun e he hb heq => by
        have h1 := hall e he hb
        have h0 := (mem_ready.1 hr).1
        rw [heq] at h1
        rcases Nat.lt_or_ge i listed.size with h' | h'
        · simp [h'] at h0 h1; rw [h0] at h1; cases h1
        · simp [Array.getElem?_eq_none h'] at h1
      have h2 := wpOp_putIf hoj (hfree j oj hoj hji hjun hnot) (fun cs b => hsel i oi cs b hi) (fun cs b => hsel j oj cs b hoj) hQ hy h1
      have hfree' : ∀ k ok, ops[k]? = some ok → k ≠ i → (listed.setIfInBounds j true).getD k true = false →
          (∀ e ∈ ok.after, Region.binds .any e = true → e.on ≠ i) → oi.apart ops ok = true := fun k ok hk hki hun hno => by
        refine hfree k ok hk hki ?_ hno
        by_cases hjk : j = k
        · subst hjk; exact hjun
        · rw [getD_set_ne true hjk] at hun; exact hun
      refine wpOp_mono (fun a' w' h3 => ⟨h3.2.1, ih (listed.setIfInBounds j true) a' w' (closed_set hcl hj) hfree' (ready_mono hr (Ne.symm hji)) h3.1 ?_⟩) h2
      rw [Array.setIfInBounds_comm _ _ hji]
      exact h3.2.2
theorem wpAnyG_done {pre : Nat → Bool} {listed : Array Bool} {a : Act} {w : World} (hr : Region.ready .any ops listed = []) (h : Q .normal a w) : ∀ fuel, wpAnyG P ops Q S pre fuel listed a w
  | 0 => ⟨hr, h⟩
  | _ + 1 => ⟨fun _ => h, by rw [hr]; simp⟩
end

/-- The operations of tl wait for number i. -/
def waitAll (ops : Array Oper) (tl : List Nat) (i : Nat) : Bool :=
  tl.all fun j => waits ops 6 j i
def pureAt (ops : Array Oper) (i : Nat) : Bool := match ops[i]? with | some o => pureOp o.op | none => false
/-- An order in which it may be walked: (true, i): number i yields in every world of S, and is taken first; (false, i): nothing but number i may come up. -/
def seqOk (ops : Array Oper) (tl : List Nat) : List (Bool × Nat) → Array Bool → Bool
  | [], listed => (Region.ready .any ops listed).isEmpty
  | (true, i) :: r, listed => Region.free .any ops listed i && (Region.ready .any ops listed).contains i && (waitAll ops tl i || pureAt ops i) && seqOk ops tl r (listed.setIfInBounds i true)
  | (false, i) :: r, listed => (Region.ready .any ops listed == [i]) && seqOk ops tl r (listed.setIfInBounds i true)
def drawOk (n : Nat) (ops : Array Oper) (tl : List Nat) (ord : List (Bool × Nat)) : Bool :=
  Region.noSelect ops && dstOk n ops.toList && Nat.beq ord.length ops.size && seqOk ops tl ord (Array.replicate ops.size false)

def heldSeq (P : Program) (ops : Array Oper) (Q : Exit → Act → World → Prop) (S : World → Prop) (tl : List Nat) : List (Bool × Nat) → Act → World → Prop
  | [], a, w => Q .normal a w
  | (true, i) :: r, a, w => ∃ o v, ops[i]? = some o ∧ YieldsIf P ops S o v a ∧ S w ∧ heldSeq P ops Q S tl r (a.put o.dst v) w
  | (false, i) :: r, a, w => wpOp P ops Q i (fun a' w' => (tl.contains i = false → S w') ∧ heldSeq P ops Q S tl r a' w') a w

theorem wpAnyG_of_seq {Q : Exit → Act → World → Prop} {S : World → Prop} {tl : List Nat} (hQ : ∀ c a w, ¬ Q (.panic c) a w) (hs : Region.noSelect ops = true) :
    ∀ (ord : List (Bool × Nat)) (listed : Array Bool) (a : Act) (w : World), Closed ops listed → seqOk ops tl ord listed = true → heldSeq P ops Q S tl ord a w → wpAnyG P ops Q S (fun i => !tl.contains i) ord.length listed a w
  | [], listed, a, w, _, hok, h => wpAnyG_done (by simpa [seqOk] using hok) h _
  | (true, i) :: r, listed, a, w, hcl, hok, h => by
    simp only [seqOk, Bool.and_eq_true] at hok
    obtain ⟨o, v, hi, hy, hS, hr⟩ := h
    have hrdy : i ∈ Region.ready .any ops listed := by simpa using hok.1.1.2
    rcases Bool.or_eq_true _ _ ▸ hok.1.2 with hw | hw
    · refine wpAnyG_first hi (Region.noSelect_spec hs) (fun c a w hp => (hQ c _ _ hp).elim) (fun j hp => ?_) _ listed a w hcl (Region.free_spec hi hok.1.1.1) hrdy hy hS (wpAnyG_of_seq hQ hs r _ _ _ (closed_set hcl hrdy) hok.2 hr)
      unfold waitAll at hw
      rw [List.all_eq_true] at hw
      exact hw j (by simpa using hp)
    · have hp : pureOp o.op = true := by unfold pureAt at hw; rw [hi] at hw; exact hw
      have hy' : YieldsIf P ops (fun _ => True) o v a := by
        rcases hy with ⟨h1, h2⟩ | h1
        · exact .inl ⟨h1, fun w' _ => pure_any hp (h2 w hS) w'⟩
        · exact .inr h1
      exact wpAnyG_pure hi (Region.noSelect_spec hs) (fun c a w hp => (hQ c _ _ hp).elim) _ listed a w hcl (Region.free_spec hi hok.1.1.1) hrdy hy' (wpAnyG_of_seq hQ hs r _ _ _ (closed_set hcl hrdy) hok.2 hr)
  | (false, i) :: r, listed, a, w, hcl, hok, h => by
    simp only [seqOk, Bool.and_eq_true, beq_iff_eq] at hok
    have hrdy : i ∈ Region.ready .any ops listed := by rw [hok.1]; simp
    refine ⟨fun h0 => (by rw [hok.1] at h0; cases h0), fun j hj => ?_⟩
    rw [hok.1] at hj
    obtain rfl : j = i := by simpa using hj
    exact wpOp_mono (fun a' w' ⟨hS', h'⟩ => ⟨fun hp _ => hS' (by simpa using hp), wpAnyG_of_seq hQ hs r _ _ _ (closed_set hcl hrdy) hok.2 h'⟩) h
theorem closed_none (n : Nat) : Closed ops (Array.replicate n false) := by
  intro j oj hj
  simp only [Array.getD_eq_getD_getElem?, Array.getElem?_replicate] at hj
  split at hj <;> simp at hj

/-- Along an order, and Z holds of what some slots hold behind it. -/
def RunZ (P : Program) (n : Nat) (ops : Array Oper) (S : World → Prop) (tl : List Nat) (ord : List (Bool × Nat)) (Z : Env → World → Prop) (env : Env) (w : World) : Prop :=
  dstOk n ops.toList = true → ∀ a, Fits n env a → heldSeq P ops (QZ n Z) S tl ord a w
abbrev RunD (P : Program) (f : FuncId) (n : Nat) (ops : Array Oper) (S : World → Prop) (tl : List Nat) (ord : List (Bool × Nat)) (k : List Item) (env : Env) (w : World) (R : Value → World → Prop) : Prop :=
  RunZ P n ops S tl ord (fun env w => Run P f n k env w R) env w

theorem run_draw {id : Nat} (hm : P.follows .mixedOrders = true) (S : World → Prop) (tl : List Nat) (ord : List (Bool × Nat)) (hok : drawOk n ops tl ord = true)
    (h : ∀ w', Ext w w' → RunD P f n ops S tl ord k env w' R) : Run P f n (.code (.region id ops true) :: k) env w R := by
  simp only [drawOk, Bool.and_eq_true] at hok
  obtain ⟨⟨⟨h1, h2⟩, h3⟩, h4⟩ := hok
  refine run_of_wp fun a ha => ?_
  refine wp_region_any hm (wpAny_of_G (S := S) (pre := fun i => !tl.contains i) _ _ _ _ ?_)
  have := wpAnyG_of_seq (P := P) (Q := QR P f n k R) (S := S) (tl := tl) (fun _ _ _ h => h) h1 ord _ a w.drew (closed_none _) h4 (h w.drew (Ext.drew w) h2 a ha)
  rw [Nat.eq_of_beq_eq_true h3] at this
  exact this

theorem dstOk_mem : ∀ {l : List Oper} {i : Nat} {o : Oper}, dstOk n l = true → l[i]? = some o → ∀ d, o.dst = some d → d < n
  | [], i, o, _, h, _, _ => by simp at h
  | x :: r, 0, o, hd, h, d, e => by
    simp at h
    subst h
    simp only [dstOk, Bool.and_eq_true, e, Nat.blt_eq] at hd
    exact hd.1
  | x :: r, i + 1, o, hd, h, d, e => by
    simp only [dstOk, Bool.and_eq_true] at hd
    exact dstOk_mem hd.2 (by simpa using h) d e

variable {S : World → Prop} {tl : List Nat} {ord : List (Bool × Nat)} {i : Nat} {Z : Env → World → Prop}
theorem rund_nil (h : Z env w) : RunZ P n ops S tl [] Z env w := fun _ _ ha => ⟨env, ha, h⟩

theorem rund_ev {v : Value} (hS : S w) (ho : ops[i]? = some ⟨some d, op, ty, pos, af, none⟩) (he : Ev P S env ⟨some d, op, ty, pos, af, none⟩ v) (h : RunZ P n ops S tl ord Z ((d, v) :: env) w) :
    RunZ P n ops S tl ((true, i) :: ord) Z env w := by
  intro hd a ha
  exact ⟨_, v, ho, .inl ⟨by simp [Region.wanted], fun w' hw' => he _ ha.agree w' hw'⟩, hS, h hd _ (ha.put (dstOk_mem hd (by simpa using ho) _ rfl) v)⟩
theorem rund_ev_g {v : Value} {g dg : Nat} {t b : Bool} (hS : S w) (ho : ops[i]? = some ⟨some d, op, ty, pos, af, some (g, t)⟩) (hg : gdst ops g = some dg) (hv : env.get dg = some (.bool b)) (hb : b = t)
    (he : Ev P S env ⟨some d, op, ty, pos, af, some (g, t)⟩ v) (h : RunZ P n ops S tl ord Z ((d, v) :: env) w) :
    RunZ P n ops S tl ((true, i) :: ord) Z env w := by
  intro hd a ha
  exact ⟨_, v, ho, .inl ⟨by rw [wanted_of rfl hg ha hv, hb]; simp, fun w' hw' => he _ ha.agree w' hw'⟩, hS, h hd _ (ha.put (dstOk_mem hd (by simpa using ho) _ rfl) v)⟩
theorem rund_no_g {g dg : Nat} {t b : Bool} (hS : S w) (ho : ops[i]? = some ⟨some d, op, ty, pos, af, some (g, t)⟩) (hg : gdst ops g = some dg) (hv : env.get dg = some (.bool b)) (hb : b = !t)
    (h : RunZ P n ops S tl ord Z ((d, undef) :: env) w) : RunZ P n ops S tl ((true, i) :: ord) Z env w := by
  intro hd a ha
  exact ⟨_, undef, ho, .inr ⟨by rw [wanted_of rfl hg ha hv, hb]; cases t <;> simp, rfl⟩, hS, h hd _ (ha.put (dstOk_mem hd (by simpa using ho) _ rfl) undef)⟩

theorem rund_go {o : Oper} (ho : ops[i]? = some o) (hw : ∀ a, Fits n env a → Region.wanted o (yielded ops a.tmps) = true) {K : Value → World → Prop} (he : OpT P env o w K)
    (h : ∀ v w', K v w' → (tl.contains i = false → S w') ∧ ∀ a, Fits n env a → dstOk n ops.toList = true → heldSeq P ops (QZ n Z) S tl ord (a.put o.dst v) w') : RunZ P n ops S tl ((false, i) :: ord) Z env w := by
  intro hd a ha
  show wpOp _ _ _ _ _ _ _
  unfold wpOp
  rw [ho]
  simp only []
  rw [if_pos (hw a ha)]
  exact .inl (he a ha.agree _ _ fun v w' hk => ⟨(h v w' hk).1, (h v w' hk).2 a ha hd⟩)
theorem rund_op {K : Value → World → Prop} (ho : ops[i]? = some ⟨some d, op, ty, pos, af, none⟩) (he : OpT P env ⟨some d, op, ty, pos, af, none⟩ w K)
    (h : ∀ v w', K v w' → S w' ∧ RunZ P n ops S tl ord Z ((d, v) :: env) w') : RunZ P n ops S tl ((false, i) :: ord) Z env w :=
  rund_go ho (fun _ _ => by simp [Region.wanted]) he fun v w' hk => ⟨fun _ => (h v w' hk).1, fun a ha hd => (h v w' hk).2 hd _ (ha.put (dstOk_mem hd (by simpa using ho) _ rfl) v)⟩
theorem rund_do {K : Value → World → Prop} (ho : ops[i]? = some ⟨none, op, ty, pos, af, none⟩) (he : OpT P env ⟨none, op, ty, pos, af, none⟩ w K)
    (h : ∀ v w', K v w' → S w' ∧ RunZ P n ops S tl ord Z env w') : RunZ P n ops S tl ((false, i) :: ord) Z env w :=
  rund_go ho (fun _ _ => by simp [Region.wanted]) he fun v w' hk => ⟨fun _ => (h v w' hk).1, fun a ha hd => (h v w' hk).2 hd _ ha⟩
/-- An operation that waits for all that leans on S. -/
theorem rund_opT {K : Value → World → Prop} (ht : tl.contains i = true) (ho : ops[i]? = some ⟨some d, op, ty, pos, af, none⟩) (he : OpT P env ⟨some d, op, ty, pos, af, none⟩ w K)
    (h : ∀ v w', K v w' → RunZ P n ops S tl ord Z ((d, v) :: env) w') : RunZ P n ops S tl ((false, i) :: ord) Z env w :=
  rund_go ho (fun _ _ => by simp [Region.wanted]) he fun v w' hk => ⟨fun e => (by rw [ht] at e; cases e), fun a ha hd => (h v w' hk) hd _ (ha.put (dstOk_mem hd (by simpa using ho) _ rfl) v)⟩
theorem rund_doT {K : Value → World → Prop} (ht : tl.contains i = true) (ho : ops[i]? = some ⟨none, op, ty, pos, af, none⟩) (he : OpT P env ⟨none, op, ty, pos, af, none⟩ w K)
    (h : ∀ v w', K v w' → RunZ P n ops S tl ord Z env w') : RunZ P n ops S tl ((false, i) :: ord) Z env w :=
  rund_go ho (fun _ _ => by simp [Region.wanted]) he fun v w' hk => ⟨fun e => (by rw [ht] at e; cases e), fun a ha hd => (h v w' hk) hd _ ha⟩
theorem rund_op_g {K : Value → World → Prop} {g dg : Nat} {t b : Bool} (ho : ops[i]? = some ⟨some d, op, ty, pos, af, some (g, t)⟩) (hg : gdst ops g = some dg) (hv : env.get dg = some (.bool b)) (hb : b = t)
    (he : OpT P env ⟨some d, op, ty, pos, af, some (g, t)⟩ w K) (h : ∀ v w', K v w' → S w' ∧ RunZ P n ops S tl ord Z ((d, v) :: env) w') : RunZ P n ops S tl ((false, i) :: ord) Z env w :=
  rund_go ho (fun a ha => by rw [wanted_of rfl hg ha hv, hb]; simp) he fun v w' hk => ⟨fun _ => (h v w' hk).1, fun a ha hd => (h v w' hk).2 hd _ (ha.put (dstOk_mem hd (by simpa using ho) _ rfl) v)⟩
theorem rund_no_gf {g dg : Nat} {t b : Bool} (ho : ops[i]? = some ⟨some d, op, ty, pos, af, some (g, t)⟩) (hg : gdst ops g = some dg) (hv : env.get dg = some (.bool b)) (hb : b = !t)
    (hS : S w) (h : RunZ P n ops S tl ord Z ((d, undef) :: env) w) : RunZ P n ops S tl ((false, i) :: ord) Z env w := by
  intro hd a ha
  show wpOp _ _ _ _ _ _ _
  unfold wpOp
  rw [ho]
  simp only []
  rw [if_neg (by rw [wanted_of rfl hg ha hv, hb]; cases t <;> simp)]
  exact ⟨fun _ => hS, h hd _ (ha.put (dstOk_mem hd (by simpa using ho) _ rfl) undef)⟩
end
end Go.Fw

/- The walk by partial frames, 4: the operations that make memory or write it; calls; what a call hands back. -/
import Derived.Test.YtcmbiaibocdfeaaDoorFwC
import Derived.Laws.Tables
import Derived.Great.BuildSlice
namespace Go.Fw

theorem eqw {w : World} {p : World → Prop} (h : p w) : ∀ w', w' = w → p w' := fun _ e => e ▸ h

section
variable {P : Program} {env : Env} {dst : Option Tmp} {ty : TypeId} {pos : String} {af : Array Edge} {gd : Option (Nat × Bool)} {w : World}

theorem opT_of_ev {o : Oper} {v : Value} (h : Ev P (· = w) env o v) : OpT P env o w fun u w' => u = v ∧ w' = w := by
  intro a ha next Q hn
  unfold Oper.wp
  rw [h a.eval ha w rfl]
  exact hn _ _ ⟨rfl, rfl⟩

/-- A new variable, known whole. -/
structure NewBlk (w : World) (c : Array Value) (T : TypeId) (w' : World) (b : Nat) : Prop where
  blk : w'.heap[b]? = some (.cells c T (0, 0))
  ext : Ext w w'
  new : w.heap.size ≤ b
  lt : b < w'.heap.size
theorem newBlk_alloc (w : World) (c : Array Value) (T : TypeId) : NewBlk w c T (w.alloc (.cells c T)) w.heap.size :=
  ⟨at_alloc w _, Ext.alloc w _, Nat.le_refl _, by simp⟩

theorem t_new {o : Oper} {c : Array Value} {T : TypeId} (h : ∀ ρ : Operand → Value, Agree env ρ → (execOp ρ o).run P w = .ok (.value (.pointer (some ⟨w.heap.size, 0, none⟩))) (w.alloc (.cells c T))) :
    OpT P env o w fun v w' => ∃ b, v = .pointer (some ⟨b, 0, none⟩) ∧ w'.heap[b]? = some (.cells c T (0, 0)) ∧ Ext w w' ∧ w.heap.size ≤ b ∧ b < w'.heap.size := by
  intro a ha next Q hn
  unfold Oper.wp
  rw [h a.eval ha]
  have := newBlk_alloc w c T
  exact hn _ _ ⟨_, rfl, this.blk, this.ext, this.new, this.lt⟩

theorem t_box1 {x : Operand} {T : TypeId} {v : Value} (hx : env.ev x = some v) (hv : v.cells = #[v]) :
    OpT P env ⟨dst, .box T x, ty, pos, af, gd⟩ w fun r w' => ∃ b, r = .pointer (some ⟨b, 0, none⟩) ∧ w'.heap[b]? = some (.cells #[v] T (0, 0)) ∧ Ext w w' ∧ w.heap.size ≤ b ∧ b < w'.heap.size :=
  t_new fun ρ hρ => by
    simp [execOp, hρ x _ hx, Instr.box, newVar, newRow, hv]
theorem t_boxA {x : Operand} {T : TypeId} {l : List Value} (hx : env.ev x = some (.agg ⟨l⟩)) :
    OpT P env ⟨dst, .box T x, ty, pos, af, gd⟩ w fun r w' => ∃ b, r = .pointer (some ⟨b, 0, none⟩) ∧ w'.heap[b]? = some (.cells ⟨l⟩ T (0, 0)) ∧ Ext w w' ∧ w.heap.size ≤ b ∧ b < w'.heap.size :=
  t_new fun ρ hρ => by
    simp [execOp, hρ x _ hx, Instr.box, newVar, newRow, Value.cells]
theorem t_alloc {T : TypeId} {z : Value} {c : Array Value} (hz : zeroT P T = some z) (hc : z.cells = c) :
    OpT P env ⟨dst, .alloc T, ty, pos, af, gd⟩ w fun r w' => ∃ b, r = .pointer (some ⟨b, 0, none⟩) ∧ w'.heap[b]? = some (.cells c T (0, 0)) ∧ Ext w w' ∧ w.heap.size ≤ b ∧ b < w'.heap.size :=
  t_new fun ρ hρ => by
    unfold zeroT at hz
    cases hq : P.info? T with
    | none => simp [hq] at hz
    | some inf =>
      have hz' : inf.zero = some z := by simpa [hq] using hz
      simp [execOp, Instr.alloc, zeroValue, typeInfo, hq, hz', newVar, newRow, hc]

/-! ### Stores into a block that is known -/
def splice (c : List Value) (o : Nat) (vs : List Value) : List Value := c.take o ++ vs ++ c.drop (o + vs.length)
theorem splice_whole {c vs : List Value} (h : vs.length = c.length) : splice c 0 vs = vs := by simp [splice, h]

theorem extB_set {w : World} {b : Nat} {c c' : Array Value} {T : TypeId} {fr : Nat × Nat} (h : w.heap[b]? = some (.cells c T fr)) : ExtB (fun k => k = b) w { w with heap := w.heap.setIfInBounds b (.cells c' T fr) } := by
  refine ⟨rfl, rfl, rfl, by simp, fun k o hk ho => ?_⟩
  show (w.heap.setIfInBounds b _)[k]? = _
  rw [Array.getElem?_setIfInBounds_ne (fun e => hk e.symm)]
  exact ho
theorem at_set {w : World} {b : Nat} {c c' : Array Value} {T : TypeId} {fr : Nat × Nat} (h : w.heap[b]? = some (.cells c T fr)) :
    ({ w with heap := w.heap.setIfInBounds b (.cells c' T fr) } : World).heap[b]? = some (.cells c' T fr) := by
  show (w.heap.setIfInBounds b _)[b]? = _
  have := lt_of_at h
  simp [this]

theorem run_storeCells_splice {P : Program} {w : World} {b o : Nat} {c vs : List Value} {T : TypeId} (h : w.heap[b]? = some (.cells ⟨c⟩ T (0, 0))) (hfit : o + vs.length ≤ c.length) (h1 : ∀ v ∈ vs, v.oneCell' = true) :
    (storeCells ⟨b, o, none⟩ vs).run P w = .ok () (w.setRow b (splice c o vs).toArray) := by
  have := run_storeCells_at P b o T vs 0 ⟨c⟩ w h (by simpa using hfit) h1
  simpa [splice] using this

theorem setRow_facts {w : World} {b : Nat} {c : Array Value} {T : TypeId} {fr : Nat × Nat} (h : w.heap[b]? = some (.cells c T fr)) (c' : Array Value) :
    (w.setRow b c').heap[b]? = some (.cells c' T fr) ∧ ExtB (fun k => k = b) w (w.setRow b c') ∧ w.heap.size ≤ (w.setRow b c').heap.size := by
  refine ⟨?_, ⟨rfl, rfl, rfl, by simp [World.setRow], fun k o hk ho => ?_⟩, by simp [World.setRow]⟩
  · simp [World.setRow, Array.getElem?_modify, h]
  · simp only [World.setRow, Array.getElem?_modify]
    rw [if_neg (fun e => hk e.symm)]
    exact ho

theorem t_store {x y : Operand} {T T' : TypeId} {b o n : Nat} {c vs : List Value} {v : Value} (hn : (P.info? T).map (·.size) = some n) (hx : env.ev x = some (.pointer (some ⟨b, o, none⟩))) (hy : env.ev y = some v)
    (hv : v.cells = ⟨vs⟩) (hl : vs.length = n) (hb : w.heap[b]? = some (.cells ⟨c⟩ T' (0, 0))) (hfit : o + vs.length ≤ c.length) (h1 : ∀ v ∈ vs, v.oneCell' = true) :
    OpT P env ⟨dst, .store T x y, ty, pos, af, gd⟩ w fun _ w' => w'.heap[b]? = some (.cells ⟨splice c o vs⟩ T' (0, 0)) ∧ ExtB (fun k => k = b) w w' ∧ w.heap.size ≤ w'.heap.size := by
  intro a ha next Q hnx
  unfold Oper.wp
  cases hq : P.info? T with
  | none => simp [hq] at hn
  | some inf =>
    have hsz : inf.size = n := by simpa [hq] using hn
    have hs := run_storeCells_splice (P := P) hb hfit h1
    have : (execOp a.eval ⟨dst, .store T x y, ty, pos, af, gd⟩).run P w = .ok .skip (w.setRow b (splice c o vs).toArray) := by
      simp [execOp, ha x _ hx, ha y _ hy, Instr.storeAt, Instr.sureAddr, storeVar, sizeOf, typeInfo, hq, hv, hl, hsz, hs]
    rw [this]
    obtain ⟨f1, f2, f3⟩ := setRow_facts hb (splice c o vs).toArray
    exact hnx undef _ ⟨by simpa using f1, f2, f3⟩
/-- One cell. -/
theorem t_store1 {x y : Operand} {T T' : TypeId} {b o : Nat} {c : List Value} {v : Value} (hn : (P.info? T).map (·.size) = some 1) (hx : env.ev x = some (.pointer (some ⟨b, o, none⟩))) (hy : env.ev y = some v)
    (hv : v.cells = #[v]) (h1 : v.oneCell' = true) (hb : w.heap[b]? = some (.cells ⟨c⟩ T' (0, 0))) (hfit : o < c.length) :
    OpT P env ⟨dst, .store T x y, ty, pos, af, gd⟩ w fun _ w' => w'.heap[b]? = some (.cells ⟨c.set o v⟩ T' (0, 0)) ∧ ExtB (fun k => k = b) w w' ∧ w.heap.size ≤ w'.heap.size := by
  have hsp : splice c o [v] = c.set o v := by
    simp only [splice, List.length_cons, List.length_nil]
    rw [List.set_eq_take_append_cons_drop, if_pos hfit]
    simp
  have := t_store (P := P) (env := env) (dst := dst) (ty := ty) (pos := pos) (af := af) (gd := gd) (w := w) (vs := [v]) (n := 1) hn hx hy hv rfl hb (by simp; omega) (by simpa using h1)
  rw [hsp] at this
  exact this
/-- The whole block. -/
theorem t_storeW {x y : Operand} {T T' : TypeId} {b n : Nat} {c vs : List Value} (hn : (P.info? T).map (·.size) = some n) (hx : env.ev x = some (.pointer (some ⟨b, 0, none⟩))) (hy : env.ev y = some (.agg ⟨vs⟩))
    (hl : vs.length = n) (hc : c.length = n) (hb : w.heap[b]? = some (.cells ⟨c⟩ T' (0, 0))) (h1 : ∀ v ∈ vs, v.oneCell' = true) :
    OpT P env ⟨dst, .store T x y, ty, pos, af, gd⟩ w fun _ w' => w'.heap[b]? = some (.cells ⟨vs⟩ T' (0, 0)) ∧ ExtB (fun k => k = b) w w' ∧ w.heap.size ≤ w'.heap.size := by
  have := t_store (P := P) (env := env) (dst := dst) (ty := ty) (pos := pos) (af := af) (gd := gd) (w := w) (vs := vs) (n := n) hn hx hy rfl hl hb (by omega) h1
  rw [splice_whole (by omega)] at this
  exact this

/-! ### Composite literals -/
def placesT (P : Program) (T : TypeId) : Option (List (Nat × Nat)) :=
  match P.underlying T with
  | some (.struct fs) => fs.toList.mapM (fun f => (P.info? f.type).map fun i => (f.offset, i.size))
  | some (.array n e) => (P.info? e).map fun i => (List.range n).map fun k => (k * i.size, i.size)
  | _ => none
def fillL (ps : List (Nat × Nat)) : List (Nat × Value) → List Value → Option (List Value)
  | [], z => some z
  | (i, v) :: r, z => match ps[i]? with
    | none => none
    | some (off, size) => if v.cells.size = size ∧ off + size ≤ z.length then fillL ps r (z.take off ++ v.cells.toList ++ z.drop (off + size)) else none

theorem foldl_set : ∀ (vs : List Value) (k : Nat) (off : Nat) (z : List Value), off + k + vs.length ≤ z.length →
    (vs.zipIdx k).foldl (fun (cs : Array Value) (c, j) => cs.setIfInBounds (off + j) c) ⟨z⟩ = ⟨z.take (off + k) ++ vs ++ z.drop (off + k + vs.length)⟩
  | [], k, off, z, _ => by simp
  | v :: r, k, off, z, h => by
    simp only [List.zipIdx_cons, List.foldl_cons, List.setIfInBounds_toArray]
    have := foldl_set r (k + 1) off (z.set (off + k) v) (by simp at h ⊢; omega)
    rw [this]
    simp only [List.length_cons] at h ⊢
    congr 1
    have e1 : (z.set (off + k) v).take (off + (k + 1)) = z.take (off + k) ++ [v] := by
      rw [List.set_eq_take_append_cons_drop, if_pos (by omega)]
      have hl : (List.take (off + k) z).length = off + k := by simp; omega
      rw [List.take_append, hl]
      have : off + (k + 1) - (off + k) = 1 := by omega
      rw [this, List.take_of_length_le (by omega)]
      simp
    have e2 : (z.set (off + k) v).drop (off + (k + 1) + r.length) = z.drop (off + k + (r.length + 1)) := by
      rw [List.drop_set_of_lt (by omega)]
      congr 1
      omega
    rw [e1, e2]
    simp

theorem fill_eq {place : Nat → Option (Nat × Nat)} {ps : List (Nat × Nat)} (hp : ∀ i p, ps[i]? = some p → place i = some p) : ∀ (parts : List (Nat × Value)) (z out : List Value), fillL ps parts z = some out → Instr.fill place ⟨z⟩ parts = some ⟨out⟩
  | [], z, out, h => by simp [fillL] at h; simp [Instr.fill, h]
  | (i, v) :: r, z, out, h => by
    unfold fillL at h
    unfold Instr.fill
    cases hq : ps[i]? with
    | none => simp [hq] at h
    | some p =>
      rw [hp i p hq]
      obtain ⟨off, size⟩ := p
      simp only [hq] at h ⊢
      split at h
      · rename_i hc
        rw [if_neg (by simp; omega)]
        have hz : (Array.foldl (fun (cs : Array Value) (x : Value × Nat) => cs.setIfInBounds (off + x.2) x.1) ⟨z⟩ v.cells.zipIdx) = ⟨z.take off ++ v.cells.toList ++ z.drop (off + size)⟩ := by
          have := foldl_set v.cells.toList 0 off z (by simp; omega)
          simp only [Nat.add_zero, Array.length_toList, hc.1] at this
          rw [← this, ← Array.foldl_toList]
          simp [Array.toList_zipIdx]
        have hfin := fill_eq hp r _ out h
        rw [← hz] at hfin
        exact hfin
      · cases h

theorem built_eq {T : TypeId} {ps : List (Nat × Nat)} {z out : List Value} {v0 : Value} {vs : List (Nat × Value)} (hp : placesT P T = some ps) (hz : zeroT P T = some v0) (hv0 : v0.cells = ⟨z⟩) (ho : fillL ps vs z = some out) : P.built T vs = some ⟨out⟩ := by
  unfold placesT at hp
  unfold zeroT at hz
  unfold Program.built
  cases hq : P.info? T with
  | none => simp [hq] at hz
  | some inf =>
    have hz' : inf.zero = some v0 := by simpa [hq] using hz
    cases hu : P.underlying T with
    | none => simp [hu] at hp
    | some d =>
      rw [hu] at hp
      cases d <;> first
        | (simp at hp; done)
        | skip
      case struct fs =>
        simp only at hp
        simp only [hz', hp, hv0]
        exact fill_eq (fun i p h => by simpa using h) vs z out ho
      case array n e =>
        simp only at hp
        cases he : P.info? e with
        | none => simp [he] at hp
        | some ie =>
          simp only [he, Option.map_some, Option.some.injEq] at hp
          simp only [hz', he, hv0]
          refine fill_eq (fun i p h => ?_) vs z out ho
          subst hp
          simp only [List.getElem?_map] at h
          by_cases hi : i < n
          · rw [List.getElem?_range hi] at h
            simpa using h
          · rw [List.getElem?_eq_none (by simp; omega)] at h
            cases h

theorem evps_eq {ρ : Operand → Value} (hρ : Agree env ρ) : ∀ (xs : List (Nat × Operand)) (us : List (Nat × Value)), env.evps xs = some us → (xs.map fun (i, x) => (i, ρ x)) = us := by
  intro xs
  induction xs with
  | nil => intro us e; simp [Env.evps] at e; simp [e]
  | cons x r ih =>
    obtain ⟨i, x⟩ := x
    intro us e
    unfold Env.evps at e
    split at e
    · cases e
    · rename_i v hv
      split at e
      · cases e
      · rename_i l hl
        cases e
        simp [hρ x v hv, ih l hl]
theorem evs_eq {ρ : Operand → Value} (hρ : Agree env ρ) : ∀ (xs : List Operand) (us : List Value), env.evs xs = some us → xs.map ρ = us := by
  intro xs
  induction xs with
  | nil => intro us e; simp [Env.evs] at e; simp [e]
  | cons x r ih =>
    intro us e
    unfold Env.evs at e
    split at e
    · cases e
    · rename_i v hv
      split at e
      · cases e
      · rename_i l hl
        cases e
        simp [hρ x v hv, ih l hl]

theorem ev_build {C : World → Prop} {T : TypeId} {parts : List (Nat × Operand)} {ps : List (Nat × Nat)} {z out : List Value} {v0 : Value} {vs : List (Nat × Value)} (hp : placesT P T = some ps) (hz : zeroT P T = some v0) (hv0 : v0.cells = ⟨z⟩)
    (hx : env.evps parts = some vs) (ho : fillL ps vs z = some out) : Ev P C env ⟨dst, .build T ⟨parts⟩, ty, pos, af, gd⟩ (.agg ⟨out⟩) := by
  intro ρ hρ w _
  have h1 := built_eq hp hz hv0 ho
  have h2 := evps_eq hρ _ _ hx
  have h3 := run_build (P := P) w T (List.toArray vs) ⟨out⟩ (by simpa using h1)
  have : (Array.map (fun (x : Nat × Operand) => (x.1, ρ x.2)) ⟨parts⟩) = List.toArray vs := by
    rw [← h2]; simp
  simp [execOp, this, h3]

/-- A slice literal. -/
theorem t_buildSlice {T e sz len : Nat} {parts : List (Nat × Operand)} {z out : List Value} {v0 : Value} {vs : List (Nat × Value)} (hu : P.underlying T = some (.slice e)) (he : (P.info? e).map (·.size) = some sz) (hz : zeroT P e = some v0) (hv0 : v0.cells = ⟨z⟩) (hzl : z.length = sz)
    (hsm : len * sz ≤ 16777216) (hpos : len * sz ≠ 0) (hx : env.evps parts = some vs) (ho : fillL ((List.range len).map fun i => (i * sz, sz)) vs ((List.range (len * sz)).map fun i => z.getD (i % sz) undef) = some out) :
    OpT P env ⟨dst, .buildSlice T len ⟨parts⟩, ty, pos, af, gd⟩ w fun r w' => ∃ b, r = .slice (some ⟨b, 0, none⟩) len len ∧ w'.heap[b]? = some (.cells ⟨out⟩ e (0, 0)) ∧ Ext w w' ∧ w.heap.size ≤ b ∧ b < w'.heap.size := by
  intro a ha next Q hn
  unfold Oper.wp
  have h2 := evps_eq ha _ _ hx
  have hps : (Array.map (fun (x : Nat × Operand) => (x.1, a.eval x.2)) ⟨parts⟩) = List.toArray vs := by
    rw [← h2]; simp
  unfold zeroT at hz
  cases hq : P.info? e with
  | none => simp [hq] at hz
  | some inf =>
    have hz' : inf.zero = some v0 := by simpa [hq] using hz
    have hs : inf.size = sz := by simpa [hq] using he
    have hzz : ((Array.range (len * sz)).map fun x => z.toArray[x % z.length]!) = ⟨(List.range (len * sz)).map fun i => z.getD (i % sz) undef⟩ := by
      apply Array.ext'
      simp only [Array.toList_map, Array.toList_range]
      apply List.map_congr_left
      intro i hi
      rw [hzl]
      have hsz : 0 < sz := by
        rcases Nat.eq_zero_or_pos sz with h | h
        · rw [h] at hpos; simp at hpos
        · exact h
      have hlt : i % sz < z.length := by rw [hzl]; exact Nat.mod_lt _ hsz
      simp [hlt]
    have hfill := fill_eq (place := fun i => some (i * sz, sz)) (fun i p h => by
      by_cases hi : i < len
      · rw [List.getElem?_map, List.getElem?_range hi] at h
        simpa using h
      · rw [List.getElem?_eq_none (by simp; omega)] at h
        cases h) vs _ out ho
    have hrun : (execOp a.eval ⟨dst, .buildSlice T len ⟨parts⟩, ty, pos, af, gd⟩).run P w = .ok (.value (.slice (some ⟨w.heap.size, 0, none⟩) len len)) (w.alloc (.cells ⟨out⟩ e)) := by
      have := run_buildSlice (P := P) w T e len (List.toArray vs) ⟨out⟩ inf v0 hu hq hz' (by rw [hs]; omega) (by rw [hs]; omega) (by
        rw [hs, hv0]
        simp only [List.size_toArray]
        rw [hzz]
        exact hfill)
      simp [execOp, hps, this]
    rw [hrun]
    have := newBlk_alloc w ⟨out⟩ e
    exact hn _ _ ⟨_, rfl, this.blk, this.ext, this.new, this.lt⟩

/-! ### Calls -/
theorem callable_spec {g : FuncId} (h : callable P g = true) : ∃ fn, P.funcs[g]? = some fn ∧ fn.body.isNone = false ∧ (fn.name == "runtime.NumGoroutine") = false := by
  unfold callable at h
  split at h
  · rename_i fn hf
    simp only [Bool.and_eq_true, Bool.not_eq_true'] at h
    refine ⟨fn, hf, ?_, h.2⟩
    cases hb : fn.body with
    | none => rw [hb] at h; simp at h
    | some c => rfl
  · cases h
theorem t_callv {x : Operand} {g : FuncId} {xs : List Operand} {vs fs cs : List Value} {ats : Array TypeId} {K : Value → World → Prop} (hg : callable P g = true) (hf : env.ev x = some (.func (.func g) ⟨fs⟩ ⟨cs⟩)) (hx : env.evs xs = some vs) (h : Ret P g (fs ++ vs ++ cs) w K) :
    OpT P env ⟨dst, .call { callee := .value x, args := ⟨xs⟩, argTypes := ats }, ty, pos, af, gd⟩ w K := by
  intro a ha next Q hn
  have hxs := evs_eq ha _ _ hx
  obtain ⟨fn, hfn, hb, hnm⟩ := callable_spec hg
  have : (execOp a.eval ⟨dst, .call { callee := .value x, args := ⟨xs⟩, argTypes := ats }, ty, pos, af, gd⟩).run P w = .ok (.enter g ⟨fs ++ vs ++ cs⟩) w := by
    have hb' : ¬ fn.body = none := by intro e; rw [e] at hb; cases hb
    have hnm' : ¬ fn.name = "runtime.NumGoroutine" := by simpa using hnm
    simp [execOp, resolve, ha x _ hf, Deferred.ofValue, invoke, callFunc, program, Sem.run, hfn, hb', hnm', hxs]
  unfold Oper.wp
  rw [this, Oper.upon_enter]
  exact Calls.mono h fun e w' ⟨v, he, hK⟩ => by subst he; exact hn v w' hK
theorem t_call {g : FuncId} {xs : List Operand} {vs : List Value} {ats : Array TypeId} {K : Value → World → Prop} (hg : callable P g = true) (hx : env.evs xs = some vs) (h : Ret P g vs w K) :
    OpT P env ⟨dst, .call { callee := .value (.func g), args := ⟨xs⟩, argTypes := ats }, ty, pos, af, gd⟩ w K :=
  t_callv (fs := []) (cs := []) hg rfl hx (by simpa using h)
end

section
variable {P : Program} {n : Nat} {env : Env} {w : World}
theorem resC {fn : Func} {t : Tmp} {T : TypeId} {b o : Nat} {v : Value} (hr : fn.results = #[.cell t T]) (hv : env.get t = some (.pointer (some ⟨b, o, none⟩))) (hl : (loadVar T ⟨b, o, none⟩).run P w = .ok v w) :
    ∀ a : Act, Fits n env a → (results fn a.tmps).run P w = .ok v w := by
  intro a h
  simp [results, hr, h.get t _ hv, asAddr, hl]
theorem resCT {fn : Func} {t u : Tmp} {T : TypeId} {b o : Nat} {v v' : Value} (hr : fn.results = #[.cell t T, .tmp u]) (hv : env.get t = some (.pointer (some ⟨b, o, none⟩))) (hl : (loadVar T ⟨b, o, none⟩).run P w = .ok v w)
    (hv' : env.get u = some v') : ∀ a : Act, Fits n env a → (results fn a.tmps).run P w = .ok (.tuple #[v, v']) w := by
  intro a h
  simp [results, hr, h.get t _ hv, h.get u _ hv', asAddr, hl]
theorem resCTT {fn : Func} {t u u' : Tmp} {T : TypeId} {b o : Nat} {v v' v'' : Value} (hr : fn.results = #[.cell t T, .tmp u, .tmp u']) (hv : env.get t = some (.pointer (some ⟨b, o, none⟩))) (hl : (loadVar T ⟨b, o, none⟩).run P w = .ok v w)
    (hv' : env.get u = some v') (hv'' : env.get u' = some v'') : ∀ a : Act, Fits n env a → (results fn a.tmps).run P w = .ok (.tuple #[v, v', v'']) w := by
  intro a h
  simp [results, hr, h.get t _ hv, h.get u _ hv', h.get u' _ hv'', asAddr, hl]
theorem loadVar_agg {T : TypeId} {b o m : Nat} {vs : List Value} (ht : aggT P T = some m) (hn : vs.length = m) (hc : Cells w b o vs) : (loadVar T ⟨b, o, none⟩).run P w = .ok (.agg ⟨vs⟩) w := by
  have hd : ∃ d, P.underlying T = some d ∧ d.isRow = true ∧ (P.info? T).map (·.size) = some vs.length := by
    unfold aggT at ht
    split at ht <;> first
      | exact ⟨_, by assumption, rfl, by rw [ht, hn]⟩
      | cases ht
  obtain ⟨d, hu, hr, hi⟩ := hd
  simpa using run_loadVar_mid (P := P) w b o T vs d hc hu hr hi
end
end Go.Fw

/- More of the walk by partial frames: how much room a slice has; append of so many zeros; rows whose elements hold slices of new memory. -/
import Derived.Test.YtcmbiaibocdfeaaReadQ
import Derived.Lib.AppendZeros
namespace Go.Fw
section
variable {P : Program} {C : World → Prop} {env : Env} {dst : Option Tmp} {ty : TypeId} {pos : String} {af : Array Edge} {gd : Option (Nat × Bool)}
theorem ev_capL {x : Operand} {T : TypeId} {a : Option Addr} {n c : Nat} (ht : isSliceT P T = true) (hx : env.ev x = some (.slice a n c)) :
    Ev P C env ⟨dst, .call { callee := .builtin .cap, args := #[x], argTypes := #[T] }, ty, pos, af, gd⟩ (.int .i64 (c : Int)) := by
  intro ρ hρ w _
  unfold isSliceT at ht
  split at ht
  · rename_i e hu
    simp [execOp, resolve, invoke, builtin, Builtin.cap_, hρ x _ hx, run_underlying hu, goInt]
  · cases ht
/-- append(nil, make([]T, n)...). -/
theorem t_appendZ {x y : Operand} {T tn e sz by_ n : Nat} {k kn : IntKind} {w : World} (ht : elemF P T e sz by_ = true) (htn : P.underlying tn = some (.int kn)) (hx : env.ev x = some (.slice none 0 0)) (hy : env.ev y = some (.int k (n : Int))) (h0 : 0 < n) (h63 : n ≤ maxLen) (hby : n * by_ ≤ 140737488355328) :
    OpT P env ⟨dst, .call { callee := .builtin .append, args := #[x, y], argTypes := #[T, tn] }, ty, pos, af, gd⟩ w fun v w' => ∃ b cap c, v = .slice (some ⟨b, 0, none⟩) n cap ∧ w'.heap[b]? = some (.cells ⟨c⟩ e (0, 0)) ∧ n ≤ cap ∧ cap ≤ maxLen ∧ c.length = cap * sz ∧ Ext w w' ∧ w.heap.size ≤ b ∧ b < w'.heap.size := by
  intro a ha next Q hnx
  obtain ⟨i, z, hu, hi, hsz, hbt, hpos, hz, hzs⟩ := elemF_spec ht
  subst hsz hbt
  have hsmall : (n : Int) ≤ 9223372036854775807 := by simp only [maxLen] at h63; omega
  have hr := Lib.run_append_nil_zeros (P := P) w T tn ty e i z k kn hu htn hi hz n h0 hpos hsmall (by omega)
  have hge := grownCap_ge w n 0 e
  have hcap := grownCap_le_maxLen w n 0 e h63
  unfold Oper.wp execOp
  simp only [resolve, invoke, builtin, Sem.run_bind, Sem.run_pure, Result.andThen_ok, List.map_toArray, List.map_cons, List.map_nil, ha x _ hx, ha y _ hy, hr]
  refine hnx _ _ ⟨w.heap.size, _, (Builtin.zeroCells z.cells n ++ Builtin.zeroCells z.cells (grownCap w n 0 e - n)).toList, rfl, heap_alloc_new w.drew _, hge, hcap, ?_, ext_drew_alloc w _, Nat.le_refl _, by simp⟩
  simp only [Array.length_toList, Array.size_append, size_zeroCells, hzs, ← Nat.add_mul]
  congr 1
  omega
end

/-! ### Elements that hold slices of new memory: none of it is block g, all of it lies at lo or behind -/
structure Nest {α : Type} (lo : Nat) (R : Int → World → α → List Value → Prop) : Prop where
  step : ∀ {g g' : Int} {w w' : World} {x : α} {cs : List Value} {M : Nat → Prop}, R g w x cs → ExtB M w w' → (∀ k, M k → k < lo ∨ (k : Int) = g ∨ w.heap.size ≤ k) → (g' = g ∨ (w.heap.size : Int) ≤ g' ∨ g' < 0) → R g' w' x cs
theorem Nest.keep {α : Type} {lo : Nat} {R : Int → World → α → List Value → Prop} (hR : Nest lo R) {g : Int} {w w' : World} {x : α} {cs : List Value} {M : Nat → Prop} (h : R g w x cs) (e : ExtB M w w') (hM : ∀ k, M k → k < lo ∨ (k : Int) = g ∨ w.heap.size ≤ k) : R g w' x cs := hR.step h e hM (.inl rfl)
theorem Nest.re {α : Type} {lo : Nat} {R : Int → World → α → List Value → Prop} (hR : Nest lo R) {g g' : Int} {w : World} {x : α} {cs : List Value} (h : R g w x cs) (hg : (w.heap.size : Int) ≤ g' ∨ g' < 0) : R g' w x cs := hR.step h (ExtB.refl (fun _ => False) w) (fun _ h => h.elim) (.inr hg)
/-- A slice of new memory. -/
def SlN {β : Type} (sz : Nat) (S : World → β → List Value → Prop) (lo : Nat) (g : Int) (w : World) (l : List β) (v : Value) : Prop :=
  ∃ a c, v = .slice a l.length c ∧ SlAt sz S w (.slice a l.length c) l ∧ l.length ≤ c ∧ ∀ b o, a = some ⟨b, o, none⟩ → lo ≤ b ∧ b < w.heap.size ∧ (b : Int) ≠ g
theorem SlN.step {β : Type} {sz : Nat} {S : World → β → List Value → Prop} (hS : Flat S) {lo : Nat} {g g' : Int} {w w' : World} {l : List β} {v : Value} {M : Nat → Prop} (h : SlN sz S lo g w l v) (e : ExtB M w w') (hM : ∀ k, M k → k < lo ∨ (k : Int) = g ∨ w.heap.size ≤ k) (hg : g' = g ∨ (w.heap.size : Int) ≤ g' ∨ g' < 0) : SlN sz S lo g' w' l v := by
  obtain ⟨a, c, h1, h2, h3, h4⟩ := h
  refine ⟨a, c, h1, h2.keep hS e (fun b o ha hm => ?_), h3, fun b o ha => ?_⟩
  · have := hM b hm
    have := h4 b o ha
    omega
  · have := h4 b o ha
    have := e.size
    omega
theorem SlN.up {β : Type} {sz : Nat} {S : World → β → List Value → Prop} {lo lo' : Nat} {g : Int} {w : World} {l : List β} {v : Value} (h : SlN sz S lo g w l v) (hl : lo' ≤ lo) : SlN sz S lo' g w l v := by
  obtain ⟨a, c, h1, h2, h3, h4⟩ := h
  exact ⟨a, c, h1, h2, h3, fun b o ha => by have := h4 b o ha; omega⟩
theorem SlN.sl {β : Type} {sz : Nat} {S : World → β → List Value → Prop} {lo : Nat} {g : Int} {w : World} {l : List β} {v : Value} (h : SlN sz S lo g w l v) : ∃ a c, v = .slice a l.length c ∧ SlAt sz S w (.slice a l.length c) l ∧ l.length ≤ c := by
  obtain ⟨a, c, h1, h2, h3, _⟩ := h
  exact ⟨a, c, h1, h2, h3⟩
theorem SlN.nil {β : Type} {sz : Nat} {S : World → β → List Value → Prop} {lo : Nat} {g : Int} {w : World} : SlN sz S lo g w [] (.slice none 0 0) := ⟨none, 0, rfl, sl_nil, Nat.le_refl _, fun _ _ h => by cases h⟩
theorem slN_of {β : Type} {T : TypeId} {sz : Nat} {S : World → β → List Value → Prop} {w0 w : World} {l : List β} {v : Value} (h : OwnG T sz S w0 l v w) : SlN sz S w0.heap.size (-1) w l v := by
  have h0 := h
  obtain ⟨a, c, rfl, h1, h2, h3⟩ := h.sl
  refine ⟨a, c, rfl, h2, h1, fun b o ha => ⟨h3 b o ha, ?_, by omega⟩⟩
  obtain ⟨xs, g, o1, _, _, og⟩ := h0
  rcases o1.cells with ⟨hv, _, _⟩ | ⟨cap, b', hb, hv, _, _, hlt⟩
  · injection hv with q1 q2 q3; rw [q1] at ha; cases ha
  · injection hv with q1 q2 q3
    rw [q1] at ha
    cases ha
    exact hlt
/-- A row of the call's own whose elements hold slices of new memory. -/
def OwnN {α : Type} (T : TypeId) (sz : Nat) (R : Int → World → α → List Value → Prop) (w0 : World) (l : List α) (v : Value) (w' : World) : Prop :=
  ∃ xs g, Own w' T sz v l.length xs g ∧ Parts sz (R g) w' l xs ∧ (g = -1 ∨ (w0.heap.size : Int) ≤ g) ∧ g < w'.heap.size
section
variable {α : Type} {T : TypeId} {sz lo : Nat} {R : Int → World → α → List Value → Prop}
theorem OwnN.nil (w w' : World) : OwnN T sz R w [] (.slice none 0 0) w' := ⟨[], -1, own_nil _ _ _ _, trivial, .inl rfl, by omega⟩
theorem OwnN.open {w w' : World} {l : List α} {v : Value} (h : OwnN T sz R w l v w') : ∃ xs g, Own w' T sz v l.length xs g ∧ Parts sz (R g) w' l xs ∧ xs.length = l.length * sz ∧ (g = -1 ∨ (w.heap.size : Int) ≤ g) ∧ g < w'.heap.size := by
  obtain ⟨xs, g, h1, h2, h4, h5⟩ := h
  exact ⟨xs, g, h1, h2, h1.len, h4, h5⟩
theorem OwnN.from {w0 w w' : World} {l : List α} {v : Value} (e : w0.heap.size ≤ w.heap.size) (h : OwnN T sz R w l v w') : OwnN T sz R w0 l v w' := by
  obtain ⟨xs, g, h1, h2, h4, h5⟩ := h
  exact ⟨xs, g, h1, h2, by omega, h5⟩
theorem OwnN.keep (hR : Nest lo R) {w w' w'' : World} {l : List α} {v : Value} (h : OwnN T sz R w l v w') {M : Nat → Prop} (he : ExtB M w' w'') (hM : ∀ k, M k → k < lo ∨ w'.heap.size ≤ k) (hl : lo ≤ w.heap.size) : OwnN T sz R w l v w'' := by
  have := hl
  obtain ⟨xs, g, h1, h2, h4, h5⟩ := h
  exact ⟨xs, g, h1.keep he fun k hk hm => by have := hM k hm; omega, h2.mono fun _ _ _ hr => hR.keep hr he fun k hk => by have := hM k hk; omega, h4, by have := he.size; omega⟩
/-- Behind an append of one more. -/
theorem OwnN.app (hR : Nest lo R) {w w1 w2 : World} {l : List α} {x : α} {xs news : List Value} {v' : Value} {g g' : Int} (hz : w.heap.size ≤ w1.heap.size) (hg : g = -1 ∨ (w.heap.size : Int) ≤ g) (hgl : g < w1.heap.size) (hp : Parts sz (R g) w1 l xs) (hl : xs.length = l.length * sz)
    (hx : R g w1 x news) (hnl : news.length = sz) (ap : Appended w1 T sz g (l.length + 1) (xs ++ news) v' w2 g') : OwnN T sz R w (l ++ [x]) v' w2 := by
  have h1 := ap.own
  have step : ∀ y cs, R g w1 y cs → R g' w2 y cs := by
    intro y cs hy
    exact hR.step hy ap.ext (fun k hk => .inr (.inl hk)) (by rcases ap.new with h | ⟨h, _⟩ <;> omega)
  refine ⟨_, g', by rw [List.length_append]; exact h1, Parts.mono (fun y cs _ hr => step y cs hr) (Parts.app hp hl (pc (by rw [List.take_of_length_le (by omega)]; exact hx) pn)), ?_, ?_⟩
  · rcases ap.new with h | ⟨h, _⟩ <;> omega
  · have := ap.size
    rcases ap.new with h | ⟨_, h⟩ <;> omega
theorem OwnN.shape {w w' : World} {l : List α} {v : Value} (h : OwnN T sz R w l v w') : ∃ a c, v = .slice a l.length c := by
  obtain ⟨xs, g, h1, _⟩ := h
  exact h1.shape
theorem OwnN.mono {Q : Int → World → α → List Value → Prop} (hR : ∀ g w x cs, R g w x cs → Q g w x cs) {w w' : World} {l : List α} {v : Value} (h : OwnN T sz R w l v w') : OwnN T sz Q w l v w' := by
  obtain ⟨xs, g, h1, h2, h3⟩ := h
  exact ⟨xs, g, h1, h2.mono fun _ _ _ h => hR _ _ _ _ h, h3⟩
end
end Go.Fw

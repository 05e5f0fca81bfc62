/- Rows of elements as one list of cells. -/
import Derived.Test.YtcmbiaibocdfeaaDoorDom
import Derived.Test.YtcmbiaibocdfeaaDoorFwG
namespace Go.Fw
section
variable {α β : Type} {sz : Nat} {R : World → α → List Value → Prop} {R' : World → β → List Value → Prop} {w w' : World}
theorem Parts.get : ∀ {l : List α} {cs : List Value}, Parts sz R w l cs → ∀ {i : Nat} {x : α}, l[i]? = some x → R w x ((cs.drop (i * sz)).take sz)
  | [], _, _, _, _, h => by simp at h
  | y :: r, cs, hp, 0, x, h => by simp at h; subst h; simpa using hp.1
  | y :: r, cs, hp, i + 1, x, h => by
    have := Parts.get (l := r) hp.2 (i := i) (x := x) (by simpa using h)
    rw [List.drop_drop] at this
    rwa [show (i + 1) * sz = sz + i * sz by rw [Nat.add_mul]; omega]
theorem Parts.of : ∀ {l : List α} {cs : List Value}, (∀ i x, l[i]? = some x → R w x ((cs.drop (i * sz)).take sz)) → Parts sz R w l cs
  | [], _, _ => trivial
  | y :: r, cs, h => by
    refine ⟨by simpa using h 0 y (by simp), Parts.of fun i x hi => ?_⟩
    have := h (i + 1) x (by simpa using hi)
    rw [List.drop_drop]
    rwa [show sz + i * sz = (i + 1) * sz by rw [Nat.add_mul]; omega]
theorem Parts.mono : ∀ {l : List α} {cs : List Value} {R₂ : World → α → List Value → Prop}, (∀ x cs, x ∈ l → R w x cs → R₂ w' x cs) → Parts sz R w l cs → Parts sz R₂ w' l cs
  | [], _, _, _, _ => trivial
  | y :: r, cs, R₂, h, hp => ⟨h _ _ (by simp) hp.1, Parts.mono (fun x cs hx => h x cs (by simp [hx])) hp.2⟩
theorem Parts.app {l' : List α} {ds : List Value} : ∀ {l : List α} {cs : List Value}, Parts sz R w l cs → cs.length = l.length * sz → Parts sz R w l' ds → Parts sz R w (l ++ l') (cs ++ ds)
  | [], cs, _, hl, h => by
    have : cs = [] := List.eq_nil_of_length_eq_zero (by simpa using hl)
    subst this
    exact h
  | y :: r, cs, hp, hl, h => by
    have hl' : sz ≤ cs.length := by rw [hl, List.length_cons, Nat.add_mul]; omega
    refine ⟨by rw [List.take_append_of_le_length hl']; exact hp.1, ?_⟩
    rw [List.drop_append_of_le_length hl']
    exact Parts.app hp.2 (by rw [List.length_drop, hl, List.length_cons, Nat.add_mul]; omega) h
theorem sl_cells {b o cap : Nat} {cs : List Value} {l : List α} (h : Cells w b o cs) (hp : Parts sz R w l cs) : SlAt sz R w (.slice (some ⟨b, o, none⟩) l.length cap) l := by
  refine ⟨some ⟨b, o, none⟩, cap, rfl, fun i x hi => ⟨b, o, _, rfl, hp.get hi, ?_⟩⟩
  refine h.mid (i * sz) rfl fun j u hj => ?_
  rw [List.getElem?_take] at hj
  split at hj
  · rwa [List.getElem?_drop] at hj
  · cases hj
/-- A row that reads as a list is one list of cells. -/
theorem SlAt.flat {b : Nat} (hR : ∀ w x cs, R w x cs → cs.length = sz) : ∀ {l : List α} {o : Nat}, (∀ i x, l[i]? = some x → ∃ cs, R w x cs ∧ Cells w b (o + i * sz) cs) → ∃ cs, cs.length = l.length * sz ∧ Cells w b o cs ∧ Parts sz R w l cs
  | [], o, _ => ⟨[], by simp, fun j v hj => by simp at hj, trivial⟩
  | y :: r, o, h => by
    obtain ⟨c0, h0, hc0⟩ := h 0 y (by simp)
    obtain ⟨cs, hl, hc, hp⟩ := SlAt.flat (b := b) hR (l := r) (o := o + sz) fun i x hi => by
      obtain ⟨ci, h1, h2⟩ := h (i + 1) x (by simpa using hi)
      exact ⟨ci, h1, by rwa [show o + sz + i * sz = o + (i + 1) * sz by rw [Nat.add_mul]; omega]⟩
    have hl0 := hR _ _ _ h0
    refine ⟨c0 ++ cs, by rw [List.length_append, hl, hl0, List.length_cons, Nat.add_mul]; omega, fun j v hj => ?_, ?_, ?_⟩
    · by_cases hjs : j < sz
      · rw [List.getElem?_append_left (by omega)] at hj
        simpa using hc0 j v hj
      · rw [List.getElem?_append_right (by omega)] at hj
        have := hc _ v hj
        rw [hl0] at this
        rwa [show o + sz + (j - sz) = o + j by omega] at this
    · rw [List.take_append_of_le_length (by omega), List.take_of_length_le (by omega)]; exact h0
    · rw [List.drop_append_of_le_length (by omega), List.drop_of_length_le (by omega)]; exact hp
theorem SlAt.cells {a : Option Addr} {n cap : Nat} (hR : ∀ w x cs, R w x cs → cs.length = sz) {l : List α} (h : SlAt sz R w (.slice a n cap) l) (hne : l ≠ []) : ∃ b o cs, a = some ⟨b, o, none⟩ ∧ cs.length = l.length * sz ∧ Cells w b o cs ∧ Parts sz R w l cs := by
  obtain ⟨a', cap', hv, h⟩ := h
  cases hv
  obtain ⟨y, r, rfl⟩ : ∃ y r, l = y :: r := by
    cases l with
    | nil => exact absurd rfl hne
    | cons y r => exact ⟨y, r, rfl⟩
  obtain ⟨b, o, _, rfl, _, _⟩ := h 0 y (by simp)
  obtain ⟨cs, h1, h2, h3⟩ := SlAt.flat (b := b) hR (l := y :: r) (o := o) fun i x hi => by
    obtain ⟨b', o', ci, ha, hr, hc⟩ := h i x hi
    cases ha
    exact ⟨ci, hr, hc⟩
  exact ⟨b, o, cs, rfl, h1, h2, h3⟩
theorem seg_set {cs : List Value} {a j n : Nat} {v : Value} : ((cs.set (a + j) v).drop a).take n = ((cs.drop a).take n).set j v := by
  rw [List.drop_set, if_neg (by omega), Nat.add_sub_cancel_left, List.take_set]
theorem Cells.take {b o : Nat} {cs : List Value} (h : Cells w b o cs) (n : Nat) : Cells w b o (cs.take n) := fun j v hj => by
  rw [List.getElem?_take] at hj
  split at hj
  · exact h j v hj
  · cases hj
theorem Parts.set {l : List α} {cs : List Value} {k j : Nat} {v : Value} {x : α} (hp : Parts sz R w l cs) (hj : j < sz) (hx : R w x (((cs.set (k * sz + j) v).drop (k * sz)).take sz)) : Parts sz R w (l.set k x) (cs.set (k * sz + j) v) :=
  Parts.of fun i y hi => by
    by_cases e : k = i
    · subst e
      rw [List.getElem?_set] at hi
      split at hi
      · split at hi
        · cases hi; exact hx
        · cases hi
      · exact absurd rfl (by assumption)
    · rw [List.getElem?_set_ne e] at hi
      have : ((cs.set (k * sz + j) v).drop (i * sz)).take sz = (cs.drop (i * sz)).take sz := by
        apply List.ext_getElem?
        intro q
        rw [List.getElem?_take, List.getElem?_take]
        split
        · rw [List.getElem?_drop, List.getElem?_drop, List.getElem?_set_ne]
          intro h
          rcases Nat.lt_or_gt_of_ne e with h1 | h1
          · have : (k + 1) * sz ≤ i * sz := Nat.mul_le_mul_right _ h1
            rw [Nat.add_mul] at this
            omega
          · have : (i + 1) * sz ≤ k * sz := Nat.mul_le_mul_right _ h1
            rw [Nat.add_mul] at this
            omega
        · rfl
      rw [this]
      exact hp.get hi
theorem Parts.all {Q : Value → Prop} (hQ : ∀ x cs, R w x cs → ∀ v ∈ cs, Q v) : ∀ {l : List α} {cs : List Value}, Parts sz R w l cs → cs.length = l.length * sz → ∀ v ∈ cs, Q v
  | [], cs, _, hl, v, hv => by
    have : cs = [] := List.eq_nil_of_length_eq_zero (by simpa using hl)
    subst this
    cases hv
  | y :: r, cs, hp, hl, v, hv => by
    rw [← List.take_append_drop sz cs] at hv
    rcases List.mem_append.1 hv with h | h
    · exact hQ _ _ hp.1 v h
    · exact Parts.all hQ (l := r) hp.2 (by rw [List.length_drop, hl, List.length_cons, Nat.add_mul]; omega) v h
theorem own_slat {e n : Nat} {v : Value} {xs : List Value} {g : Int} {l : List α} (h : Own w e sz v n xs g) (hp : Parts sz R w l xs) (hl : l.length = n) : SlAt sz R w v l := by
  rcases h.cells with ⟨rfl, hn, _⟩ | ⟨cap, b, _, rfl, hc, _, _⟩
  · obtain rfl : l = [] := List.eq_nil_of_length_eq_zero (by omega)
    exact sl_nil
  · subst hl
    exact sl_cells hc hp
theorem Own.blk {e n : Nat} {v : Value} {xs : List Value} {g : Int} (h : Own w e sz v n xs g) (hn : 0 < n) : ∃ (b cap : Nat) (c : List Value), (b : Int) = g ∧ v = .slice (some ⟨b, 0, none⟩) n cap ∧ w.heap[b]? = some (.cells ⟨c⟩ e (0, 0)) ∧ n ≤ cap ∧ cap ≤ maxLen ∧ c.length = cap * sz ∧ c.take (n * sz) = xs := by
  obtain ⟨⟨_, h2⟩, h3⟩ := h
  rcases h2 with ⟨_, h0⟩ | ⟨g', cap, cur, rfl, _, hg, h5, h6, h7, h8⟩
  · omega
  · exact ⟨g', cap, cur.toList, h3 g' rfl, rfl, hg, h5, h6, h7, h8⟩
theorem own_blk {e n b cap : Nat} {c xs : List Value} (hb : w.heap[b]? = some (.cells ⟨c⟩ e (0, 0))) (h1 : n ≤ cap) (h2 : cap ≤ maxLen) (h3 : c.length = cap * sz) (h4 : c.take (n * sz) = xs) : Own w e sz (.slice (some ⟨b, 0, none⟩) n cap) n xs b := by
  have : n * sz ≤ cap * sz := Nat.mul_le_mul_right _ h1
  exact ⟨⟨by rw [← h4, List.length_take]; omega, .inr ⟨b, cap, ⟨c⟩, rfl, Nat.zero_le _, hb, h1, h2, h3, h4⟩⟩, fun k hk => by simp [Value.ownBlock] at hk; simp [hk]⟩
end
section
variable {P : Program} {env : Env} {dst : Option Tmp} {ty : TypeId} {pos : String} {af : Array Edge} {gd : Option (Nat × Bool)} {w : World}
/-- An empty slice literal. -/
theorem t_buildSlice0 {T e sz : Nat} (hu : P.underlying T = some (.slice e)) (he : (P.info? e).map (·.size) = some sz) :
    OpT P env ⟨dst, .buildSlice T 0 ⟨[]⟩, ty, pos, af, gd⟩ w fun r w' => ∃ b, r = .slice (some ⟨b, 0, none⟩) 0 0 ∧ w'.heap[b]? = some (.cells ⟨[]⟩ e (0, 0)) ∧ Ext w w' ∧ w.heap.size ≤ b ∧ b < w'.heap.size := by
  intro a ha next Q hn
  cases hq : P.info? e with
  | none => simp [hq] at he
  | some inf =>
    have hrun : (execOp a.eval ⟨dst, .buildSlice T 0 ⟨[]⟩, ty, pos, af, gd⟩).run P w = .ok (.value (.slice (some ⟨w.heap.size, 0, none⟩) 0 0)) (w.alloc (.cells ⟨[]⟩ e)) := by
      simp [execOp, Instr.buildSlice, run_underlying hu, sizeOf, typeInfo, hq, Instr.fill, newRow]
      congr 2
      exact Array.ext' (by simp)
    unfold Oper.wp
    rw [hrun]
    have := newBlk_alloc w ⟨[]⟩ e
    exact hn _ _ ⟨_, rfl, this.blk, this.ext, this.new, this.lt⟩
/-- append(v, y...), y empty, wherever it lies. -/
theorem t_append00 {x y : Operand} {T e sz by_ n cap : Nat} {a : Option Addr} {v : Value} {xs : List Value} {g : Int} (ht : elemF P T e sz by_ = true) (hx : env.ev x = some v) (hy : env.ev y = some (.slice a 0 cap)) (hown : Own w e sz v n xs g) :
    OpT P env ⟨dst, .call { callee := .builtin .append, args := #[x, y], argTypes := #[T, T] }, ty, pos, af, gd⟩ w fun v' w' => v' = v ∧ w' = w := by
  intro a' ha next Q hn
  obtain ⟨i, z, hu, hi, hsz, hbt, hpos, hz, hzs⟩ := elemF_spec ht
  have hr : (Builtin.append_ #[T, T] ty #[v, .slice a 0 cap]).run P w = .ok v w := by
    rcases hown.1.2 with ⟨rfl, rfl⟩ | ⟨g, cap, cur, rfl, _, _, hnc, _⟩
    · cases a <;> simp [Builtin.append_, run_underlying hu, sizeOf, typeInfo, hi, Builtin.lenOf, Builtin.firstCells, loadCells, loadCellsFrom]
    · cases a <;> simp [Builtin.append_, run_underlying hu, sizeOf, typeInfo, hi, Builtin.lenOf, Builtin.firstCells, loadCells, loadCellsFrom, hnc, storeCells]
  unfold Oper.wp execOp
  simp only [resolve, invoke, builtin, Sem.run_bind, Sem.run_pure, Result.andThen_ok, List.map_toArray, List.map_cons, List.map_nil, ha x _ hx, ha y _ hy, hr]
  exact hn _ _ ⟨rfl, rfl⟩
/-- append(v, y...), y a slice that reads as a list. -/
theorem t_appendL {α : Type} {R : World → α → List Value → Prop} {x y : Operand} {T e sz by_ n m c : Nat} {a : Option Addr} {v : Value} {xs : List Value} {l : List α} {g : Int} (ht : elemF P T e sz by_ = true) (hx : env.ev x = some v) (hy : env.ev y = some (.slice a m c))
    (hown : Own w e sz v n xs g) (hl : SlAt sz R w (.slice a m c) l) (hR : ∀ w x cs, R w x cs → cs.length = sz) (h1 : ∀ x cs, R w x cs → ∀ v ∈ cs, v.oneCell' = true) (h63 : n + m ≤ maxLen) (hby : (n + m) * by_ ≤ 140737488355328) :
    OpT P env ⟨dst, .call { callee := .builtin .append, args := #[x, y], argTypes := #[T, T] }, ty, pos, af, gd⟩ w fun v' w' => ∃ news g', news.length = m * sz ∧ Parts sz R w l news ∧ Appended w e sz g (n + m) (xs ++ news) v' w' g' := by
  obtain ⟨rfl, -⟩ := hl.at
  by_cases hne : l = []
  · subst hne
    intro a' ha next Q hn
    refine t_append00 ht hx hy hown a' ha next Q fun v' w' ⟨h1, h2⟩ => ?_
    subst h1 h2
    exact hn _ _ ⟨[], g, by simp, trivial, ⟨by simpa using hown, ExtB.refl _ _, Nat.le_refl _, .inl rfl⟩⟩
  · obtain ⟨b, o, cs, rfl, hlen, hc, hp⟩ := hl.cells hR hne
    intro a' ha next Q hn
    refine t_append ht hx hy hown hlen hc (hp.all h1 hlen) h63 hby a' ha next Q fun v' w' ⟨g', hap⟩ => ?_
    exact hn _ _ ⟨cs, g', hlen, hp, hap⟩
end
end Go.Fw

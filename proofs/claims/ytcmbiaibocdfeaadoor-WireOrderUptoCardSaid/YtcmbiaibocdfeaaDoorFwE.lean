/- The walk by partial frames, 5: rows of the call's own, and append. -/
import Derived.Test.YtcmbiaibocdfeaaDoorFwD
import Derived.Laws.OwnMore
namespace Go.Fw

/-- v is a slice over a row of the call's own (in block g, if it has one), that holds xs: n elements of sz cells. -/
def Own (w : World) (e : TypeId) (sz : Nat) (v : Value) (n : Nat) (xs : List Value) (g : Int) : Prop := w.ownsRow 0 e sz v n xs ∧ ∀ k, v.ownBlock = some k → (k : Int) = g

theorem own_nil (w : World) (e : TypeId) (sz : Nat) (g : Int) : Own w e sz (.slice none 0 0) 0 [] g := ⟨World.ownsRow_nil w 0 e sz, fun _ h => by cases h⟩
theorem own_lit {w : World} {b n e sz : Nat} {cs : List Value} (h : w.heap[b]? = some (.cells ⟨cs⟩ e (0, 0))) (hn : n ≤ maxLen) (hl : cs.length = n * sz) : Own w e sz (.slice (some ⟨b, 0, none⟩) n n) n cs b :=
  ⟨⟨hl, .inr ⟨b, n, ⟨cs⟩, rfl, Nat.zero_le _, h, Nat.le_refl _, hn, by simpa using hl, by rw [← hl]; exact List.take_length⟩⟩, fun k hk => by simp [Value.ownBlock] at hk; simp [hk]⟩
theorem Own.len {w : World} {e : TypeId} {sz : Nat} {v : Value} {n : Nat} {xs : List Value} {g : Int} (h : Own w e sz v n xs g) : xs.length = n * sz := h.1.1
theorem Own.keep {w w' : World} {e : TypeId} {sz : Nat} {v : Value} {n : Nat} {xs : List Value} {g : Int} (h : Own w e sz v n xs g) {M : Nat → Prop} (he : ExtB M w w') (hm : ∀ k : Nat, (k : Int) = g → ¬ M k) : Own w' e sz v n xs g := by
  obtain ⟨⟨h1, h2⟩, h3⟩ := h
  refine ⟨⟨h1, ?_⟩, h3⟩
  rcases h2 with hn | ⟨g', cap, cur, rfl, hb, hg, rest⟩
  · exact .inl hn
  · exact .inr ⟨g', cap, cur, rfl, hb, he.at hg (hm g' (h3 g' rfl)), rest⟩
theorem Own.ext {w w' : World} {e : TypeId} {sz : Nat} {v : Value} {n : Nat} {xs : List Value} {g : Int} (h : Own w e sz v n xs g) (he : Ext w w') : Own w' e sz v n xs g := h.keep he fun _ _ x => x
theorem Own.ext1 {w w' : World} {e : TypeId} {sz : Nat} {v : Value} {n : Nat} {xs : List Value} {g : Int} (h : Own w e sz v n xs g) {b : Nat} (he : ExtB (fun k => k = b) w w') (hb : g ≠ b) : Own w' e sz v n xs g := h.keep he fun k hk e => by omega
/-- It reads as its elements. -/
theorem Own.cells {w : World} {e : TypeId} {sz : Nat} {v : Value} {n : Nat} {xs : List Value} {g : Int} (h : Own w e sz v n xs g) :
    (v = .slice none 0 0 ∧ n = 0 ∧ xs = []) ∨ ∃ cap, ∃ b : Nat, (b : Int) = g ∧ v = .slice (some ⟨b, 0, none⟩) n cap ∧ Cells w b 0 xs ∧ n ≤ cap ∧ b < w.heap.size := by
  obtain ⟨⟨h1, h2⟩, h3⟩ := h
  rcases h2 with ⟨hv, hn⟩ | ⟨g', cap, cur, rfl, hb, hg, hnc, hcm, hsz, htake⟩
  · exact .inl ⟨hv, hn, List.eq_nil_of_length_eq_zero (by rw [h1, hn]; simp)⟩
  · refine .inr ⟨cap, g', h3 g' rfl, rfl, cells_blk hg fun i u hu => ?_, hnc, lt_of_at hg⟩
    rw [← htake, List.getElem?_take] at hu
    split at hu
    · simpa using hu
    · cases hu

/-- A row of the call's own has turned. -/
theorem ExtB.atG {g : Int} {w w' : World} (h : ExtB (fun k => (k : Int) = g) w w') {k : Nat} {o : Obj} (ho : w.heap[k]? = some o) (hk : (k : Int) ≠ g) : w'.heap[k]? = some o := h.blk k o hk ho
theorem ExtB.newG {g : Int} {a b c : World} (h : Ext a b) (e : ExtB (fun j => (j : Int) = g) b c) (hk : (a.heap.size : Int) ≤ g ∨ g < 0) : Ext a c := h.new e fun j hj => by omega
theorem ExtB.newBG {M : Nat → Prop} {g : Int} {a b c : World} (h : ExtB M a b) (e : ExtB (fun j => (j : Int) = g) b c) (hk : ∀ k : Nat, (k : Int) = g → a.heap.size ≤ k ∨ M k) : ExtB M a c := h.newB e fun j hj => hk j hj

def elemF (P : Program) (T e sz by_ : Nat) : Bool :=
  match P.underlying T, P.info? e with
  | some (.slice e'), some i => Nat.beq e' e && Nat.beq i.size sz && Nat.beq i.bytes by_ && Nat.blt 0 sz && (match i.zero with | some z => Nat.beq z.cells.size sz | none => false)
  | _, _ => false
theorem elemF_spec {P : Program} {T e sz by_ : Nat} (h : elemF P T e sz by_ = true) : ∃ i z, P.underlying T = some (.slice e) ∧ P.info? e = some i ∧ i.size = sz ∧ i.bytes = by_ ∧ 0 < sz ∧ i.zero = some z ∧ z.cells.size = sz := by
  unfold elemF at h
  split at h
  · rename_i e' i hu hi
    simp only [Bool.and_eq_true] at h
    obtain ⟨⟨⟨⟨h1, h2⟩, h3⟩, h4⟩, h5⟩ := h
    have h1 := Nat.eq_of_beq_eq_true h1
    subst h1
    split at h5
    · rename_i z hz
      exact ⟨i, z, hu, hi, Nat.eq_of_beq_eq_true h2, Nat.eq_of_beq_eq_true h3, by simpa [Nat.blt_eq] using h4, hz, Nat.eq_of_beq_eq_true h5⟩
    · cases h5
  · cases h

/-- What append hands back. -/
structure Appended (w : World) (e : TypeId) (sz : Nat) (g : Int) (n : Nat) (xs : List Value) (v' : Value) (w' : World) (g' : Int) : Prop where
  own : Own w' e sz v' n xs g'
  ext : ExtB (fun k => (k : Int) = g) w w'
  size : w.heap.size ≤ w'.heap.size
  new : g' = g ∨ w.heap.size ≤ g' ∧ g' < w'.heap.size

section
variable {P : Program} {env : Env} {dst : Option Tmp} {ty : TypeId} {pos : String} {af : Array Edge} {gd : Option (Nat × Bool)} {w : World}

theorem grownRow {w : World} {e sz n cap : Nat} {z : Value} {cs : List Value} (hz : z.cells.size = sz) (hl : cs.length = n * sz) (hn : n ≤ cap) (hc : cap ≤ maxLen) {a : Array Value} (ha : a = cs.toArray ++ Builtin.zeroCells z.cells (cap - n)) :
    Own (w.drew.alloc (.cells a e)) e sz (.slice (some ⟨w.heap.size, 0, none⟩) n cap) n cs (w.heap.size : Int) := by
  subst ha
  refine ⟨⟨hl, .inr ⟨w.heap.size, cap, _, rfl, Nat.zero_le _, heap_alloc_new w.drew _, hn, hc, ?_, ?_⟩⟩, fun k hk => by simp [Value.ownBlock] at hk; simp [hk]⟩
  · simp only [Array.size_append, List.size_toArray, size_zeroCells, hz, hl, ← Nat.add_mul]
    congr 1
    omega
  · simp only [Array.toList_append]
    rw [← hl]
    exact List.take_left
theorem ext_drew_alloc (w : World) (o : Obj) : Ext w (w.drew.alloc o) := (Ext.drew w).trans (Ext.alloc _ o)

theorem run_append_some {T e sz by_ n m c : Nat} {v : Value} {xs news : List Value} {g : Int} {b o : Nat} (ty : TypeId) (ht : elemF P T e sz by_ = true) (hown : Own w e sz v n xs g) (hl : news.length = m * sz) (hc : Cells w b o news)
    (h1 : ∀ u ∈ news, u.oneCell' = true) (h63 : n + m ≤ maxLen) (hby : (n + m) * by_ ≤ 140737488355328) :
    ∃ v' w' g', (Builtin.append_ #[T, T] ty #[v, .slice (some ⟨b, o, none⟩) m c]).run P w = .ok v' w' ∧ Appended w e sz g (n + m) (xs ++ news) v' w' g' := by
  obtain ⟨i, z, hu, hi, hsz, hbt, hpos, hz, hzs⟩ := elemF_spec ht
  subst hsz hbt
  have hsmall : n + m ≤ 9223372036854775807 := by simp only [maxLen] at h63; omega
  have hnews : ∀ j u, news[j]? = some u → w.cell? ((⟨b, o, none⟩ : Addr).add j) = some u := fun j u hj => by rw [Addr.add_mid]; exact hc j u hj
  obtain ⟨⟨hxl, hv⟩, hog⟩ := hown
  have hlen : (xs ++ news).length = (n + m) * i.size := by rw [List.length_append, hxl, hl, Nat.add_mul]
  rcases hv with ⟨rfl, rfl⟩ | ⟨g', cap, cur, rfl, hbg, hg, hnc, hcm, hcs, htake⟩
  · have hx : xs = [] := List.eq_nil_of_length_eq_zero (by simpa using hxl)
    subst hx
    by_cases hm : m = 0
    · subst hm
      have hn : news = [] := List.eq_nil_of_length_eq_zero (by simpa using hl)
      subst hn
      refine ⟨.slice none 0 0, w, g, ?_, own_nil _ _ _ _, ExtB.refl _ _, Nat.le_refl _, .inl rfl⟩
      simp [Builtin.append_, run_underlying hu, sizeOf, typeInfo, hi, Builtin.lenOf, Builtin.firstCells, loadCells, loadCellsFrom]
    · have hr := run_append_nil (P := P) w T ty e i z hu hi hz ⟨b, o, none⟩ m c news hl hnews (by omega) (by omega) (by simp only [Nat.zero_add] at hby; omega)
      have hge := grownCap_ge w m 0 e
      have hcap := grownCap_le_maxLen w m 0 e (by omega)
      refine ⟨_, _, w.heap.size, hr, ?_, (ext_drew_alloc w _).toB, (ext_drew_alloc w _).size, .inr ⟨Int.le_refl _, Int.ofNat_lt.2 (by simp)⟩⟩
      have := grownRow (w := w) (e := e) (z := z) (cs := news) hzs hl hge hcap rfl
      simpa using this
  · have hgg : (g' : Int) = g := hog g' rfl
    subst hgg
    by_cases hroom : n + m ≤ cap
    · have hfit : n * i.size + news.length ≤ cur.size := by rw [hl, hcs, ← Nat.add_mul]; exact Nat.mul_le_mul_right _ hroom
      have hr := run_append_room (P := P) w T ty e i hu hi g' n cap cur hg ⟨b, o, none⟩ m c news hl hnews h1 hroom hfit
      refine ⟨_, _, g', hr, ⟨⟨hlen, .inr ⟨g', cap, _, rfl, hbg, setRow_heap w g' cur _ e _ hg, hroom, hcm, ?_, ?_⟩⟩, fun k hk => by simp [Value.ownBlock] at hk; simp [hk]⟩, ?_, ?_, .inl rfl⟩
      · simp only [List.size_toArray, List.length_append, List.length_take, List.length_drop, Array.length_toList]
        omega
      · rw [htake, ← hlen]
        exact List.take_left
      · exact (setRow_facts hg _).2.1.mono fun k _ e => by subst e; rfl
      · exact (setRow_facts hg _).2.2
    · have holds : ∀ j u, xs[j]? = some u → w.cell? ((⟨g', 0, none⟩ : Addr).add j) = some u := by
        have hown : w.ownsRow 0 e i.size (.slice (some ⟨g', 0, none⟩) n cap) n xs := ⟨hxl, .inr ⟨g', cap, cur, rfl, hbg, hg, hnc, hcm, hcs, htake⟩⟩
        exact hown.cells (g := g') rfl
      have hr := run_append_grow (P := P) w T ty e i z hu hi hz ⟨g', 0, none⟩ n cap xs hxl holds ⟨b, o, none⟩ m c news hl hnews (by omega) (by omega) (growslice_fits (by omega) hby)
      have hge := grownCap_ge w (n + m) cap e
      have hcap := grownCap_le_maxLen w (n + m) cap e h63
      refine ⟨_, _, w.heap.size, hr, ?_, (ext_drew_alloc w _).toB, (ext_drew_alloc w _).size, .inr ⟨Int.le_refl _, Int.ofNat_lt.2 (by simp)⟩⟩
      exact grownRow (w := w) (e := e) (z := z) (cs := xs ++ news) hzs hlen hge hcap (by simp)

/-- append(v, y...), y a slice that reads as news. -/
theorem t_append {x y : Operand} {T e sz by_ n m c : Nat} {v : Value} {xs news : List Value} {g : Int} {b o : Nat} (ht : elemF P T e sz by_ = true) (hx : env.ev x = some v) (hy : env.ev y = some (.slice (some ⟨b, o, none⟩) m c))
    (hown : Own w e sz v n xs g) (hl : news.length = m * sz) (hc : Cells w b o news) (h1 : ∀ u ∈ news, u.oneCell' = true) (h63 : n + m ≤ maxLen) (hby : (n + m) * by_ ≤ 140737488355328) :
    OpT P env ⟨dst, .call { callee := .builtin .append, args := #[x, y], argTypes := #[T, T] }, ty, pos, af, gd⟩ w fun v' w' => ∃ g', Appended w e sz g (n + m) (xs ++ news) v' w' g' := by
  intro a ha next Q hn
  obtain ⟨v', w', g', hr, hap⟩ := run_append_some ty ht hown hl hc h1 h63 hby (c := c)
  unfold Oper.wp execOp
  simp only [resolve, invoke, builtin, Sem.run_bind, Sem.run_pure, Result.andThen_ok, List.map_toArray, List.map_cons, List.map_nil, ha x _ hx, ha y _ hy, hr]
  exact hn _ _ ⟨g', hap⟩
/-- append(v, y...), y nil. -/
theorem t_append0 {x y : Operand} {T e sz by_ n : Nat} {v : Value} {xs : List Value} {g : Int} (ht : elemF P T e sz by_ = true) (hx : env.ev x = some v) (hy : env.ev y = some (.slice none 0 0)) (hown : Own w e sz v n xs g) :
    OpT P env ⟨dst, .call { callee := .builtin .append, args := #[x, y], argTypes := #[T, T] }, ty, pos, af, gd⟩ w fun v' w' => v' = v ∧ w' = w := by
  intro a ha next Q hn
  obtain ⟨i, z, hu, hi, hsz, hbt, hpos, hz, hzs⟩ := elemF_spec ht
  have hr := run_append_owned_none (P := P) (w := w) 0 T ty e i sz hu hi v n xs hown.1
  unfold Oper.wp execOp
  simp only [resolve, invoke, builtin, Sem.run_bind, Sem.run_pure, Result.andThen_ok, List.map_toArray, List.map_cons, List.map_nil, ha x _ hx, ha y _ hy, hr]
  exact hn _ _ ⟨rfl, rfl⟩
end
end Go.Fw

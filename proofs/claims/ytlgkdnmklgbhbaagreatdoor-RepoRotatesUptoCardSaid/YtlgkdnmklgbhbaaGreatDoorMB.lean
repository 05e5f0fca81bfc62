/- What memory reads as: rows, targets, delegations. -/
import Derived.Test.YtlgkdnmklgbhbaaGreatDoorFactsM
import Derived.Test.YtlgkdnmklgbhbaaGreatDoorMA
import Derived.Laws.BytesArg
import Derived.Lib.AppendZeros
import Derived.Lib.Bytealg
namespace Go.Fw

/-- A slice reads as a list: each element's cells stand for it. -/
def SlAt {α : Type} (sz : Nat) (R : World → α → List Value → Prop) (w : World) (v : Value) (l : List α) : Prop :=
  ∃ a cap, v = .slice a l.length cap ∧ (∀ i x, l[i]? = some x → ∃ b o cs, a = some ⟨b, o, none⟩ ∧ R w x cs ∧ Cells w b (o + i * sz) cs)
def Stable {α : Type} (R : World → α → List Value → Prop) : Prop := ∀ w w' x cs, Ext w w' → R w x cs → R w' x cs
theorem SlAt.ext {α : Type} {sz : Nat} {R : World → α → List Value → Prop} (hR : Stable R) {w w' : World} {v : Value} {l : List α} (h : SlAt sz R w v l) (he : Ext w w') : SlAt sz R w' v l := by
  obtain ⟨a, cap, hv, h⟩ := h;refine ⟨a, cap, hv, fun i x hi => ?_⟩;obtain ⟨b, o, cs, ha, hr, hc⟩ := h i x hi;exact ⟨b, o, cs, ha, hR _ _ _ _ he hr, hc.ext he⟩
theorem SlAt.at {α : Type} {sz : Nat} {R : World → α → List Value → Prop} {w : World} {a : Option Addr} {len cap : Nat} {l : List α} (h : SlAt sz R w (.slice a len cap) l) : len = l.length ∧ ∀ i (hi : i < l.length), ∃ b o cs, a = some ⟨b, o, none⟩ ∧ R w l[i] cs ∧ Cells w b (o + i * sz) cs := by
  obtain ⟨a', cap', hv, h⟩ := h;cases hv;exact ⟨rfl, fun i hi => h i _ (by simp [hi])⟩


theorem sl_nil {α : Type} {sz : Nat} {R : World → α → List Value → Prop} {w : World} : SlAt sz R w (.slice none 0 0) [] := ⟨none, 0, rfl, fun i x h => by simp at h⟩
def Parts {α : Type} (sz : Nat) (R : World → α → List Value → Prop) (w : World) : List α → List Value → Prop
  | [], _ => True
  | x :: r, cs => R w x (cs.take sz) ∧ Parts sz R w r (cs.drop sz)
theorem pn {α : Type} {sz : Nat} {R : World → α → List Value → Prop} {w : World} {cs : List Value} : Parts sz R w [] cs := trivial
theorem pc {α : Type} {sz : Nat} {R : World → α → List Value → Prop} {w : World} {x : α} {r : List α} {cs : List Value} (h : R w x (cs.take sz)) (hr : Parts sz R w r (cs.drop sz)) : Parts sz R w (x :: r) cs := ⟨h, hr⟩
theorem sl_lit {α : Type} {sz : Nat} {R : World → α → List Value → Prop} {w : World} {b cap : Nat} {cs : List Value} {T : TypeId} {fr : Nat × Nat} {l : List α} (h : w.heap[b]? = some (.cells ⟨cs⟩ T fr)) (hp : Parts sz R w l cs) : SlAt sz R w (.slice (some ⟨b, 0, none⟩) l.length cap) l := by
  have key : ∀ (l : List α) (cs : List Value), Parts sz R w l cs → ∀ i x, l[i]? = some x → R w x ((cs.drop (i * sz)).take sz) := by
    intro l
    induction l with
    | nil => intro cs _ i x h; simp at h
    | cons y r ih =>
      intro cs hp i x hi
      cases i with
      | zero => simp at hi; subst hi; simpa using hp.1
      | succ i =>
        have := ih _ hp.2 i x (by simpa using hi);rw [List.drop_drop] at this
        rwa [show (i + 1) * sz = sz + i * sz by rw [Nat.add_mul]; omega]
  refine ⟨some ⟨b, 0, none⟩, cap, rfl, fun i x hi => ⟨b, 0, _, rfl, key l cs hp i x hi, cells_blk h fun j v hj => ?_⟩⟩;rw [List.getElem?_take] at hj;split at hj
  · rw [List.getElem?_drop] at hj
    simpa using hj
  · cases hj
structure Tgt where
  name : ByteArray
  size : Int
  sum : List UInt8
  hw : ByteArray
  ctr : Int
  ecu : ByteArray
  deriving DecidableEq
def Tgt.wf (t : Tgt) : Prop := t.sum.length = 32
def Tgt.cells (t : Tgt) : List Value := .string t.name :: .int .i64 t.size :: (hcells t.sum ++ [.string t.hw, .int .i64 t.ctr, .string t.ecu])
theorem Tgt.cells_length {t : Tgt} (h : t.wf) : t.cells.length = 37 := by
  have : t.sum.length = 32 := h;simp [Tgt.cells, Qk, this]
theorem Tgt.c0 (t : Tgt) : t.cells[0]? = some (.string t.name) := rfl
theorem Tgt.c1 (t : Tgt) : t.cells[1]? = some (.int .i64 t.size) := rfl
theorem Tgt.c34 {t : Tgt} (h : t.wf) : t.cells[34]? = some (.string t.hw) := by
  have : t.sum.length = 32 := h;simp [Tgt.cells, Qk, this, List.getElem?_append]
theorem Tgt.c35 {t : Tgt} (h : t.wf) : t.cells[35]? = some (.int .i64 t.ctr) := by
  have : t.sum.length = 32 := h;simp [Tgt.cells, Qk, this, List.getElem?_append]
theorem Tgt.c36 {t : Tgt} (h : t.wf) : t.cells[36]? = some (.string t.ecu) := by
  have : t.sum.length = 32 := h;simp [Tgt.cells, Qk, this, List.getElem?_append]
theorem Tgt.one (t : Tgt) : ∀ v ∈ t.cells, v.oneCell' = true := by
  intro v hv;simp only [Tgt.cells, hcells, List.mem_cons, List.mem_append, List.mem_map, List.not_mem_nil, or_false] at hv;rcases hv with rfl | rfl | ⟨b, _, rfl⟩ | rfl | rfl | rfl <;> rfl
def RTgt (_ : World) (t : Tgt) (cs : List Value) : Prop := t.wf ∧ cs = t.cells
theorem RTgt.stable : Stable RTgt := fun _ _ _ _ _ h => h

structure Del where
  name : ByteArray
  pfx : ByteArray
  last : Bool
def RDel (_ : World) (d : Del) (cs : List Value) : Prop := ∃ a n c need, cs = [.string d.name, .slice a n c, .int .i64 need, .string d.pfx, .bool d.last]
structure Tgs where
  name : ByteArray
  ver : Int
  exp : Int
  l : List Tgt
  d : List Del
def RTgs (w : World) (x : Tgs) (cs : List Value) : Prop :=
  ∃ lv dv, cs = [.string x.name, .int .i64 x.ver, .int .i64 x.exp, lv, dv] ∧ SlAt 37 RTgt w lv x.l ∧ SlAt 5 RDel w dv x.d
theorem rtgt {w : World} {t : Tgt} (h : t.wf) : RTgt w t t.cells := ⟨h, rfl⟩
/-- The first place at which p holds, or -1. -/
def idxOf {α : Type} (p : α → Bool) (l : List α) : Int := match l.findIdx? p with | some i => i | none => -1
theorem idxOf_hit {α : Type} {p : α → Bool} {l : List α} {k : Nat} (hk : k < l.length) (hno : ∀ j x, j < k → l[j]? = some x → p x = false) (h : p l[k] = true) : idxOf p l = k := by
  have : l.findIdx? p = some k := by
    rw [List.findIdx?_eq_some_iff_getElem];exact ⟨hk, h, fun j hj => by simpa using hno j l[j] hj (by simp)⟩
  simp [idxOf, this]
theorem idxOf_none {α : Type} {p : α → Bool} {l : List α} (hno : ∀ j x, j < l.length → l[j]? = some x → p x = false) : idxOf p l = -1 := by
  have : l.findIdx? p = none := by
    rw [List.findIdx?_eq_none_iff];intro x hx;obtain ⟨i, hi, rfl⟩ := List.mem_iff_getElem.1 hx;exact hno i _ hi (by simp)
  simp [idxOf, this]
theorem idxOf_snoc {α : Type} {p : α → Bool} {l : List α} {k : Nat} (hk : k < l.length) (hno : ∀ j x, j < k → l[j]? = some x → p x = false) (h : p l[k] = false) : ∀ j x, j < k + 1 → l[j]? = some x → p x = false := by
  intro j x hj hx;by_cases e : j = k
  · subst e;have : l[j]? = some l[j] := by simp
    rw [this] at hx;cases hx;exact h
  · exact hno j x (by omega) hx
theorem drop_of_get {α : Type} {l : List α} {k : Nat} {d : α} (h : l[k]? = some d) : l.drop k = d :: l.drop (k + 1) := by
  obtain ⟨hk, rfl⟩ := List.getElem?_eq_some_iff.1 h;exact List.drop_eq_getElem_cons hk
def RInt (_ : World) (x : Int) (cs : List Value) : Prop := cs = [.int .i64 x]
def hasPfx (s t : ByteArray) : Bool := decide (t.size ≤ s.size) && decide (s.extract 0 t.size = t)
end Go.Fw
/- Rows of elements as one list of cells. -/
namespace Go.Fw
section
variable {α β : Type} {sz : Nat} {R : World → α → List Value → Prop} {R' : World → β → List Value → Prop} {w w' : World}
theorem Parts.get : ∀ {l : List α} {cs : List Value}, Parts sz R w l cs → ∀ {i : Nat} {x : α}, l[i]? = some x → R w x ((cs.drop (i * sz)).take sz)
  | [], _, _, _, _, h => by simp at h
  | y :: r, cs, hp, 0, x, h => by simp at h; subst h; simpa using hp.1
  | y :: r, cs, hp, i + 1, x, h => by
    have := Parts.get (l := r) hp.2 (i := i) (x := x) (by simpa using h);rw [List.drop_drop] at this
    rwa [show (i + 1) * sz = sz + i * sz by rw [Nat.add_mul]; omega]
theorem Parts.mono : ∀ {l : List α} {cs : List Value} {R₂ : World → α → List Value → Prop}, (∀ x cs, x ∈ l → R w x cs → R₂ w' x cs) → Parts sz R w l cs → Parts sz R₂ w' l cs
  | [], _, _, _, _ => trivial
  | y :: r, cs, R₂, h, hp => ⟨h _ _ (by simp) hp.1, Parts.mono (fun x cs hx => h x cs (by simp [hx])) hp.2⟩
theorem Parts.app {l' : List α} {ds : List Value} : ∀ {l : List α} {cs : List Value}, Parts sz R w l cs → cs.length = l.length * sz → Parts sz R w l' ds → Parts sz R w (l ++ l') (cs ++ ds)
  | [], cs, _, hl, h => by
    have : cs = [] := List.eq_nil_of_length_eq_zero (by simpa using hl);subst this;exact h
  | y :: r, cs, hp, hl, h => by
    have hl' : sz ≤ cs.length := by rw [hl, List.length_cons, Nat.add_mul]; omega
    refine ⟨by rw [List.take_append_of_le_length hl']; exact hp.1, ?_⟩;rw [List.drop_append_of_le_length hl'];exact Parts.app hp.2 (by rw [List.length_drop, hl, List.length_cons, Nat.add_mul]; omega) h
theorem sl_cells {b o cap : Nat} {cs : List Value} {l : List α} (h : Cells w b o cs) (hp : Parts sz R w l cs) : SlAt sz R w (.slice (some ⟨b, o, none⟩) l.length cap) l := by
  refine ⟨some ⟨b, o, none⟩, cap, rfl, fun i x hi => ⟨b, o, _, rfl, hp.get hi, ?_⟩⟩;refine h.mid (i * sz) rfl fun j u hj => ?_
  rw [List.getElem?_take] at hj;split at hj
  · rwa [List.getElem?_drop] at hj
  · cases hj
/-- A row that reads as a list is one list of cells. -/
theorem SlAt.flat {b : Nat} (hR : ∀ w x cs, R w x cs → cs.length = sz) : ∀ {l : List α} {o : Nat}, (∀ i x, l[i]? = some x → ∃ cs, R w x cs ∧ Cells w b (o + i * sz) cs) → ∃ cs, cs.length = l.length * sz ∧ Cells w b o cs ∧ Parts sz R w l cs
  | [], o, _ => ⟨[], by simp, fun j v hj => by simp at hj, trivial⟩
  | y :: r, o, h => by
    obtain ⟨c0, h0, hc0⟩ := h 0 y (by simp)
    obtain ⟨cs, hl, hc, hp⟩ := SlAt.flat (b := b) hR (l := r) (o := o + sz) fun i x hi => by
      obtain ⟨ci, h1, h2⟩ := h (i + 1) x (by simpa using hi);exact ⟨ci, h1, by rwa [show o + sz + i * sz = o + (i + 1) * sz by rw [Nat.add_mul]; omega]⟩
    have hl0 := hR _ _ _ h0;refine ⟨c0 ++ cs, by rw [List.length_append, hl, hl0, List.length_cons, Nat.add_mul]; omega, fun j v hj => ?_, ?_, ?_⟩
    · by_cases hjs : j < sz
      · rw [List.getElem?_append_left (by omega)] at hj
        simpa using hc0 j v hj
      · rw [List.getElem?_append_right (by omega)] at hj;have := hc _ v hj;rw [hl0] at this
        rwa [show o + sz + (j - sz) = o + j by omega] at this
    · rw [List.take_append_of_le_length (by omega), List.take_of_length_le (by omega)]; exact h0
    · rw [List.drop_append_of_le_length (by omega), List.drop_of_length_le (by omega)]; exact hp
theorem SlAt.cells {a : Option Addr} {n cap : Nat} (hR : ∀ w x cs, R w x cs → cs.length = sz) {l : List α} (h : SlAt sz R w (.slice a n cap) l) (hne : l ≠ []) : ∃ b o cs, a = some ⟨b, o, none⟩ ∧ cs.length = l.length * sz ∧ Cells w b o cs ∧ Parts sz R w l cs := by
  obtain ⟨a', cap', hv, h⟩ := h;cases hv
  obtain ⟨y, r, rfl⟩ : ∃ y r, l = y :: r := by
    cases l with
    | nil => exact absurd rfl hne
    | cons y r => exact ⟨y, r, rfl⟩
  obtain ⟨b, o, _, rfl, _, _⟩ := h 0 y (by simp)
  obtain ⟨cs, h1, h2, h3⟩ := SlAt.flat (b := b) hR (l := y :: r) (o := o) fun i x hi => by
    obtain ⟨b', o', ci, ha, hr, hc⟩ := h i x hi;cases ha;exact ⟨ci, hr, hc⟩
  exact ⟨b, o, cs, rfl, h1, h2, h3⟩
theorem Cells.take {b o : Nat} {cs : List Value} (h : Cells w b o cs) (n : Nat) : Cells w b o (cs.take n) := fun j v hj => by
  rw [List.getElem?_take] at hj;split at hj
  · exact h j v hj
  · cases hj
theorem Parts.all {Q : Value → Prop} (hQ : ∀ x cs, R w x cs → ∀ v ∈ cs, Q v) : ∀ {l : List α} {cs : List Value}, Parts sz R w l cs → cs.length = l.length * sz → ∀ v ∈ cs, Q v
  | [], cs, _, hl, v, hv => by
    have : cs = [] := List.eq_nil_of_length_eq_zero (by simpa using hl);subst this;cases hv
  | y :: r, cs, hp, hl, v, hv => by
    rw [← List.take_append_drop sz cs] at hv;rcases List.mem_append.1 hv with h | h
    · exact hQ _ _ hp.1 v h
    · exact Parts.all hQ (l := r) hp.2 (by rw [List.length_drop, hl, List.length_cons, Nat.add_mul]; omega) v h
theorem own_slat {e n : Nat} {v : Value} {xs : List Value} {g : Int} {l : List α} (h : Own w e sz v n xs g) (hp : Parts sz R w l xs) (hl : l.length = n) : SlAt sz R w v l := by
  rcases h.cells with ⟨rfl, hn, _⟩ | ⟨cap, b, _, rfl, hc, _, _⟩
  · obtain rfl : l = [] := List.eq_nil_of_length_eq_zero (by omega);exact sl_nil
  · subst hl;exact sl_cells hc hp
theorem Own.blk {e n : Nat} {v : Value} {xs : List Value} {g : Int} (h : Own w e sz v n xs g) (hn : 0 < n) : ∃ (b cap : Nat) (c : List Value), (b : Int) = g ∧ v = .slice (some ⟨b, 0, none⟩) n cap ∧ w.heap[b]? = some (.cells ⟨c⟩ e (0, 0)) ∧ n ≤ cap ∧ cap ≤ maxLen ∧ c.length = cap * sz ∧ c.take (n * sz) = xs := by
  obtain ⟨⟨_, h2⟩, h3⟩ := h;rcases h2 with ⟨_, h0⟩ | ⟨g', cap, cur, rfl, _, hg, h5, h6, h7, h8⟩
  · omega
  · exact ⟨g', cap, cur.toList, h3 g' rfl, rfl, hg, h5, h6, h7, h8⟩
theorem own_blk {e n b cap : Nat} {c xs : List Value} (hb : w.heap[b]? = some (.cells ⟨c⟩ e (0, 0))) (h1 : n ≤ cap) (h2 : cap ≤ maxLen) (h3 : c.length = cap * sz) (h4 : c.take (n * sz) = xs) : Own w e sz (.slice (some ⟨b, 0, none⟩) n cap) n xs b := by
  have : n * sz ≤ cap * sz := Nat.mul_le_mul_right _ h1;exact ⟨⟨by rw [← h4, List.length_take]; omega, .inr ⟨b, cap, ⟨c⟩, rfl, Nat.zero_le _, hb, h1, h2, h3, h4⟩⟩, fun k hk => by simp [Value.ownBlock] at hk; simp [hk]⟩
end
section
variable {P : Program} {env : Env} {dst : Option Tmp} {ty : TypeId} {pos : String} {af : Array Edge} {gd : Option (Nat × Bool)} {w : World}
/-- An empty slice literal. -/
theorem t_buildSlice0 {T e sz : Nat} (hu : P.underlying T = some (.slice e)) (he : (P.info? e).map (·.size) = some sz) :
    OpT P env ⟨dst, .buildSlice T 0 ⟨[]⟩, ty, pos, af, gd⟩ w fun r w' => ∃ b, r = .slice (some ⟨b, 0, none⟩) 0 0 ∧ w'.heap[b]? = some (.cells ⟨[]⟩ e (0, 0)) ∧ Ext w w' ∧ w.heap.size ≤ b ∧ b < w'.heap.size := by
  intro a ha next Q hn
  cases hq : P.info? e with
  | none => simp [hq] at he
  | some inf =>
    have hrun : (execOp a.eval ⟨dst, .buildSlice T 0 ⟨[]⟩, ty, pos, af, gd⟩).run P w = .ok (.value (.slice (some ⟨w.heap.size, 0, none⟩) 0 0)) (w.alloc (.cells ⟨[]⟩ e)) := by
      simp [execOp, Instr.buildSlice, run_underlying hu, sizeOf, typeInfo, hq, Instr.fill, newRow]
      congr 2
      exact Array.ext' (by simp)
    unfold Oper.wp;rw [hrun];have := newBlk_alloc w ⟨[]⟩ e;exact hn _ _ ⟨_, rfl, this.blk, this.ext, this.new, this.lt⟩
/-- append(v, y...), y empty, wherever it lies. -/
theorem t_append00 {x y : Operand} {T e sz by_ n cap : Nat} {a : Option Addr} {v : Value} {xs : List Value} {g : Int} (ht : elemF P T e sz by_ = true) (hx : env.ev x = some v) (hy : env.ev y = some (.slice a 0 cap)) (hown : Own w e sz v n xs g) :
    OpT P env ⟨dst, .call { callee := .builtin .append, args := #[x, y], argTypes := #[T, T] }, ty, pos, af, gd⟩ w fun v' w' => v' = v ∧ w' = w := by
  intro a' ha next Q hn
  obtain ⟨i, z, hu, hi, hsz, hbt, hpos, hz, hzs⟩ := elemF_spec ht
  have hr : (Builtin.append_ #[T, T] ty #[v, .slice a 0 cap]).run P w = .ok v w := by
    rcases hown.1.2 with ⟨rfl, rfl⟩ | ⟨g, cap, cur, rfl, _, _, hnc, _⟩
    · cases a <;> simp [Builtin.append_, run_underlying hu, sizeOf, typeInfo, hi, Builtin.lenOf, Builtin.firstCells, loadCells, loadCellsFrom]
    · cases a <;> simp [Builtin.append_, run_underlying hu, sizeOf, typeInfo, hi, Builtin.lenOf, Builtin.firstCells, loadCells, loadCellsFrom, hnc, storeCells]
  unfold Oper.wp execOp;simp only [resolve, invoke, builtin, Sem.run_bind, Sem.run_pure, Result.andThen_ok, List.map_toArray, List.map_cons, List.map_nil, ha x _ hx, ha y _ hy, hr];exact hn _ _ ⟨rfl, rfl⟩
/-- append(v, y...), y a slice that reads as a list. -/
theorem t_appendL {α : Type} {R : World → α → List Value → Prop} {x y : Operand} {T e sz by_ n m c : Nat} {a : Option Addr} {v : Value} {xs : List Value} {l : List α} {g : Int} (ht : elemF P T e sz by_ = true) (hx : env.ev x = some v) (hy : env.ev y = some (.slice a m c))
    (hown : Own w e sz v n xs g) (hl : SlAt sz R w (.slice a m c) l) (hR : ∀ w x cs, R w x cs → cs.length = sz) (h1 : ∀ x cs, R w x cs → ∀ v ∈ cs, v.oneCell' = true) (h63 : n + m ≤ maxLen) (hby : (n + m) * by_ ≤ 140737488355328) :
    OpT P env ⟨dst, .call { callee := .builtin .append, args := #[x, y], argTypes := #[T, T] }, ty, pos, af, gd⟩ w fun v' w' => ∃ news g', news.length = m * sz ∧ Parts sz R w l news ∧ Appended w e sz g (n + m) (xs ++ news) v' w' g' := by
  obtain ⟨rfl, -⟩ := hl.at;by_cases hne : l = []
  · subst hne;intro a' ha next Q hn
    refine t_append00 ht hx hy hown a' ha next Q fun v' w' ⟨h1, h2⟩ => ?_
    subst h1 h2;exact hn _ _ ⟨[], g, by simp, trivial, ⟨by simpa using hown, ExtB.refl _ _, Nat.le_refl _, .inl rfl⟩⟩
  · obtain ⟨b, o, cs, rfl, hlen, hc, hp⟩ := hl.cells hR hne;intro a' ha next Q hn
    refine t_append ht hx hy hown hlen hc (hp.all h1 hlen) h63 hby a' ha next Q fun v' w' ⟨g', hap⟩ => ?_
    exact hn _ _ ⟨cs, g', hlen, hp, hap⟩
end
end Go.Fw
/- Rows of bytes, and a writer and a reader of them in memory. -/
namespace Go.Fw
def RByte (_ : World) (b : UInt8) (cs : List Value) : Prop := cs = [.int .u8 b.toNat]
theorem RByte.stable : Stable RByte := fun _ _ _ _ _ h => h
theorem rbyte_len (w : World) (x : UInt8) (cs : List Value) (h : RByte w x cs) : cs.length = 1 := by obtain rfl := h; rfl
theorem rbyte_one {w : World} (x : UInt8) (cs : List Value) (h : RByte w x cs) : ∀ v ∈ cs, v.oneCell' = true := by obtain rfl := h; simp
theorem parts_bytes {w : World} : ∀ (l : List UInt8), Parts 1 RByte w l (hcells l)
  | [] => trivial
  | b :: l => ⟨rfl, parts_bytes l⟩
theorem bytes_parts {w : World} : ∀ {l : List UInt8} {cs : List Value}, Parts 1 RByte w l cs → cs.length = l.length * 1 → cs = hcells l
  | [], cs, _, hl => List.eq_nil_of_length_eq_zero (by simpa using hl)
  | b :: l, cs, h, hl => by
    obtain ⟨h1, h2⟩ := h
    cases cs with
    | nil => simp at hl
    | cons c cs =>
      have h1' : [c] = [.int .u8 b.toNat] := h1;cases h1';have := bytes_parts (l := l) (cs := cs) h2 (by simp at hl ⊢; omega);rw [this];rfl
theorem SlAt.get {α : Type} {sz : Nat} {R : World → α → List Value → Prop} {w : World} {a : Option Addr} {len cap : Nat} {l : List α} (h : SlAt sz R w (.slice a len cap) l) {i : Nat} {x : α} (hx : l[i]? = some x) : ∃ b o cs, a = some ⟨b, o, none⟩ ∧ R w x cs ∧ Cells w b (o + i * sz) cs := by
  obtain ⟨a', cap', hv, h⟩ := h;cases hv;exact h i x hx
theorem Own.shape {w : World} {e sz : Nat} {v : Value} {n : Nat} {xs : List Value} {g : Int} (h : Own w e sz v n xs g) : ∃ a c, v = .slice a n c := by
  rcases h.cells with ⟨hv, hn, _⟩ | ⟨cap, b, _, hv, _⟩
  · exact ⟨none, 0, by rw [hv, hn]⟩
  · exact ⟨_, _, hv⟩
theorem hcells_app (a b : List UInt8) : hcells (a ++ b) = hcells a ++ hcells b := by simp [hcells]
theorem own_bytes {w : World} {e n : Nat} {v : Value} {l : List UInt8} {g : Int} (h : Own w e 1 v n (hcells l) g) : SlAt 1 RByte w v l := by
  have := h.len;rw [Qk] at this;exact own_slat h (parts_bytes l) (by omega)
theorem bytes_cells {w : World} {a : Option Addr} {n c : Nat} {l : List UInt8} (h : SlAt 1 RByte w (.slice a n c) l) (hne : l ≠ []) : ∃ b o, a = some ⟨b, o, none⟩ ∧ Cells w b o (hcells l) := by
  obtain ⟨b, o, cs, ha, hl, hc, hp⟩ := h.cells rbyte_len hne;rw [bytes_parts hp hl] at hc;exact ⟨b, o, ha, hc⟩
/-- A slice of a part of a row of bytes. -/
theorem bytes_drop {w : World} {a : Option Addr} {len cap k : Nat} {l : List UInt8} (h : SlAt 1 RByte w (.slice a len cap) l) (hk : k ≤ l.length) (hcap : l.length ≤ cap) :
    SlAt 1 RByte w (.slice (if cap = k then a else a.map (·.add (k * 1))) (len - k) (cap - k)) (l.drop k) := by
  obtain ⟨rfl, -⟩ := h.at;obtain ⟨a', cap', hv, h⟩ := h;cases hv;refine ⟨_, _, by rw [List.length_drop], fun i x hi => ?_⟩
  have hlt : k + i < l.length := by
    rw [List.getElem?_drop] at hi;exact (List.getElem?_eq_some_iff.1 hi).1
  rw [List.getElem?_drop] at hi;obtain ⟨b, o, cs, ha, hr, hc⟩ := h _ _ hi;subst ha;rw [if_neg (by omega)];refine ⟨b, o + k * 1, cs, by simp [Addr.add_mid], hr, ?_⟩
  rwa [show o + k * 1 + i * 1 = o + (k + i) * 1 by omega]
theorem bytes_take {w : World} {a : Option Addr} {len cap k : Nat} {l : List UInt8} (h : SlAt 1 RByte w (.slice a len cap) l) (hk : k ≤ l.length) (c : Nat) :
    SlAt 1 RByte w (.slice (if c = 0 then a else a.map (·.add (0 * 1))) k cap) (l.take k) := by
  obtain ⟨rfl, -⟩ := h.at;obtain ⟨a', cap', hv, h⟩ := h;cases hv;refine ⟨_, _, by rw [List.length_take, Nat.min_eq_left hk], fun i x hi => ?_⟩;rw [List.getElem?_take] at hi;split at hi
  · obtain ⟨b, o, cs, ha, hr, hc⟩ := h _ _ hi;subst ha;refine ⟨b, o, cs, ?_, hr, hc⟩;split
    · rfl
    · simp [Addr.add_mid]
  · cases hi

theorem SlAt.keep {α : Type} {sz : Nat} {R : World → α → List Value → Prop} (hR : ∀ w w' x cs, R w x cs → R w' x cs) {M : Nat → Prop} {w w' : World} {a : Option Addr} {n c : Nat} {l : List α} (h : SlAt sz R w (.slice a n c) l) (he : ExtB M w w') (hm : ∀ b o, a = some ⟨b, o, none⟩ → ¬ M b) : SlAt sz R w' (.slice a n c) l := by
  obtain ⟨a', cap', hv, h⟩ := h;cases hv;refine ⟨_, _, rfl, fun i x hi => ?_⟩;obtain ⟨b, o, cs, ha, hr, hc⟩ := h i x hi;exact ⟨b, o, cs, ha, hR _ _ _ _ hr, hc.extB he (hm b o ha)⟩
theorem rbyte_any (w w' : World) (x : UInt8) (cs : List Value) (h : RByte w x cs) : RByte w' x cs := h

/-! ### Bits of numbers -/
theorem wrap_u64 {n : Nat} (h : n < 18446744073709551616) : IntKind.u64.wrap (n : Int) = n := by
  simp [IntKind.wrap, IntKind.bits, IntKind.signed];omega
theorem clamp_wrap (n : Int) : IntKind.u64.wrap (if (if (4611686018427387904 : Int) < n then 4611686018427387904 else n) > 0 then (if (4611686018427387904 : Int) < n then 4611686018427387904 else n) else 0) = (clampN n : Int) := by
  have h : (if (if (4611686018427387904 : Int) < n then 4611686018427387904 else n) > 0 then (if (4611686018427387904 : Int) < n then 4611686018427387904 else n) else 0) = (clampN n : Int) := by
    unfold clampN;split <;> split <;> omega
  rw [h, wrap_u64];unfold clampN;omega
theorem clampN_lt (n : Int) : clampN n ≤ 4611686018427387904 := by unfold clampN; omega
theorem u8_mod (u : Nat) : IntKind.u8.wrap (u : Int) = ((u % 256 : Nat) : Int) := by
  simp [IntKind.wrap, IntKind.bits, IntKind.signed]
theorem u8_ofNat {k : Nat} (h : k < 256) : ((UInt8.ofNat k).toNat : Int) = (k : Int) := by
  have h1 : (UInt8.ofNat k).toNat = k := by simp; omega
  rw [h1]
theorem or128 (u : Nat) : IntKind.u8.wrap (BitVec.ofInt IntKind.u8.bits ((u % 256 : Nat) : Int) ||| BitVec.ofInt IntKind.u8.bits 128).toNat = ((UInt8.ofNat (u % 128 + 128)).toNat : Int) := by
  have key : ∀ k, k < 256 → IntKind.u8.wrap (BitVec.ofInt IntKind.u8.bits ((k : Nat) : Int) ||| BitVec.ofInt IntKind.u8.bits 128).toNat = ((k % 128 + 128 : Nat) : Int) := by decide +kernel
  rw [key (u % 256) (by omega), u8_ofNat (by omega)]
  congr 1
  omega
theorem shr7 (u : Nat) : ((u : Int)).fdiv (2 ^ (min (7 : Int).toNat IntKind.u64.bits)) = ((u / 128 : Nat) : Int) := by
  have : (2 : Int) ^ (min (7 : Int).toNat IntKind.u64.bits) = 128 := by decide
  rw [this];show Int.fdiv (u : Int) 128 = _;rw [Int.fdiv_eq_ediv_of_nonneg _ (by omega)];omega

theorem encNs_take {ns : List Int} {k : Nat} {n : Int} (h : ns[k]? = some n) : encNs (ns.take (k + 1)) = encNs (ns.take k) ++ encN n := by
  simp [encNs, List.take_add_one, h]
theorem encNs_take_le (ns : List Int) (k : Nat) : (encNs (ns.take k)).length ≤ (encNs ns).length := by
  have : encNs ns = encNs (ns.take k) ++ encNs (ns.drop k) := by
    unfold encNs;rw [← List.flatMap_append, List.take_append_drop]
  rw [this, List.length_append];omega

/-! ### A writer: one cell that holds a row of the call's own -/
structure WSt (T e : TypeId) (w0 w : World) (wb : Nat) (g : Int) (v : Value) (l : List UInt8) : Prop where
  hw : w.heap[wb]? = some (.cells ⟨[v]⟩ T (0, 0))
  own : Own w e 1 v l.length (hcells l) g
  ext : Ext w0 w
  hwb : w0.heap.size ≤ wb
  hg : g = -1 ∨ (w0.heap.size : Int) ≤ g
  hgl : g < w.heap.size
  ne : g ≠ wb
/-- Behind a call that lays news. -/
structure WPost (T e : TypeId) (w0 w : World) (wb : Nat) (g : Int) (l news : List UInt8) (v' : Value) (g' : Int) (w' : World) : Prop where
  st : WSt T e w0 w' wb g' v' (l ++ news)
  extB : ExtB (fun k => k = wb ∨ (k : Int) = g) w w'
  new : g' = g ∨ (w.heap.size : Int) ≤ g'
def WP (T e : TypeId) (w0 w : World) (wb : Nat) (g : Int) (l news : List UInt8) (r : Value) (w' : World) : Prop := r = .tuple #[] ∧ ∃ v' g', WPost T e w0 w wb g l news v' g' w'
theorem WSt.up {T e : TypeId} {w0 w w' : World} {wb : Nat} {g : Int} {v : Value} {l : List UInt8} (st : WSt T e w0 w wb g v l) (he : Ext w w') : WSt T e w0 w' wb g v l :=
  ⟨he.at st.hw, st.own.ext he, st.ext.trans he, st.hwb, st.hg, by have := he.size; have := st.hgl; omega, st.ne⟩
theorem WPost.from {T e : TypeId} {w0 w w1 w' : World} {wb : Nat} {g g' : Int} {l a : List UInt8} {v' : Value} (he : Ext w w1) (h : WPost T e w0 w1 wb g l a v' g' w') : WPost T e w0 w wb g l a v' g' w' :=
  ⟨h.st, he.toB.trans h.extB, by have := he.size; rcases h.new with h | h <;> omega⟩
theorem encNs_one (n : Int) : encNs [n] = encN n := by simp [encNs]
theorem WPost.trans {T e : TypeId} {w0 w w' w'' : World} {wb : Nat} {g g' g'' : Int} {l a b : List UInt8} {v' v'' : Value} (h : WPost T e w0 w wb g l a v' g' w') (hg : g < w.heap.size) (h' : WPost T e w0 w' wb g' (l ++ a) b v'' g'' w'') : WPost T e w0 w wb g l (a ++ b) v'' g'' w'' :=
  ⟨by rw [← List.append_assoc]; exact h'.st, h.extB.newB h'.extB fun k hk => by
    rcases hk with rfl | hk
    · exact .inr (.inl rfl)
    · rcases h.new with hn | hn
      · exact .inr (.inr (by omega))
      · exact .inl (by omega), by
    have := h.extB.size
    rcases h.new with hn | hn <;> rcases h'.new with hn' | hn' <;> omega⟩
end Go.Fw
/- A reader in memory: what is left, whether it erred. -/
namespace Go.Fw
theorem and127 (c : UInt8) : IntKind.u8.wrap (BitVec.ofInt IntKind.u8.bits (c.toNat : Int) &&& BitVec.ofInt IntKind.u8.bits 127).toNat = ((c.toNat % 128 : Nat) : Int) := by
  have key : ∀ k, k < 256 → IntKind.u8.wrap (BitVec.ofInt IntKind.u8.bits ((k : Nat) : Int) &&& BitVec.ofInt IntKind.u8.bits 127).toNat = ((k % 128 : Nat) : Int) := by decide +kernel
  exact key _ c.toNat_lt
theorem p128 (i : Nat) : (128 : Nat) ^ i = 2 ^ (7 * i) := by rw [Nat.pow_mul]
/-- The reader's block; what is left lies in memory that was there in w0 and does not turn. -/
structure RSt (T : TypeId) (w0 w : World) (rb : Nat) (v : Value) (s : RS) : Prop where
  hr : w.heap[rb]? = some (.cells ⟨[v, .bool s.bad]⟩ T (0, 0))
  rest : SlAt 1 RByte w0 v s.rest
  cap : ∃ a c, v = .slice a s.rest.length c ∧ s.rest.length ≤ c
  ext : Ext w0 w
  hrb : w0.heap.size ≤ rb
  len : s.rest.length ≤ 1099511627776
def RP (T : TypeId) (w0 w : World) (rb : Nat) (s' : RS) (w' : World) : Prop := (∃ v', RSt T w0 w' rb v' s') ∧ ExtB (fun k => k = rb) w w'
theorem RSt.up {T : TypeId} {w0 w w' : World} {rb : Nat} {v : Value} {s : RS} (st : RSt T w0 w rb v s) (he : Ext w w') : RSt T w0 w' rb v s :=
  ⟨he.at st.hr, st.rest, st.cap, st.ext.trans he, st.hrb, st.len⟩
theorem RP.from {T : TypeId} {w0 w w1 w' : World} {rb : Nat} {s : RS} (he : Ext w w1) (h : RP T w0 w1 rb s w') : RP T w0 w rb s w' := ⟨h.1, he.toB.trans h.2⟩
end Go.Fw
/- More of the walk by partial frames: elements of arrays by value. -/
namespace Go.Fw
section
variable {P : Program} {C : World → Prop} {env : Env} {dst : Option Tmp} {ty : TypeId} {pos : String} {af : Array Edge} {gd : Option (Nat × Bool)}
theorem ev_indexAA {x ix : Operand} {T e : TypeId} {n sz k : Nat} {cs vs : List Value} (ht : arrT P T = some (n, e, sz)) (he : aggT P e = some sz) (hx : env.ev x = some (.agg ⟨cs⟩)) (hi : env.ev ix = some (.int .i64 (k : Int))) (hk : k < n)
    (hv : (cs.drop (k * sz)).take sz = vs) : Ev P C env ⟨dst, .index T x ix, ty, pos, af, gd⟩ (.agg ⟨vs⟩) := by
  intro ρ hρ w _;unfold arrT at ht;split at ht
  · rename_i n' e' hu
    cases hq : P.info? e' with
    | none => simp [hq] at ht
    | some inf =>
      simp [hq] at ht;obtain ⟨rfl, rfl, hs⟩ := ht;have h := partA (P := P) he hv w;subst hs;simp [execOp, hρ x _ hx, hρ ix _ hi, Instr.index, asIntOf, run_underlying hu, hk, sizeOf, typeInfo, hq, h]
  · cases ht
theorem ev_indexA1 {x ix : Operand} {T e : TypeId} {n k : Nat} {cs : List Value} {v : Value} (ht : arrT P T = some (n, e, 1)) (he : isCellT P e = true) (hx : env.ev x = some (.agg ⟨cs⟩)) (hi : env.ev ix = some (.int .i64 (k : Int))) (hk : k < n)
    (hv : cs[k]? = some v) : Ev P C env ⟨dst, .index T x ix, ty, pos, af, gd⟩ v := by
  intro ρ hρ w _;unfold arrT at ht;split at ht
  · rename_i n' e' hu
    cases hq : P.info? e' with
    | none => simp [hq] at ht
    | some inf =>
      simp [hq] at ht;obtain ⟨rfl, rfl, hs⟩ := ht;have h := part1 (P := P) he hv w;simp [execOp, hρ x _ hx, hρ ix _ hi, Instr.index, asIntOf, run_underlying hu, hk, sizeOf, typeInfo, hq, hs, h]
  · cases ht
end

/-! ### Digests, keys, roots in memory -/
def RHash (_ : World) (h : List UInt8) (cs : List Value) : Prop := h.length = 32 ∧ cs = hcells h
theorem RHash.stable : Stable RHash := fun _ _ _ _ _ h => h
theorem rhash_any (w w' : World) (x : List UInt8) (cs : List Value) (h : RHash w x cs) : RHash w' x cs := h
theorem rhash_len (w : World) (x : List UInt8) (cs : List Value) (h : RHash w x cs) : cs.length = 32 := by obtain ⟨h1, rfl⟩ := h; rw [Qk, h1]
theorem rhash_one {w : World} (x : List UInt8) (cs : List Value) (h : RHash w x cs) : ∀ v ∈ cs, v.oneCell' = true := by obtain ⟨_, rfl⟩ := h; exact hcells_one x
def RKeys (w : World) (k : KeysP) (cs : List Value) : Prop := ∃ a c, cs = [.slice a k.keys.length c, .int .i64 k.need] ∧ SlAt 32 RHash w (.slice a k.keys.length c) k.keys ∧ k.keys.length ≤ c
theorem RKeys.stable : Stable RKeys := fun _ _ _ _ he ⟨a, c, h1, h2, h3⟩ => ⟨a, c, h1, h2.ext RHash.stable he, h3⟩
theorem rkeys_len (w : World) (x : KeysP) (cs : List Value) (h : RKeys w x cs) : cs.length = 2 := by obtain ⟨_, _, rfl, _⟩ := h; rfl
theorem rkeys_one {w : World} (x : KeysP) (cs : List Value) (h : RKeys w x cs) : ∀ v ∈ cs, v.oneCell' = true := by obtain ⟨_, _, rfl, _⟩ := h; simp
def RRoot (w : World) (r : RootP) (cs : List Value) : Prop := ∃ ks, cs = .int .i64 r.ver :: .int .i64 r.exp :: ks ∧ ks.length = 8 ∧ r.roles.length = 4 ∧ Parts 2 RKeys w r.roles ks
theorem RRoot.stable : Stable RRoot := fun _ _ _ _ he ⟨ks, h1, h2, h3, h4⟩ => ⟨ks, h1, h2, h3, h4.mono fun _ _ _ h => RKeys.stable _ _ _ _ he h⟩
theorem rroot_len {w : World} {x : RootP} {cs : List Value} (h : RRoot w x cs) : cs.length = 10 := by
  obtain ⟨ks, rfl, h, _⟩ := h;show ks.length + 2 = 10;omega
theorem parts_one {α : Type} {sz : Nat} {R : World → α → List Value → Prop} {w : World} (h1 : ∀ x cs, R w x cs → ∀ v ∈ cs, v.oneCell' = true) {l : List α} {cs : List Value} (h : Parts sz R w l cs) (hl : cs.length = l.length * sz) : ∀ v ∈ cs, v.oneCell' = true := h.all h1 hl
theorem rroot_one {w : World} {x : RootP} {cs : List Value} (h : RRoot w x cs) : ∀ v ∈ cs, v.oneCell' = true := by
  obtain ⟨ks, rfl, h1, h2, h3⟩ := h;intro v hv;rcases List.mem_cons.1 hv with rfl | hv
  · rfl
  · rcases List.mem_cons.1 hv with rfl | hv
    · rfl
    · exact parts_one (fun x cs h => rkeys_one x cs h) h3 (by omega) v hv
/-- Segments of a root's keys. -/
theorem RKeys.seg {w : World} {l : List KeysP} {ks : List Value} {k : Nat} (h : Parts 2 RKeys w l ks) (hk : k < l.length) : ∃ c2, (ks.drop (k * 2)).take 2 = c2 ∧ RKeys w l[k] c2 := ⟨_, rfl, h.get (by simp [hk])⟩
end Go.Fw
/- Plain facts on keys and roots that may be, and parts of rows. -/
namespace Go.Fw
theorem sl_take {α : Type} {sz : Nat} {R : World → α → List Value → Prop} {w : World} {a : Option Addr} {len cap k : Nat} {l : List α} (h : SlAt sz R w (.slice a len cap) l) (hk : k ≤ l.length) (c : Nat) :
    SlAt sz R w (.slice (if c = 0 then a else a.map (·.add (0 * sz))) k cap) (l.take k) := by
  obtain ⟨rfl, -⟩ := h.at;obtain ⟨a', cap', hv, h⟩ := h;cases hv;refine ⟨_, _, by rw [List.length_take, Nat.min_eq_left hk], fun i x hi => ?_⟩;rw [List.getElem?_take] at hi;split at hi
  · obtain ⟨b, o, cs, ha, hr, hc⟩ := h _ _ hi;subst ha;refine ⟨b, o, cs, ?_, hr, hc⟩;split
    · rfl
    · simp [Addr.add_mid]
  · cases hi
theorem idx_mem {α : Type} [DecidableEq α] {h : α} {l : List α} : 0 ≤ idxOf (fun x => decide (h = x)) l ↔ h ∈ l := by
  unfold idxOf
  cases hq : l.findIdx? (fun x => decide (h = x)) with
  | none =>
    rw [List.findIdx?_eq_none_iff] at hq;constructor
    · intro h; exact absurd h (by decide)
    · intro hm; have := hq h hm; simp at this
  | some i =>
    rw [List.findIdx?_eq_some_iff_getElem] at hq;obtain ⟨hi, h1, _⟩ := hq;have h1 : h = l[i] := by simpa using h1
    constructor
    · intro _; rw [h1]; exact List.getElem_mem hi
    · intro _; show (0 : Int) ≤ (i : Int); omega
theorem nodup_take_succ {α : Type} {l : List α} {j : Nat} (hj : j < l.length) (h : (l.take j).Nodup) (hn : l[j] ∉ l.take j) : (l.take (j + 1)).Nodup := by
  rw [List.take_add_one, List.getElem?_eq_getElem hj];simp only [Option.toList];rw [List.nodup_append];refine ⟨h, by simp, fun a ha b hb => ?_⟩;obtain rfl : b = l[j] := by simpa using hb
  intro e;exact hn (e ▸ ha)
theorem not_nodup_take {α : Type} {l : List α} {j : Nat} (hj : j < l.length) (hn : l[j] ∈ l.take j) : ¬ l.Nodup := by
  intro h;rw [← List.take_append_drop j l, List.nodup_append] at h;obtain ⟨_, _, h3⟩ := h;have h1 := drop_of_get (List.getElem?_eq_getElem hj);exact h3 _ hn _ (by rw [h1]; exact List.mem_cons_self) rfl
theorem not_nodup_at {α : Type} {l : List α} {i j : Nat} (hi : i < l.length) (hj : j < i) (e : l[i] = l[j]'(by omega)) : ¬ l.Nodup := by
  refine not_nodup_take hi ?_;rw [e];rw [List.mem_take_iff_getElem];exact ⟨j, by omega, rfl⟩
theorem mem_take_none {α : Type} {l : List α} {i : Nat} (hi : i < l.length) (h : ∀ j (hj : j < i), l[i] ≠ l[j]'(by omega)) : l[i] ∉ l.take i := by
  intro hm;rw [List.mem_take_iff_getElem] at hm;obtain ⟨j, hj, e⟩ := hm;exact h j (by omega) e.symm
theorem keysF {k : KeysP} (h : (k.keys.length : Int) < 1 ∨ (4 : Int) < k.keys.length ∨ k.need < 1 ∨ (k.keys.length : Int) < k.need) : isKeysP k = false := by
  unfold isKeysP;rcases h with h | h | h | h
  · rw [decide_eq_false (by omega : ¬ 1 ≤ k.keys.length)]; rfl
  · rw [decide_eq_false (by omega : ¬ k.keys.length ≤ 4)]; simp
  · rw [decide_eq_false (by omega : ¬ 1 ≤ k.need)]; simp
  · rw [decide_eq_false (by omega : ¬ k.need ≤ k.keys.length)]; simp
theorem keysN {k : KeysP} (h : ¬ k.keys.Nodup) : isKeysP k = false := by
  unfold isKeysP;rw [decide_eq_false h];simp
theorem keysT {k : KeysP} (h1 : ¬ (k.keys.length : Int) < 1) (h2 : ¬ (4 : Int) < k.keys.length) (h3 : ¬ k.need < 1) (h4 : ¬ (k.keys.length : Int) < k.need) (h5 : k.keys.Nodup) : isKeysP k = true := by
  unfold isKeysP;rw [decide_eq_true (by omega : 1 ≤ k.keys.length), decide_eq_true (by omega : k.keys.length ≤ 4), decide_eq_true (by omega : 1 ≤ k.need), decide_eq_true (by omega : k.need ≤ k.keys.length), decide_eq_true h5];rfl
theorem all_take_succ {α : Type} {p : α → Bool} {l : List α} {k : Nat} (hk : k < l.length) (h : (l.take k).all p = true) (hp : p l[k] = true) : (l.take (k + 1)).all p = true := by
  rw [List.take_add_one, List.getElem?_eq_getElem hk, List.all_append, h];simp [hp]
theorem all_no {α : Type} {p : α → Bool} {l : List α} {k : Nat} (hk : k < l.length) (hp : p l[k] = false) : l.all p = false := by
  rw [List.all_eq_false];exact ⟨l[k], List.getElem_mem hk, by simp [hp]⟩
structure TimeP where
  ver : Int
  exp : Int
  snap : Int
  sum : List UInt8
def isTimeP (t : TimeP) : Bool := verB t.ver && (numB t.exp && verB t.snap)
def encTime (t : TimeP) : List UInt8 := encNs [t.ver, t.exp, t.snap] ++ t.sum
def TimeP.cells (t : TimeP) : List Value := .int .i64 t.ver :: .int .i64 t.exp :: .int .i64 t.snap :: hcells t.sum
theorem encU_len : ∀ (k u : Nat), u < 128 ^ (k + 1) → (encU u).length ≤ k + 1
  | 0, u, h => by rw [encU_small (by simpa using h)]; simp
  | k + 1, u, h => by
    by_cases hu : u < 128
    · rw [encU_small hu]; simp
    · rw [encU_more hu];have := encU_len k (u / 128) (by rw [Nat.div_lt_iff_lt_mul (by omega), ← Nat.pow_succ]; exact h);simp only [List.length_cons];omega
theorem encN_len (n : Int) : (encN n).length ≤ 9 := by
  refine encU_len 8 _ ?_;have h1 := clampN_lt n;have h2 : (128 : Nat) ^ (8 + 1) = 9223372036854775808 := by decide
  omega
theorem encNs_len (l : List Int) : (encNs l).length ≤ 9 * l.length := by
  induction l with
  | nil => simp [encNs]
  | cons n l ih =>
    have := encN_len n;unfold encNs at ih ⊢;simp only [List.flatMap_cons, List.length_append, List.length_cons];omega
theorem hashes_len {l : List (List UInt8)} (h : ∀ x ∈ l, x.length = 32) : (l.flatMap id).length = 32 * l.length := by
  induction l with
  | nil => rfl
  | cons x l ih =>
    rw [List.flatMap_cons, List.length_append, ih (fun y hy => h y (by simp [hy])), List.length_cons, id, h x (by simp)];omega
theorem encKeys_len {k : KeysP} (h : ∀ x ∈ k.keys, x.length = 32) : (encKeys k).length ≤ 18 + 32 * k.keys.length := by
  unfold encKeys;have h1 := encN_len k.keys.length;have h2 := encN_len k.need;have h3 := hashes_len h;simp only [List.length_append];omega
theorem sl_hashes {w : World} {v : Value} {l : List (List UInt8)} (h : SlAt 32 RHash w v l) : ∀ x ∈ l, x.length = 32 := by
  intro x hx;obtain ⟨i, hi, rfl⟩ := List.mem_iff_getElem.1 hx;obtain ⟨a, c, hv, h⟩ := h;obtain ⟨_, _, _, _, hr, _⟩ := h i l[i] (List.getElem?_eq_getElem hi);exact hr.1
end Go.Fw
/- Rows of the call's own that a function hands back. -/
namespace Go.Fw
/-- v is a row of the call's own (made since w) that reads as l. -/
def OwnL {α : Type} (T : TypeId) (sz : Nat) (R : World → α → List Value → Prop) (w : World) (l : List α) (v : Value) (w' : World) : Prop :=
  ∃ xs g, Own w' T sz v l.length xs g ∧ Parts sz R w' l xs ∧ Ext w w' ∧ (g = -1 ∨ (w.heap.size : Int) ≤ g) ∧ g < w'.heap.size
abbrev OwnB (T : TypeId) (w : World) (bs : List UInt8) (v : Value) (w' : World) : Prop := OwnL T 1 RByte w bs v w'
def Flat {α : Type} (R : World → α → List Value → Prop) : Prop := ∀ w w' x cs, R w x cs → R w' x cs
theorem Flat.stable {α : Type} {R : World → α → List Value → Prop} (h : Flat R) : Stable R := fun _ _ _ _ _ hr => h _ _ _ _ hr
variable {α : Type} {T : TypeId} {sz : Nat} {R : World → α → List Value → Prop}
theorem OwnL.nil (w w' : World) (e : Ext w w') : OwnL T sz R w [] (.slice none 0 0) w' := ⟨[], -1, own_nil _ _ _ _, trivial, e, .inl rfl, by omega⟩
theorem OwnL.ext {w w' : World} {l : List α} {v : Value} (h : OwnL T sz R w l v w') : Ext w w' := by obtain ⟨_, _, _, _, e, _⟩ := h; exact e
theorem OwnL.from {w0 w w' : World} {l : List α} {v : Value} (e : Ext w0 w) (h : OwnL T sz R w l v w') : OwnL T sz R w0 l v w' := by
  obtain ⟨xs, g, h1, h2, h3, h4, h5⟩ := h;exact ⟨xs, g, h1, h2, e.trans h3, by have := e.size; omega, h5⟩
theorem OwnL.sl {w w' : World} {l : List α} {v : Value} (h : OwnL T sz R w l v w') : ∃ a c, v = .slice a l.length c ∧ l.length ≤ c ∧ SlAt sz R w' (.slice a l.length c) l := by
  obtain ⟨xs, g, h1, h2, h3, h4, h5⟩ := h;have hs := own_slat h1 h2 rfl;rcases h1.cells with ⟨rfl, hn, _⟩ | ⟨cap, b, _, rfl, _, hc, _⟩
  · exact ⟨none, 0, by rw [hn], by omega, by rw [hn]; exact hs⟩
  · exact ⟨_, _, rfl, hc, hs⟩
/-- A row of the call's own behind an append. -/
theorem OwnL.app (hR : Flat R) {w w1 w2 : World} {l l' : List α} {n m : Nat} {xs news : List Value} {v' : Value} {g g' : Int} (e : Ext w w1) (hg : g = -1 ∨ (w.heap.size : Int) ≤ g) (hgl : g < w1.heap.size) (hp : Parts sz R w1 l xs) (hl : xs.length = l.length * sz)
    (hp' : Parts sz R w1 l' news) (ap : Appended w1 T sz g (n + m) (xs ++ news) v' w2 g') (hn : l.length = n) (hm : l'.length = m) : OwnL T sz R w (l ++ l') v' w2 := by
  have h1 := ap.own;rw [← hn, ← hm, ← List.length_append] at h1;refine ⟨_, g', h1, Parts.mono (fun _ _ _ hr => hR _ _ _ _ hr) (Parts.app hp hl hp'), e.newG ap.ext (by omega), ?_, ?_⟩
  · rcases ap.new with h | ⟨h, _⟩
    · omega
    · have := e.size; omega
  · have := ap.size;rcases ap.new with h | ⟨_, h⟩ <;> omega
theorem OwnL.open {w w' : World} {l : List α} {v : Value} (h : OwnL T sz R w l v w') : ∃ xs g, Own w' T sz v l.length xs g ∧ Parts sz R w' l xs ∧ xs.length = l.length * sz ∧ Ext w w' ∧ (g = -1 ∨ (w.heap.size : Int) ≤ g) ∧ g < w'.heap.size := by
  obtain ⟨xs, g, h1, h2, h3, h4, h5⟩ := h;exact ⟨xs, g, h1, h2, h1.len, h3, h4, h5⟩
theorem ownB_of {T : TypeId} {w w' : World} {bs : List UInt8} {v : Value} {g : Int} (h : Own w' T 1 v bs.length (hcells bs) g) (e : Ext w w') (hg : g = -1 ∨ (w.heap.size : Int) ≤ g) (hgl : g < w'.heap.size) : OwnB T w bs v w' :=
  ⟨_, g, h, parts_bytes bs, e, hg, hgl⟩
theorem Za : Flat RByte := rbyte_any
theorem flat_hash : Flat RHash := rhash_any
theorem flat_take {β : Type} {f : α → List β} {l : List α} {k : Nat} (hk : k < l.length) : (l.take (k + 1)).flatMap f = (l.take k).flatMap f ++ f l[k] := by
  rw [List.take_add_one, List.getElem?_eq_getElem hk, List.flatMap_append];simp
theorem flat_take_le {β : Type} {f : α → List β} {l : List α} (k : Nat) : ((l.take k).flatMap f).length ≤ (l.flatMap f).length := by
  have h1 := congrArg (fun l => (l.flatMap f).length) (List.take_append_drop k l);simp only [List.flatMap_append, List.length_append] at h1;omega
theorem and127u (u : Nat) (h : u < 18446744073709551616) : IntKind.u64.wrap (BitVec.ofInt IntKind.u64.bits (u : Int) &&& BitVec.ofInt IntKind.u64.bits 127).toNat = ((u % 128 : Nat) : Int) := by
  have e : (2 : Nat) ^ IntKind.u64.bits = 18446744073709551616 := by decide
  have h3 : (BitVec.ofInt IntKind.u64.bits (u : Int) &&& BitVec.ofInt IntKind.u64.bits 127).toNat = u % 128 := by
    rw [BitVec.toNat_and];have h1 : (BitVec.ofInt IntKind.u64.bits (u : Int)).toNat = u := by rw [BitVec.ofInt_natCast, BitVec.toNat_ofNat, e, Nat.mod_eq_of_lt h]
    have h2 : (BitVec.ofInt IntKind.u64.bits 127).toNat = 127 := by decide
    rw [h1, h2];exact Nat.and_two_pow_sub_one_eq_mod u 7
  rw [h3, wrap_u64 (by omega)]
theorem or128b (u : Nat) : IntKind.u8.wrap (BitVec.ofInt IntKind.u8.bits ((u % 128 : Nat) : Int) ||| BitVec.ofInt IntKind.u8.bits 128).toNat = ((UInt8.ofNat (u % 128 + 128)).toNat : Int) := by
  have := or128 (u % 128)
  rwa [Nat.mod_eq_of_lt (by omega : u % 128 < 256), Nat.mod_mod] at this
end Go.Fw
/- A reader's calls, one behind the other; copies of rows. -/
namespace Go.Fw
section
variable {P : Program} {env : Env} {dst : Option Tmp} {ty : TypeId} {pos : String} {af : Array Edge} {gd : Option (Nat × Bool)}
/-- copy(d, s), s a row of bytes, d as long as it, or s empty. -/
theorem t_copyB {x y : Operand} {dT sT elem t : TypeId} {w : World} {b o dLen dCap sCap : Nat} {a : Option Addr} {n : Nat} {cur : List Value} {l : List UInt8} (hu : P.underlying dT = some (.slice elem)) (hs : (P.info? elem).map (·.size) = some 1)
    (hx : env.ev x = some (.slice (some ⟨b, o, none⟩) dLen dCap)) (hy : env.ev y = some (.slice a n sCap))
    (hg : w.heap[b]? = some (.cells ⟨cur⟩ t (0, 0))) (hn : l.length ≤ dLen) (hc : SlAt 1 RByte w (.slice a n sCap) l) (hfit : o + l.length ≤ cur.length) :
    OpT P env ⟨dst, .call { callee := .builtin .copy, args := #[x, y], argTypes := #[dT, sT] }, ty, pos, af, gd⟩ w fun v w' => v = .int .i64 l.length ∧ w'.heap[b]? = some (.cells ⟨splice cur o (hcells l)⟩ t (0, 0)) ∧ ExtB (fun k => k = b) w w' ∧ w.heap.size ≤ w'.heap.size := by
  obtain ⟨rfl, -⟩ := hc.at;by_cases hne : l = []
  · subst hne;intro a' ha next Q hnx
    have hr := run_copy_none (P := P) w dT sT ty elem (some ⟨b, o, none⟩) a dLen dCap 0 sCap hu hs (by simp);unfold Oper.wp execOp;simp only [resolve, invoke, builtin, Sem.run_bind, Sem.run_pure, Result.andThen_ok, List.map_toArray, List.map_cons, List.map_nil, ha x _ hx, ha y _ hy, List.length_nil, hr];exact hnx _ _ ⟨rfl, by simpa [hcells, splice] using hg, ExtB.refl _ _, Nat.le_refl _⟩
  · obtain ⟨b', o', rfl, hcc⟩ := bytes_cells hc hne;have := t_copy (P := P) (env := env) (sT := sT) (dst := dst) (ty := ty) (pos := pos) (af := af) (gd := gd) (x := x) (y := y) (cs := hcells l) hu hs hx hy hg (by rw [Qk]; omega) hcc (by rw [Qk]; exact hfit) (hcells_one l)
    rwa [Qk] at this
end
theorem raw32 (s : RS) : (s.raw 32).1 = [] ∨ (s.raw 32).1.length = 32 := by
  unfold RS.raw;split
  · exact .inl rfl
  · refine .inr ?_;simp only [List.length_take];omega
theorem hash_of (s : RS) : splice (List.replicate 32 (.int .u8 0)) 0 (hcells (s.raw 32).1) = hcells s.hash.1 := by
  have h : s.hash.1 = if (s.raw 32).1.length = 32 then (s.raw 32).1 else List.replicate 32 0 := rfl
  rw [h];rcases raw32 s with e | e
  · rw [e, if_neg (by simp)];rfl
  · rw [if_pos e, splice_whole (by rw [Qk, e]; simp)]
theorem Ext.tr {a b c : World} (h : Ext a b) (g : Ext b c) : Ext a c := ExtB.trans h g
theorem RSt.lt {T : TypeId} {w0 w : World} {rb : Nat} {v : Value} {s : RS} (st : RSt T w0 w rb v s) : rb < w.heap.size := Qz st.hr
theorem RP.of {T : TypeId} {w0 w w' : World} {rb : Nat} {v : Value} {s : RS} (st : RSt T w0 w' rb v s) (e : ExtB (fun k => k = rb) w w') : RP T w0 w rb s w' := ⟨⟨v, st⟩, e⟩
/-- Memory of the call's own turned since. -/
theorem RSt.own {T : TypeId} {w0 w w' : World} {rb : Nat} {v : Value} {s : RS} {M : Nat → Prop} (st : RSt T w0 w rb v s) (e : ExtB M w w') (hM : ∀ k, k < w0.heap.size ∨ k = rb → ¬ M k) : RSt T w0 w' rb v s :=
  ⟨e.at st.hr (hM rb (.inr rfl)), st.rest, st.cap,
   ⟨e.os.trans st.ext.os, e.tape.trans st.ext.tape, e.output.trans st.ext.output, Nat.le_trans st.ext.size e.size, fun k o hk ho => e.blk k o (hM k (.inl (Qz ho))) (st.ext.blk k o hk ho)⟩, st.hrb, st.len⟩

/-- v is a row of the call's own, made since w0, that reads as l. -/
def OwnG {α : Type} (T : TypeId) (sz : Nat) (R : World → α → List Value → Prop) (w0 : World) (l : List α) (v : Value) (w' : World) : Prop :=
  ∃ xs g, Own w' T sz v l.length xs g ∧ Parts sz R w' l xs ∧ (g = -1 ∨ (w0.heap.size : Int) ≤ g) ∧ g < w'.heap.size
section
variable {α : Type} {T : TypeId} {sz : Nat} {R : World → α → List Value → Prop}
theorem OwnG.nil (w w' : World) : OwnG T sz R w [] (.slice none 0 0) w' := ⟨[], -1, own_nil _ _ _ _, trivial, .inl rfl, by omega⟩
theorem OwnG.open {w w' : World} {l : List α} {v : Value} (h : OwnG T sz R w l v w') : ∃ xs g, Own w' T sz v l.length xs g ∧ Parts sz R w' l xs ∧ xs.length = l.length * sz ∧ (g = -1 ∨ (w.heap.size : Int) ≤ g) ∧ g < w'.heap.size := by
  obtain ⟨xs, g, h1, h2, h4, h5⟩ := h;exact ⟨xs, g, h1, h2, h1.len, h4, h5⟩
theorem OwnG.up (hR : Stable R) {w w' w'' : World} {l : List α} {v : Value} (h : OwnG T sz R w l v w') (e : Ext w' w'') : OwnG T sz R w l v w'' := by
  obtain ⟨xs, g, h1, h2, h4, h5⟩ := h;exact ⟨xs, g, h1.ext e, h2.mono fun _ _ _ hr => hR _ _ _ _ e hr, h4, by have := e.size; omega⟩
theorem OwnG.from {w0 w w' : World} {l : List α} {v : Value} (e : w0.heap.size ≤ w.heap.size) (h : OwnG T sz R w l v w') : OwnG T sz R w0 l v w' := by
  obtain ⟨xs, g, h1, h2, h4, h5⟩ := h;exact ⟨xs, g, h1, h2, by omega, h5⟩
theorem OwnG.keep (hR : Flat R) {w w' w'' : World} {l : List α} {v : Value} (h : OwnG T sz R w l v w') {M : Nat → Prop} (he : ExtB M w' w'') (hM : ∀ k, M k → k < w.heap.size ∨ w'.heap.size ≤ k) : OwnG T sz R w l v w'' := by
  obtain ⟨xs, g, h1, h2, h4, h5⟩ := h;exact ⟨xs, g, h1.keep he fun k hk hm => by have := hM k hm; omega, h2.mono fun _ _ _ hr => hR _ _ _ _ hr, h4, by have := he.size; omega⟩
theorem OwnG.app (hR : Flat R) {w w1 w2 : World} {l l' : List α} {n m : Nat} {xs news : List Value} {v' : Value} {g g' : Int} (hz : w.heap.size ≤ w1.heap.size) (hg : g = -1 ∨ (w.heap.size : Int) ≤ g) (hgl : g < w1.heap.size) (hp : Parts sz R w1 l xs) (hl : xs.length = l.length * sz)
    (hp' : Parts sz R w1 l' news) (ap : Appended w1 T sz g (n + m) (xs ++ news) v' w2 g') (hn : l.length = n) (hm : l'.length = m) : OwnG T sz R w (l ++ l') v' w2 := by
  have h1 := ap.own;rw [← hn, ← hm, ← List.length_append] at h1;refine ⟨_, g', h1, Parts.mono (fun _ _ _ hr => hR _ _ _ _ hr) (Parts.app hp hl hp'), ?_, ?_⟩
  · rcases ap.new with h | ⟨h, _⟩ <;> omega
  · have := ap.size;rcases ap.new with h | ⟨_, h⟩ <;> omega
theorem OwnG.sl {w w' : World} {l : List α} {v : Value} (h : OwnG T sz R w l v w') : ∃ a c, v = .slice a l.length c ∧ l.length ≤ c ∧ SlAt sz R w' (.slice a l.length c) l ∧ ∀ b o, a = some ⟨b, o, none⟩ → w.heap.size ≤ b := by
  obtain ⟨xs, g, h1, h2, h4, h5⟩ := h;have hs := own_slat h1 h2 rfl;rcases h1.cells with ⟨rfl, hn, _⟩ | ⟨cap, b, hb, rfl, _, hc, _⟩
  · exact ⟨none, 0, by rw [hn], by omega, by rw [hn]; exact hs, fun _ _ h => by cases h⟩
  · exact ⟨_, _, rfl, hc, hs, fun b' o h => by cases h; omega⟩
end

/-! ### Keys and roots that lie in new memory -/
def RKeysF (lo : Nat) (w : World) (k : KeysP) (cs : List Value) : Prop :=
  ∃ a c, cs = [.slice a k.keys.length c, .int .i64 k.need] ∧ SlAt 32 RHash w (.slice a k.keys.length c) k.keys ∧ k.keys.length ≤ c ∧ ∀ b o, a = some ⟨b, o, none⟩ → lo ≤ b
theorem RKeysF.keep {lo : Nat} {w w' : World} {k : KeysP} {cs : List Value} (h : RKeysF lo w k cs) {M : Nat → Prop} (e : ExtB M w w') (hM : ∀ k, M k → k < lo) : RKeysF lo w' k cs := by
  obtain ⟨a, c, h1, h2, h3, h4⟩ := h;exact ⟨a, c, h1, h2.keep rhash_any e (fun b o ha hm => by have := hM b hm; have := h4 b o ha; omega), h3, h4⟩
theorem RKeysF.up {lo lo' : Nat} {w : World} {k : KeysP} {cs : List Value} (h : RKeysF lo w k cs) (hl : lo' ≤ lo) : RKeysF lo' w k cs := by
  obtain ⟨a, c, h1, h2, h3, h4⟩ := h;exact ⟨a, c, h1, h2, h3, fun b o ha => by have := h4 b o ha; omega⟩
theorem RKeysF.r {lo : Nat} {w : World} {k : KeysP} {cs : List Value} (h : RKeysF lo w k cs) : RKeys w k cs := by
  obtain ⟨a, c, h1, h2, h3, _⟩ := h;exact ⟨a, c, h1, h2, h3⟩
theorem rkeysF_of {T : TypeId} {w0 w : World} {l : List (List UInt8)} {v : Value} (n : Int) (h : OwnG T 32 RHash w0 l v w) : RKeysF w0.heap.size w ⟨l, n⟩ [v, .int .i64 n] := by
  obtain ⟨a, c, rfl, h1, h2, h3⟩ := h.sl;exact ⟨a, c, rfl, h2, h1, h3⟩
def RRootF (lo : Nat) (w : World) (r : RootP) (cs : List Value) : Prop := ∃ ks, cs = .int .i64 r.ver :: .int .i64 r.exp :: ks ∧ ks.length = 8 ∧ r.roles.length = 4 ∧ Parts 2 (RKeysF lo) w r.roles ks
theorem RRootF.keep {lo : Nat} {w w' : World} {k : RootP} {cs : List Value} (h : RRootF lo w k cs) {M : Nat → Prop} (e : ExtB M w w') (hM : ∀ k, M k → k < lo) : RRootF lo w' k cs := by
  obtain ⟨ks, h1, h2, h3, h4⟩ := h;exact ⟨ks, h1, h2, h3, h4.mono fun _ _ _ h => RKeysF.keep h e hM⟩
theorem RRootF.up {lo lo' : Nat} {w : World} {k : RootP} {cs : List Value} (h : RRootF lo w k cs) (hl : lo' ≤ lo) : RRootF lo' w k cs := by
  obtain ⟨ks, h1, h2, h3, h4⟩ := h;exact ⟨ks, h1, h2, h3, h4.mono fun _ _ _ h => RKeysF.up h hl⟩
theorem RRootF.r {lo : Nat} {w : World} {k : RootP} {cs : List Value} (h : RRootF lo w k cs) : RRoot w k cs := by
  obtain ⟨ks, h1, h2, h3, h4⟩ := h;exact ⟨ks, h1, h2, h3, h4.mono fun _ _ _ h => RKeysF.r h⟩
def RootP.zero : RootP := ⟨0, 0, List.replicate 4 ⟨[], 0⟩⟩
def rootZ : List Value := [.int .i64 0, .int .i64 0, .slice none 0 0, .int .i64 0, .slice none 0 0, .int .i64 0, .slice none 0 0, .int .i64 0, .slice none 0 0, .int .i64 0]
theorem rootZ_any (lo : Nat) (w : World) : RRootF lo w .zero rootZ :=
  have h : ∀ r, RKeysF lo w ⟨[], 0⟩ (.slice none 0 0 :: .int .i64 0 :: r |>.take 2) := fun r => ⟨none, 0, rfl, sl_nil, Nat.le_refl _, fun _ _ h => by cases h⟩
  ⟨_, rfl, rfl, rfl, h _, h _, h _, h _, trivial⟩
theorem splice_app {pre z vs : List Value} {o : Nat} (h : o = pre.length) : splice (pre ++ z) o vs = pre ++ (vs ++ z.drop vs.length) := by
  subst h;unfold splice;rw [List.take_left, List.drop_append, Nat.add_sub_cancel_left];simp
theorem fill_one {ps : List (Nat × Nat)} {n : Nat} {cs z : List Value} (hp : ps[0]? = some (0, n)) (hc : cs.length = n) (hz : z.length = n) : fillL ps [(0, .agg ⟨cs⟩)] z = some cs := by
  unfold fillL;rw [hp];have h1 : (Value.agg ⟨cs⟩).cells.size = n ∧ 0 + n ≤ z.length := ⟨hc, by omega⟩
  simp only [h1, and_self, if_true];unfold fillL;have h2 : z.drop (0 + n) = [] := List.drop_eq_nil_of_le (by omega);rw [h2];show some (List.take 0 z ++ cs ++ []) = some cs;simp
theorem num_used (s : RS) : s.num.2.rest.length ≤ s.rest.length := by
  unfold RS.num;split
  · rename_i u r hq
    obtain ⟨m, _, h, _⟩ := rdN_enc _ _ _ _ _ hq;rw [h];simp
  · simp [RS.fail]
end Go.Fw
/- Facts for the reference's reader. -/
namespace Go.Fw
theorem shl7g (m i : Nat) (hi : i ≤ 9) (h2 : m * 128 ^ i < 18446744073709551616) : IntKind.u64.wrap ((m : Int) * 2 ^ (min (7 * (i : Int)).toNat IntKind.u64.bits)) = ((m * 128 ^ i : Nat) : Int) := by
  have h1 : min (7 * (i : Int)).toNat IntKind.u64.bits = 7 * i := by simp [IntKind.bits]; omega
  rw [h1, ← wrap_u64 h2, p128]
  congr 1
theorem or_addg (u m i : Nat) (hu : u < 128 ^ i) (h2 : u + m * 128 ^ i < 18446744073709551616) : IntKind.u64.wrap (BitVec.ofInt IntKind.u64.bits (u : Int) ||| BitVec.ofInt IntKind.u64.bits ((m * 128 ^ i : Nat) : Int)).toNat = ((u + m * 128 ^ i : Nat) : Int) := by
  have h3 : (BitVec.ofInt IntKind.u64.bits (u : Int) ||| BitVec.ofInt IntKind.u64.bits ((m * 128 ^ i : Nat) : Int)).toNat = u + m * 128 ^ i := by
    rw [BitVec.toNat_or, BitVec.ofInt_natCast, BitVec.ofInt_natCast, BitVec.toNat_ofNat, BitVec.toNat_ofNat];have e : (2 : Nat) ^ IntKind.u64.bits = 18446744073709551616 := by decide
    rw [e, Nat.mod_eq_of_lt (by omega), Nat.mod_eq_of_lt (by omega)];rw [p128] at hu ⊢;rw [Nat.or_comm, Nat.mul_comm, ← Nat.two_pow_add_eq_or_of_lt hu, Nat.add_comm]
  rw [h3, wrap_u64 h2]
theorem acc_bound {u m i : Nat} (hu : u < 128 ^ i) (hi : i ≤ 8) (hm : m < 128) : u + m * 128 ^ i < 18446744073709551616 := by
  have h : 128 ^ i ≤ 128 ^ 8 := Nat.pow_le_pow_right (by omega) hi;have h3 : m * 128 ^ i ≤ 127 * 128 ^ 8 := Nat.mul_le_mul (by omega) h;have h4 : (128 : Nat) ^ 8 = 72057594037927936 := by decide
  omega
theorem acc_bound9 {u m : Nat} (hu : u < 128 ^ 9) (hm : m ≤ 1) : u + m * 128 ^ 9 < 18446744073709551616 := by
  have h4 : (128 : Nat) ^ 9 = 9223372036854775808 := by decide
  rw [h4] at hu ⊢;omega
theorem acc_lt2 {u m i : Nat} (hu : u < 128 ^ i) (hm : m < 128) : u + m * 128 ^ i < 128 ^ (i + 1) := by
  have : (m + 1) * 128 ^ i ≤ 128 * 128 ^ i := Nat.mul_le_mul_right _ (by omega);rw [Nat.add_mul] at this;rw [Nat.pow_succ];omega
theorem ok_fail : RS.fail.ok := fun _ => rfl
theorem ok_num {s : RS} (h : s.ok) : s.num.2.ok := by
  unfold RS.num;split
  · rename_i u r hq
    intro hb;have := h hb;rw [this] at hq;simp [rdN] at hq
  · exact ok_fail
theorem ok_raw {s : RS} (h : s.ok) (n : Int) : (s.raw n).2.ok := by
  unfold RS.raw;split
  · exact ok_fail
  · intro hb;have := h hb;simp only [this, List.drop_nil]
theorem ok_hash {s : RS} (h : s.ok) : s.hash.2.ok := ok_raw h 32
theorem ok_taken {α : Type} {take : RS → α × RS} (h : ∀ s, s.ok → (take s).2.ok) : ∀ (n : Nat) (acc : List α) (s : RS), s.ok → (takenL take n acc s).2.ok
  | 0, _, _, hs => hs
  | n + 1, acc, s, hs => by
    unfold takenL;split
    · exact hs
    · exact ok_taken h n _ _ (h s hs)
theorem ok_keys (f : Nat → Nat) {s : RS} (h : s.ok) : (RS.keys f s).2.ok := ok_num (ok_taken (fun _ => ok_hash) _ _ _ (ok_num h))
theorem ok_kind (k : Int) (l : List UInt8) : (kindS k l).ok := by
  unfold kindS;split
  · exact ok_fail
  · exact ok_num fun h => by cases h
theorem raw_bad {s : RS} (hs : s.bad = true) (hok : s.ok) {n : Int} (h : ¬ n < 0) (h1 : ¬ (s.rest.length : Int) < n) : s.raw n = ([], s) := by
  have hr := hok hs;unfold RS.raw;rw [if_neg (by omega), hr];have : s = ⟨[], s.bad⟩ := by cases s; simp at hr; simp [hr]
  rw [List.take_nil, List.drop_nil, ← this]
theorem takenL_len_le {α : Type} (take : RS → α × RS) : ∀ (n : Nat) (acc : List α) (s : RS), (takenL take n acc s).1.length ≤ acc.length + n
  | 0, acc, s => Nat.le_refl _
  | n + 1, acc, s => by
    unfold takenL;split
    · simp only; omega
    · have := takenL_len_le take n (acc ++ [(take s).1]) (take s).2;simp only [List.length_append, List.length_singleton] at this;omega
theorem encRoles_len {m : Nat} : ∀ {l : List KeysP}, (∀ k ∈ l, k.keys.length ≤ m ∧ ∀ h ∈ k.keys, h.length = 32) → (l.flatMap encKeys).length ≤ l.length * (18 + 32 * m)
  | [], _ => by simp
  | k :: l, h => by
    have h1 := encRoles_len (l := l) fun k hk => h k (by simp [hk])
    obtain ⟨h2, h3⟩ := h k (by simp);have h4 := encKeys_len h3;rw [List.flatMap_cons, List.length_append, List.length_cons, Nat.add_mul];omega
theorem encRoot_len {m : Nat} {r : RootP} (h4 : r.roles.length = 4) (h : ∀ k ∈ r.roles, k.keys.length ≤ m ∧ ∀ h ∈ k.keys, h.length = 32) : (encRoot r).length ≤ 18 + 4 * (18 + 32 * m) := by
  have h1 := encRoles_len h;have h2 := encN_len r.ver;have h3 := encN_len r.exp;rw [h4] at h1;unfold encRoot;simp only [List.length_append];omega
theorem rroot_hash {w : World} {r : RootP} {cs : List Value} (h : RRoot w r cs) : ∀ k ∈ r.roles, ∀ x ∈ k.keys, x.length = 32 := by
  intro k hk;obtain ⟨ks, _, _, _, hp⟩ := h;obtain ⟨i, hi, rfl⟩ := List.mem_iff_getElem.1 hk;obtain ⟨_, _, _, hs, _⟩ := hp.get (List.getElem?_eq_getElem hi);exact sl_hashes hs
section
variable {P : Program} {C : World → Prop} {env : Env} {dst : Option Tmp} {ty : TypeId} {pos : String} {af : Array Edge} {gd : Option (Nat × Bool)}
/-- Bytes as a string, wherever they lie. -/
theorem ev_convB {x : Operand} {S D e : TypeId} (l : List UInt8) {a : Option Addr} {n cap : Nat} (hs : P.underlying S = some (.slice e)) (he : P.underlying e = some (.int .u8)) (hd : P.underlying D = some .string) (hx : env.ev x = some (.slice a n cap))
    (hc : ∀ w, C w → SlAt 1 RByte w (.slice a n cap) l) : Ev P C env ⟨dst, .convert S D x, ty, pos, af, gd⟩ (.string ⟨l.toArray⟩) := by
  intro ρ hρ w hw;have hsl := hc w hw;obtain ⟨rfl, -⟩ := hsl.at
  cases a with
  | none =>
    have hl : l = [] := by
      cases l with
      | nil => rfl
      | cons b l => obtain ⟨_, _, ha, _⟩ := bytes_cells hsl (by simp); cases ha
    subst hl;have h := run_convert_bytes_nil (P := P) w S e hs he 0 cap D hd;simp [execOp, hρ x _ hx, h];rfl
  | some a =>
    have h := run_convert_bytes_back (P := P) w S D e a cap l hs he hd fun j hj => by
      obtain ⟨b, o, ha, hcc⟩ := bytes_cells hsl (fun h => by subst h; simp at hj);cases ha;rw [Addr.add_mid];exact hcc j _ (by simp [hcells, hj])
    simp [execOp, hρ x _ hx, h]
end
theorem str_eq {a b : List UInt8} : ((⟨a.toArray⟩ : ByteArray) = ⟨b.toArray⟩) ↔ a = b := by
  constructor
  · intro h;have h1 := congrArg (fun x : ByteArray => x.data.toList) h
    simpa using h1
  · rintro rfl; rfl
end Go.Fw
/- More of the walk by partial frames: how much room a slice has; append of so many zeros; rows whose elements hold slices of new memory. -/
namespace Go.Fw
section
variable {P : Program} {C : World → Prop} {env : Env} {dst : Option Tmp} {ty : TypeId} {pos : String} {af : Array Edge} {gd : Option (Nat × Bool)}
end

/-! ### Elements that hold slices of new memory: none of it is block g, all of it lies at lo or behind -/
structure Nest {α : Type} (lo : Nat) (R : Int → World → α → List Value → Prop) : Prop where
  step : ∀ {g g' : Int} {w w' : World} {x : α} {cs : List Value} {M : Nat → Prop}, R g w x cs → ExtB M w w' → (∀ k, M k → k < lo ∨ (k : Int) = g ∨ w.heap.size ≤ k) → (g' = g ∨ (w.heap.size : Int) ≤ g' ∨ g' < 0) → R g' w' x cs
theorem Nest.keep {α : Type} {lo : Nat} {R : Int → World → α → List Value → Prop} (hR : Nest lo R) {g : Int} {w w' : World} {x : α} {cs : List Value} {M : Nat → Prop} (h : R g w x cs) (e : ExtB M w w') (hM : ∀ k, M k → k < lo ∨ (k : Int) = g ∨ w.heap.size ≤ k) : R g w' x cs := hR.step h e hM (.inl rfl)
theorem Nest.re {α : Type} {lo : Nat} {R : Int → World → α → List Value → Prop} (hR : Nest lo R) {g g' : Int} {w : World} {x : α} {cs : List Value} (h : R g w x cs) (hg : (w.heap.size : Int) ≤ g' ∨ g' < 0) : R g' w x cs := hR.step h (ExtB.refl (fun _ => False) w) (fun _ h => h.elim) (.inr hg)
/-- A slice of new memory. -/
def SlN {β : Type} (sz : Nat) (S : World → β → List Value → Prop) (lo : Nat) (g : Int) (w : World) (l : List β) (v : Value) : Prop :=
  ∃ a c, v = .slice a l.length c ∧ SlAt sz S w (.slice a l.length c) l ∧ l.length ≤ c ∧ ∀ b o, a = some ⟨b, o, none⟩ → lo ≤ b ∧ b < w.heap.size ∧ (b : Int) ≠ g
theorem SlN.step {β : Type} {sz : Nat} {S : World → β → List Value → Prop} (hS : Flat S) {lo : Nat} {g g' : Int} {w w' : World} {l : List β} {v : Value} {M : Nat → Prop} (h : SlN sz S lo g w l v) (e : ExtB M w w') (hM : ∀ k, M k → k < lo ∨ (k : Int) = g ∨ w.heap.size ≤ k) (hg : g' = g ∨ (w.heap.size : Int) ≤ g' ∨ g' < 0) : SlN sz S lo g' w' l v := by
  obtain ⟨a, c, h1, h2, h3, h4⟩ := h;refine ⟨a, c, h1, h2.keep hS e (fun b o ha hm => ?_), h3, fun b o ha => ?_⟩
  · have := hM b hm;have := h4 b o ha;omega
  · have := h4 b o ha;have := e.size;omega
theorem SlN.up {β : Type} {sz : Nat} {S : World → β → List Value → Prop} {lo lo' : Nat} {g : Int} {w : World} {l : List β} {v : Value} (h : SlN sz S lo g w l v) (hl : lo' ≤ lo) : SlN sz S lo' g w l v := by
  obtain ⟨a, c, h1, h2, h3, h4⟩ := h;exact ⟨a, c, h1, h2, h3, fun b o ha => by have := h4 b o ha; omega⟩
theorem SlN.sl {β : Type} {sz : Nat} {S : World → β → List Value → Prop} {lo : Nat} {g : Int} {w : World} {l : List β} {v : Value} (h : SlN sz S lo g w l v) : ∃ a c, v = .slice a l.length c ∧ SlAt sz S w (.slice a l.length c) l ∧ l.length ≤ c := by
  obtain ⟨a, c, h1, h2, h3, _⟩ := h;exact ⟨a, c, h1, h2, h3⟩
theorem SlN.nil {β : Type} {sz : Nat} {S : World → β → List Value → Prop} {lo : Nat} {g : Int} {w : World} : SlN sz S lo g w [] (.slice none 0 0) := ⟨none, 0, rfl, sl_nil, Nat.le_refl _, fun _ _ h => by cases h⟩
theorem slN_of {β : Type} {T : TypeId} {sz : Nat} {S : World → β → List Value → Prop} {w0 w : World} {l : List β} {v : Value} (h : OwnG T sz S w0 l v w) : SlN sz S w0.heap.size (-1) w l v := by
  have h0 := h;obtain ⟨a, c, rfl, h1, h2, h3⟩ := h.sl;refine ⟨a, c, rfl, h2, h1, fun b o ha => ⟨h3 b o ha, ?_, by omega⟩⟩;obtain ⟨xs, g, o1, _, _, og⟩ := h0;rcases o1.cells with ⟨hv, _, _⟩ | ⟨cap, b', hb, hv, _, _, hlt⟩
  · injection hv with q1 q2 q3; rw [q1] at ha; cases ha
  · injection hv with q1 q2 q3;rw [q1] at ha;cases ha;exact hlt
/-- A row of the call's own whose elements hold slices of new memory. -/
def OwnN {α : Type} (T : TypeId) (sz : Nat) (R : Int → World → α → List Value → Prop) (w0 : World) (l : List α) (v : Value) (w' : World) : Prop :=
  ∃ xs g, Own w' T sz v l.length xs g ∧ Parts sz (R g) w' l xs ∧ (g = -1 ∨ (w0.heap.size : Int) ≤ g) ∧ g < w'.heap.size
section
variable {α : Type} {T : TypeId} {sz lo : Nat} {R : Int → World → α → List Value → Prop}
theorem OwnN.nil (w w' : World) : OwnN T sz R w [] (.slice none 0 0) w' := ⟨[], -1, own_nil _ _ _ _, trivial, .inl rfl, by omega⟩
theorem OwnN.open {w w' : World} {l : List α} {v : Value} (h : OwnN T sz R w l v w') : ∃ xs g, Own w' T sz v l.length xs g ∧ Parts sz (R g) w' l xs ∧ xs.length = l.length * sz ∧ (g = -1 ∨ (w.heap.size : Int) ≤ g) ∧ g < w'.heap.size := by
  obtain ⟨xs, g, h1, h2, h4, h5⟩ := h;exact ⟨xs, g, h1, h2, h1.len, h4, h5⟩
theorem OwnN.keep (hR : Nest lo R) {w w' w'' : World} {l : List α} {v : Value} (h : OwnN T sz R w l v w') {M : Nat → Prop} (he : ExtB M w' w'') (hM : ∀ k, M k → k < lo ∨ w'.heap.size ≤ k) (hl : lo ≤ w.heap.size) : OwnN T sz R w l v w'' := by
  have := hl;obtain ⟨xs, g, h1, h2, h4, h5⟩ := h;exact ⟨xs, g, h1.keep he fun k hk hm => by have := hM k hm; omega, h2.mono fun _ _ _ hr => hR.keep hr he fun k hk => by have := hM k hk; omega, h4, by have := he.size; omega⟩
/-- Behind an append of one more. -/
theorem OwnN.app (hR : Nest lo R) {w w1 w2 : World} {l : List α} {x : α} {xs news : List Value} {v' : Value} {g g' : Int} (hz : w.heap.size ≤ w1.heap.size) (hg : g = -1 ∨ (w.heap.size : Int) ≤ g) (hgl : g < w1.heap.size) (hp : Parts sz (R g) w1 l xs) (hl : xs.length = l.length * sz)
    (hx : R g w1 x news) (hnl : news.length = sz) (ap : Appended w1 T sz g (l.length + 1) (xs ++ news) v' w2 g') : OwnN T sz R w (l ++ [x]) v' w2 := by
  have h1 := ap.own
  have step : ∀ y cs, R g w1 y cs → R g' w2 y cs := by
    intro y cs hy;exact hR.step hy ap.ext (fun k hk => .inr (.inl hk)) (by rcases ap.new with h | ⟨h, _⟩ <;> omega)
  refine ⟨_, g', by rw [List.length_append]; exact h1, Parts.mono (fun y cs _ hr => step y cs hr) (Parts.app hp hl (pc (by rw [List.take_of_length_le (by omega)]; exact hx) pn)), ?_, ?_⟩
  · rcases ap.new with h | ⟨h, _⟩ <;> omega
  · have := ap.size;rcases ap.new with h | ⟨_, h⟩ <;> omega
theorem OwnN.shape {w w' : World} {l : List α} {v : Value} (h : OwnN T sz R w l v w') : ∃ a c, v = .slice a l.length c := by
  obtain ⟨xs, g, h1, _⟩ := h;exact h1.shape
end
end Go.Fw
/- Signatures, marks, envelopes: as bytes in plain lists, and in memory. -/
namespace Go.Fw
structure SigP where
  leaf : Int
  chains : List (List UInt8)
  path : List (List UInt8)
structure MarkP where
  key : List UInt8
  sig : SigP
structure EnvP where
  body : List UInt8
  marks : List MarkP
def SigP.zero : SigP := ⟨0, [], []⟩
def EnvP.zero : EnvP := ⟨[], []⟩
def isSigP (s : SigP) : Bool := decide (0 ≤ s.leaf) && (decide (s.leaf < 16) && (decide (s.chains.length = 36) && decide (s.path.length = 4)))
def encSig (s : SigP) : List UInt8 := encN s.leaf ++ (s.chains ++ s.path).flatMap id
def sigB (s : SigP) : List UInt8 := if isSigP s then encSig s else []
def encMark (m : MarkP) : List UInt8 := m.key ++ encBs (sigB m.sig)
def isEnvP (e : EnvP) : Bool := decide (e.body.length ≤ 8192) && (decide (e.marks.length ≤ 4) && e.marks.all fun m => isSigP m.sig)
def encEnv (e : EnvP) : List UInt8 := encBs e.body ++ (encN e.marks.length ++ e.marks.flatMap encMark)
def RS.sig (s : RS) : SigP × RS :=
  (⟨s.num.1, (rowsA RS.hash 36 [] s.num.2).1, (rowsA RS.hash 4 [] (rowsA RS.hash 36 [] s.num.2).2).1⟩, (rowsA RS.hash 4 [] (rowsA RS.hash 36 [] s.num.2).2).2)
def decSig (b : List UInt8) : Option SigP := if (RS.sig ⟨b, false⟩).2.whole && isSigP (RS.sig ⟨b, false⟩).1 then some (RS.sig ⟨b, false⟩).1 else none
def RS.mark (s : RS) : MarkP × RS :=
  (⟨s.hash.1, (decSig s.hash.2.bytes.1).getD .zero⟩, if (decSig s.hash.2.bytes.1).isSome then s.hash.2.bytes.2 else .fail)
/-- As the reference reads a mark: that a signature is none is told apart. -/
def RS.markQ (s : RS) : MarkP × RS := (⟨s.hash.1, (decSig s.hash.2.bytes.1).getD .zero⟩, s.hash.2.bytes.2)
def badSig (s : RS) : Bool := !(decSig s.hash.2.bytes.1).isSome
def takenQ : Nat → List MarkP → RS → Bool → List MarkP × RS × Bool
  | 0, acc, s, b => (acc, s, b)
  | n + 1, acc, s, b => if s.bad = true then (acc, s, b) else takenQ n (acc ++ [(RS.markQ s).1]) (RS.markQ s).2 (b || badSig s)
def RS.env (s : RS) : EnvP × RS := (⟨s.bytes.1, (takenL RS.mark s.bytes.2.num.1.toNat [] s.bytes.2.num.2).1⟩, (takenL RS.mark s.bytes.2.num.1.toNat [] s.bytes.2.num.2).2)
def envQ (s : RS) : List MarkP × RS × Bool := takenQ (min 5 s.bytes.2.num.1.toNat) [] s.bytes.2.num.2 false
def RS.envQ (s : RS) : EnvP × RS := (⟨s.bytes.1, (Go.Fw.envQ s).1⟩, if (Go.Fw.envQ s).2.2 = true then .fail else (Go.Fw.envQ s).2.1)

/-! ### In memory -/
def RSig (w : World) (s : SigP) (cs : List Value) : Prop := ∃ a c a' c', cs = [.int .i64 s.leaf, .slice a s.chains.length c, .slice a' s.path.length c'] ∧ SlAt 32 RHash w (.slice a s.chains.length c) s.chains ∧ SlAt 32 RHash w (.slice a' s.path.length c') s.path
theorem RSig.stable : Stable RSig := fun _ _ _ _ he ⟨a, c, a', c', h1, h2, h3⟩ => ⟨a, c, a', c', h1, h2.ext RHash.stable he, h3.ext RHash.stable he⟩
theorem rsig_len (w : World) (x : SigP) (cs : List Value) (h : RSig w x cs) : cs.length = 3 := by obtain ⟨_, _, _, _, rfl, _⟩ := h; rfl
theorem rsig_one {w : World} (x : SigP) (cs : List Value) (h : RSig w x cs) : ∀ v ∈ cs, v.oneCell' = true := by obtain ⟨_, _, _, _, rfl, _⟩ := h; simp
def RMark (w : World) (m : MarkP) (cs : List Value) : Prop := ∃ sc, cs = hcells m.key ++ sc ∧ m.key.length = 32 ∧ RSig w m.sig sc
theorem RMark.stable : Stable RMark := fun _ _ _ _ he ⟨sc, h1, h2, h3⟩ => ⟨sc, h1, h2, RSig.stable _ _ _ _ he h3⟩
theorem rmark_len (w : World) (x : MarkP) (cs : List Value) (h : RMark w x cs) : cs.length = 35 := by
  obtain ⟨sc, rfl, h1, h2⟩ := h;rw [List.length_append, Qk, h1, rsig_len _ _ _ h2]
theorem rmark_one {w : World} (x : MarkP) (cs : List Value) (h : RMark w x cs) : ∀ v ∈ cs, v.oneCell' = true := by
  obtain ⟨sc, rfl, h1, h2⟩ := h;intro v hv;rcases List.mem_append.1 hv with hv | hv
  · exact hcells_one _ v hv
  · exact rsig_one _ _ h2 v hv
def REnv (w : World) (e : EnvP) (cs : List Value) : Prop := ∃ a c a' c', cs = [.slice a e.body.length c, .slice a' e.marks.length c'] ∧ SlAt 1 RByte w (.slice a e.body.length c) e.body ∧ SlAt 35 RMark w (.slice a' e.marks.length c') e.marks
theorem REnv.stable : Stable REnv := fun _ _ _ _ he ⟨a, c, a', c', h1, h2, h3⟩ => ⟨a, c, a', c', h1, h2.ext RByte.stable he, h3.ext RMark.stable he⟩
theorem renv_len {w : World} {x : EnvP} {cs : List Value} (h : REnv w x cs) : cs.length = 2 := by obtain ⟨_, _, _, _, rfl, _⟩ := h; rfl
theorem renv_one {w : World} {x : EnvP} {cs : List Value} (h : REnv w x cs) : ∀ v ∈ cs, v.oneCell' = true := by obtain ⟨_, _, _, _, rfl, _⟩ := h; simp
/-- The same of new memory. -/
def RSigG (lo : Nat) (g : Int) (w : World) (s : SigP) (cs : List Value) : Prop := ∃ v v', cs = [.int .i64 s.leaf, v, v'] ∧ SlN 32 RHash lo g w s.chains v ∧ SlN 32 RHash lo g w s.path v'
theorem RSigG.nest (lo : Nat) : Nest lo (RSigG lo) := ⟨fun ⟨v, v', h1, h2, h3⟩ e hM hg => ⟨v, v', h1, h2.step flat_hash e hM hg, h3.step flat_hash e hM hg⟩⟩
theorem RSigG.r {lo : Nat} {g : Int} {w : World} {s : SigP} {cs : List Value} (h : RSigG lo g w s cs) : RSig w s cs := by
  obtain ⟨v, v', rfl, h2, h3⟩ := h;obtain ⟨a, c, rfl, h4, _⟩ := h2.sl;obtain ⟨a', c', rfl, h5, _⟩ := h3.sl;exact ⟨a, c, a', c', rfl, h4, h5⟩
theorem RSigG.up {lo lo' : Nat} {g : Int} {w : World} {s : SigP} {cs : List Value} (h : RSigG lo g w s cs) (hl : lo' ≤ lo) : RSigG lo' g w s cs := by
  obtain ⟨v, v', h1, h2, h3⟩ := h;exact ⟨v, v', h1, h2.up hl, h3.up hl⟩
def RMarkG (lo : Nat) (g : Int) (w : World) (m : MarkP) (cs : List Value) : Prop := ∃ sc, cs = hcells m.key ++ sc ∧ m.key.length = 32 ∧ RSigG lo g w m.sig sc
theorem RMarkG.nest (lo : Nat) : Nest lo (RMarkG lo) := ⟨fun ⟨sc, h1, h2, h3⟩ e hM hg => ⟨sc, h1, h2, (RSigG.nest lo).step h3 e hM hg⟩⟩
theorem RMarkG.r {lo : Nat} {g : Int} {w : World} {m : MarkP} {cs : List Value} (h : RMarkG lo g w m cs) : RMark w m cs := by
  obtain ⟨sc, h1, h2, h3⟩ := h;exact ⟨sc, h1, h2, h3.r⟩
theorem RMarkG.up {lo lo' : Nat} {g : Int} {w : World} {m : MarkP} {cs : List Value} (h : RMarkG lo g w m cs) (hl : lo' ≤ lo) : RMarkG lo' g w m cs := by
  obtain ⟨sc, h1, h2, h3⟩ := h;exact ⟨sc, h1, h2, h3.up hl⟩
theorem SlAt.keep2 {α : Type} {sz : Nat} {R : World → α → List Value → Prop} {M : Nat → Prop} {w w' : World} {a : Option Addr} {n c : Nat} {l : List α} (h : SlAt sz R w (.slice a n c) l) (he : ExtB M w w') (hm : ∀ b o, a = some ⟨b, o, none⟩ → ¬ M b) (hR : ∀ x cs, R w x cs → R w' x cs) : SlAt sz R w' (.slice a n c) l := by
  obtain ⟨a', cap', hv, h⟩ := h;cases hv;refine ⟨_, _, rfl, fun i x hi => ?_⟩;obtain ⟨b, o, cs, ha, hr, hc⟩ := h i x hi;exact ⟨b, o, cs, ha, hR _ _ hr, hc.extB he (hm b o ha)⟩
theorem SlAt.map {α : Type} {sz : Nat} {R R' : World → α → List Value → Prop} {w : World} {v : Value} {l : List α} (h : SlAt sz R w v l) (hR : ∀ x cs, R w x cs → R' w x cs) : SlAt sz R' w v l := by
  obtain ⟨a, cap, hv, h⟩ := h;refine ⟨a, cap, hv, fun i x hi => ?_⟩;obtain ⟨b, o, cs, ha, hr, hc⟩ := h i x hi;exact ⟨b, o, cs, ha, hR _ _ hr, hc⟩
def REnvF (lo : Nat) (w : World) (e : EnvP) (cs : List Value) : Prop :=
  ∃ v a' c', cs = [v, .slice a' e.marks.length c'] ∧ SlN 1 RByte lo (-1) w e.body v ∧ SlAt 35 (RMarkG lo (-1)) w (.slice a' e.marks.length c') e.marks ∧ ∀ b o, a' = some ⟨b, o, none⟩ → lo ≤ b ∧ b < w.heap.size
theorem REnvF.keep {lo : Nat} {w w' : World} {x : EnvP} {cs : List Value} (h : REnvF lo w x cs) {M : Nat → Prop} (e : ExtB M w w') (hM : ∀ k, M k → k < lo ∨ w.heap.size ≤ k) : REnvF lo w' x cs := by
  obtain ⟨v, a', c', h1, h2, h3, h4⟩ := h;have hM' : ∀ k, M k → k < lo ∨ (k : Int) = -1 ∨ w.heap.size ≤ k := fun k hk => by have := hM k hk; omega
  refine ⟨v, a', c', h1, h2.step Za e hM' (.inl rfl), h3.keep2 e (fun b o ha hm => by have := hM b hm; have := h4 b o ha; omega) (fun y cs hy => (RMarkG.nest lo).keep hy e hM'), fun b o ha => by have := h4 b o ha; have := e.size; omega⟩
theorem REnvF.up {lo lo' : Nat} {w : World} {x : EnvP} {cs : List Value} (h : REnvF lo w x cs) (hl : lo' ≤ lo) : REnvF lo' w x cs := by
  obtain ⟨v, a', c', h1, h2, h3, h4⟩ := h;exact ⟨v, a', c', h1, h2.up hl, h3.map fun _ _ h => h.up hl, fun b o ha => by have := h4 b o ha; omega⟩
theorem REnvF.r {lo : Nat} {w : World} {x : EnvP} {cs : List Value} (h : REnvF lo w x cs) : REnv w x cs := by
  obtain ⟨v, a', c', h1, h2, h3, h4⟩ := h;obtain ⟨a, c, rfl, h5, _⟩ := h2.sl;exact ⟨a, c, a', c', h1, h5, h3.map fun _ _ h => h.r⟩
def envZ : List Value := [.slice none 0 0, .slice none 0 0]
theorem envZ_any (lo : Nat) (w : World) : REnvF lo w .zero envZ := ⟨_, none, 0, rfl, SlN.nil, sl_nil, fun _ _ h => by cases h⟩
theorem renvF_of {T : TypeId} {lo : Nat} {w0 w : World} {b : List UInt8} {v : Value} {l : List MarkP} {v' : Value} (h : SlN 1 RByte lo (-1) w b v) (hn : OwnN T 35 (RMarkG lo) w0 l v' w) (hl : lo ≤ w0.heap.size) : REnvF lo w ⟨b, l⟩ [v, v'] := by
  obtain ⟨xs, g, o1, hp, hg, hgl⟩ := hn;have hp' : Parts 35 (RMarkG lo (-1)) w l xs := hp.mono fun _ _ _ hr => (RMarkG.nest lo).re hr (.inr (by decide))
  have hs := own_slat o1 hp' rfl;rcases o1.cells with ⟨rfl, hn0, _⟩ | ⟨cap, b', hb, rfl, _, hc, hlt⟩
  · refine ⟨v, none, 0, ?_, h, ?_, fun _ _ h => by cases h⟩
    · show [v, Value.slice none 0 0] = [v, .slice none l.length 0];rw [hn0]
    · show SlAt 35 _ w (.slice none l.length 0) l;rw [hn0]; exact hs
  · exact ⟨v, _, cap, rfl, h, hs, fun b o ha => by cases ha; exact ⟨by omega, hlt⟩⟩
theorem OwnL.g {α : Type} {T : TypeId} {sz : Nat} {R : World → α → List Value → Prop} {w w' : World} {l : List α} {v : Value} (h : OwnL T sz R w l v w') : OwnG T sz R w l v w' := by
  obtain ⟨xs, g, h1, h2, _, h4, h5⟩ := h;exact ⟨xs, g, h1, h2, h4, h5⟩
theorem OwnG.l {α : Type} {T : TypeId} {sz : Nat} {R : World → α → List Value → Prop} {w w' : World} {l : List α} {v : Value} (h : OwnG T sz R w l v w') (e : Ext w w') : OwnL T sz R w l v w' := by
  obtain ⟨xs, g, h1, h2, h4, h5⟩ := h;exact ⟨xs, g, h1, h2, e, h4, h5⟩
def RHs (w : World) (l : List (List UInt8)) (cs : List Value) : Prop := ∃ a c, cs = [.slice a l.length c] ∧ SlAt 32 RHash w (.slice a l.length c) l
theorem OwnG.slat {α : Type} {T : TypeId} {sz : Nat} {R : World → α → List Value → Prop} {w w' : World} {l : List α} {v : Value} (h : OwnG T sz R w l v w') : SlAt sz R w' v l := by
  obtain ⟨a, c, rfl, _, h, _⟩ := h.sl;exact h
theorem SlN.cast {β : Type} {sz : Nat} {S : World → β → List Value → Prop} {lo : Nat} {g g' : Int} {w : World} {l : List β} {v : Value} (h : SlN sz S lo g w l v) (hg : g' < lo) : SlN sz S lo g' w l v := by
  obtain ⟨a, c, h1, h2, h3, h4⟩ := h;exact ⟨a, c, h1, h2, h3, fun b o ha => by have := h4 b o ha; omega⟩
theorem RSigG.cast {lo : Nat} {g g' : Int} {w : World} {s : SigP} {cs : List Value} (h : RSigG lo g w s cs) (hg : g' < lo) : RSigG lo g' w s cs := by
  obtain ⟨v, v', h1, h2, h3⟩ := h;exact ⟨v, v', h1, h2.cast hg, h3.cast hg⟩
theorem RMarkG.cast {lo : Nat} {g g' : Int} {w : World} {m : MarkP} {cs : List Value} (h : RMarkG lo g w m cs) (hg : g' < lo) : RMarkG lo g' w m cs := by
  obtain ⟨sc, h1, h2, h3⟩ := h;exact ⟨sc, h1, h2, h3.cast hg⟩
theorem fill_head {ps : List (Nat × Nat)} {n : Nat} {cs z : List Value} (hp : ps[0]? = some (0, n)) (hc : cs.length = n) (hz : n ≤ z.length) : fillL ps [(0, .agg ⟨cs⟩)] z = some (cs ++ z.drop n) := by
  unfold fillL;rw [hp];have h1 : (Value.agg ⟨cs⟩).cells.size = n ∧ 0 + n ≤ z.length := ⟨hc, by omega⟩
  simp only [h1, and_self, if_true];unfold fillL;rw [Nat.zero_add];show some (List.take 0 z ++ cs ++ List.drop n z) = _;simp
theorem ownG_of {T : TypeId} {w w' : World} {bs : List UInt8} {v : Value} {g : Int} (h : Own w' T 1 v bs.length (hcells bs) g) (hg : g = -1 ∨ (w.heap.size : Int) ≤ g) (hgl : g < w'.heap.size) : OwnG T 1 RByte w bs v w' := ⟨_, g, h, parts_bytes bs, hg, hgl⟩
theorem bytes_len (s : RS) : s.bytes.1.length ≤ s.rest.length := Nat.le_trans (raw_len_le _ _) (num_used s)
def Mark32 (m : MarkP) : Prop := m.key.length = 32 ∧ ∀ y ∈ m.sig.chains ++ m.sig.path, y.length = 32
theorem bytes_bad {s : RS} (hok : s.ok) (h : s.num.2.bad = true) : s.bytes = ([], s.num.2) := by
  have hz : s.num.1 = 0 := by
    unfold RS.num at h ⊢
    cases hq : rdN 0 0 s.rest with
    | none => rfl
    | some p =>
      obtain ⟨n, r⟩ := p;rw [hq] at h;have := hok h;rw [this] at hq;simp [rdN] at hq
  show s.num.2.raw s.num.1 = _;rw [hz];exact raw_bad h (ok_num hok) (by decide) (by omega)
end Go.Fw
/- Small facts that the scripts lean on. -/
namespace Go.Fw
end Go.Fw
/- Names, by their bytes. -/
namespace Go.Fw
def signsL : List UInt8 := [97, 98, 99, 100, 101, 102, 103, 104, 105, 106, 107, 108, 109, 110, 111, 112, 113, 114, 115, 116, 117, 118, 119, 120, 121, 122, 48, 49, 50, 51, 52, 53, 54, 55, 56, 57, 45]
def isSign (c : UInt8) : Bool := signsL.contains c
def allS (s : ByteArray) : Prop := ∀ c ∈ s.data.toList, isSign c = true
/-- A name: one to twelve signs. -/
def nameB (s : ByteArray) : Bool := decide (1 ≤ s.size) && (decide (s.size ≤ 12) && s.data.toList.all isSign)
theorem isSign_iff (c : UInt8) : isSign c = true ↔ (97 ≤ c.toNat ∧ c.toNat ≤ 122) ∨ (48 ≤ c.toNat ∧ c.toNat ≤ 57) ∨ c.toNat = 45 := by
  have key : ∀ k, k < 256 → (isSign (UInt8.ofNat k) = true ↔ (97 ≤ k ∧ k ≤ 122) ∨ (48 ≤ k ∧ k ≤ 57) ∨ k = 45) := by decide +kernel
  have := key c.toNat c.toNat_lt
  rwa [show UInt8.ofNat c.toNat = c by simp] at this
/-- The set, as its cells hold it. -/
def setCells (l : List UInt8) : List Value := (List.range 256).map fun k => .bool (l.contains (UInt8.ofNat k))
theorem setCells_len (l : List UInt8) : (setCells l).length = 256 := by simp [setCells]
theorem setCells_one (l : List UInt8) : ∀ v ∈ setCells l, v.oneCell' = true := by
  intro v hv;simp only [setCells, List.mem_map] at hv;obtain ⟨k, _, rfl⟩ := hv;rfl
theorem setCells_nil : setCells [] = List.replicate 256 (.bool false) := by
  unfold setCells;rw [List.eq_replicate_iff];refine ⟨by rw [List.length_map, List.length_range], fun b hb => ?_⟩;rw [List.mem_map] at hb;obtain ⟨k, _, rfl⟩ := hb;rfl
theorem setCells_get (l : List UInt8) (c : UInt8) : (setCells l)[c.toNat]? = some (.bool (l.contains c)) := by
  have hc := c.toNat_lt;unfold setCells;rw [List.getElem?_map, List.getElem?_range hc];simp
theorem setCells_set (l : List UInt8) (c : UInt8) : (setCells l).set c.toNat (.bool true) = setCells (l ++ [c]) := by
  apply List.ext_getElem?
  intro i;by_cases hi : i < 256
  · by_cases e : c.toNat = i
    · subst e;rw [List.getElem?_set_self (by rw [setCells_len]; exact hi), setCells_get];simp
    · rw [List.getElem?_set_ne e];have e2 : i = (UInt8.ofNat i).toNat := by simp; omega
      rw [e2, setCells_get, setCells_get];have hne : ¬ (UInt8.ofNat i) = c := fun h => e (by rw [← h, ← e2])
      simp [hne]
  · rw [List.getElem?_eq_none (by rw [List.length_set, setCells_len]; omega), List.getElem?_eq_none (by rw [setCells_len]; omega)]
/-- What is left where signs were taken off at an end. -/
def Cut (s r : ByteArray) : Prop := (allS r ↔ allS s) ∧ (allS r → r.size = 0)
def CutI (s r : ByteArray) : Prop := allS r ↔ allS s
theorem ba_toList (s : ByteArray) (i n : Nat) : (s.extract i n).data.toList = (s.data.toList.drop i).take (n - i) := by
  simp [ByteArray.data_extract, Array.toList_extract, List.extract_eq_take_drop]
theorem cut_left {s : ByteArray} (h : 0 < s.size) (hc : isSign s[0] = true) : CutI s (s.extract 1 s.size) := by
  have hl : s.data.toList.length = s.size := rfl;unfold CutI allS;rw [ba_toList]
  have e : s.data.toList = s[0] :: s.data.toList.drop 1 := by
    exact List.drop_eq_getElem_cons (l := s.data.toList) (i := 0) (by omega)
  have e2 : (s.data.toList.drop 1).take (s.size - 1) = s.data.toList.drop 1 := List.take_of_length_le (by rw [List.length_drop]; omega);rw [e2];constructor
  · intro h1 c hcm;rw [e] at hcm;rcases List.mem_cons.1 hcm with rfl | hcm
    · exact hc
    · exact h1 c hcm
  · intro h1 c hcm;exact h1 c (List.mem_of_mem_drop hcm)
theorem cut_right {s : ByteArray} {k : Nat} (h : k + 1 = s.size) (hc : isSign (s[k]'(by omega)) = true) : CutI s (s.extract 0 k) := by
  have hl : s.data.toList.length = s.size := rfl;unfold CutI allS;rw [ba_toList, List.drop_zero, Nat.sub_zero]
  have e : s.data.toList = s.data.toList.take k ++ [s[k]'(by omega)] := by
    have h1 : s.data.toList.take (k + 1) = s.data.toList.take k ++ [s.data.toList[k]'(by omega)] := (List.take_append_getElem (l := s.data.toList) (i := k) (by omega)).symm;have h2 : s.data.toList.take (k + 1) = s.data.toList := List.take_of_length_le (by omega);rw [← h2];exact h1.trans (by rw [h2]; rfl)
  constructor
  · intro h1 c hcm;rw [e] at hcm;rcases List.mem_append.1 hcm with hcm | hcm
    · exact h1 c hcm
    · obtain rfl : c = _ := by simpa using hcm
      exact hc
  · intro h1 c hcm;exact h1 c (List.mem_of_mem_take hcm)
theorem not_allS {s : ByteArray} {k : Nat} (h : k < s.size) (hc : isSign s[k] = false) : ¬ allS s := by
  intro h1;have hl : s.data.toList.length = s.size := rfl
  have := h1 s[k] (by
    have hm := List.getElem_mem (l := s.data.toList) (n := k) (by omega)
    exact hm)
  rw [hc] at this;cases this
theorem allS_empty {s : ByteArray} (h : s.size = 0) : allS s := by
  intro c hc;have hl : s.data.toList.length = s.size := rfl;have : s.data.toList = [] := List.eq_nil_of_length_eq_zero (by omega);rw [this] at hc;cases hc
theorem Cut.trans {s r q : ByteArray} (h : Cut s r) (g : Cut r q) : Cut s q := ⟨g.1.trans h.1, g.2⟩
theorem ba_empty {s : ByteArray} : s = ⟨#[]⟩ ↔ s.size = 0 := by
  constructor
  · rintro rfl; rfl
  · intro h;have hl : s.data.toList.length = s.size := rfl;have h1 : s.data.toList = [] := List.eq_nil_of_length_eq_zero (by omega);cases s;simp only at h1
    simpa using h1
theorem cut_name {s r : ByteArray} (h : Cut s r) : decide (r = ⟨#[]⟩) = s.data.toList.all isSign := by
  have h1 : (r = ⟨#[]⟩) ↔ allS s := by
    rw [ba_empty];constructor
    · intro h2; exact h.1.1 (allS_empty h2)
    · intro h2; exact h.2 (h.1.2 h2)
  have h2 : s.data.toList.all isSign = true ↔ allS s := List.all_eq_true
  cases hq : s.data.toList.all isSign with
  | true => exact decide_eq_true (h1.2 (h2.1 hq))
  | false => exact decide_eq_false fun hr => by rw [h2.2 (h1.1 hr)] at hq; cases hq
end Go.Fw
namespace Go.Fw
theorem all_take_and {α : Type} {p : α → Bool} {l : List α} {k : Nat} (hk : k < l.length) : (l.take (k + 1)).all p = ((l.take k).all p && p l[k]) := by
  rw [List.take_add_one, List.getElem?_eq_getElem hk, List.all_append];simp
theorem sign_true {c : UInt8} (h : (97 ≤ c.toNat ∧ c.toNat ≤ 122) ∨ (48 ≤ c.toNat ∧ c.toNat ≤ 57) ∨ c.toNat = 45) : isSign c = true := (isSign_iff c).2 h
theorem signs_lt {k : Nat} (h : k < signsL.length) : signsL[k].toNat < 128 := by
  have key : ∀ c ∈ signsL, c.toNat < 128 := by decide
  exact key _ (List.getElem_mem h)
end Go.Fw
/- Plain facts for the law on roots. -/
namespace Go.Fw
theorem of_not {b : Bool} (h : (!b) = false) : b = true := by cases b <;> simp_all
theorem just_eq {α : Type} (kind : Int) (may : α → Bool) (enc : α → List UInt8) (x : α) (l : List UInt8) (b : Bool) : (b && (decide (encE may x = 0) && decide (l = encP kind may enc x))) = (b && (may x && decide (l = encN kind ++ enc x))) := by
  unfold encE encP;cases may x <;> simp
theorem keys_le5 (s : RS) : (RS.keys (min 5) s).1.keys.length ≤ 5 := by
  have := takenL_len_le RS.hash (min 5 s.num.1.toNat) [] s.num.2;simp only [List.length_nil] at this;show (takenL RS.hash (min 5 s.num.1.toNat) [] s.num.2).1.length ≤ 5;omega
theorem root_set' {a b : Value} {ks z cs : List Value} {k : Nat} (h : ks.length = 2 * k) (hc : cs.length = 2) : splice (a :: b :: (ks ++ z)) (0 + 2 + k * 2) cs = a :: b :: ((ks ++ cs) ++ z.drop 2) := by
  have := splice_app (pre := a :: b :: ks) (z := z) (vs := cs) (o := 0 + 2 + k * 2) (by simp only [List.length_cons]; omega);rw [hc] at this
  simpa using this
/-- A root's cells, one by one. -/
theorem rroot_open {w : World} {r : RootP} {cs : List Value} (h : RRoot w r cs) : ∃ k0 k1 k2 k3 a0 c0 a1 c1 a2 c2 a3 c3, r.roles = [k0, k1, k2, k3] ∧
    cs = [.int .i64 r.ver, .int .i64 r.exp, .slice a0 k0.keys.length c0, .int .i64 k0.need, .slice a1 k1.keys.length c1, .int .i64 k1.need, .slice a2 k2.keys.length c2, .int .i64 k2.need, .slice a3 k3.keys.length c3, .int .i64 k3.need] ∧
    RKeys w k0 [.slice a0 k0.keys.length c0, .int .i64 k0.need] ∧ RKeys w k1 [.slice a1 k1.keys.length c1, .int .i64 k1.need] ∧ RKeys w k2 [.slice a2 k2.keys.length c2, .int .i64 k2.need] ∧ RKeys w k3 [.slice a3 k3.keys.length c3, .int .i64 k3.need] := by
  obtain ⟨ks, rfl, hkl, hrl, hp⟩ := h
  match hr : r.roles, hrl with
  | [k0, k1, k2, k3], _ =>
    rw [hr] at hp;obtain ⟨p0, p1, p2, p3, _⟩ := hp;have q0 := p0; have q1 := p1; have q2 := p2; have q3 := p3;obtain ⟨a0, c0, e0, _⟩ := p0;obtain ⟨a1, c1, e1, _⟩ := p1;obtain ⟨a2, c2, e2, _⟩ := p2;obtain ⟨a3, c3, e3, _⟩ := p3;rw [e0] at q0; rw [e1] at q1; rw [e2] at q2; rw [e3] at q3;refine ⟨k0, k1, k2, k3, a0, c0, a1, c1, a2, c2, a3, c3, rfl, ?_, q0, q1, q2, q3⟩;have hd : List.drop 2 (List.drop 2 (List.drop 2 (List.drop 2 ks))) = [] := List.drop_eq_nil_of_le (by simp only [List.length_drop]; omega);rw [← List.take_append_drop 2 ks, e0, ← List.take_append_drop 2 (List.drop 2 ks), e1, ← List.take_append_drop 2 (List.drop 2 (List.drop 2 ks)), e2, ← List.take_append_drop 2 (List.drop 2 (List.drop 2 (List.drop 2 ks))), e3, hd];rfl
end Go.Fw
/- Texts, pins, snapshots: as bytes in plain lists, and in memory. -/
namespace Go.Fw
abbrev tb (s : ByteArray) : List UInt8 := s.data.toList
def bt (l : List UInt8) : ByteArray := ⟨l.toArray⟩
@[simp] theorem tb_bt (l : List UInt8) : tb (bt l) = l := by simp [tb, bt]
theorem bt_tb (s : ByteArray) : bt (tb s) = s := by cases s; simp [bt, tb]
structure PinP where
  name : ByteArray
  ver : Int
structure SnapP where
  ver : Int
  exp : Int
  pins : List PinP
def SnapP.zero : SnapP := ⟨0, 0, []⟩
def encText (s : ByteArray) : List UInt8 := encBs (tb s)
def encPin (p : PinP) : List UInt8 := encText p.name ++ encN p.ver
def encSnap (s : SnapP) : List UInt8 := encN s.ver ++ (encN s.exp ++ (encN s.pins.length ++ s.pins.flatMap encPin))
def pinAt (l : List PinP) (k : Nat) : Bool := if h : k < l.length then nameB l[k].name && (verB l[k].ver && (decide (k = 0) || strLt (l[k - 1]'(by omega)).name l[k].name)) else true
theorem pinAt_eq {l : List PinP} {k : Nat} (h : k < l.length) : pinAt l k = (nameB l[k].name && (verB l[k].ver && (decide (k = 0) || strLt (l[k - 1]'(by omega)).name l[k].name))) := dif_pos h
def isSnapP (s : SnapP) : Bool := (List.range s.pins.length).all (pinAt s.pins) && (verB s.ver && (numB s.exp && decide (s.pins.length ≤ 16)))
theorem range_no {p : Nat → Bool} {n k : Nat} (hk : k < n) (h : p k = false) : (List.range n).all p = false := by
  rw [List.all_eq_false];exact ⟨k, by simpa using hk, by simp [h]⟩
theorem range_succ_all {p : Nat → Bool} {k : Nat} (h : (List.range k).all p = true) (hp : p k = true) : (List.range (k + 1)).all p = true := by
  rw [List.range_succ, List.all_append, h];simp [hp]
theorem snap_pins {s : SnapP} {k : Nat} (hk : k < s.pins.length) (h : pinAt s.pins k = false) : isSnapP s = false := by
  unfold isSnapP;rw [range_no hk h];rfl
/-! ### Reading -/
def RS.text (s : RS) : ByteArray × RS := (bt s.bytes.1, s.bytes.2)
def RS.pin (s : RS) : PinP × RS := (⟨s.text.1, s.text.2.num.1⟩, s.text.2.num.2)
def RS.snap (f : Nat → Nat) (s : RS) : SnapP × RS :=
  (⟨s.num.1, s.num.2.num.1, (takenL RS.pin (f s.num.2.num.2.num.1.toNat) [] s.num.2.num.2.num.2).1⟩, (takenL RS.pin (f s.num.2.num.2.num.1.toNat) [] s.num.2.num.2.num.2).2)
theorem ok_text {s : RS} (h : s.ok) : s.text.2.ok := ok_raw (ok_num h) _
theorem ok_pin {s : RS} (h : s.ok) : s.pin.2.ok := ok_num (ok_text h)
/-! ### In memory -/
def RPin (_ : World) (p : PinP) (cs : List Value) : Prop := cs = [.string p.name, .int .i64 p.ver]
theorem flat_pin : Flat RPin := fun _ _ _ _ h => h
theorem RPin.stable : Stable RPin := flat_pin.stable
theorem rpin_len (w : World) (x : PinP) (cs : List Value) (h : RPin w x cs) : cs.length = 2 := by obtain rfl := h; rfl
theorem rpin_one {w : World} (x : PinP) (cs : List Value) (h : RPin w x cs) : ∀ v ∈ cs, v.oneCell' = true := by obtain rfl := h; simp
def RSnap (w : World) (s : SnapP) (cs : List Value) : Prop := ∃ a c, cs = [.int .i64 s.ver, .int .i64 s.exp, .slice a s.pins.length c] ∧ SlAt 2 RPin w (.slice a s.pins.length c) s.pins
theorem RSnap.stable : Stable RSnap := fun _ _ _ _ he ⟨a, c, h1, h2⟩ => ⟨a, c, h1, h2.ext RPin.stable he⟩
theorem rsnap_len {w : World} {x : SnapP} {cs : List Value} (h : RSnap w x cs) : cs.length = 3 := by obtain ⟨_, _, rfl, _⟩ := h; rfl
theorem rsnap_one {w : World} {x : SnapP} {cs : List Value} (h : RSnap w x cs) : ∀ v ∈ cs, v.oneCell' = true := by obtain ⟨_, _, rfl, _⟩ := h; simp
def RSnapF (lo : Nat) (w : World) (s : SnapP) (cs : List Value) : Prop := ∃ a c, cs = [.int .i64 s.ver, .int .i64 s.exp, .slice a s.pins.length c] ∧ SlAt 2 RPin w (.slice a s.pins.length c) s.pins ∧ ∀ b o, a = some ⟨b, o, none⟩ → lo ≤ b
theorem RSnapF.keep {lo : Nat} {w w' : World} {x : SnapP} {cs : List Value} (h : RSnapF lo w x cs) {M : Nat → Prop} (e : ExtB M w w') (hM : ∀ k, M k → k < lo) : RSnapF lo w' x cs := by
  obtain ⟨a, c, h1, h2, h3⟩ := h;exact ⟨a, c, h1, h2.keep flat_pin e fun b o ha hm => by have := hM b hm; have := h3 b o ha; omega, h3⟩
theorem RSnapF.up {lo lo' : Nat} {w : World} {x : SnapP} {cs : List Value} (h : RSnapF lo w x cs) (hl : lo' ≤ lo) : RSnapF lo' w x cs := by
  obtain ⟨a, c, h1, h2, h3⟩ := h;exact ⟨a, c, h1, h2, fun b o ha => by have := h3 b o ha; omega⟩
theorem RSnapF.r {lo : Nat} {w : World} {x : SnapP} {cs : List Value} (h : RSnapF lo w x cs) : RSnap w x cs := by
  obtain ⟨a, c, h1, h2, h3⟩ := h;exact ⟨a, c, h1, h2⟩
def snapZ : List Value := [.int .i64 0, .int .i64 0, .slice none 0 0]
theorem snapZ_any (lo : Nat) (w : World) : RSnapF lo w .zero snapZ := ⟨none, 0, rfl, sl_nil, fun _ _ h => by cases h⟩
theorem rsnapF_of {T : TypeId} {w0 w : World} {l : List PinP} {v : Value} (ve ex : Int) (h : OwnG T 2 RPin w0 l v w) : RSnapF w0.heap.size w ⟨ve, ex, l⟩ [.int .i64 ve, .int .i64 ex, v] := by
  obtain ⟨a, c, rfl, h1, h2, h3⟩ := h.sl;exact ⟨a, c, rfl, h2, h3⟩
theorem encText_len (s : ByteArray) : (encText s).length ≤ 9 + s.size := by
  have := encN_len (tb s).length;have hl : (tb s).length = s.size := rfl;unfold encText encBs;rw [List.length_append];omega
theorem encPins_len {m : Nat} : ∀ {l : List PinP}, (∀ p ∈ l, p.name.size ≤ m) → (l.flatMap encPin).length ≤ l.length * (18 + m)
  | [], _ => by simp
  | p :: l, h => by
    have h1 := encPins_len (l := l) fun q hq => h q (by simp [hq])
    have h2 := encText_len p.name;have h3 := encN_len p.ver;have h4 := h p (by simp);have h5 : (encPin p).length = (encText p.name).length + (encN p.ver).length := by unfold encPin; rw [List.length_append]
    rw [List.flatMap_cons, List.length_append, List.length_cons, Nat.add_mul];omega
theorem snap_names {s : SnapP} (h : isSnapP s = true) : ∀ p ∈ s.pins, p.name.size ≤ 12 := by
  unfold isSnapP at h;simp only [Bool.and_eq_true, List.all_eq_true] at h;intro p hp;obtain ⟨i, hi, rfl⟩ := List.mem_iff_getElem.1 hp;have := h.1 i (by simpa using hi);rw [pinAt_eq hi] at this;simp only [Bool.and_eq_true] at this;have h1 := this.1;unfold nameB at h1;simp only [Bool.and_eq_true, decide_eq_true_eq] at h1;exact h1.2.1
theorem encSnap_len {s : SnapP} (h : isSnapP s = true) : (encSnap s).length ≤ 1000 := by
  have h1 := encPins_len (snap_names h);have h2 := encN_len s.ver;have h3 := encN_len s.exp;have h4 := encN_len s.pins.length;unfold isSnapP at h;simp only [Bool.and_eq_true, decide_eq_true_eq] at h;have : s.pins.length * 30 ≤ 16 * 30 := Nat.mul_le_mul_right _ h.2.2.2;unfold encSnap;simp only [List.length_append];omega
section
variable {P : Program} {env : Env} {dst : Option Tmp} {ty : TypeId} {pos : String} {af : Array Edge} {gd : Option (Nat × Bool)} {w : World}
/-- A text's bytes, in a row of their own. -/
theorem t_convSB {x : Operand} {S D e : TypeId} {s : ByteArray} (hs : P.underlying S = some .string) (hd : P.underlying D = some (.slice e)) (he : P.underlying e = some (.int .u8)) (hx : env.ev x = some (.string s)) :
    OpT P env ⟨dst, .convert S D x, ty, pos, af, gd⟩ w fun v w' => ∃ b c, v = .slice (some ⟨b, 0, none⟩) (tb s).length c ∧ (tb s).length ≤ c ∧ SlAt 1 RByte w' (.slice (some ⟨b, 0, none⟩) (tb s).length c) (tb s) ∧ Ext w w' ∧ w.heap.size ≤ b ∧ b < w'.heap.size := by
  intro a ha next Q hnx
  have hr := run_bytes_of_string (P := P) w S D e s hs hd he;unfold Oper.wp
  have : (execOp a.eval ⟨dst, .convert S D x, ty, pos, af, gd⟩).run P w = .ok (.value (.slice (some ⟨w.heap.size, 0, none⟩) s.size (grownCap w s.size 0 e))) (w.drew.alloc (.cells (bytesRow s (grownCap w s.size 0 e)) e ((bytesRow s (grownCap w s.size 0 e)).size, (bytesRow s (grownCap w s.size 0 e)).size + 1))) := by
    simp [execOp, ha x _ hx, hr]
  rw [this];have hge := grownCap_ge w s.size 0 e;refine hnx _ _ ⟨w.heap.size, _, rfl, hge, ?_, ext_drew_alloc w _, Nat.le_refl _, by simp⟩;refine sl_cells (cells_blk (heap_alloc_new w.drew _) fun i v hv => ?_) (parts_bytes (tb s))
  have hi : i < (tb s).length := by
    have := (List.getElem?_eq_some_iff.1 hv).1
    rwa [Qk] at this
  rw [Nat.zero_add];unfold bytesRow;rw [Array.getElem?_append_left (by simpa using hi)];unfold hcells at hv
  simpa using hv
end
end Go.Fw
/- Plain facts for snapshots read. -/
namespace Go.Fw
theorem sign_false {c : UInt8} (h : ¬ ((97 ≤ c.toNat ∧ c.toNat ≤ 122) ∨ (48 ≤ c.toNat ∧ c.toNat ≤ 57) ∨ c.toNat = 45)) : isSign c = false := by
  cases hq : isSign c with
  | false => rfl
  | true => exact absurd ((isSign_iff c).1 hq) h
theorem name_no {s : ByteArray} {k : Nat} (hk : k < s.size) (h : isSign s[k] = false) : nameB s = false := by
  have hl : s.data.toList.length = s.size := rfl
  have ha : s.data.toList.all isSign = false := by
    rw [List.all_eq_false];have hm := List.getElem_mem (l := s.data.toList) (n := k) (by omega);exact ⟨s[k], hm, by rw [h]; simp⟩
  unfold nameB;rw [ha];simp
theorem name_all {s : ByteArray} (h : s.data.toList.all isSign = true) : nameB s = (decide (1 ≤ s.size) && decide (s.size ≤ 12)) := by
  unfold nameB;rw [h, Bool.and_true]
end Go.Fw
/- Targets: as bytes in plain lists, and which may be. -/
namespace Go.Fw
theorem Tgt.sumdrop' {t : Tgt} (h : t.wf) : hcells t.sum = (t.cells.drop 2).take (hcells t.sum).length := by
  have : (hcells t.sum).length = 32 := by rw [Qk]; exact h
  show _ = ((hcells t.sum ++ _).take _);exact List.take_left.symm
theorem rtgt_len (w : World) (x : Tgt) (cs : List Value) (h : RTgt w x cs) : cs.length = 37 := by obtain ⟨h1, rfl⟩ := h; exact Tgt.cells_length h1
theorem rtgt_one {w : World} (x : Tgt) (cs : List Value) (h : RTgt w x cs) : ∀ v ∈ cs, v.oneCell' = true := by obtain ⟨h1, rfl⟩ := h; exact Tgt.one x
def encTgt (t : Tgt) : List UInt8 := encText t.name ++ (encN t.size ++ (t.sum ++ (encText t.hw ++ (encN t.ctr ++ encText t.ecu))))
def isTgtB (t : Tgt) : Bool := nameB t.name && (decide (0 ≤ t.size) && (decide (t.size ≤ 512) && (nameB t.hw && (numB t.ctr && (decide (t.ecu = ⟨#[]⟩) || nameB t.ecu)))))
def riseB (a b : Tgt) : Bool := strLt a.name b.name || (decide (a.name = b.name) && strLt a.ecu b.ecu)
def tgtAt (l : List Tgt) (k : Nat) : Bool := if h : k < l.length then isTgtB l[k] && (decide (k = 0) || riseB (l[k - 1]'(by omega)) l[k]) else true
theorem tgtAt_eq {l : List Tgt} {k : Nat} (h : k < l.length) : tgtAt l k = (isTgtB l[k] && (decide (k = 0) || riseB (l[k - 1]'(by omega)) l[k])) := dif_pos h
def isTgsB (l : List Tgt) : Bool := (List.range l.length).all (tgtAt l)
theorem tgs_no {l : List Tgt} {k : Nat} (hk : k < l.length) (h : tgtAt l k = false) : isTgsB l = false := range_no hk h
def encTgs (l : List Tgt) : List UInt8 := encText ⟨#[116]⟩ ++ (encNs [1, 0] ++ ((encN l.length ++ l.flatMap encTgt) ++ encN 0))
theorem name_len {s : ByteArray} (h : nameB s = true) : s.size ≤ 12 := by
  unfold nameB at h;simp only [Bool.and_eq_true, decide_eq_true_eq] at h;exact h.2.1
theorem tgt_len {t : Tgt} (h : isTgtB t = true) (hw : t.wf) : (encTgt t).length ≤ 200 := by
  unfold isTgtB at h;simp only [Bool.and_eq_true, Bool.or_eq_true, decide_eq_true_eq] at h;obtain ⟨h1, _, _, h2, _, h3⟩ := h;have l1 := name_len h1;have l2 := name_len h2
  have l3 : t.ecu.size ≤ 12 := by
    rcases h3 with h3 | h3
    · rw [h3]; decide
    · exact name_len h3
  have e1 := encText_len t.name;have e2 := encText_len t.hw;have e3 := encText_len t.ecu;have e4 := encN_len t.size;have e5 := encN_len t.ctr;have e6 : t.sum.length = 32 := hw;unfold encTgt;simp only [List.length_append];omega
theorem tgts_is {l : List Tgt} (h : isTgsB l = true) : ∀ t ∈ l, isTgtB t = true := by
  unfold isTgsB at h;simp only [List.all_eq_true] at h;intro p hp;obtain ⟨i, hi, rfl⟩ := List.mem_iff_getElem.1 hp;have := h i (by simpa using hi);rw [tgtAt_eq hi] at this;simp only [Bool.and_eq_true] at this;exact this.1
theorem encTgts_len : ∀ {l : List Tgt}, (∀ t ∈ l, (encTgt t).length ≤ 200) → (l.flatMap encTgt).length ≤ l.length * 200
  | [], _ => by simp
  | p :: l, h => by
    have h1 := encTgts_len (l := l) fun q hq => h q (by simp [hq])
    have h2 := h p (by simp);rw [List.flatMap_cons, List.length_append, List.length_cons, Nat.add_mul];omega
theorem tgts_wf {w : World} {v : Value} {l : List Tgt} (h : SlAt 37 RTgt w v l) : ∀ t ∈ l, t.wf := by
  intro t ht;obtain ⟨i, hi, rfl⟩ := List.mem_iff_getElem.1 ht;obtain ⟨a, c, rfl, hx⟩ := h;obtain ⟨_, _, _, _, h1, _⟩ := (SlAt.at ⟨a, c, rfl, hx⟩).2 i hi;exact h1.1
end Go.Fw
/- How two targets stand, and rows that stand in order. -/
namespace Go.Fw
open Lib (compareBytes)
theorem cb_lt : ∀ x y : List UInt8, Op.bytesLess x y = true ↔ compareBytes x y < 0
  | [], [] => by simp [Op.bytesLess, compareBytes]
  | [], b :: y => by simp [Op.bytesLess, compareBytes]
  | a :: x, [] => by simp [Op.bytesLess, compareBytes]
  | a :: x, b :: y => by
    have ih := cb_lt x y;simp only [Op.bytesLess, compareBytes, Bool.or_eq_true, Bool.and_eq_true, decide_eq_true_eq, beq_iff_eq];by_cases h1 : a < b
    · simp [h1]
    · by_cases h2 : b < a
      · have : ¬ a = b := fun e => by subst e; exact h1 h2
        simp [h1, h2, this]
      · have : a = b := UInt8.toNat_inj.1 (by have h1 : ¬ a.toNat < b.toNat := h1; have h2 : ¬ b.toNat < a.toNat := h2; omega);subst this;simp [h1, ih]
theorem cb_eq : ∀ x y : List UInt8, compareBytes x y = 0 ↔ x = y
  | [], [] => by simp [compareBytes]
  | [], b :: y => by simp [compareBytes]
  | a :: x, [] => by simp [compareBytes]
  | a :: x, b :: y => by
    have ih := cb_eq x y;simp only [compareBytes];by_cases h1 : a < b
    · have : ¬ a = b := fun e => by subst e; exact absurd h1 (Nat.lt_irrefl a.toNat)
      simp [h1, this]
    · by_cases h2 : b < a
      · have : ¬ a = b := fun e => by subst e; exact h1 h2
        simp [h1, h2, this]
      · have : a = b := UInt8.toNat_inj.1 (by have h1 : ¬ a.toNat < b.toNat := h1; have h2 : ¬ b.toNat < a.toNat := h2; omega);subst this;simp [h1, ih]
def cmpB (a b : ByteArray) : Int := compareBytes a.data.toList b.data.toList
theorem cmpB_lt (a b : ByteArray) : strLt a b = true ↔ cmpB a b < 0 := by
  unfold strLt cmpB;rw [ByteArray.toList_eq, ByteArray.toList_eq];exact cb_lt _ _
theorem cmpB_eq (a b : ByteArray) : cmpB a b = 0 ↔ a = b := by
  unfold cmpB;rw [cb_eq];constructor
  · intro h;have h2 : a.data = b.data := Array.toList_inj.1 h;cases a; cases b; simpa using h2
  · rintro rfl; rfl
def keyF (n e n' e' : ByteArray) : Int := if cmpB n n' = 0 then cmpB e e' else cmpB n n'
/-- How two targets stand. -/
def ordF (a b : Tgt) : Int := keyF a.name a.ecu b.name b.ecu
/-- A row in order. -/
def Srt (l : List Tgt) : Prop := l.Pairwise fun a b => ordF a b < 0
/-- Where t stands, or would. -/
def posF (l : List Tgt) (t : Tgt) : Nat := (l.takeWhile fun x => decide (ordF x t < 0)).length
def insF (l : List Tgt) (i : Nat) (t : Tgt) : List Tgt := l.take i ++ t :: l.drop i
/-! ### Parts of a row turned -/
/-! ### Targets as cells -/
def tcs (l : List Tgt) : List Value := l.flatMap Tgt.cells
def fndF (l : List Tgt) (t : Tgt) : Bool := match l[posF l t]? with | some x => decide (ordF x t = 0) | none => false
/-- A list of targets behind Publish and Remove, and what these answer. -/
def putF (l : List Tgt) (t : Tgt) : List Tgt × Int := if isTgsB [t] then (if fndF l t then (l.set (posF l t) t, 0) else if 16 ≤ l.length then (l, 12) else (insF l (posF l t) t, 0)) else (l, 1)
def remF (l : List Tgt) (t : Tgt) : List Tgt × Int := if fndF l t then (l.take (posF l t) ++ l.drop (posF l t + 1), 0) else (l, 9)
end Go.Fw

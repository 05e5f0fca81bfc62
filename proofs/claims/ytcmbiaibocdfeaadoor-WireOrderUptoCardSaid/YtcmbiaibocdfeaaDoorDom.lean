/- What memory reads as: rows, targets, delegations. -/
import Derived.Test.YtcmbiaibocdfeaaDoorFacts
namespace Go.Fw

/-- A slice reads as a list: each element's cells stand for it. -/
def SlAt {α : Type} (sz : Nat) (R : World → α → List Value → Prop) (w : World) (v : Value) (l : List α) : Prop :=
  ∃ a cap, v = .slice a l.length cap ∧ (∀ i x, l[i]? = some x → ∃ b o cs, a = some ⟨b, o, none⟩ ∧ R w x cs ∧ Cells w b (o + i * sz) cs)
def Stable {α : Type} (R : World → α → List Value → Prop) : Prop := ∀ w w' x cs, Ext w w' → R w x cs → R w' x cs
theorem SlAt.ext {α : Type} {sz : Nat} {R : World → α → List Value → Prop} (hR : Stable R) {w w' : World} {v : Value} {l : List α} (h : SlAt sz R w v l) (he : Ext w w') : SlAt sz R w' v l := by
  obtain ⟨a, cap, hv, h⟩ := h
  refine ⟨a, cap, hv, fun i x hi => ?_⟩
  obtain ⟨b, o, cs, ha, hr, hc⟩ := h i x hi
  exact ⟨b, o, cs, ha, hR _ _ _ _ he hr, hc.ext he⟩
theorem SlAt.at {α : Type} {sz : Nat} {R : World → α → List Value → Prop} {w : World} {a : Option Addr} {len cap : Nat} {l : List α} (h : SlAt sz R w (.slice a len cap) l) : len = l.length ∧ ∀ i (hi : i < l.length), ∃ b o cs, a = some ⟨b, o, none⟩ ∧ R w l[i] cs ∧ Cells w b (o + i * sz) cs := by
  obtain ⟨a', cap', hv, h⟩ := h
  cases hv
  exact ⟨rfl, fun i hi => h i _ (by simp [hi])⟩


theorem sl_nil {α : Type} {sz : Nat} {R : World → α → List Value → Prop} {w : World} : SlAt sz R w (.slice none 0 0) [] := ⟨none, 0, rfl, fun i x h => by simp at h⟩
def Parts {α : Type} (sz : Nat) (R : World → α → List Value → Prop) (w : World) : List α → List Value → Prop
  | [], _ => True
  | x :: r, cs => R w x (cs.take sz) ∧ Parts sz R w r (cs.drop sz)
theorem pn {α : Type} {sz : Nat} {R : World → α → List Value → Prop} {w : World} {cs : List Value} : Parts sz R w [] cs := trivial
theorem pc {α : Type} {sz : Nat} {R : World → α → List Value → Prop} {w : World} {x : α} {r : List α} {cs : List Value} (h : R w x (cs.take sz)) (hr : Parts sz R w r (cs.drop sz)) : Parts sz R w (x :: r) cs := ⟨h, hr⟩
theorem sl_lit {α : Type} {sz : Nat} {R : World → α → List Value → Prop} {w : World} {b cap : Nat} {cs : List Value} {T : TypeId} {fr : Nat × Nat} {l : List α} (h : w.heap[b]? = some (.cells ⟨cs⟩ T fr)) (hp : Parts sz R w l cs) : SlAt sz R w (.slice (some ⟨b, 0, none⟩) l.length cap) l := by
  have key : ∀ (l : List α) (cs : List Value), Parts sz R w l cs → ∀ i x, l[i]? = some x → R w x ((cs.drop (i * sz)).take sz) := by
    intro l
    induction l with
    | nil => intro cs _ i x h; simp at h
    | cons y r ih =>
      intro cs hp i x hi
      cases i with
      | zero => simp at hi; subst hi; simpa using hp.1
      | succ i =>
        have := ih _ hp.2 i x (by simpa using hi)
        rw [List.drop_drop] at this
        rwa [show (i + 1) * sz = sz + i * sz by rw [Nat.add_mul]; omega]
  refine ⟨some ⟨b, 0, none⟩, cap, rfl, fun i x hi => ⟨b, 0, _, rfl, key l cs hp i x hi, cells_blk h fun j v hj => ?_⟩⟩
  rw [List.getElem?_take] at hj
  split at hj
  · rw [List.getElem?_drop] at hj
    simpa using hj
  · cases hj
structure Tgt where
  name : ByteArray
  size : Int
  sum : List UInt8
  hw : ByteArray
  ctr : Int
  ecu : ByteArray
  deriving DecidableEq
def Tgt.wf (t : Tgt) : Prop := t.sum.length = 32
def Tgt.cells (t : Tgt) : List Value := .string t.name :: .int .i64 t.size :: (hcells t.sum ++ [.string t.hw, .int .i64 t.ctr, .string t.ecu])
theorem Tgt.cells_length {t : Tgt} (h : t.wf) : t.cells.length = 37 := by
  have : t.sum.length = 32 := h
  simp [Tgt.cells, hcells_length, this]
theorem Tgt.c0 (t : Tgt) : t.cells[0]? = some (.string t.name) := rfl
theorem Tgt.c1 (t : Tgt) : t.cells[1]? = some (.int .i64 t.size) := rfl
theorem Tgt.c34 {t : Tgt} (h : t.wf) : t.cells[34]? = some (.string t.hw) := by
  have : t.sum.length = 32 := h
  simp [Tgt.cells, hcells_length, this, List.getElem?_append]
theorem Tgt.c35 {t : Tgt} (h : t.wf) : t.cells[35]? = some (.int .i64 t.ctr) := by
  have : t.sum.length = 32 := h
  simp [Tgt.cells, hcells_length, this, List.getElem?_append]
theorem Tgt.c36 {t : Tgt} (h : t.wf) : t.cells[36]? = some (.string t.ecu) := by
  have : t.sum.length = 32 := h
  simp [Tgt.cells, hcells_length, this, List.getElem?_append]
theorem Tgt.one (t : Tgt) : ∀ v ∈ t.cells, v.oneCell' = true := by
  intro v hv
  simp only [Tgt.cells, hcells, List.mem_cons, List.mem_append, List.mem_map, List.not_mem_nil, or_false] at hv
  rcases hv with rfl | rfl | ⟨b, _, rfl⟩ | rfl | rfl | rfl <;> rfl
def RTgt (_ : World) (t : Tgt) (cs : List Value) : Prop := t.wf ∧ cs = t.cells
theorem RTgt.stable : Stable RTgt := fun _ _ _ _ _ h => h

structure Del where
  name : ByteArray
  pfx : ByteArray
  last : Bool
def RDel (_ : World) (d : Del) (cs : List Value) : Prop := ∃ a n c need, cs = [.string d.name, .slice a n c, .int .i64 need, .string d.pfx, .bool d.last]
theorem RDel.stable : Stable RDel := fun _ _ _ _ _ h => h

structure Tgs where
  name : ByteArray
  ver : Int
  exp : Int
  l : List Tgt
  d : List Del
def RTgs (w : World) (x : Tgs) (cs : List Value) : Prop :=
  ∃ lv dv, cs = [.string x.name, .int .i64 x.ver, .int .i64 x.exp, lv, dv] ∧ SlAt 37 RTgt w lv x.l ∧ SlAt 5 RDel w dv x.d
theorem rdel {w : World} {name pfx : ByteArray} {last : Bool} {a : Option Addr} {n c : Nat} {need : Int} : RDel w ⟨name, pfx, last⟩ [.string name, .slice a n c, .int .i64 need, .string pfx, .bool last] := ⟨a, n, c, need, rfl⟩
theorem rtgs {w : World} {name : ByteArray} {ver exp : Int} {l : List Tgt} {d : List Del} {lv dv : Value} (hl : SlAt 37 RTgt w lv l) (hd : SlAt 5 RDel w dv d) : RTgs w ⟨name, ver, exp, l, d⟩ [.string name, .int .i64 ver, .int .i64 exp, lv, dv] := ⟨lv, dv, rfl, hl, hd⟩
theorem rtgt {w : World} {t : Tgt} (h : t.wf) : RTgt w t t.cells := ⟨h, rfl⟩
theorem RTgs.stable : Stable RTgs := fun _ _ _ _ he ⟨lv, dv, h1, h2, h3⟩ => ⟨lv, dv, h1, h2.ext RTgt.stable he, h3.ext RDel.stable he⟩

/-- The first place at which p holds, or -1. -/
def idxOf {α : Type} (p : α → Bool) (l : List α) : Int := match l.findIdx? p with | some i => i | none => -1
theorem idxOf_hit {α : Type} {p : α → Bool} {l : List α} {k : Nat} (hk : k < l.length) (hno : ∀ j x, j < k → l[j]? = some x → p x = false) (h : p l[k] = true) : idxOf p l = k := by
  have : l.findIdx? p = some k := by
    rw [List.findIdx?_eq_some_iff_getElem]
    exact ⟨hk, h, fun j hj => by simpa using hno j l[j] hj (by simp)⟩
  simp [idxOf, this]
theorem idxOf_none {α : Type} {p : α → Bool} {l : List α} (hno : ∀ j x, j < l.length → l[j]? = some x → p x = false) : idxOf p l = -1 := by
  have : l.findIdx? p = none := by
    rw [List.findIdx?_eq_none_iff]
    intro x hx
    obtain ⟨i, hi, rfl⟩ := List.mem_iff_getElem.1 hx
    exact hno i _ hi (by simp)
  simp [idxOf, this]
theorem idxOf_snoc {α : Type} {p : α → Bool} {l : List α} {k : Nat} (hk : k < l.length) (hno : ∀ j x, j < k → l[j]? = some x → p x = false) (h : p l[k] = false) : ∀ j x, j < k + 1 → l[j]? = some x → p x = false := by
  intro j x hj hx
  by_cases e : j = k
  · subst e
    have : l[j]? = some l[j] := by simp
    rw [this] at hx
    cases hx
    exact h
  · exact hno j x (by omega) hx
theorem drop_of_get {α : Type} {l : List α} {k : Nat} {d : α} (h : l[k]? = some d) : l.drop k = d :: l.drop (k + 1) := by
  obtain ⟨hk, rfl⟩ := List.getElem?_eq_some_iff.1 h
  exact List.drop_eq_getElem_cons hk
def RInt (_ : World) (x : Int) (cs : List Value) : Prop := cs = [.int .i64 x]
theorem RInt.stable : Stable RInt := fun _ _ _ _ _ h => h
def hasPfx (s t : ByteArray) : Bool := decide (t.size ≤ s.size) && decide (s.extract 0 t.size = t)
end Go.Fw

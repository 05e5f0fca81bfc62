/- Whose word is taken, in plain lists: what find's search comes to. -/
import Derived.Test.YtpomcdmlmaimeaaDom
namespace Go.Fw

def Tgt.zero : Tgt := ⟨⟨#[]⟩, 0, List.replicate 32 0, ⟨#[]⟩, 0, ⟨#[]⟩⟩
theorem Tgt.zero_wf : Tgt.zero.wf := rfl
theorem Tgt.cells_zero_len : Tgt.zero.cells.length = 37 := rfl

structure FSt where
  asked : List Int
  over : Bool
abbrev Ans := Option (Tgt × ByteArray)
def Ans.tgt : Ans → Tgt | none => Tgt.zero | some x => x.1
def Ans.who : Ans → ByteArray | none => ⟨#[]⟩ | some x => x.2
def Ans.val (r : Ans) : Value := .tuple #[.agg ⟨r.tgt.cells⟩, .string r.who, .bool r.isSome]

def placeOf (l : List Tgs) (name : ByteArray) : Int := idxOf (fun x => decide (x.name = name)) l
/-- One delegation is looked at: is a deeper one asked? -/
def FSt.asks (st : FSt) (can : Bool) (k : Int) : Bool := decide (0 ≤ k) && can && !decide (0 ≤ idxOf (fun y => decide (k = y)) st.asked)
def askL (rec : Nat → FSt → Ans × FSt) (can : Bool) (l : List Tgs) (name : ByteArray) : List Del → FSt → Ans × FSt
  | [], st => (none, st)
  | d :: r, st =>
    if hasPfx name d.pfx = false then askL rec can l name r st else
    let p := if st.asks can (placeOf l d.name) = true then rec (placeOf l d.name).toNat st else (none, st)
    match p.1 with
    | some y => (some y, p.2)
    | none => if (p.2.over || d.last) = true then (none, ⟨p.2.asked, true⟩) else askL rec can l name r ⟨p.2.asked, false⟩
def askB (rec : Nat → FSt → Ans × FSt) (can : Bool) (l : List Tgs) (name : ByteArray) (i : Nat) (st : FSt) : Ans × FSt :=
  match l[i]? with
  | none => (none, st)
  | some t =>
    let k := idxOf (fun x : Tgt => decide (x.name = name)) t.l
    match (if 0 ≤ k then t.l[k.toNat]? else none) with
    | some x => (some (x, t.name), ⟨st.asked ++ [(i : Int)], st.over⟩)
    | none => askL rec can l name t.d ⟨st.asked ++ [(i : Int)], st.over⟩
def askF (l : List Tgs) (name : ByteArray) : Nat → Nat → FSt → Ans × FSt
  | 0 => askB (fun _ st => (none, st)) false l name
  | f + 1 => askB (askF l name f) true l name

/-- What was asked: each once, all of them there. -/
structure FSt.good (st : FSt) (l : List Tgs) : Prop where
  nd : st.asked.Nodup
  mem : ∀ x ∈ st.asked, 0 ≤ x ∧ x < l.length
theorem FSt.good.len {st : FSt} {l : List Tgs} (h : st.good l) : st.asked.length ≤ l.length := by
  have h1 : st.asked ⊆ (List.range l.length).map (fun k : Nat => (k : Int)) := by
    intro x hx
    have := h.mem x hx
    simp only [List.mem_map, List.mem_range]
    exact ⟨x.toNat, by omega, by omega⟩
  have := h.nd.length_le_of_subset h1
  simpa using this
theorem idxOf_ge {α : Type} (p : α → Bool) (l : List α) : -1 ≤ idxOf p l := by
  unfold idxOf; split <;> omega
theorem idxOf_lt {α : Type} (p : α → Bool) (l : List α) : idxOf p l < l.length ∨ l = [] := by
  unfold idxOf
  split
  · rename_i i h
    rw [List.findIdx?_eq_some_iff_getElem] at h
    obtain ⟨h, _⟩ := h
    left; omega
  · cases l
    · right; rfl
    · left; simp; omega
theorem idxOf_get {α : Type} {p : α → Bool} {l : List α} {k : Nat} (h : idxOf p l = k) : ∃ x, l[k]? = some x ∧ p x = true ∧ k < l.length := by
  unfold idxOf at h
  split at h
  · rename_i i hi
    obtain rfl : i = k := by omega
    rw [List.findIdx?_eq_some_iff_getElem] at hi
    obtain ⟨hl, hp, _⟩ := hi
    exact ⟨l[i], by simp, hp, hl⟩
  · omega
theorem idxOf_neg {α : Type} {p : α → Bool} {l : List α} (h : idxOf p l < 0) : ∀ x ∈ l, p x = false := by
  unfold idxOf at h
  split at h
  · omega
  · rename_i hi
    simpa using hi
theorem good_snoc {st : FSt} {l : List Tgs} {i : Nat} {o : Bool} (h : st.good l) (hi : i < l.length) (hn : (i : Int) ∉ st.asked) : (⟨st.asked ++ [(i : Int)], o⟩ : FSt).good l := by
  refine ⟨?_, fun x hx => ?_⟩
  · rw [List.nodup_append]
    refine ⟨h.nd, by simp, fun a ha b hb => ?_⟩
    simp at hb
    subst hb
    exact fun e => hn (e ▸ ha)
  · simp at hx
    rcases hx with hx | rfl
    · exact h.mem x hx
    · omega
theorem good_over {st : FSt} {l : List Tgs} {o : Bool} (h : st.good l) : (⟨st.asked, o⟩ : FSt).good l := ⟨h.nd, h.mem⟩
theorem asks_spec {st : FSt} {can : Bool} {k : Int} (h : st.asks can k = true) : 0 ≤ k ∧ can = true ∧ k ∉ st.asked := by
  simp only [FSt.asks, Bool.and_eq_true, decide_eq_true_eq, Bool.not_eq_true', decide_eq_false_iff_not] at h
  refine ⟨h.1.1, h.1.2, fun hk => ?_⟩
  have := idxOf_neg (p := fun y => decide (k = y)) (l := st.asked) (by omega) k hk
  simp at this

theorem asks_no1 {st : FSt} {can : Bool} {k : Int} (h : k < 0) : st.asks can k = false := by
  unfold FSt.asks; rw [decide_eq_false (by omega)]; rfl
theorem asks_no2 {st : FSt} {k d : Int} (h : 4 ≤ d) : st.asks (decide (d < 4)) k = false := by
  unfold FSt.asks; rw [decide_eq_false (p := d < 4) (by omega)]; simp
theorem asks_in {st : FSt} {k d : Int} (h0 : 0 ≤ k) (hd : d < 4) : st.asks (decide (d < 4)) k = !decide (0 ≤ idxOf (fun y => decide (k = y)) st.asked) := by
  unfold FSt.asks; rw [decide_eq_true h0, decide_eq_true hd]; simp
def askR (rec : Nat → FSt → Ans × FSt) (can : Bool) (l : List Tgs) (name : ByteArray) (d : Del) (r : List Del) (st : FSt) : Ans × FSt :=
  if (st.over || d.last) = true then (none, ⟨st.asked, true⟩) else askL rec can l name r ⟨st.asked, false⟩
section
variable {rec : Nat → FSt → Ans × FSt} {can : Bool} {l : List Tgs} {name : ByteArray} {d : Del} {r : List Del} {st : FSt}
theorem askL_skip (h : hasPfx name d.pfx = false) : askL rec can l name (d :: r) st = askL rec can l name r st := by rw [askL, if_pos h]
theorem askL_no (h : hasPfx name d.pfx = true) (ha : st.asks can (placeOf l d.name) = false) : askL rec can l name (d :: r) st = askR rec can l name d r st := by
  rw [askL, if_neg (by simp [h])]
  simp only [ha, Bool.false_eq_true, if_false]
  rfl
theorem askL_yes {k : Nat} (h : hasPfx name d.pfx = true) (hk : placeOf l d.name = k) (ha : st.asks can (placeOf l d.name) = true) (hn : (rec k st).1 = none) : askL rec can l name (d :: r) st = askR rec can l name d r (rec k st).2 := by
  rw [askL, if_neg (by simp [h])]
  simp only [ha, if_true]
  rw [hk]
  simp only [Int.toNat_natCast, hn]
  rfl
theorem askL_hit {k : Nat} {y : Tgt × ByteArray} (h : hasPfx name d.pfx = true) (hk : placeOf l d.name = k) (ha : st.asks can (placeOf l d.name) = true) (hn : (rec k st).1 = some y) : askL rec can l name (d :: r) st = (some y, (rec k st).2) := by
  rw [askL, if_neg (by simp [h])]
  simp only [ha, if_true]
  rw [hk]
  simp only [Int.toNat_natCast, hn]
theorem askR_over (h : (st.over || d.last) = true) : askR rec can l name d r st = (none, ⟨st.asked, true⟩) := if_pos h
theorem askR_on (h : (st.over || d.last) = false) : askR rec can l name d r st = askL rec can l name r ⟨st.asked, false⟩ := if_neg (by simp [h])
end
theorem askB_own {rec : Nat → FSt → Ans × FSt} {can : Bool} {l : List Tgs} {name : ByteArray} {i k : Nat} {st : FSt} {t : Tgs} {x : Tgt} (ht : l[i]? = some t) (hk : idxOf (fun x : Tgt => decide (x.name = name)) t.l = k) (hx : t.l[k]? = some x) :
    askB rec can l name i st = (some (x, t.name), ⟨st.asked ++ [(i : Int)], st.over⟩) := by
  simp [askB, ht, hk, hx]
theorem askB_loop {rec : Nat → FSt → Ans × FSt} {can : Bool} {l : List Tgs} {name : ByteArray} {i : Nat} {st : FSt} {t : Tgs} (ht : l[i]? = some t) (hk : ¬ 0 ≤ idxOf (fun x : Tgt => decide (x.name = name)) t.l) :
    askB rec can l name i st = askL rec can l name t.d ⟨st.asked ++ [(i : Int)], st.over⟩ := by
  simp [askB, ht, hk]

/-! ### What the memory of a search is -/
def iv (x : Int) : Value := .int .i64 x
theorem own_sl {w : World} {e n : Nat} {v : Value} {l : List Int} {g : Int} (h : Own w e 1 v n (l.map iv) g) : SlAt 1 RInt w v l := by
  have hlen := h.len
  simp at hlen
  rcases h.cells with ⟨hv, hn, hx⟩ | ⟨cap, b, hb, hv, hc, _, _⟩
  · subst hv
    simp at hx
    subst hx
    exact ⟨none, 0, rfl, fun i x hi => by simp at hi⟩
  · subst hv
    refine ⟨some ⟨b, 0, none⟩, cap, by rw [hlen], fun i x hi => ⟨b, 0, [iv x], rfl, rfl, hc.mid i (by omega) fun j u hj => ?_⟩⟩
    cases j with
    | zero => simp at hj; subst hj; simp [hi]
    | succ j => simp at hj
theorem Own.shape {w : World} {e sz : Nat} {v : Value} {n : Nat} {xs : List Value} {g : Int} (h : Own w e sz v n xs g) : ∃ a c, v = .slice a n c := by
  rcases h.cells with ⟨hv, hn, _⟩ | ⟨cap, b, _, hv, _⟩
  · exact ⟨none, 0, by rw [hv, hn]⟩
  · exact ⟨_, _, hv⟩

theorem Tgt.sumdrop {t : Tgt} (h : t.wf) : (t.cells.drop 2).take 32 = hcells t.sum := by
  have : (hcells t.sum).length = 32 := by rw [hcells_length]; exact h
  show ((hcells t.sum ++ _).take 32) = _
  rw [← this]
  exact List.take_left
theorem Tgt.eq_iff (t u : Tgt) : (decide (t.name = u.name) && (decide (t.size = u.size) && (decide (t.sum = u.sum) && (decide (t.hw = u.hw) && (decide (t.ctr = u.ctr) && (decide (t.ecu = u.ecu) && true)))))) = decide (t = u) := by
  cases t; cases u
  rw [Bool.eq_iff_iff]
  simp
def findF (l : List Tgs) (name : ByteArray) : Ans := if l.length = 0 then none else (askF l name 3 0 ⟨[], false⟩).1
/-- Rows of everyday sizes. -/
def Bnd (l : List Tgs) : Prop := l.length ≤ 1048576 ∧ (∀ t ∈ l, t.l.length ≤ 1048576 ∧ t.d.length ≤ 1048576) ∧ ∀ t ∈ l, ∀ d ∈ t.d, d.pfx.size ≤ 1099511627776
theorem good_nil (l : List Tgs) (o : Bool) : (⟨[], o⟩ : FSt).good l := ⟨List.nodup_nil, fun x hx => by cases hx⟩
/-- The first that bears an ECU's name. -/
def ecuF (l : List Tgs) (ecu : ByteArray) : Option Tgt :=
  match l with
  | [] => none
  | t :: _ => if ecu = ⟨#[]⟩ then none else (if 0 ≤ idxOf (fun x : Tgt => decide (x.ecu = ecu)) t.l then t.l[(idxOf (fun x : Tgt => decide (x.ecu = ecu)) t.l).toNat]? else none)
def ecuVal (r : Option Tgt) : Value := .tuple #[.agg ⟨(r.getD Tgt.zero).cells⟩, .bool r.isSome]

/-! ### What 'known' holds the search against -/
def knT : Tgt := ⟨⟨#[120]⟩, 0, List.replicate 32 0, ⟨#[104]⟩, 0, ⟨#[]⟩⟩
theorem knT_wf : knT.wf := rfl
theorem knT_len : knT.cells.length = 37 := rfl
def knL (last : Bool) : List Tgs := [⟨⟨#[116, 111, 112]⟩, 0, 0, [], [⟨⟨#[97]⟩, ⟨#[]⟩, last⟩, ⟨⟨#[98]⟩, ⟨#[]⟩, false⟩]⟩, ⟨⟨#[97]⟩, 0, 0, [], []⟩, ⟨⟨#[98]⟩, 0, 0, [knT], []⟩]
theorem knL_bnd (last : Bool) : Bnd (knL last) := by
  refine ⟨by simp [knL], fun t ht => ?_, fun t ht d hd => ?_⟩
  · simp only [knL, List.mem_cons, List.not_mem_nil, or_false] at ht
    rcases ht with rfl | rfl | rfl <;> simp
  · simp only [knL, List.mem_cons, List.not_mem_nil, or_false] at ht
    rcases ht with rfl | rfl | rfl
    · simp only [List.mem_cons, List.not_mem_nil, or_false] at hd
      rcases hd with rfl | rfl <;> (show (0 : Nat) ≤ _; omega)
    · cases hd
    · cases hd
theorem kn_true : findF (knL true) ⟨#[120]⟩ = none := by decide +kernel
theorem kn_false : findF (knL false) ⟨#[120]⟩ = some (knT, ⟨#[98]⟩) := by decide +kernel

/-! ### The reference's search -/
theorem idxOf_mem {l : List Int} {k : Int} : decide (0 ≤ idxOf (fun y => decide (k = y)) l) = decide (k ∈ l) := by
  rw [Bool.eq_iff_iff]
  simp only [decide_eq_true_eq]
  constructor
  · intro h
    obtain ⟨j, hj⟩ := Int.eq_ofNat_of_zero_le h
    obtain ⟨x, hx, hp, _⟩ := idxOf_get hj
    simp at hp
    subst hp
    exact List.mem_of_getElem? hx
  · intro h
    apply Decidable.byContradiction
    intro hn
    have := idxOf_neg (p := fun y => decide (k = y)) (l := l) (by omega) k h
    simp at this
def seenOf (n : Nat) (asked : List Int) : List Value := (List.range n).map fun (j : Nat) => .bool (decide ((j : Int) ∈ asked))
theorem seenOf_length (n : Nat) (asked : List Int) : (seenOf n asked).length = n := by simp [seenOf]
theorem seenOf_get {n : Nat} {asked : List Int} {k : Nat} (h : k < n) : (seenOf n asked)[k]? = some (.bool (decide ((k : Int) ∈ asked))) := by
  simp [seenOf, h]
theorem seenOf_set {n : Nat} {asked : List Int} {i : Nat} (h : i < n) : (seenOf n asked).set i (.bool true) = seenOf n (asked ++ [(i : Int)]) := by
  apply List.ext_getElem?
  intro j
  by_cases hj : j < n
  · by_cases e : i = j
    · subst e
      rw [List.getElem?_set_self (by simp [seenOf, h]), seenOf_get h]
      simp
    · rw [List.getElem?_set_ne e, seenOf_get hj, seenOf_get hj]
      have : ¬ (j : Int) = (i : Int) := by omega
      simp [this]
  · rw [List.getElem?_eq_none (by simp [seenOf]; omega), List.getElem?_eq_none (by simp [seenOf]; omega)]
theorem seenOf_nil (n : Nat) : List.replicate n (Value.bool false) = seenOf n [] := by
  apply List.ext_getElem?
  intro j
  by_cases hj : j < n
  · rw [seenOf_get hj]; simp [hj]
  · rw [List.getElem?_eq_none (by simp; omega), List.getElem?_eq_none (by simp [seenOf]; omega)]
structure RskPre (T : TypeId) (e : TypeId) (w0 w : World) (sb gb : Nat) (lv : Value) (name : ByteArray) (l : List Tgs) (i : Nat) (st : FSt) : Prop where
  hs : w.heap[sb]? = some (.cells ⟨[lv, .string name, .slice (some ⟨gb, 0, none⟩) l.length l.length, .bool false]⟩ T (0, 0))
  hg : w.heap[gb]? = some (.cells ⟨seenOf l.length st.asked⟩ e (0, 0))
  ext : Ext w0 w
  hsb : w0.heap.size ≤ sb
  hgb : w0.heap.size ≤ gb
  ne : gb ≠ sb
  good : st.good l
  ni : (i : Int) ∉ st.asked
  lt : i < l.length
  ov : st.over = false
structure RskPost (T : TypeId) (e : TypeId) (w0 w : World) (sb gb : Nat) (lv : Value) (name : ByteArray) (l : List Tgs) (out : Ans × FSt) (w' : World) : Prop where
  hs : w'.heap[sb]? = some (.cells ⟨[lv, .string name, .slice (some ⟨gb, 0, none⟩) l.length l.length, .bool out.2.over]⟩ T (0, 0))
  hg : w'.heap[gb]? = some (.cells ⟨seenOf l.length out.2.asked⟩ e (0, 0))
  ext : Ext w0 w'
  extB : ExtB (fun k => k = sb ∨ k = gb) w w'
  good : out.2.good l
  wf : out.1.tgt.wf
def RskP (T : TypeId) (e : TypeId) (w0 w : World) (sb gb : Nat) (lv : Value) (name : ByteArray) (l : List Tgs) (out : Ans × FSt) (r : Value) (w' : World) : Prop :=
  r = out.1.val ∧ RskPost T e w0 w sb gb lv name l out w'

structure AskPre (T : TypeId) (e : TypeId) (w0 w : World) (sb : Nat) (g : Int) (lv : Value) (name : ByteArray) (l : List Tgs) (av : Value) (i : Nat) (st : FSt) : Prop where
  hs : w.heap[sb]? = some (.cells ⟨[lv, .string name, av, .bool st.over]⟩ T (0, 0))
  own : Own w e 1 av st.asked.length (st.asked.map iv) g
  ext : Ext w0 w
  hsb : w0.heap.size ≤ sb
  hg : g = -1 ∨ (w0.heap.size : Int) ≤ g
  hgl : g < w.heap.size
  ne : g ≠ sb
  good : st.good l
  ni : (i : Int) ∉ st.asked
  lt : i < l.length
structure AskPost (T : TypeId) (e : TypeId) (w0 w : World) (sb : Nat) (g : Int) (lv : Value) (name : ByteArray) (l : List Tgs) (out : Ans × FSt) (av : Value) (g' : Int) (w' : World) : Prop where
  hs : w'.heap[sb]? = some (.cells ⟨[lv, .string name, av, .bool out.2.over]⟩ T (0, 0))
  own : Own w' e 1 av out.2.asked.length (out.2.asked.map iv) g'
  ext : Ext w0 w'
  extB : ExtB (fun k => k = sb ∨ (k : Int) = g) w w'
  new : g' = g ∨ (w.heap.size : Int) ≤ g'
  hgl : g' < w'.heap.size
  good : out.2.good l
  wf : out.1.tgt.wf
def AskP (T : TypeId) (e : TypeId) (w0 w : World) (sb : Nat) (g : Int) (lv : Value) (name : ByteArray) (l : List Tgs) (out : Ans × FSt) (r : Value) (w' : World) : Prop :=
  r = out.1.val ∧ ∃ av g', AskPost T e w0 w sb g lv name l out av g' w'
end Go.Fw

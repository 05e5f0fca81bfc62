/- What find's search tells is one's own. -/
import Derived.Test.YtpomcdmlmaimeaaFindM
namespace Go.Fw
theorem SlAt.get {α : Type} {sz : Nat} {R : World → α → List Value → Prop} {w : World} {a : Option Addr} {len cap : Nat} {l : List α} (h : SlAt sz R w (.slice a len cap) l) {i : Nat} {x : α} (hx : l[i]? = some x) : ∃ b o cs, a = some ⟨b, o, none⟩ ∧ R w x cs ∧ Cells w b (o + i * sz) cs := by
  obtain ⟨a', cap', hv, h⟩ := h
  cases hv
  exact h i x hx
/-- A told target is of the list of one that bears the told name, and is called so. -/
def Told (l : List Tgs) (name : ByteArray) (r : Ans) : Prop := ∀ t who, r = some (t, who) → ∃ x ∈ l, x.name = who ∧ t ∈ x.l ∧ t.name = name
theorem told_none (l : List Tgs) (name : ByteArray) : Told l name none := fun _ _ h => by cases h
theorem askL_told {rec : Nat → FSt → Ans × FSt} {can : Bool} {l : List Tgs} {name : ByteArray} (hr : ∀ i st, Told l name (rec i st).1) : ∀ (ds : List Del) (st : FSt), Told l name (askL rec can l name ds st).1
  | [], st => told_none _ _
  | d :: r, st => by
    rw [askL]
    split
    · exact askL_told hr r st
    · have key : ∀ p : Ans × FSt, Told l name p.1 → Told l name (match p.1 with | some y => (some y, p.2) | none => if (p.2.over || d.last) = true then (none, ⟨p.2.asked, true⟩) else askL rec can l name r ⟨p.2.asked, false⟩).1 := by
        intro p hp
        obtain ⟨p1, p2⟩ := p
        cases p1 with
        | some y => exact hp
        | none =>
          simp only []
          split
          · exact told_none _ _
          · exact askL_told hr r _
      refine key (if st.asks can (placeOf l d.name) = true then rec (placeOf l d.name).toNat st else (none, st)) ?_
      split
      · exact hr _ _
      · exact told_none _ _
theorem askB_told {rec : Nat → FSt → Ans × FSt} {can : Bool} {l : List Tgs} {name : ByteArray} (hr : ∀ i st, Told l name (rec i st).1) (i : Nat) (st : FSt) : Told l name (askB rec can l name i st).1 := by
  cases ht : l[i]? with
  | none => simp only [askB, ht]; exact told_none _ _
  | some t =>
    by_cases hk : 0 ≤ idxOf (fun x : Tgt => decide (x.name = name)) t.l
    · obtain ⟨k, hk⟩ := Int.eq_ofNat_of_zero_le hk
      obtain ⟨x, hx, hp, _⟩ := idxOf_get hk
      rw [askB_own ht hk hx]
      intro t' who h
      cases h
      exact ⟨t, List.mem_of_getElem? ht, rfl, List.mem_of_getElem? hx, by simpa using hp⟩
    · rw [askB_loop ht hk]
      exact askL_told hr _ _
theorem askF_told (l : List Tgs) (name : ByteArray) : ∀ f i st, Told l name (askF l name f i st).1
  | 0, i, st => askB_told (fun _ _ => told_none _ _) i st
  | f + 1, i, st => askB_told (askF_told l name f) i st
theorem findF_told (l : List Tgs) (name : ByteArray) : Told l name (findF l name) := by
  unfold findF
  split
  · exact told_none _ _
  · exact askF_told l name 3 0 _
theorem findF_own {t : Tgs} {r : List Tgs} {name : ByteArray} {k : Nat} {x : Tgt} (hk : idxOf (fun x : Tgt => decide (x.name = name)) t.l = k) (hx : t.l[k]? = some x) : findF (t :: r) name = some (x, t.name) := by
  unfold findF
  rw [if_neg (by simp)]
  show (askB _ _ _ _ _ _).1 = _
  rw [askB_own (t := t) rfl hk hx]
/-- Where no delegation means the name nothing but the first one's own is told. -/
theorem askL_skips {rec : Nat → FSt → Ans × FSt} {can : Bool} {l : List Tgs} {name : ByteArray} : ∀ (ds : List Del) (st : FSt), (∀ d ∈ ds, hasPfx name d.pfx = false) → (askL rec can l name ds st).1 = none
  | [], st, _ => rfl
  | d :: r, st, h => by
    rw [askL_skip (h d (by simp))]
    exact askL_skips r st fun d hd => h d (by simp [hd])
theorem findF_skips {t : Tgs} {r : List Tgs} {name : ByteArray} (hk : idxOf (fun x : Tgt => decide (x.name = name)) t.l < 0) (h : ∀ d ∈ t.d, hasPfx name d.pfx = false) : findF (t :: r) name = none := by
  unfold findF
  rw [if_neg (by simp)]
  show (askB _ _ _ _ _ _).1 = _
  rw [askB_loop (t := t) rfl (by omega)]
  exact askL_skips _ _ h
theorem pfx_more (name z : ByteArray) (h : 0 < z.size) : hasPfx name (name ++ z) = false := by
  unfold hasPfx
  rw [decide_eq_false (by rw [ByteArray.size_append]; omega)]
  rfl
end Go.Fw

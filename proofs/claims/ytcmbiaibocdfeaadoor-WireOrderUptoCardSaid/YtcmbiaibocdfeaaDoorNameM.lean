/- Names, by their bytes. -/
import Derived.Test.YtcmbiaibocdfeaaDoorOwnB
namespace Go.Fw
def signsL : List UInt8 := [97, 98, 99, 100, 101, 102, 103, 104, 105, 106, 107, 108, 109, 110, 111, 112, 113, 114, 115, 116, 117, 118, 119, 120, 121, 122, 48, 49, 50, 51, 52, 53, 54, 55, 56, 57, 45]
def isSign (c : UInt8) : Bool := signsL.contains c
def allS (s : ByteArray) : Prop := ∀ c ∈ s.data.toList, isSign c = true
/-- A name: one to twelve signs. -/
def nameB (s : ByteArray) : Bool := decide (1 ≤ s.size) && (decide (s.size ≤ 12) && s.data.toList.all isSign)
theorem isSign_iff (c : UInt8) : isSign c = true ↔ (97 ≤ c.toNat ∧ c.toNat ≤ 122) ∨ (48 ≤ c.toNat ∧ c.toNat ≤ 57) ∨ c.toNat = 45 := by
  have key : ∀ k, k < 256 → (isSign (UInt8.ofNat k) = true ↔ (97 ≤ k ∧ k ≤ 122) ∨ (48 ≤ k ∧ k ≤ 57) ∨ k = 45) := by decide +kernel
  have := key c.toNat c.toNat_lt
  rwa [show UInt8.ofNat c.toNat = c by simp] at this
/-- The set, as its cells hold it. -/
def setCells (l : List UInt8) : List Value := (List.range 256).map fun k => .bool (l.contains (UInt8.ofNat k))
theorem setCells_len (l : List UInt8) : (setCells l).length = 256 := by simp [setCells]
theorem setCells_one (l : List UInt8) : ∀ v ∈ setCells l, v.oneCell' = true := by
  intro v hv
  simp only [setCells, List.mem_map] at hv
  obtain ⟨k, _, rfl⟩ := hv
  rfl
theorem setCells_nil : setCells [] = List.replicate 256 (.bool false) := by
  unfold setCells
  rw [List.eq_replicate_iff]
  refine ⟨by rw [List.length_map, List.length_range], fun b hb => ?_⟩
  rw [List.mem_map] at hb
  obtain ⟨k, _, rfl⟩ := hb
  rfl
theorem setCells_get (l : List UInt8) (c : UInt8) : (setCells l)[c.toNat]? = some (.bool (l.contains c)) := by
  have hc := c.toNat_lt
  unfold setCells
  rw [List.getElem?_map, List.getElem?_range hc]
  simp
theorem setCells_set (l : List UInt8) (c : UInt8) : (setCells l).set c.toNat (.bool true) = setCells (l ++ [c]) := by
  apply List.ext_getElem?
  intro i
  by_cases hi : i < 256
  · by_cases e : c.toNat = i
    · subst e
      rw [List.getElem?_set_self (by rw [setCells_len]; exact hi), setCells_get]
      simp
    · rw [List.getElem?_set_ne e]
      have e2 : i = (UInt8.ofNat i).toNat := by simp; omega
      rw [e2, setCells_get, setCells_get]
      have hne : ¬ (UInt8.ofNat i) = c := fun h => e (by rw [← h, ← e2])
      simp [hne]
  · rw [List.getElem?_eq_none (by rw [List.length_set, setCells_len]; omega), List.getElem?_eq_none (by rw [setCells_len]; omega)]
/-- What is left where signs were taken off at an end. -/
def Cut (s r : ByteArray) : Prop := (allS r ↔ allS s) ∧ (allS r → r.size = 0)
def CutI (s r : ByteArray) : Prop := allS r ↔ allS s
theorem ba_toList (s : ByteArray) (i n : Nat) : (s.extract i n).data.toList = (s.data.toList.drop i).take (n - i) := by
  simp [ByteArray.data_extract, Array.toList_extract, List.extract_eq_take_drop]
theorem cut_left {s : ByteArray} (h : 0 < s.size) (hc : isSign s[0] = true) : CutI s (s.extract 1 s.size) := by
  have hl : s.data.toList.length = s.size := rfl
  unfold CutI allS
  rw [ba_toList]
  have e : s.data.toList = s[0] :: s.data.toList.drop 1 := by
    exact List.drop_eq_getElem_cons (l := s.data.toList) (i := 0) (by omega)
  have e2 : (s.data.toList.drop 1).take (s.size - 1) = s.data.toList.drop 1 := List.take_of_length_le (by rw [List.length_drop]; omega)
  rw [e2]
  constructor
  · intro h1 c hcm
    rw [e] at hcm
    rcases List.mem_cons.1 hcm with rfl | hcm
    · exact hc
    · exact h1 c hcm
  · intro h1 c hcm
    exact h1 c (List.mem_of_mem_drop hcm)
theorem cut_right {s : ByteArray} {k : Nat} (h : k + 1 = s.size) (hc : isSign (s[k]'(by omega)) = true) : CutI s (s.extract 0 k) := by
  have hl : s.data.toList.length = s.size := rfl
  unfold CutI allS
  rw [ba_toList, List.drop_zero, Nat.sub_zero]
  have e : s.data.toList = s.data.toList.take k ++ [s[k]'(by omega)] := by
    have h1 : s.data.toList.take (k + 1) = s.data.toList.take k ++ [s.data.toList[k]'(by omega)] := (List.take_append_getElem (l := s.data.toList) (i := k) (by omega)).symm
    have h2 : s.data.toList.take (k + 1) = s.data.toList := List.take_of_length_le (by omega)
    rw [← h2]
    exact h1.trans (by rw [h2]; rfl)
  constructor
  · intro h1 c hcm
    rw [e] at hcm
    rcases List.mem_append.1 hcm with hcm | hcm
    · exact h1 c hcm
    · obtain rfl : c = _ := by simpa using hcm
      exact hc
  · intro h1 c hcm
    exact h1 c (List.mem_of_mem_take hcm)
theorem not_allS {s : ByteArray} {k : Nat} (h : k < s.size) (hc : isSign s[k] = false) : ¬ allS s := by
  intro h1
  have hl : s.data.toList.length = s.size := rfl
  have := h1 s[k] (by
    have hm := List.getElem_mem (l := s.data.toList) (n := k) (by omega)
    exact hm)
  rw [hc] at this
  cases this
theorem allS_empty {s : ByteArray} (h : s.size = 0) : allS s := by
  intro c hc
  have hl : s.data.toList.length = s.size := rfl
  have : s.data.toList = [] := List.eq_nil_of_length_eq_zero (by omega)
  rw [this] at hc
  cases hc
theorem Cut.trans {s r q : ByteArray} (h : Cut s r) (g : Cut r q) : Cut s q := ⟨g.1.trans h.1, g.2⟩
theorem ba_empty {s : ByteArray} : s = ⟨#[]⟩ ↔ s.size = 0 := by
  constructor
  · rintro rfl; rfl
  · intro h
    have hl : s.data.toList.length = s.size := rfl
    have h1 : s.data.toList = [] := List.eq_nil_of_length_eq_zero (by omega)
    cases s
    simp only at h1
    simpa using h1
theorem cut_name {s r : ByteArray} (h : Cut s r) : decide (r = ⟨#[]⟩) = s.data.toList.all isSign := by
  have h1 : (r = ⟨#[]⟩) ↔ allS s := by
    rw [ba_empty]
    constructor
    · intro h2; exact h.1.1 (allS_empty h2)
    · intro h2; exact h.2 (h.1.2 h2)
  have h2 : s.data.toList.all isSign = true ↔ allS s := List.all_eq_true
  cases hq : s.data.toList.all isSign with
  | true => exact decide_eq_true (h1.2 (h2.1 hq))
  | false => exact decide_eq_false fun hr => by rw [h2.2 (h1.1 hr)] at hq; cases hq
end Go.Fw
namespace Go.Fw
theorem all_take_and {α : Type} {p : α → Bool} {l : List α} {k : Nat} (hk : k < l.length) : (l.take (k + 1)).all p = ((l.take k).all p && p l[k]) := by
  rw [List.take_add_one, List.getElem?_eq_getElem hk, List.all_append]
  simp
theorem sign_true {c : UInt8} (h : (97 ≤ c.toNat ∧ c.toNat ≤ 122) ∨ (48 ≤ c.toNat ∧ c.toNat ≤ 57) ∨ c.toNat = 45) : isSign c = true := (isSign_iff c).2 h
theorem sign_45 {c : UInt8} (h : ¬ (97 ≤ c.toNat ∧ c.toNat ≤ 122)) (h2 : ¬ (48 ≤ c.toNat ∧ c.toNat ≤ 57)) : decide ((c.toNat : Int) = 45) = isSign c := by
  cases hq : isSign c with
  | true => exact decide_eq_true (by have := (isSign_iff c).1 hq; omega)
  | false => exact decide_eq_false fun he => by rw [(isSign_iff c).2 (.inr (.inr (by omega)))] at hq; cases hq
theorem signs_lt {k : Nat} (h : k < signsL.length) : signsL[k].toNat < 128 := by
  have key : ∀ c ∈ signsL, c.toNat < 128 := by decide
  exact key _ (List.getElem_mem h)
end Go.Fw

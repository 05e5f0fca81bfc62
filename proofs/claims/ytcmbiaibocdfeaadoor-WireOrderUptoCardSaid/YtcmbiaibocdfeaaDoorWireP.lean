/- Plain facts on keys and roots that may be, and parts of rows. -/
import Derived.Test.YtcmbiaibocdfeaaDoorFwI
namespace Go.Fw
theorem sl_take {α : Type} {sz : Nat} {R : World → α → List Value → Prop} {w : World} {a : Option Addr} {len cap k : Nat} {l : List α} (h : SlAt sz R w (.slice a len cap) l) (hk : k ≤ l.length) (c : Nat) :
    SlAt sz R w (.slice (if c = 0 then a else a.map (·.add (0 * sz))) k cap) (l.take k) := by
  obtain ⟨rfl, -⟩ := h.at
  obtain ⟨a', cap', hv, h⟩ := h
  cases hv
  refine ⟨_, _, by rw [List.length_take, Nat.min_eq_left hk], fun i x hi => ?_⟩
  rw [List.getElem?_take] at hi
  split at hi
  · obtain ⟨b, o, cs, ha, hr, hc⟩ := h _ _ hi
    subst ha
    refine ⟨b, o, cs, ?_, hr, hc⟩
    split
    · rfl
    · simp [Addr.add_mid]
  · cases hi
theorem sl_cap {α : Type} {sz : Nat} {R : World → α → List Value → Prop} {w : World} {a : Option Addr} {n c c' : Nat} {l : List α} (h : SlAt sz R w (.slice a n c) l) : SlAt sz R w (.slice a n c') l := by
  obtain ⟨a', cap', hv, h⟩ := h
  cases hv
  exact ⟨_, _, rfl, h⟩
theorem idx_mem {α : Type} [DecidableEq α] {h : α} {l : List α} : 0 ≤ idxOf (fun x => decide (h = x)) l ↔ h ∈ l := by
  unfold idxOf
  cases hq : l.findIdx? (fun x => decide (h = x)) with
  | none =>
    rw [List.findIdx?_eq_none_iff] at hq
    constructor
    · intro h; exact absurd h (by decide)
    · intro hm; have := hq h hm; simp at this
  | some i =>
    rw [List.findIdx?_eq_some_iff_getElem] at hq
    obtain ⟨hi, h1, _⟩ := hq
    have h1 : h = l[i] := by simpa using h1
    constructor
    · intro _; rw [h1]; exact List.getElem_mem hi
    · intro _; show (0 : Int) ≤ (i : Int); omega
theorem nodup_take_succ {α : Type} {l : List α} {j : Nat} (hj : j < l.length) (h : (l.take j).Nodup) (hn : l[j] ∉ l.take j) : (l.take (j + 1)).Nodup := by
  rw [List.take_add_one, List.getElem?_eq_getElem hj]
  simp only [Option.toList]
  rw [List.nodup_append]
  refine ⟨h, by simp, fun a ha b hb => ?_⟩
  obtain rfl : b = l[j] := by simpa using hb
  intro e
  exact hn (e ▸ ha)
theorem not_nodup_take {α : Type} {l : List α} {j : Nat} (hj : j < l.length) (hn : l[j] ∈ l.take j) : ¬ l.Nodup := by
  intro h
  rw [← List.take_append_drop j l, List.nodup_append] at h
  obtain ⟨_, _, h3⟩ := h
  have h1 := drop_of_get (List.getElem?_eq_getElem hj)
  exact h3 _ hn _ (by rw [h1]; exact List.mem_cons_self) rfl
theorem not_nodup_at {α : Type} {l : List α} {i j : Nat} (hi : i < l.length) (hj : j < i) (e : l[i] = l[j]'(by omega)) : ¬ l.Nodup := by
  refine not_nodup_take hi ?_
  rw [e]
  rw [List.mem_take_iff_getElem]
  exact ⟨j, by omega, rfl⟩
theorem mem_take_none {α : Type} {l : List α} {i : Nat} (hi : i < l.length) (h : ∀ j (hj : j < i), l[i] ≠ l[j]'(by omega)) : l[i] ∉ l.take i := by
  intro hm
  rw [List.mem_take_iff_getElem] at hm
  obtain ⟨j, hj, e⟩ := hm
  exact h j (by omega) e.symm
theorem keysF {k : KeysP} (h : (k.keys.length : Int) < 1 ∨ (4 : Int) < k.keys.length ∨ k.need < 1 ∨ (k.keys.length : Int) < k.need) : isKeysP k = false := by
  unfold isKeysP
  rcases h with h | h | h | h
  · rw [decide_eq_false (by omega : ¬ 1 ≤ k.keys.length)]; rfl
  · rw [decide_eq_false (by omega : ¬ k.keys.length ≤ 4)]; simp
  · rw [decide_eq_false (by omega : ¬ 1 ≤ k.need)]; simp
  · rw [decide_eq_false (by omega : ¬ k.need ≤ k.keys.length)]; simp
theorem keysN {k : KeysP} (h : ¬ k.keys.Nodup) : isKeysP k = false := by
  unfold isKeysP
  rw [decide_eq_false h]
  simp
theorem keysT {k : KeysP} (h1 : ¬ (k.keys.length : Int) < 1) (h2 : ¬ (4 : Int) < k.keys.length) (h3 : ¬ k.need < 1) (h4 : ¬ (k.keys.length : Int) < k.need) (h5 : k.keys.Nodup) : isKeysP k = true := by
  unfold isKeysP
  rw [decide_eq_true (by omega : 1 ≤ k.keys.length), decide_eq_true (by omega : k.keys.length ≤ 4), decide_eq_true (by omega : 1 ≤ k.need), decide_eq_true (by omega : k.need ≤ k.keys.length), decide_eq_true h5]
  rfl
theorem all_take_succ {α : Type} {p : α → Bool} {l : List α} {k : Nat} (hk : k < l.length) (h : (l.take k).all p = true) (hp : p l[k] = true) : (l.take (k + 1)).all p = true := by
  rw [List.take_add_one, List.getElem?_eq_getElem hk, List.all_append, h]
  simp [hp]
theorem all_no {α : Type} {p : α → Bool} {l : List α} {k : Nat} (hk : k < l.length) (hp : p l[k] = false) : l.all p = false := by
  rw [List.all_eq_false]
  exact ⟨l[k], List.getElem_mem hk, by simp [hp]⟩
structure TimeP where
  ver : Int
  exp : Int
  snap : Int
  sum : List UInt8
def isTimeP (t : TimeP) : Bool := verB t.ver && (numB t.exp && verB t.snap)
def encTime (t : TimeP) : List UInt8 := encNs [t.ver, t.exp, t.snap] ++ t.sum
def TimeP.cells (t : TimeP) : List Value := .int .i64 t.ver :: .int .i64 t.exp :: .int .i64 t.snap :: hcells t.sum
theorem encU_len : ∀ (k u : Nat), u < 128 ^ (k + 1) → (encU u).length ≤ k + 1
  | 0, u, h => by rw [encU_small (by simpa using h)]; simp
  | k + 1, u, h => by
    by_cases hu : u < 128
    · rw [encU_small hu]; simp
    · rw [encU_more hu]
      have := encU_len k (u / 128) (by rw [Nat.div_lt_iff_lt_mul (by omega), ← Nat.pow_succ]; exact h)
      simp only [List.length_cons]
      omega
theorem encN_len (n : Int) : (encN n).length ≤ 9 := by
  refine encU_len 8 _ ?_
  have h1 := clampN_lt n
  have h2 : (128 : Nat) ^ (8 + 1) = 9223372036854775808 := by decide
  omega
theorem encNs_len (l : List Int) : (encNs l).length ≤ 9 * l.length := by
  induction l with
  | nil => simp [encNs]
  | cons n l ih =>
    have := encN_len n
    unfold encNs at ih ⊢
    simp only [List.flatMap_cons, List.length_append, List.length_cons]
    omega
theorem hashes_len {l : List (List UInt8)} (h : ∀ x ∈ l, x.length = 32) : (l.flatMap id).length = 32 * l.length := by
  induction l with
  | nil => rfl
  | cons x l ih =>
    rw [List.flatMap_cons, List.length_append, ih (fun y hy => h y (by simp [hy])), List.length_cons, id, h x (by simp)]
    omega
theorem encKeys_len {k : KeysP} (h : ∀ x ∈ k.keys, x.length = 32) : (encKeys k).length ≤ 18 + 32 * k.keys.length := by
  unfold encKeys
  have h1 := encN_len k.keys.length
  have h2 := encN_len k.need
  have h3 := hashes_len h
  simp only [List.length_append]
  omega
theorem sl_hashes {w : World} {v : Value} {l : List (List UInt8)} (h : SlAt 32 RHash w v l) : ∀ x ∈ l, x.length = 32 := by
  intro x hx
  obtain ⟨i, hi, rfl⟩ := List.mem_iff_getElem.1 hx
  obtain ⟨a, c, hv, h⟩ := h
  obtain ⟨_, _, _, _, hr, _⟩ := h i l[i] (List.getElem?_eq_getElem hi)
  exact hr.1
end Go.Fw

/- Records as bytes, in plain lists: two ways to read them, and that they agree. -/
import Derived.Test.YtcmbiaibocdfeaaDoorWireM
namespace Go.Fw

/-! ### What reads, and what is written of it -/
def Sticky {α : Type} (take : RS → α × RS) : Prop := ∀ s, s.bad = true → (take s).2.bad = true
def Reads {α : Type} (take : RS → α × RS) (enc : α → List UInt8) : Prop := ∀ s, (take s).2.bad = false → s.bad = false ∧ s.rest = enc (take s).1 ++ (take s).2.rest
/-- Two ways to read: alike, or neither gives what may be. -/
def Close {α : Type} (may : α → Bool) (t1 t2 : RS → α × RS) : Prop := ∀ s, t1 s = t2 s ∨ (((t1 s).2.bad = true ∨ may (t1 s).1 = false) ∧ ((t2 s).2.bad = true ∨ may (t2 s).1 = false))
def rowsA {α : Type} (take : RS → α × RS) : Nat → List α → RS → List α × RS
  | 0, acc, s => (acc, s)
  | n + 1, acc, s => rowsA take n (acc ++ [(take s).1]) (take s).2
theorem Reads.sticky {α : Type} {take : RS → α × RS} {enc : α → List UInt8} (h : Reads take enc) : Sticky take := fun s hs => by
  cases hb : (take s).2.bad with
  | true => rfl
  | false => have := (h s hb).1; rw [hs] at this; cases this
theorem reads_num : Reads RS.num encN := fun s h => by
  unfold RS.num at h ⊢
  cases hq : rdN 0 0 s.rest with
  | none => rw [hq] at h; cases h
  | some p =>
    obtain ⟨n, r⟩ := p
    rw [hq] at h
    obtain ⟨m, hn, hl, _, hb⟩ := rdN_enc _ _ _ _ _ hq
    have e : n = m := by rw [hn]; simp
    subst e
    refine ⟨h, ?_⟩
    simp only [hl]
    rw [show encN (n : Int) = encU n by unfold encN; rw [clampN_nat hb]]
theorem num_nonneg (s : RS) : 0 ≤ s.num.1 := by
  unfold RS.num
  split <;> simp
theorem num_le (s : RS) : s.num.1 ≤ 4611686018427387904 := by
  unfold RS.num
  split
  · rename_i u r hq
    obtain ⟨m, _, _, _, hb⟩ := rdN_enc _ _ _ _ _ hq
    show (u : Int) ≤ _
    omega
  · decide
theorem raw_good {s : RS} {n : Int} (h : (s.raw n).2.bad = false) : s.bad = false ∧ s.rest = (s.raw n).1 ++ (s.raw n).2.rest ∧ ((s.raw n).1.length : Int) = n := by
  unfold RS.raw at h ⊢
  split at h
  · cases h
  · rename_i hn
    rw [if_neg hn]
    refine ⟨h, (List.take_append_drop _ _).symm, ?_⟩
    simp only [List.length_take]
    omega
theorem raw_len_le (s : RS) (n : Int) : (s.raw n).1.length ≤ s.rest.length := by
  unfold RS.raw
  split <;> simp; omega
theorem reads_hash : Reads RS.hash id := fun s h => by
  have h' : (s.raw 32).2.bad = false := h
  obtain ⟨h1, h2, h3⟩ := raw_good h'
  refine ⟨h1, ?_⟩
  have hl : (s.raw 32).1.length = 32 := by omega
  show s.rest = (if (s.raw 32).1.length = 32 then (s.raw 32).1 else List.replicate 32 0) ++ (s.raw 32).2.rest
  rw [if_pos hl]
  exact h2
theorem hash_len (s : RS) : s.hash.1.length = 32 := by
  show (if (s.raw 32).1.length = 32 then (s.raw 32).1 else List.replicate 32 0).length = 32
  split
  · assumption
  · simp
theorem reads_bytes : Reads RS.bytes encBs := fun s h => by
  have h' : (s.num.2.raw s.num.1).2.bad = false := h
  obtain ⟨h1, h2, h3⟩ := raw_good h'
  obtain ⟨h4, h5⟩ := reads_num s h1
  refine ⟨h4, ?_⟩
  show s.rest = encN ((s.num.2.raw s.num.1).1.length : Int) ++ (s.num.2.raw s.num.1).1 ++ (s.num.2.raw s.num.1).2.rest
  rw [h3, List.append_assoc, ← h2]
  exact h5
theorem takenL_good {α : Type} {take : RS → α × RS} {enc : α → List UInt8} (h : Reads take enc) : ∀ (n : Nat) (acc : List α) (s : RS), (takenL take n acc s).2.bad = false →
    s.bad = false ∧ ∃ l, (takenL take n acc s).1 = acc ++ l ∧ l.length = n ∧ s.rest = l.flatMap enc ++ (takenL take n acc s).2.rest
  | 0, acc, s, hb => ⟨hb, [], by simp [takenL], rfl, by simp [takenL]⟩
  | n + 1, acc, s, hb => by
    unfold takenL at hb ⊢
    cases hs : s.bad with
    | true => rw [if_pos hs] at hb; rw [hb] at hs; cases hs
    | false =>
      rw [if_neg (by simp [hs])] at hb ⊢
      obtain ⟨h1, l, h2, h3, h4⟩ := takenL_good h n _ _ hb
      obtain ⟨_, h5⟩ := h s h1
      refine ⟨rfl, (take s).1 :: l, by rw [h2]; simp, by simp [h3], ?_⟩
      rw [h5, h4]
      simp
theorem takenL_sticky {α : Type} (take : RS → α × RS) (n : Nat) (acc : List α) (s : RS) (hs : s.bad = true) : (takenL take n acc s).2.bad = true := by
  cases n with
  | zero => exact hs
  | succ n => unfold takenL; rw [if_pos hs]; exact hs
theorem takenL_len {α : Type} (take : RS → α × RS) : ∀ (n : Nat) (acc : List α) (s : RS), (takenL take n acc s).2.bad = true ∨ (takenL take n acc s).1.length = acc.length + n
  | 0, acc, s => .inr rfl
  | n + 1, acc, s => by
    unfold takenL
    cases hs : s.bad with
    | true => rw [if_pos rfl]; exact .inl hs
    | false =>
      rw [if_neg (by simp)]
      rcases takenL_len take n (acc ++ [(take s).1]) (take s).2 with h | h
      · exact .inl h
      · exact .inr (by rw [h]; simp; omega)
theorem takenL_all {α : Type} {take : RS → α × RS} {p : α → Prop} (h : ∀ s, p (take s).1) : ∀ (n : Nat) (acc : List α) (s : RS), (∀ x ∈ acc, p x) → ∀ x ∈ (takenL take n acc s).1, p x
  | 0, acc, s, ha => ha
  | n + 1, acc, s, ha => by
    unfold takenL
    split
    · exact ha
    · exact takenL_all h n _ _ (fun x hx => by
        rcases List.mem_append.1 hx with hx | hx
        · exact ha x hx
        · obtain rfl : x = (take s).1 := by simpa using hx
          exact h s)
theorem rowsA_all {α : Type} {take : RS → α × RS} {p : α → Prop} (h : ∀ s, p (take s).1) : ∀ (n : Nat) (acc : List α) (s : RS), (∀ x ∈ acc, p x) → ∀ x ∈ (rowsA take n acc s).1, p x
  | 0, acc, s, ha => ha
  | n + 1, acc, s, ha => by
    unfold rowsA
    exact rowsA_all h n _ _ (fun x hx => by
        rcases List.mem_append.1 hx with hx | hx
        · exact ha x hx
        · obtain rfl : x = (take s).1 := by simpa using hx
          exact h s)
theorem rowsA_len {α : Type} (take : RS → α × RS) : ∀ (n : Nat) (acc : List α) (s : RS), (rowsA take n acc s).1.length = acc.length + n
  | 0, _, _ => rfl
  | n + 1, acc, s => by unfold rowsA; rw [rowsA_len take n]; simp; omega
theorem rowsA_sticky {α : Type} {take : RS → α × RS} (h : Sticky take) : ∀ (n : Nat) (acc : List α) (s : RS), s.bad = true → (rowsA take n acc s).2.bad = true
  | 0, _, _, hs => hs
  | n + 1, acc, s, hs => rowsA_sticky h n _ _ (h s hs)
theorem rowsA_good {α : Type} {take : RS → α × RS} {enc : α → List UInt8} (h : Reads take enc) : ∀ (n : Nat) (acc : List α) (s : RS), (rowsA take n acc s).2.bad = false →
    s.bad = false ∧ ∃ l, (rowsA take n acc s).1 = acc ++ l ∧ l.length = n ∧ s.rest = l.flatMap enc ++ (rowsA take n acc s).2.rest
  | 0, acc, s, hb => ⟨hb, [], by simp [rowsA], rfl, by simp [rowsA]⟩
  | n + 1, acc, s, hb => by
    unfold rowsA at hb ⊢
    obtain ⟨h1, l, h2, h3, h4⟩ := rowsA_good h n _ _ hb
    obtain ⟨h0, h5⟩ := h s h1
    refine ⟨h0, (take s).1 :: l, by rw [h2]; simp, by simp [h3], ?_⟩
    rw [h5, h4]
    simp
theorem rowsA_mem {α : Type} {take : RS → α × RS} : ∀ (n : Nat) (acc : List α) (s : RS), ∀ x ∈ acc, x ∈ (rowsA take n acc s).1
  | 0, _, _, _, hx => hx
  | n + 1, acc, s, x, hx => by unfold rowsA; exact rowsA_mem n _ _ x (by simp [hx])
theorem close_rowsA {α : Type} {may : α → Bool} {t1 t2 : RS → α × RS} (h : Close may t1 t2) (k1 : Sticky t1) (k2 : Sticky t2) : ∀ (n : Nat) (acc : List α) (s : RS),
    rowsA t1 n acc s = rowsA t2 n acc s ∨ (((rowsA t1 n acc s).2.bad = true ∨ (rowsA t1 n acc s).1.all may = false) ∧ ((rowsA t2 n acc s).2.bad = true ∨ (rowsA t2 n acc s).1.all may = false))
  | 0, _, _ => .inl rfl
  | n + 1, acc, s => by
    rcases h s with e | ⟨e1, e2⟩
    · unfold rowsA
      rw [e]
      exact close_rowsA h k1 k2 n _ _
    · have key : ∀ (t : RS → α × RS), Sticky t → ((t s).2.bad = true ∨ may (t s).1 = false) → ((rowsA t (n + 1) acc s).2.bad = true ∨ (rowsA t (n + 1) acc s).1.all may = false) := by
        intro t kt et
        unfold rowsA
        rcases et with et | et
        · exact .inl (rowsA_sticky kt _ _ _ et)
        · refine .inr ?_
          rw [List.all_eq_false]
          exact ⟨(t s).1, rowsA_mem _ _ _ _ (by simp), by simp [et]⟩
      exact .inr ⟨key t1 k1 e1, key t2 k2 e2⟩

/-! ### Bytes of a kind as a record -/
def decP {α : Type} (kind : Int) (take : RS → α × RS) (may : α → Bool) (b : List UInt8) : Option α :=
  if (RS.mk b false).num.1 ≠ kind then none
  else if (take (RS.mk b false).num.2).2.whole && may (take (RS.mk b false).num.2).1 then some (take (RS.mk b false).num.2).1 else none
def kindS (kind : Int) (b : List UInt8) : RS := if (RS.mk b false).num.1 ≠ kind then .fail else (RS.mk b false).num.2
def decR {α : Type} (kind : Int) (take : RS → α × RS) (may : α → Bool) (enc : α → List UInt8) (b : List UInt8) : Option α :=
  if (take (kindS kind b)).2.whole && (may (take (kindS kind b)).1 && decide (b = enc (take (kindS kind b)).1)) then some (take (kindS kind b)).1 else none
theorem whole_good {s : RS} (h : s.whole = true) : s.bad = false ∧ s.rest = [] := by
  unfold RS.whole at h
  simp at h
  exact h
theorem whole_bad {s : RS} (h : s.bad = true) : s.whole = false := by simp [RS.whole, h]
theorem dec_eq {α : Type} {kind : Int} {t1 t2 : RS → α × RS} {may : α → Bool} {enc : α → List UInt8} (hc : Close may t1 t2) (hr : Reads t1 enc) (k2 : Sticky t2) (b : List UInt8) : decP kind t1 may b = decR kind t2 may (fun x => encN kind ++ enc x) b := by
  unfold decP decR kindS
  by_cases hk : (RS.mk b false).num.1 ≠ kind
  · rw [if_pos hk, if_pos hk]
    have := whole_bad (k2 RS.fail rfl)
    simp [this]
  · rw [if_neg hk, if_neg hk]
    generalize hs : (RS.mk b false).num.2 = s
    have hno : ∀ t : RS → α × RS, ((t s).2.bad = true ∨ may (t s).1 = false) → ((t s).2.whole && may (t s).1) = false := by
      rintro t (h | h)
      · simp [whole_bad h]
      · simp [h]
    rcases hc s with e | ⟨e1, e2⟩
    · rw [← e]
      by_cases hw : (t1 s).2.whole = true ∧ may (t1 s).1 = true
      · obtain ⟨hw, hm⟩ := hw
        obtain ⟨hb, hrest⟩ := whole_good hw
        obtain ⟨h1, h2⟩ := hr s hb
        have hb2 : (RS.mk b false).num.2.bad = false := by rw [hs]; exact h1
        obtain ⟨_, h3⟩ := reads_num _ hb2
        have hk' : (RS.mk b false).num.1 = kind := by simpa using hk
        have hbb : b = encN kind ++ enc (t1 s).1 := by
          rw [hk', hs, h2, hrest] at h3
          simpa using h3
        rw [if_pos (by simp [hw, hm]), if_pos (by simp [hw, hm, ← hbb])]
      · rw [if_neg (by simpa using hw), if_neg]
        simp only [Bool.and_eq_true, not_and]
        intro h1 h2
        exact absurd ⟨h1, h2⟩ hw
    · rw [if_neg (by rw [hno t1 e1]; simp), if_neg]
      have := hno t2 e2
      intro h
      simp only [Bool.and_eq_true] at h
      rw [h.1, h.2.1] at this
      cases this
def encP {α : Type} (kind : Int) (may : α → Bool) (enc : α → List UInt8) (x : α) : List UInt8 := if may x then encN kind ++ enc x else []
def encE {α : Type} (may : α → Bool) (x : α) : Int := if may x then 0 else 1
def optE {α : Type} : Option α → Int | some _ => 0 | none => 2

/-! ### Keys, roots -/
def numB (n : Int) : Bool := decide (0 ≤ n) && decide (n ≤ 1073741824)
def verB (n : Int) : Bool := decide (1 ≤ n) && decide (n ≤ 1073741824)
structure KeysP where
  keys : List (List UInt8)
  need : Int
structure RootP where
  ver : Int
  exp : Int
  roles : List KeysP
def isKeysP (k : KeysP) : Bool := decide (1 ≤ k.keys.length) && (decide (k.keys.length ≤ 4) && (decide (1 ≤ k.need) && (decide (k.need ≤ k.keys.length) && decide k.keys.Nodup)))
def isRootP (r : RootP) : Bool := r.roles.all isKeysP && (verB r.ver && numB r.exp)
def encKeys (k : KeysP) : List UInt8 := encN k.keys.length ++ (k.keys.flatMap id ++ encN k.need)
def encRoot (r : RootP) : List UInt8 := encN r.ver ++ (encN r.exp ++ r.roles.flatMap encKeys)
def RS.keys (f : Nat → Nat) (s : RS) : KeysP × RS :=
  (⟨(takenL RS.hash (f s.num.1.toNat) [] s.num.2).1, (takenL RS.hash (f s.num.1.toNat) [] s.num.2).2.num.1⟩, (takenL RS.hash (f s.num.1.toNat) [] s.num.2).2.num.2)
def RS.root (f : Nat → Nat) (s : RS) : RootP × RS :=
  (⟨s.num.1, s.num.2.num.1, (rowsA (RS.keys f) 4 [] s.num.2.num.2).1⟩, (rowsA (RS.keys f) 4 [] s.num.2.num.2).2)
theorem sticky_keys (f : Nat → Nat) : Sticky (RS.keys f) := fun s h => reads_num.sticky _ (takenL_sticky _ _ _ _ (reads_num.sticky s h))
theorem sticky_root (f : Nat → Nat) : Sticky (RS.root f) := fun s h => rowsA_sticky (sticky_keys f) _ _ _ (reads_num.sticky _ (reads_num.sticky s h))
theorem reads_keys : Reads (RS.keys id) encKeys := fun s h => by
  obtain ⟨h1, h2⟩ := reads_num _ h
  obtain ⟨h3, l, h4, h5, h6⟩ := takenL_good reads_hash _ _ _ h1
  obtain ⟨h7, h8⟩ := reads_num _ h3
  refine ⟨h7, ?_⟩
  have hn := num_nonneg s
  rw [h8, h6]
  show _ = encKeys (RS.keys id s).1 ++ _
  unfold encKeys RS.keys
  rw [h2, h4]
  have : ((List.length ([] ++ l) : Nat) : Int) = s.num.1 := by simp at h5 ⊢; omega
  simp only [this]
  simp
/-- The bound on how many are read turns nothing. -/
theorem close_keys : Close isKeysP (RS.keys id) (RS.keys (min 5)) := fun s => by
  by_cases hn : s.num.1.toNat ≤ 5
  · left
    have : min 5 s.num.1.toNat = id s.num.1.toNat := by simp; omega
    unfold RS.keys
    rw [this]
  · right
    have key : ∀ f : Nat → Nat, 5 ≤ f s.num.1.toNat → (RS.keys f s).2.bad = true ∨ isKeysP (RS.keys f s).1 = false := by
      intro f hf
      rcases takenL_len RS.hash (f s.num.1.toNat) [] s.num.2 with h | h
      · exact .inl (reads_num.sticky _ h)
      · refine .inr ?_
        have h4 : ¬ (RS.keys f s).1.keys.length ≤ 4 := by
          show ¬ (takenL RS.hash (f s.num.1.toNat) [] s.num.2).1.length ≤ 4
          rw [h]; simp; omega
        unfold isKeysP
        rw [decide_eq_false h4]
        simp
    exact ⟨key id (by simp; omega), key (min 5) (by omega)⟩
/-- Read with a bound, what was read whole is what is written of it, if it may be. -/
theorem reads_root : Reads (RS.root id) encRoot := fun s h => by
  have e : RS.root id s = (⟨s.num.1, s.num.2.num.1, (rowsA (RS.keys id) 4 [] s.num.2.num.2).1⟩, (rowsA (RS.keys id) 4 [] s.num.2.num.2).2) := rfl
  have hg := rowsA_good reads_keys 4 [] s.num.2.num.2
  rw [e] at h
  rw [e]
  generalize rowsA (RS.keys id) 4 [] s.num.2.num.2 = r at h hg ⊢
  obtain ⟨h1, l, h2, h3, h4⟩ := hg h
  obtain ⟨h5, h6⟩ := reads_num _ h1
  obtain ⟨h7, h8⟩ := reads_num _ h5
  refine ⟨h7, ?_⟩
  simp only [encRoot]
  rw [h8, h6, h4, h2]
  simp
theorem close_root : Close isRootP (RS.root id) (RS.root (min 5)) := fun s => by
  have hc := close_rowsA close_keys (sticky_keys _) (sticky_keys _) 4 [] s.num.2.num.2
  have e : ∀ f, RS.root f s = (⟨s.num.1, s.num.2.num.1, (rowsA (RS.keys f) 4 [] s.num.2.num.2).1⟩, (rowsA (RS.keys f) 4 [] s.num.2.num.2).2) := fun _ => rfl
  rw [e, e]
  generalize rowsA (RS.keys id) 4 [] s.num.2.num.2 = r at hc ⊢
  generalize rowsA (RS.keys (min 5)) 4 [] s.num.2.num.2 = q at hc ⊢
  have key : ∀ r : List KeysP × RS, (r.2.bad = true ∨ r.1.all isKeysP = false) → (r.2.bad = true ∨ isRootP ⟨s.num.1, s.num.2.num.1, r.1⟩ = false) := by
    rintro r (h | h)
    · exact .inl h
    · exact .inr (by simp only [isRootP, h, Bool.false_and])
  rcases hc with rfl | ⟨e1, e2⟩
  · exact .inl rfl
  · exact .inr ⟨key _ e1, key _ e2⟩
end Go.Fw

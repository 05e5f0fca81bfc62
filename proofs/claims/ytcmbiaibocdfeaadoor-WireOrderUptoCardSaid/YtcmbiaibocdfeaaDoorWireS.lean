/- Texts, pins, snapshots: as bytes in plain lists, and in memory. -/
import Derived.Test.YtcmbiaibocdfeaaDoorNameM
import Derived.Test.YtcmbiaibocdfeaaDoorReadQ
import Derived.Test.YtcmbiaibocdfeaaDoorWireL
namespace Go.Fw
abbrev tb (s : ByteArray) : List UInt8 := s.data.toList
def bt (l : List UInt8) : ByteArray := ⟨l.toArray⟩
@[simp] theorem tb_bt (l : List UInt8) : tb (bt l) = l := by simp [tb, bt]
theorem bt_tb (s : ByteArray) : bt (tb s) = s := by cases s; simp [bt, tb]
structure PinP where
  name : ByteArray
  ver : Int
structure SnapP where
  ver : Int
  exp : Int
  pins : List PinP
def SnapP.zero : SnapP := ⟨0, 0, []⟩
def encText (s : ByteArray) : List UInt8 := encBs (tb s)
def encPin (p : PinP) : List UInt8 := encText p.name ++ encN p.ver
def encSnap (s : SnapP) : List UInt8 := encN s.ver ++ (encN s.exp ++ (encN s.pins.length ++ s.pins.flatMap encPin))
def pinAt (l : List PinP) (k : Nat) : Bool := if h : k < l.length then nameB l[k].name && (verB l[k].ver && (decide (k = 0) || strLt (l[k - 1]'(by omega)).name l[k].name)) else true
theorem pinAt_eq {l : List PinP} {k : Nat} (h : k < l.length) : pinAt l k = (nameB l[k].name && (verB l[k].ver && (decide (k = 0) || strLt (l[k - 1]'(by omega)).name l[k].name))) := dif_pos h
def isSnapP (s : SnapP) : Bool := (List.range s.pins.length).all (pinAt s.pins) && (verB s.ver && (numB s.exp && decide (s.pins.length ≤ 16)))
theorem range_no {p : Nat → Bool} {n k : Nat} (hk : k < n) (h : p k = false) : (List.range n).all p = false := by
  rw [List.all_eq_false]
  exact ⟨k, by simpa using hk, by simp [h]⟩
theorem range_succ_all {p : Nat → Bool} {k : Nat} (h : (List.range k).all p = true) (hp : p k = true) : (List.range (k + 1)).all p = true := by
  rw [List.range_succ, List.all_append, h]
  simp [hp]
theorem snap_pins {s : SnapP} {k : Nat} (hk : k < s.pins.length) (h : pinAt s.pins k = false) : isSnapP s = false := by
  unfold isSnapP
  rw [range_no hk h]
  rfl
/-! ### Reading -/
def RS.text (s : RS) : ByteArray × RS := (bt s.bytes.1, s.bytes.2)
def RS.pin (s : RS) : PinP × RS := (⟨s.text.1, s.text.2.num.1⟩, s.text.2.num.2)
def RS.snap (f : Nat → Nat) (s : RS) : SnapP × RS :=
  (⟨s.num.1, s.num.2.num.1, (takenL RS.pin (f s.num.2.num.2.num.1.toNat) [] s.num.2.num.2.num.2).1⟩, (takenL RS.pin (f s.num.2.num.2.num.1.toNat) [] s.num.2.num.2.num.2).2)
theorem reads_text : Reads RS.text encText := fun s h => by
  obtain ⟨h1, h2⟩ := reads_bytes s h
  refine ⟨h1, ?_⟩
  show s.rest = encBs (tb (bt s.bytes.1)) ++ s.bytes.2.rest
  rw [tb_bt]
  exact h2
theorem reads_pin : Reads RS.pin encPin := fun s h => by
  obtain ⟨h1, h2⟩ := reads_num _ h
  obtain ⟨h3, h4⟩ := reads_text _ h1
  refine ⟨h3, ?_⟩
  show s.rest = encText s.text.1 ++ encN s.text.2.num.1 ++ s.text.2.num.2.rest
  rw [h4, h2]
  simp
theorem reads_snap : Reads (RS.snap id) encSnap := fun s h => by
  have e : RS.snap id s = (⟨s.num.1, s.num.2.num.1, (takenL RS.pin s.num.2.num.2.num.1.toNat [] s.num.2.num.2.num.2).1⟩, (takenL RS.pin s.num.2.num.2.num.1.toNat [] s.num.2.num.2.num.2).2) := rfl
  rw [e] at h
  rw [e]
  obtain ⟨h1, l, h2, h3, h4⟩ := takenL_good reads_pin _ _ _ h
  obtain ⟨h5, h6⟩ := reads_num _ h1
  obtain ⟨h7, h8⟩ := reads_num _ h5
  obtain ⟨h9, h10⟩ := reads_num _ h7
  refine ⟨h9, ?_⟩
  simp only [encSnap]
  rw [h10, h8, h6, h4, h2]
  have hn := num_nonneg s.num.2.num.2
  have : ((List.length ([] ++ l) : Nat) : Int) = s.num.2.num.2.num.1 := by simp at h3 ⊢; omega
  simp only [this]
  simp
theorem sticky_snap (f : Nat → Nat) : Sticky (RS.snap f) := fun s h => takenL_sticky _ _ _ _ (reads_num.sticky _ (reads_num.sticky _ (reads_num.sticky s h)))
theorem close_snap : Close isSnapP (RS.snap id) (RS.snap (min 17)) := fun s => by
  by_cases hn : s.num.2.num.2.num.1.toNat ≤ 17
  · left
    have : min 17 s.num.2.num.2.num.1.toNat = id s.num.2.num.2.num.1.toNat := by simp; omega
    unfold RS.snap
    rw [this]
  · right
    have key : ∀ f : Nat → Nat, 17 ≤ f s.num.2.num.2.num.1.toNat → (RS.snap f s).2.bad = true ∨ isSnapP (RS.snap f s).1 = false := by
      intro f hf
      rcases takenL_len RS.pin (f s.num.2.num.2.num.1.toNat) [] s.num.2.num.2.num.2 with h | h
      · exact .inl h
      · refine .inr ?_
        have h4 : ¬ (RS.snap f s).1.pins.length ≤ 16 := by
          show ¬ (takenL RS.pin (f s.num.2.num.2.num.1.toNat) [] s.num.2.num.2.num.2).1.length ≤ 16
          rw [h]; simp; omega
        unfold isSnapP
        rw [decide_eq_false h4]
        simp
    exact ⟨key id (by simp; omega), key (min 17) (by omega)⟩
theorem pin_used {s : RS} (h : (RS.pin s).2.bad = false) : (RS.pin s).2.rest.length < s.rest.length := by
  have h1 := (reads_pin s h).2
  have h2 := congrArg List.length h1
  have h3 := encU_ne (clampN (RS.pin s).1.ver)
  have h4 : 1 ≤ (encN (RS.pin s).1.ver).length := by
    unfold encN
    cases hq : encU (clampN (RS.pin s).1.ver) with
    | nil => exact absurd hq h3
    | cons _ _ => simp
  unfold encPin at h2
  simp only [List.length_append] at h2
  omega
theorem ok_text {s : RS} (h : s.ok) : s.text.2.ok := ok_raw (ok_num h) _
theorem ok_pin {s : RS} (h : s.ok) : s.pin.2.ok := ok_num (ok_text h)
/-! ### In memory -/
def RPin (_ : World) (p : PinP) (cs : List Value) : Prop := cs = [.string p.name, .int .i64 p.ver]
theorem flat_pin : Flat RPin := fun _ _ _ _ h => h
theorem RPin.stable : Stable RPin := flat_pin.stable
theorem rpin_len (w : World) (x : PinP) (cs : List Value) (h : RPin w x cs) : cs.length = 2 := by obtain rfl := h; rfl
theorem rpin_one {w : World} (x : PinP) (cs : List Value) (h : RPin w x cs) : ∀ v ∈ cs, v.oneCell' = true := by obtain rfl := h; simp
def RSnap (w : World) (s : SnapP) (cs : List Value) : Prop := ∃ a c, cs = [.int .i64 s.ver, .int .i64 s.exp, .slice a s.pins.length c] ∧ SlAt 2 RPin w (.slice a s.pins.length c) s.pins
theorem RSnap.stable : Stable RSnap := fun _ _ _ _ he ⟨a, c, h1, h2⟩ => ⟨a, c, h1, h2.ext RPin.stable he⟩
theorem rsnap_len {w : World} {x : SnapP} {cs : List Value} (h : RSnap w x cs) : cs.length = 3 := by obtain ⟨_, _, rfl, _⟩ := h; rfl
theorem rsnap_one {w : World} {x : SnapP} {cs : List Value} (h : RSnap w x cs) : ∀ v ∈ cs, v.oneCell' = true := by obtain ⟨_, _, rfl, _⟩ := h; simp
def RSnapF (lo : Nat) (w : World) (s : SnapP) (cs : List Value) : Prop := ∃ a c, cs = [.int .i64 s.ver, .int .i64 s.exp, .slice a s.pins.length c] ∧ SlAt 2 RPin w (.slice a s.pins.length c) s.pins ∧ ∀ b o, a = some ⟨b, o, none⟩ → lo ≤ b
theorem RSnapF.keep {lo : Nat} {w w' : World} {x : SnapP} {cs : List Value} (h : RSnapF lo w x cs) {M : Nat → Prop} (e : ExtB M w w') (hM : ∀ k, M k → k < lo) : RSnapF lo w' x cs := by
  obtain ⟨a, c, h1, h2, h3⟩ := h
  exact ⟨a, c, h1, h2.keep flat_pin e fun b o ha hm => by have := hM b hm; have := h3 b o ha; omega, h3⟩
theorem RSnapF.up {lo lo' : Nat} {w : World} {x : SnapP} {cs : List Value} (h : RSnapF lo w x cs) (hl : lo' ≤ lo) : RSnapF lo' w x cs := by
  obtain ⟨a, c, h1, h2, h3⟩ := h
  exact ⟨a, c, h1, h2, fun b o ha => by have := h3 b o ha; omega⟩
theorem RSnapF.r {lo : Nat} {w : World} {x : SnapP} {cs : List Value} (h : RSnapF lo w x cs) : RSnap w x cs := by
  obtain ⟨a, c, h1, h2, h3⟩ := h
  exact ⟨a, c, h1, h2⟩
def snapZ : List Value := [.int .i64 0, .int .i64 0, .slice none 0 0]
theorem snapZ_any (lo : Nat) (w : World) : RSnapF lo w .zero snapZ := ⟨none, 0, rfl, sl_nil, fun _ _ h => by cases h⟩
theorem rsnapF_of {T : TypeId} {w0 w : World} {l : List PinP} {v : Value} (ve ex : Int) (h : OwnG T 2 RPin w0 l v w) : RSnapF w0.heap.size w ⟨ve, ex, l⟩ [.int .i64 ve, .int .i64 ex, v] := by
  obtain ⟨a, c, rfl, h1, h2, h3⟩ := h.sl
  exact ⟨a, c, rfl, h2, h3⟩
theorem encText_len (s : ByteArray) : (encText s).length ≤ 9 + s.size := by
  have := encN_len (tb s).length
  have hl : (tb s).length = s.size := rfl
  unfold encText encBs
  rw [List.length_append]
  omega
theorem encPins_len {m : Nat} : ∀ {l : List PinP}, (∀ p ∈ l, p.name.size ≤ m) → (l.flatMap encPin).length ≤ l.length * (18 + m)
  | [], _ => by simp
  | p :: l, h => by
    have h1 := encPins_len (l := l) fun q hq => h q (by simp [hq])
    have h2 := encText_len p.name
    have h3 := encN_len p.ver
    have h4 := h p (by simp)
    have h5 : (encPin p).length = (encText p.name).length + (encN p.ver).length := by unfold encPin; rw [List.length_append]
    rw [List.flatMap_cons, List.length_append, List.length_cons, Nat.add_mul]
    omega
theorem snap_names {s : SnapP} (h : isSnapP s = true) : ∀ p ∈ s.pins, p.name.size ≤ 12 := by
  unfold isSnapP at h
  simp only [Bool.and_eq_true, List.all_eq_true] at h
  intro p hp
  obtain ⟨i, hi, rfl⟩ := List.mem_iff_getElem.1 hp
  have := h.1 i (by simpa using hi)
  rw [pinAt_eq hi] at this
  simp only [Bool.and_eq_true] at this
  have h1 := this.1
  unfold nameB at h1
  simp only [Bool.and_eq_true, decide_eq_true_eq] at h1
  exact h1.2.1
theorem encSnap_len {s : SnapP} (h : isSnapP s = true) : (encSnap s).length ≤ 1000 := by
  have h1 := encPins_len (snap_names h)
  have h2 := encN_len s.ver
  have h3 := encN_len s.exp
  have h4 := encN_len s.pins.length
  unfold isSnapP at h
  simp only [Bool.and_eq_true, decide_eq_true_eq] at h
  have : s.pins.length * 30 ≤ 16 * 30 := Nat.mul_le_mul_right _ h.2.2.2
  unfold encSnap
  simp only [List.length_append]
  omega
section
variable {P : Program} {env : Env} {dst : Option Tmp} {ty : TypeId} {pos : String} {af : Array Edge} {gd : Option (Nat × Bool)} {w : World}
/-- A text's bytes, in a row of their own. -/
theorem t_convSB {x : Operand} {S D e : TypeId} {s : ByteArray} (hs : P.underlying S = some .string) (hd : P.underlying D = some (.slice e)) (he : P.underlying e = some (.int .u8)) (hx : env.ev x = some (.string s)) :
    OpT P env ⟨dst, .convert S D x, ty, pos, af, gd⟩ w fun v w' => ∃ b c, v = .slice (some ⟨b, 0, none⟩) (tb s).length c ∧ (tb s).length ≤ c ∧ SlAt 1 RByte w' (.slice (some ⟨b, 0, none⟩) (tb s).length c) (tb s) ∧ Ext w w' ∧ w.heap.size ≤ b ∧ b < w'.heap.size := by
  intro a ha next Q hnx
  have hr := run_bytes_of_string (P := P) w S D e s hs hd he
  unfold Oper.wp
  have : (execOp a.eval ⟨dst, .convert S D x, ty, pos, af, gd⟩).run P w = .ok (.value (.slice (some ⟨w.heap.size, 0, none⟩) s.size (grownCap w s.size 0 e))) (w.drew.alloc (.cells (bytesRow s (grownCap w s.size 0 e)) e ((bytesRow s (grownCap w s.size 0 e)).size, (bytesRow s (grownCap w s.size 0 e)).size + 1))) := by
    simp [execOp, ha x _ hx, hr]
  rw [this]
  have hge := grownCap_ge w s.size 0 e
  refine hnx _ _ ⟨w.heap.size, _, rfl, hge, ?_, ext_drew_alloc w _, Nat.le_refl _, by simp⟩
  refine sl_cells (cells_blk (heap_alloc_new w.drew _) fun i v hv => ?_) (parts_bytes (tb s))
  have hi : i < (tb s).length := by
    have := (List.getElem?_eq_some_iff.1 hv).1
    rwa [hcells_length] at this
  rw [Nat.zero_add]
  unfold bytesRow
  rw [Array.getElem?_append_left (by simpa using hi)]
  unfold hcells at hv
  simpa using hv
end
end Go.Fw

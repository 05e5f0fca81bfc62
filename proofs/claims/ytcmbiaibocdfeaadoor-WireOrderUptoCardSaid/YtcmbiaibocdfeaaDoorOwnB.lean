/- Rows of the call's own that a function hands back. -/
import Derived.Test.YtcmbiaibocdfeaaDoorWireP
namespace Go.Fw
/-- v is a row of the call's own (made since w) that reads as l. -/
def OwnL {α : Type} (T : TypeId) (sz : Nat) (R : World → α → List Value → Prop) (w : World) (l : List α) (v : Value) (w' : World) : Prop :=
  ∃ xs g, Own w' T sz v l.length xs g ∧ Parts sz R w' l xs ∧ Ext w w' ∧ (g = -1 ∨ (w.heap.size : Int) ≤ g) ∧ g < w'.heap.size
abbrev OwnB (T : TypeId) (w : World) (bs : List UInt8) (v : Value) (w' : World) : Prop := OwnL T 1 RByte w bs v w'
def Flat {α : Type} (R : World → α → List Value → Prop) : Prop := ∀ w w' x cs, R w x cs → R w' x cs
theorem Flat.stable {α : Type} {R : World → α → List Value → Prop} (h : Flat R) : Stable R := fun _ _ _ _ _ hr => h _ _ _ _ hr
variable {α : Type} {T : TypeId} {sz : Nat} {R : World → α → List Value → Prop}
theorem OwnL.nil (w w' : World) (e : Ext w w') : OwnL T sz R w [] (.slice none 0 0) w' := ⟨[], -1, own_nil _ _ _ _, trivial, e, .inl rfl, by omega⟩
theorem OwnL.size {w w' : World} {l : List α} {v : Value} (h : OwnL T sz R w l v w') : w.heap.size ≤ w'.heap.size := by obtain ⟨_, _, _, _, e, _⟩ := h; exact e.size
theorem OwnL.ext {w w' : World} {l : List α} {v : Value} (h : OwnL T sz R w l v w') : Ext w w' := by obtain ⟨_, _, _, _, e, _⟩ := h; exact e
theorem OwnL.up (hR : Stable R) {w w' w'' : World} {l : List α} {v : Value} (h : OwnL T sz R w l v w') (e : Ext w' w'') : OwnL T sz R w l v w'' := by
  obtain ⟨xs, g, h1, h2, h3, h4, h5⟩ := h
  exact ⟨xs, g, h1.ext e, h2.mono fun _ _ _ hr => hR _ _ _ _ e hr, h3.trans e, h4, by have := e.size; omega⟩
theorem OwnL.from {w0 w w' : World} {l : List α} {v : Value} (e : Ext w0 w) (h : OwnL T sz R w l v w') : OwnL T sz R w0 l v w' := by
  obtain ⟨xs, g, h1, h2, h3, h4, h5⟩ := h
  exact ⟨xs, g, h1, h2, e.trans h3, by have := e.size; omega, h5⟩
theorem OwnL.sl {w w' : World} {l : List α} {v : Value} (h : OwnL T sz R w l v w') : ∃ a c, v = .slice a l.length c ∧ l.length ≤ c ∧ SlAt sz R w' (.slice a l.length c) l := by
  obtain ⟨xs, g, h1, h2, h3, h4, h5⟩ := h
  have hs := own_slat h1 h2 rfl
  rcases h1.cells with ⟨rfl, hn, _⟩ | ⟨cap, b, _, rfl, _, hc, _⟩
  · exact ⟨none, 0, by rw [hn], by omega, by rw [hn]; exact hs⟩
  · exact ⟨_, _, rfl, hc, hs⟩
theorem OwnL.keepG (hR : Flat R) {w w' w'' : World} {l : List α} {v : Value} (h : OwnL T sz R w l v w') {M : Nat → Prop} (he : ExtB M w' w'') (hM : ∀ k : Nat, w.heap.size ≤ k → k < w'.heap.size → ¬ M k) (hM0 : ∀ k : Nat, k < w.heap.size → ¬ M k) : OwnL T sz R w l v w'' := by
  obtain ⟨xs, g, h1, h2, h3, h4, h5⟩ := h
  refine ⟨xs, g, h1.keep he fun k hk => ?_, h2.mono fun _ _ _ hr => hR _ _ _ _ hr, ?_, h4, by have := he.size; omega⟩
  · by_cases hk2 : k < w.heap.size
    · exact hM0 k hk2
    · exact hM k (by omega) (by omega)
  · have : Ext w w' := h3
    exact ⟨he.os.trans this.os, he.tape.trans this.tape, he.output.trans this.output, Nat.le_trans this.size he.size, fun k o hk ho => he.blk k o (hM0 k (lt_of_at ho)) (this.blk k o hk ho)⟩
/-- A row of the call's own behind an append. -/
theorem OwnL.app (hR : Flat R) {w w1 w2 : World} {l l' : List α} {n m : Nat} {xs news : List Value} {v' : Value} {g g' : Int} (e : Ext w w1) (hg : g = -1 ∨ (w.heap.size : Int) ≤ g) (hgl : g < w1.heap.size) (hp : Parts sz R w1 l xs) (hl : xs.length = l.length * sz)
    (hp' : Parts sz R w1 l' news) (ap : Appended w1 T sz g (n + m) (xs ++ news) v' w2 g') (hn : l.length = n) (hm : l'.length = m) : OwnL T sz R w (l ++ l') v' w2 := by
  have h1 := ap.own
  rw [← hn, ← hm, ← List.length_append] at h1
  refine ⟨_, g', h1, Parts.mono (fun _ _ _ hr => hR _ _ _ _ hr) (Parts.app hp hl hp'), e.newG ap.ext (by omega), ?_, ?_⟩
  · rcases ap.new with h | ⟨h, _⟩
    · omega
    · have := e.size; omega
  · have := ap.size
    rcases ap.new with h | ⟨_, h⟩ <;> omega
theorem OwnL.open {w w' : World} {l : List α} {v : Value} (h : OwnL T sz R w l v w') : ∃ xs g, Own w' T sz v l.length xs g ∧ Parts sz R w' l xs ∧ xs.length = l.length * sz ∧ Ext w w' ∧ (g = -1 ∨ (w.heap.size : Int) ≤ g) ∧ g < w'.heap.size := by
  obtain ⟨xs, g, h1, h2, h3, h4, h5⟩ := h
  exact ⟨xs, g, h1, h2, h1.len, h3, h4, h5⟩
theorem ownB_of {T : TypeId} {w w' : World} {bs : List UInt8} {v : Value} {g : Int} (h : Own w' T 1 v bs.length (hcells bs) g) (e : Ext w w') (hg : g = -1 ∨ (w.heap.size : Int) ≤ g) (hgl : g < w'.heap.size) : OwnB T w bs v w' :=
  ⟨_, g, h, parts_bytes bs, e, hg, hgl⟩
theorem flat_byte : Flat RByte := rbyte_any
theorem flat_hash : Flat RHash := rhash_any
theorem flat_take {β : Type} {f : α → List β} {l : List α} {k : Nat} (hk : k < l.length) : (l.take (k + 1)).flatMap f = (l.take k).flatMap f ++ f l[k] := by
  rw [List.take_add_one, List.getElem?_eq_getElem hk, List.flatMap_append]
  simp
theorem flat_take_le {β : Type} {f : α → List β} {l : List α} (k : Nat) : ((l.take k).flatMap f).length ≤ (l.flatMap f).length := by
  have h1 := congrArg (fun l => (l.flatMap f).length) (List.take_append_drop k l)
  simp only [List.flatMap_append, List.length_append] at h1
  omega
theorem and127u (u : Nat) (h : u < 18446744073709551616) : IntKind.u64.wrap (BitVec.ofInt IntKind.u64.bits (u : Int) &&& BitVec.ofInt IntKind.u64.bits 127).toNat = ((u % 128 : Nat) : Int) := by
  have e : (2 : Nat) ^ IntKind.u64.bits = 18446744073709551616 := by decide
  have h3 : (BitVec.ofInt IntKind.u64.bits (u : Int) &&& BitVec.ofInt IntKind.u64.bits 127).toNat = u % 128 := by
    rw [BitVec.toNat_and]
    have h1 : (BitVec.ofInt IntKind.u64.bits (u : Int)).toNat = u := by rw [BitVec.ofInt_natCast, BitVec.toNat_ofNat, e, Nat.mod_eq_of_lt h]
    have h2 : (BitVec.ofInt IntKind.u64.bits 127).toNat = 127 := by decide
    rw [h1, h2]
    exact Nat.and_two_pow_sub_one_eq_mod u 7
  rw [h3, wrap_u64 (by omega)]
theorem or128b (u : Nat) : IntKind.u8.wrap (BitVec.ofInt IntKind.u8.bits ((u % 128 : Nat) : Int) ||| BitVec.ofInt IntKind.u8.bits 128).toNat = ((UInt8.ofNat (u % 128 + 128)).toNat : Int) := by
  have := or128 (u % 128)
  rwa [Nat.mod_eq_of_lt (by omega : u % 128 < 256), Nat.mod_mod] at this
theorem encNs_two (a b : Int) : encNs [a, b] = encN a ++ encN b := by simp [encNs]
theorem encN_small {n : Nat} (h : n < 128) : encN (n : Int) = [UInt8.ofNat n] := by
  unfold encN
  rw [clampN_nat (by omega), encU_small h]
end Go.Fw

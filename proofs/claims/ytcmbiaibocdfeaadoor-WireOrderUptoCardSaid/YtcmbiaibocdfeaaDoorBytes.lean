/- Rows of bytes, and a writer and a reader of them in memory. -/
import Derived.Test.YtcmbiaibocdfeaaDoorRows2
import Derived.Test.YtcmbiaibocdfeaaDoorFwH
import Derived.Test.YtcmbiaibocdfeaaDoorWireM
namespace Go.Fw
def RByte (_ : World) (b : UInt8) (cs : List Value) : Prop := cs = [.int .u8 b.toNat]
theorem RByte.stable : Stable RByte := fun _ _ _ _ _ h => h
theorem rbyte_len (w : World) (x : UInt8) (cs : List Value) (h : RByte w x cs) : cs.length = 1 := by obtain rfl := h; rfl
theorem rbyte_one {w : World} (x : UInt8) (cs : List Value) (h : RByte w x cs) : ∀ v ∈ cs, v.oneCell' = true := by obtain rfl := h; simp
theorem parts_bytes {w : World} : ∀ (l : List UInt8), Parts 1 RByte w l (hcells l)
  | [] => trivial
  | b :: l => ⟨rfl, parts_bytes l⟩
theorem bytes_parts {w : World} : ∀ {l : List UInt8} {cs : List Value}, Parts 1 RByte w l cs → cs.length = l.length * 1 → cs = hcells l
  | [], cs, _, hl => List.eq_nil_of_length_eq_zero (by simpa using hl)
  | b :: l, cs, h, hl => by
    obtain ⟨h1, h2⟩ := h
    cases cs with
    | nil => simp at hl
    | cons c cs =>
      have h1' : [c] = [.int .u8 b.toNat] := h1
      cases h1'
      have := bytes_parts (l := l) (cs := cs) h2 (by simp at hl ⊢; omega)
      rw [this]
      rfl
theorem SlAt.get {α : Type} {sz : Nat} {R : World → α → List Value → Prop} {w : World} {a : Option Addr} {len cap : Nat} {l : List α} (h : SlAt sz R w (.slice a len cap) l) {i : Nat} {x : α} (hx : l[i]? = some x) : ∃ b o cs, a = some ⟨b, o, none⟩ ∧ R w x cs ∧ Cells w b (o + i * sz) cs := by
  obtain ⟨a', cap', hv, h⟩ := h
  cases hv
  exact h i x hx
theorem Own.shape {w : World} {e sz : Nat} {v : Value} {n : Nat} {xs : List Value} {g : Int} (h : Own w e sz v n xs g) : ∃ a c, v = .slice a n c := by
  rcases h.cells with ⟨hv, hn, _⟩ | ⟨cap, b, _, hv, _⟩
  · exact ⟨none, 0, by rw [hv, hn]⟩
  · exact ⟨_, _, hv⟩
theorem hcells_app (a b : List UInt8) : hcells (a ++ b) = hcells a ++ hcells b := by simp [hcells]
theorem own_bytes {w : World} {e n : Nat} {v : Value} {l : List UInt8} {g : Int} (h : Own w e 1 v n (hcells l) g) : SlAt 1 RByte w v l := by
  have := h.len
  rw [hcells_length] at this
  exact own_slat h (parts_bytes l) (by omega)
theorem bytes_cells {w : World} {a : Option Addr} {n c : Nat} {l : List UInt8} (h : SlAt 1 RByte w (.slice a n c) l) (hne : l ≠ []) : ∃ b o, a = some ⟨b, o, none⟩ ∧ Cells w b o (hcells l) := by
  obtain ⟨b, o, cs, ha, hl, hc, hp⟩ := h.cells rbyte_len hne
  rw [bytes_parts hp hl] at hc
  exact ⟨b, o, ha, hc⟩
/-- A slice of a part of a row of bytes. -/
theorem bytes_drop {w : World} {a : Option Addr} {len cap k : Nat} {l : List UInt8} (h : SlAt 1 RByte w (.slice a len cap) l) (hk : k ≤ l.length) (hcap : l.length ≤ cap) :
    SlAt 1 RByte w (.slice (if cap = k then a else a.map (·.add (k * 1))) (len - k) (cap - k)) (l.drop k) := by
  obtain ⟨rfl, -⟩ := h.at
  obtain ⟨a', cap', hv, h⟩ := h
  cases hv
  refine ⟨_, _, by rw [List.length_drop], fun i x hi => ?_⟩
  have hlt : k + i < l.length := by
    rw [List.getElem?_drop] at hi
    exact (List.getElem?_eq_some_iff.1 hi).1
  rw [List.getElem?_drop] at hi
  obtain ⟨b, o, cs, ha, hr, hc⟩ := h _ _ hi
  subst ha
  rw [if_neg (by omega)]
  refine ⟨b, o + k * 1, cs, by simp [Addr.add_mid], hr, ?_⟩
  rwa [show o + k * 1 + i * 1 = o + (k + i) * 1 by omega]
theorem bytes_take {w : World} {a : Option Addr} {len cap k : Nat} {l : List UInt8} (h : SlAt 1 RByte w (.slice a len cap) l) (hk : k ≤ l.length) (c : Nat) :
    SlAt 1 RByte w (.slice (if c = 0 then a else a.map (·.add (0 * 1))) k cap) (l.take k) := by
  obtain ⟨rfl, -⟩ := h.at
  obtain ⟨a', cap', hv, h⟩ := h
  cases hv
  refine ⟨_, _, by rw [List.length_take, Nat.min_eq_left hk], fun i x hi => ?_⟩
  rw [List.getElem?_take] at hi
  split at hi
  · obtain ⟨b, o, cs, ha, hr, hc⟩ := h _ _ hi
    subst ha
    refine ⟨b, o, cs, ?_, hr, hc⟩
    split
    · rfl
    · simp [Addr.add_mid]
  · cases hi

theorem SlAt.keep {α : Type} {sz : Nat} {R : World → α → List Value → Prop} (hR : ∀ w w' x cs, R w x cs → R w' x cs) {M : Nat → Prop} {w w' : World} {a : Option Addr} {n c : Nat} {l : List α} (h : SlAt sz R w (.slice a n c) l) (he : ExtB M w w') (hm : ∀ b o, a = some ⟨b, o, none⟩ → ¬ M b) : SlAt sz R w' (.slice a n c) l := by
  obtain ⟨a', cap', hv, h⟩ := h
  cases hv
  refine ⟨_, _, rfl, fun i x hi => ?_⟩
  obtain ⟨b, o, cs, ha, hr, hc⟩ := h i x hi
  exact ⟨b, o, cs, ha, hR _ _ _ _ hr, hc.extB he (hm b o ha)⟩
theorem rbyte_any (w w' : World) (x : UInt8) (cs : List Value) (h : RByte w x cs) : RByte w' x cs := h

/-! ### Bits of numbers -/
theorem wrap_u64 {n : Nat} (h : n < 18446744073709551616) : IntKind.u64.wrap (n : Int) = n := by
  simp [IntKind.wrap, IntKind.bits, IntKind.signed]
  omega
theorem clamp_wrap (n : Int) : IntKind.u64.wrap (if (if (4611686018427387904 : Int) < n then 4611686018427387904 else n) > 0 then (if (4611686018427387904 : Int) < n then 4611686018427387904 else n) else 0) = (clampN n : Int) := by
  have h : (if (if (4611686018427387904 : Int) < n then 4611686018427387904 else n) > 0 then (if (4611686018427387904 : Int) < n then 4611686018427387904 else n) else 0) = (clampN n : Int) := by
    unfold clampN
    split <;> split <;> omega
  rw [h, wrap_u64]
  unfold clampN
  omega
theorem clampN_lt (n : Int) : clampN n ≤ 4611686018427387904 := by unfold clampN; omega
theorem u8_mod (u : Nat) : IntKind.u8.wrap (u : Int) = ((u % 256 : Nat) : Int) := by
  simp [IntKind.wrap, IntKind.bits, IntKind.signed]
theorem u8_ofNat {k : Nat} (h : k < 256) : ((UInt8.ofNat k).toNat : Int) = (k : Int) := by
  have h1 : (UInt8.ofNat k).toNat = k := by simp; omega
  rw [h1]
theorem or128 (u : Nat) : IntKind.u8.wrap (BitVec.ofInt IntKind.u8.bits ((u % 256 : Nat) : Int) ||| BitVec.ofInt IntKind.u8.bits 128).toNat = ((UInt8.ofNat (u % 128 + 128)).toNat : Int) := by
  have key : ∀ k, k < 256 → IntKind.u8.wrap (BitVec.ofInt IntKind.u8.bits ((k : Nat) : Int) ||| BitVec.ofInt IntKind.u8.bits 128).toNat = ((k % 128 + 128 : Nat) : Int) := by decide +kernel
  rw [key (u % 256) (by omega), u8_ofNat (by omega)]
  congr 1
  omega
theorem shr7 (u : Nat) : ((u : Int)).fdiv (2 ^ (min (7 : Int).toNat IntKind.u64.bits)) = ((u / 128 : Nat) : Int) := by
  have : (2 : Int) ^ (min (7 : Int).toNat IntKind.u64.bits) = 128 := by decide
  rw [this]
  show Int.fdiv (u : Int) 128 = _
  rw [Int.fdiv_eq_ediv_of_nonneg _ (by omega)]
  omega

theorem encNs_take {ns : List Int} {k : Nat} {n : Int} (h : ns[k]? = some n) : encNs (ns.take (k + 1)) = encNs (ns.take k) ++ encN n := by
  simp [encNs, List.take_add_one, h]
theorem encNs_take_le (ns : List Int) (k : Nat) : (encNs (ns.take k)).length ≤ (encNs ns).length := by
  have : encNs ns = encNs (ns.take k) ++ encNs (ns.drop k) := by
    unfold encNs
    rw [← List.flatMap_append, List.take_append_drop]
  rw [this, List.length_append]
  omega

/-! ### A writer: one cell that holds a row of the call's own -/
structure WSt (T e : TypeId) (w0 w : World) (wb : Nat) (g : Int) (v : Value) (l : List UInt8) : Prop where
  hw : w.heap[wb]? = some (.cells ⟨[v]⟩ T (0, 0))
  own : Own w e 1 v l.length (hcells l) g
  ext : Ext w0 w
  hwb : w0.heap.size ≤ wb
  hg : g = -1 ∨ (w0.heap.size : Int) ≤ g
  hgl : g < w.heap.size
  ne : g ≠ wb
/-- Behind a call that lays news. -/
structure WPost (T e : TypeId) (w0 w : World) (wb : Nat) (g : Int) (l news : List UInt8) (v' : Value) (g' : Int) (w' : World) : Prop where
  st : WSt T e w0 w' wb g' v' (l ++ news)
  extB : ExtB (fun k => k = wb ∨ (k : Int) = g) w w'
  new : g' = g ∨ (w.heap.size : Int) ≤ g'
def WP (T e : TypeId) (w0 w : World) (wb : Nat) (g : Int) (l news : List UInt8) (r : Value) (w' : World) : Prop := r = .tuple #[] ∧ ∃ v' g', WPost T e w0 w wb g l news v' g' w'
theorem WSt.up {T e : TypeId} {w0 w w' : World} {wb : Nat} {g : Int} {v : Value} {l : List UInt8} (st : WSt T e w0 w wb g v l) (he : Ext w w') : WSt T e w0 w' wb g v l :=
  ⟨he.at st.hw, st.own.ext he, st.ext.trans he, st.hwb, st.hg, by have := he.size; have := st.hgl; omega, st.ne⟩
theorem WPost.from {T e : TypeId} {w0 w w1 w' : World} {wb : Nat} {g g' : Int} {l a : List UInt8} {v' : Value} (he : Ext w w1) (h : WPost T e w0 w1 wb g l a v' g' w') : WPost T e w0 w wb g l a v' g' w' :=
  ⟨h.st, he.toB.trans h.extB, by have := he.size; rcases h.new with h | h <;> omega⟩
theorem encNs_one (n : Int) : encNs [n] = encN n := by simp [encNs]
theorem WPost.trans {T e : TypeId} {w0 w w' w'' : World} {wb : Nat} {g g' g'' : Int} {l a b : List UInt8} {v' v'' : Value} (h : WPost T e w0 w wb g l a v' g' w') (hg : g < w.heap.size) (h' : WPost T e w0 w' wb g' (l ++ a) b v'' g'' w'') : WPost T e w0 w wb g l (a ++ b) v'' g'' w'' :=
  ⟨by rw [← List.append_assoc]; exact h'.st, h.extB.newB h'.extB fun k hk => by
    rcases hk with rfl | hk
    · exact .inr (.inl rfl)
    · rcases h.new with hn | hn
      · exact .inr (.inr (by omega))
      · exact .inl (by omega), by
    have := h.extB.size
    rcases h.new with hn | hn <;> rcases h'.new with hn' | hn' <;> omega⟩
end Go.Fw

/- A row of delegations, each to the next. -/
import Derived.Test.YtpomcdmlmaimeaaRows2
import Derived.Test.YtpomcdmlmaimeaaFind6M
namespace Go.Fw
def nmD (k : Nat) : ByteArray := ⟨#[UInt8.ofNat (97 + k)]⟩
theorem u8_wrap (k : Nat) (h : k < 256) : IntKind.u8.wrap (k : Int) = ((UInt8.ofNat k).toNat : Int) := by
  have h1 : (UInt8.ofNat k).toNat = k := by simp; omega
  rw [h1]
  simp [IntKind.wrap, IntKind.bits, IntKind.signed]
  omega
def deepT (m j : Nat) : Tgs := if j + 1 < m then ⟨nmD j, 0, 0, [], [⟨nmD (j + 1), ⟨#[]⟩, false⟩]⟩ else ⟨nmD j, 0, 0, [knT], []⟩
def deepL (m : Nat) : List Tgs := (List.range m).map (deepT m)
def DRow (g : Int) (m : Nat) (w : World) (j : Nat) (cs : List Value) : Prop :=
  (j + 1 < m ∧ ∃ (b : Nat) (T : TypeId), (b : Int) ≠ g ∧ w.heap[b]? = some (.cells ⟨[.string (nmD (j + 1)), .slice none 0 0, .int .i64 0, .string ⟨#[]⟩, .bool false]⟩ T (0, 0)) ∧ cs = [.string (nmD j), .int .i64 0, .int .i64 0, .slice none 0 0, .slice (some ⟨b, 0, none⟩) 1 1]) ∨
  (¬ j + 1 < m ∧ ∃ (b : Nat) (T : TypeId), (b : Int) ≠ g ∧ w.heap[b]? = some (.cells ⟨knT.cells⟩ T (0, 0)) ∧ cs = [.string (nmD j), .int .i64 0, .int .i64 0, .slice (some ⟨b, 0, none⟩) 1 1, .slice none 0 0])
theorem DRow.step {g g' : Int} {m : Nat} {w w' : World} {j : Nat} {cs : List Value} (h : DRow g m w j cs) (e : ExtB (fun k => (k : Int) = g) w w') (hg : g' = g ∨ (w.heap.size : Int) ≤ g') : DRow g' m w' j cs := by
  rcases h with ⟨h1, b, T, hb, hh, hc⟩ | ⟨h1, b, T, hb, hh, hc⟩
  · have := lt_of_at hh
    exact .inl ⟨h1, b, T, by omega, e.blk b _ hb hh, hc⟩
  · have := lt_of_at hh
    exact .inr ⟨h1, b, T, by omega, e.blk b _ hb hh, hc⟩
theorem DRow.ext {g : Int} {m : Nat} {w w' : World} {j : Nat} {cs : List Value} (h : DRow g m w j cs) (e : Ext w w') : DRow g m w' j cs := by
  rcases h with ⟨h1, b, T, hb, hh, hc⟩ | ⟨h1, b, T, hb, hh, hc⟩
  · exact .inl ⟨h1, b, T, hb, e.at hh, hc⟩
  · exact .inr ⟨h1, b, T, hb, e.at hh, hc⟩
theorem DRow.tgs {g : Int} {m : Nat} {w : World} {j : Nat} {cs : List Value} (h : DRow g m w j cs) : RTgs w (deepT m j) cs := by
  rcases h with ⟨h1, b, T, hb, hh, rfl⟩ | ⟨h1, b, T, hb, hh, rfl⟩
  · rw [deepT, if_pos h1]
    exact rtgs sl_nil (sl_lit (α := Del) (l := [⟨nmD (j + 1), ⟨#[]⟩, false⟩]) hh (pc rdel pn))
  · rw [deepT, if_neg h1]
    exact rtgs (sl_lit (l := [knT]) hh (pc (rtgt knT_wf) pn)) sl_nil
theorem deep_parts {g : Int} {m : Nat} {w : World} {cs : List Value} (h : Parts 5 (DRow g m) w (List.range m) cs) : Parts 5 RTgs w (deepL m) cs :=
  Parts.of fun i x hi => by
    simp only [deepL, List.getElem?_map] at hi
    cases hr : (List.range m)[i]? with
    | none => simp [hr] at hi
    | some j =>
      simp [hr] at hi
      subst hi
      exact (h.get hr).tgs
theorem deepL_len (m : Nat) : (deepL m).length = m := by simp [deepL]
theorem deep_bnd (m : Nat) (h : m ≤ 9) : Bnd (deepL m) := by
  have h0 : (⟨#[]⟩ : ByteArray).size ≤ 1099511627776 := Nat.zero_le _
  refine fst_bnd_of (by rw [deepL_len]; omega) fun t ht => ?_
  obtain ⟨j, _, rfl⟩ := List.mem_map.1 ht
  unfold deepT
  split <;> simp [h0]
theorem deep_find (m : Nat) (h1 : 1 ≤ m) (h9 : m ≤ 9) : (findF (deepL m) ⟨#[120]⟩).isSome = decide (m ≤ 4) := by
  have : m = 1 ∨ m = 2 ∨ m = 3 ∨ m = 4 ∨ m = 5 ∨ m = 6 ∨ m = 7 ∨ m = 8 ∨ m = 9 := by omega
  rcases this with rfl | rfl | rfl | rfl | rfl | rfl | rfl | rfl | rfl <;> decide +kernel
end Go.Fw

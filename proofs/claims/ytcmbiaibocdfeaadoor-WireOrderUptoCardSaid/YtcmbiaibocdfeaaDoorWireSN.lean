/- Plain facts for snapshots read. -/
import Derived.Test.YtcmbiaibocdfeaaDoorWireS
namespace Go.Fw
theorem takenL_cnt' {α : Type} {take : RS → α × RS} (h : ∀ s, (take s).2.bad = false → (take s).2.rest.length < s.rest.length) : ∀ (n : Nat) (acc : List α) (s : RS), (takenL take n acc s).1.length ≤ acc.length + s.rest.length + 1
  | 0, acc, s => by unfold takenL; simp only; omega
  | n + 1, acc, s => by
    unfold takenL
    split
    · simp only; omega
    · cases hb : (take s).2.bad with
      | true =>
        have : takenL take n (acc ++ [(take s).1]) (take s).2 = (acc ++ [(take s).1], (take s).2) := by
          cases n with
          | zero => rfl
          | succ n => unfold takenL; rw [if_pos hb]
        rw [this]
        simp only [List.length_append, List.length_singleton]
        omega
      | false =>
        have h1 := takenL_cnt' h n (acc ++ [(take s).1]) (take s).2
        have h2 := h s hb
        simp only [List.length_append, List.length_singleton] at h1
        omega
theorem snap_cnt (s : RS) : (RS.snap id s).1.pins.length ≤ s.rest.length + 1 := by
  have h1 := takenL_cnt' (take := RS.pin) (fun _ => pin_used) s.num.2.num.2.num.1.toNat [] s.num.2.num.2.num.2
  have h2 := num_used s
  have h3 := num_used s.num.2
  have h4 := num_used s.num.2.num.2
  simp only [List.length_nil] at h1
  show (takenL RS.pin s.num.2.num.2.num.1.toNat [] s.num.2.num.2.num.2).1.length ≤ _
  omega
theorem dec_snap (l : List UInt8) : decP 3 (RS.snap id) isSnapP l = decR 3 (RS.snap (min 17)) isSnapP (fun x => encN 3 ++ encSnap x) l := dec_eq close_snap reads_snap (sticky_snap _) l
theorem OwnL.g {α : Type} {T : TypeId} {sz : Nat} {R : World → α → List Value → Prop} {w w' : World} {l : List α} {v : Value} (h : OwnL T sz R w l v w') : OwnG T sz R w l v w' := by
  obtain ⟨xs, g, h1, h2, _, h4, h5⟩ := h
  exact ⟨xs, g, h1, h2, h4, h5⟩
theorem OwnG.l {α : Type} {T : TypeId} {sz : Nat} {R : World → α → List Value → Prop} {w w' : World} {l : List α} {v : Value} (h : OwnG T sz R w l v w') (e : Ext w w') : OwnL T sz R w l v w' := by
  obtain ⟨xs, g, h1, h2, h4, h5⟩ := h
  exact ⟨xs, g, h1, h2, e, h4, h5⟩
theorem OwnG.slat {α : Type} {T : TypeId} {sz : Nat} {R : World → α → List Value → Prop} {w w' : World} {l : List α} {v : Value} (h : OwnG T sz R w l v w') : SlAt sz R w' v l := by
  obtain ⟨a, c, rfl, _, h, _⟩ := h.sl
  exact h
theorem ownG_of {T : TypeId} {w w' : World} {bs : List UInt8} {v : Value} {g : Int} (h : Own w' T 1 v bs.length (hcells bs) g) (hg : g = -1 ∨ (w.heap.size : Int) ≤ g) (hgl : g < w'.heap.size) : OwnG T 1 RByte w bs v w' := ⟨_, g, h, parts_bytes bs, hg, hgl⟩
theorem bytes_len (s : RS) : s.bytes.1.length ≤ s.rest.length := Nat.le_trans (raw_len_le _ _) (num_used s)
theorem bytes_bad {s : RS} (hok : s.ok) (h : s.num.2.bad = true) : s.bytes = ([], s.num.2) := by
  have hz : s.num.1 = 0 := by
    unfold RS.num at h ⊢
    cases hq : rdN 0 0 s.rest with
    | none => rfl
    | some p =>
      obtain ⟨n, r⟩ := p
      rw [hq] at h
      have := hok h
      rw [this] at hq
      simp [rdN] at hq
  show s.num.2.raw s.num.1 = _
  rw [hz]
  exact raw_bad h (ok_num hok) (by decide) (by omega)
theorem sign_false {c : UInt8} (h : ¬ ((97 ≤ c.toNat ∧ c.toNat ≤ 122) ∨ (48 ≤ c.toNat ∧ c.toNat ≤ 57) ∨ c.toNat = 45)) : isSign c = false := by
  cases hq : isSign c with
  | false => rfl
  | true => exact absurd ((isSign_iff c).1 hq) h
theorem name_no {s : ByteArray} {k : Nat} (hk : k < s.size) (h : isSign s[k] = false) : nameB s = false := by
  have hl : s.data.toList.length = s.size := rfl
  have ha : s.data.toList.all isSign = false := by
    rw [List.all_eq_false]
    have hm := List.getElem_mem (l := s.data.toList) (n := k) (by omega)
    exact ⟨s[k], hm, by rw [h]; simp⟩
  unfold nameB
  rw [ha]
  simp
theorem name_all {s : ByteArray} (h : s.data.toList.all isSign = true) : nameB s = (decide (1 ≤ s.size) && decide (s.size ≤ 12)) := by
  unfold nameB
  rw [h, Bool.and_true]
end Go.Fw

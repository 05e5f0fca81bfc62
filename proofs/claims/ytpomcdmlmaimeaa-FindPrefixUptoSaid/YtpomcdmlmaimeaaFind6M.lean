/- What find's search comes to on the rows that the laws First and Round lay out. -/
import Derived.Test.YtpomcdmlmaimeaaFindM
import Derived.Test.YtpomcdmlmaimeaaFwG
namespace Go.Fw
theorem fst_bnd_of {l : List Tgs} (h0 : l.length ≤ 1048576) (h1 : ∀ t ∈ l, t.l.length ≤ 1048576 ∧ t.d.length ≤ 1048576 ∧ ∀ d ∈ t.d, d.pfx.size ≤ 1099511627776) : Bnd l :=
  ⟨h0, fun t ht => ⟨(h1 t ht).1, (h1 t ht).2.1⟩, fun t ht d hd => (h1 t ht).2.2 d hd⟩
theorem hasPfx_nil (n : ByteArray) : hasPfx n ⟨#[]⟩ = true := by
  have h : n.extract 0 0 = ⟨#[]⟩ := by
    apply ByteArray.ext
    rw [ByteArray.data_extract]
    simp
  have h0 : (⟨#[]⟩ : ByteArray).size = 0 := rfl
  unfold hasPfx
  rw [h0, h]
  simp
theorem hasPfx_app (p q : ByteArray) : hasPfx (p ++ q) p = true := by
  have h : (p ++ q).extract 0 p.size = p := by
    apply ByteArray.ext
    rw [ByteArray.data_extract, ByteArray.data_append]
    show (p.data ++ q.data).extract 0 p.data.size = p.data
    simp
  simp [hasPfx, h]
theorem asks_mem (st : FSt) (can : Bool) (k : Int) : st.asks can k = (decide (0 ≤ k) && can && !decide (k ∈ st.asked)) := by
  unfold FSt.asks
  rw [idxOf_mem]
def rndT (n : ByteArray) : Tgt := ⟨n, 0, List.replicate 32 0, ⟨#[104]⟩, 0, ⟨#[]⟩⟩
def rndL (p n : ByteArray) (last : Bool) : List Tgs := [⟨⟨#[97]⟩, 0, 0, [], [⟨⟨#[98]⟩, p, last⟩, ⟨⟨#[99]⟩, ⟨#[]⟩, false⟩]⟩, ⟨⟨#[98]⟩, 0, 0, [], [⟨⟨#[97]⟩, ⟨#[]⟩, false⟩, ⟨⟨#[98]⟩, ⟨#[]⟩, false⟩]⟩, ⟨⟨#[99]⟩, 0, 0, [rndT n], []⟩]
theorem rnd_find (p n : ByteArray) (last : Bool) (h : hasPfx n p = true) : findF (rndL p n last) n = if last = true then none else some (rndT n, ⟨#[99]⟩) := by
  have h0 := hasPfx_nil n
  have p0 : placeOf (rndL p n last) ⟨#[97]⟩ = 0 := rfl
  have p1 : placeOf (rndL p n last) ⟨#[98]⟩ = 1 := rfl
  have p2 : placeOf (rndL p n last) ⟨#[99]⟩ = 2 := rfl
  have i0 : idxOf (fun x : Tgt => decide (x.name = n)) [rndT n] = 0 := by simp [idxOf, rndT]
  have i1 : idxOf (fun x : Tgt => decide (x.name = n)) [] = -1 := rfl
  have l0 : (rndL p n last)[0]? = some ⟨⟨#[97]⟩, 0, 0, [], [⟨⟨#[98]⟩, p, last⟩, ⟨⟨#[99]⟩, ⟨#[]⟩, false⟩]⟩ := rfl
  have l1 : (rndL p n last)[1]? = some ⟨⟨#[98]⟩, 0, 0, [], [⟨⟨#[97]⟩, ⟨#[]⟩, false⟩, ⟨⟨#[98]⟩, ⟨#[]⟩, false⟩]⟩ := rfl
  have l2 : (rndL p n last)[2]? = some ⟨⟨#[99]⟩, 0, 0, [rndT n], []⟩ := rfl
  have hf : findF (rndL p n last) n = (askF (rndL p n last) n 3 0 ⟨[], false⟩).1 := if_neg (by simp [rndL])
  rw [hf]
  clear hf
  generalize rndL p n last = l at *
  cases last <;> simp [askF, askB, l0, l1, l2, i0, i1, askL, h, h0, p0, p1, p2, asks_mem]
def fstT (n : ByteArray) (k : UInt8) : Tgt := ⟨n, 0, List.replicate 32 0, ⟨#[104, k]⟩, 0, ⟨#[]⟩⟩
def fstL (n : ByteArray) (d : List Del) : List Tgs := [⟨⟨#[116, 111, 112]⟩, 0, 0, [], d⟩, ⟨⟨#[97]⟩, 0, 0, [fstT n 48], []⟩, ⟨⟨#[98]⟩, 0, 0, [fstT n 49], []⟩]
theorem fst_find (n : ByteArray) (d : List Del) (m : ByteArray) (last : Bool) (k : UInt8) (h : (m = ⟨#[97]⟩ ∧ k = 48) ∨ (m = ⟨#[98]⟩ ∧ k = 49)) : findF (fstL n (⟨m, ⟨#[]⟩, last⟩ :: d)) n = some (fstT n k, m) := by
  have h0 := hasPfx_nil n
  rcases h with ⟨rfl, rfl⟩ | ⟨rfl, rfl⟩
  · have p0 : placeOf (fstL n (⟨⟨#[97]⟩, ⟨#[]⟩, last⟩ :: d)) ⟨#[97]⟩ = 1 := rfl
    have i0 : idxOf (fun x : Tgt => decide (x.name = n)) [fstT n 48] = 0 := by simp [idxOf, fstT]
    have i1 : idxOf (fun x : Tgt => decide (x.name = n)) [] = -1 := rfl
    have l0 : (fstL n (⟨⟨#[97]⟩, ⟨#[]⟩, last⟩ :: d))[0]? = some ⟨⟨#[116, 111, 112]⟩, 0, 0, [], (⟨⟨#[97]⟩, ⟨#[]⟩, last⟩ :: d)⟩ := rfl
    have l1 : (fstL n (⟨⟨#[97]⟩, ⟨#[]⟩, last⟩ :: d))[1]? = some ⟨⟨#[97]⟩, 0, 0, [fstT n 48], []⟩ := rfl
    have hf : findF (fstL n (⟨⟨#[97]⟩, ⟨#[]⟩, last⟩ :: d)) n = (askF (fstL n (⟨⟨#[97]⟩, ⟨#[]⟩, last⟩ :: d)) n 3 0 ⟨[], false⟩).1 := if_neg (by simp [fstL])
    rw [hf]
    clear hf
    generalize fstL n (⟨⟨#[97]⟩, ⟨#[]⟩, last⟩ :: d) = l at *
    simp [askF, askB, l0, l1, askL, h0, p0, asks_mem, i0, i1]
  · have p0 : placeOf (fstL n (⟨⟨#[98]⟩, ⟨#[]⟩, last⟩ :: d)) ⟨#[98]⟩ = 2 := rfl
    have i0 : idxOf (fun x : Tgt => decide (x.name = n)) [fstT n 49] = 0 := by simp [idxOf, fstT]
    have i1 : idxOf (fun x : Tgt => decide (x.name = n)) [] = -1 := rfl
    have l0 : (fstL n (⟨⟨#[98]⟩, ⟨#[]⟩, last⟩ :: d))[0]? = some ⟨⟨#[116, 111, 112]⟩, 0, 0, [], (⟨⟨#[98]⟩, ⟨#[]⟩, last⟩ :: d)⟩ := rfl
    have l1 : (fstL n (⟨⟨#[98]⟩, ⟨#[]⟩, last⟩ :: d))[2]? = some ⟨⟨#[98]⟩, 0, 0, [fstT n 49], []⟩ := rfl
    have hf : findF (fstL n (⟨⟨#[98]⟩, ⟨#[]⟩, last⟩ :: d)) n = (askF (fstL n (⟨⟨#[98]⟩, ⟨#[]⟩, last⟩ :: d)) n 3 0 ⟨[], false⟩).1 := if_neg (by simp [fstL])
    rw [hf]
    clear hf
    generalize fstL n (⟨⟨#[98]⟩, ⟨#[]⟩, last⟩ :: d) = l at *
    simp [askF, askB, l0, l1, askL, h0, p0, asks_mem, i0, i1]
theorem fst_bnd (n : ByteArray) (d e : Del) (hd : d.pfx = ⟨#[]⟩) (he : e.pfx = ⟨#[]⟩) : Bnd (fstL n [d, e]) := by
  have h0 : (⟨#[]⟩ : ByteArray).size ≤ 1099511627776 := Nat.zero_le _
  refine fst_bnd_of (by simp [fstL]) fun t ht => ?_
  simp only [fstL, List.mem_cons, List.not_mem_nil, or_false] at ht
  rcases ht with rfl | rfl | rfl <;> simp [hd, he, h0]
theorem rnd_bnd (p n : ByteArray) (last : Bool) (hp : p.size ≤ 1099511627776) : Bnd (rndL p n last) := by
  have h0 : (⟨#[]⟩ : ByteArray).size ≤ 1099511627776 := Nat.zero_le _
  refine fst_bnd_of (by simp [rndL]) fun t ht => ?_
  simp only [rndL, List.mem_cons, List.not_mem_nil, or_false] at ht
  rcases ht with rfl | rfl | rfl <;> simp [hp, h0]
end Go.Fw

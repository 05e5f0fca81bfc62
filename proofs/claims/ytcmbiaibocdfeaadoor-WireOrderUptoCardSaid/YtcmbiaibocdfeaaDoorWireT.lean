/- Targets: as bytes in plain lists, and which may be. -/
import Derived.Test.YtcmbiaibocdfeaaDoorWireSN
import Derived.Test.YtcmbiaibocdfeaaDoorDom
namespace Go.Fw
theorem Tgt.sumdrop' {t : Tgt} (h : t.wf) : hcells t.sum = (t.cells.drop 2).take (hcells t.sum).length := by
  have : (hcells t.sum).length = 32 := by rw [hcells_length]; exact h
  show _ = ((hcells t.sum ++ _).take _)
  exact List.take_left.symm
theorem rtgt_len (w : World) (x : Tgt) (cs : List Value) (h : RTgt w x cs) : cs.length = 37 := by obtain ⟨h1, rfl⟩ := h; exact Tgt.cells_length h1
theorem rtgt_one {w : World} (x : Tgt) (cs : List Value) (h : RTgt w x cs) : ∀ v ∈ cs, v.oneCell' = true := by obtain ⟨h1, rfl⟩ := h; exact Tgt.one x
def encTgt (t : Tgt) : List UInt8 := encText t.name ++ (encN t.size ++ (t.sum ++ (encText t.hw ++ (encN t.ctr ++ encText t.ecu))))
def isTgtB (t : Tgt) : Bool := nameB t.name && (decide (0 ≤ t.size) && (decide (t.size ≤ 512) && (nameB t.hw && (numB t.ctr && (decide (t.ecu = ⟨#[]⟩) || nameB t.ecu)))))
def riseB (a b : Tgt) : Bool := strLt a.name b.name || (decide (a.name = b.name) && strLt a.ecu b.ecu)
def tgtAt (l : List Tgt) (k : Nat) : Bool := if h : k < l.length then isTgtB l[k] && (decide (k = 0) || riseB (l[k - 1]'(by omega)) l[k]) else true
theorem tgtAt_eq {l : List Tgt} {k : Nat} (h : k < l.length) : tgtAt l k = (isTgtB l[k] && (decide (k = 0) || riseB (l[k - 1]'(by omega)) l[k])) := dif_pos h
def isTgsB (l : List Tgt) : Bool := (List.range l.length).all (tgtAt l)
theorem tgs_no {l : List Tgt} {k : Nat} (hk : k < l.length) (h : tgtAt l k = false) : isTgsB l = false := range_no hk h
def encTgs (l : List Tgt) : List UInt8 := encText ⟨#[116]⟩ ++ (encNs [1, 0] ++ ((encN l.length ++ l.flatMap encTgt) ++ encN 0))
theorem name_t : nameB ⟨#[116]⟩ = true := by decide
theorem name_len {s : ByteArray} (h : nameB s = true) : s.size ≤ 12 := by
  unfold nameB at h
  simp only [Bool.and_eq_true, decide_eq_true_eq] at h
  exact h.2.1
theorem tgt_len {t : Tgt} (h : isTgtB t = true) (hw : t.wf) : (encTgt t).length ≤ 200 := by
  unfold isTgtB at h
  simp only [Bool.and_eq_true, Bool.or_eq_true, decide_eq_true_eq] at h
  obtain ⟨h1, _, _, h2, _, h3⟩ := h
  have l1 := name_len h1
  have l2 := name_len h2
  have l3 : t.ecu.size ≤ 12 := by
    rcases h3 with h3 | h3
    · rw [h3]; decide
    · exact name_len h3
  have e1 := encText_len t.name
  have e2 := encText_len t.hw
  have e3 := encText_len t.ecu
  have e4 := encN_len t.size
  have e5 := encN_len t.ctr
  have e6 : t.sum.length = 32 := hw
  unfold encTgt
  simp only [List.length_append]
  omega
theorem tgts_is {l : List Tgt} (h : isTgsB l = true) : ∀ t ∈ l, isTgtB t = true := by
  unfold isTgsB at h
  simp only [List.all_eq_true] at h
  intro p hp
  obtain ⟨i, hi, rfl⟩ := List.mem_iff_getElem.1 hp
  have := h i (by simpa using hi)
  rw [tgtAt_eq hi] at this
  simp only [Bool.and_eq_true] at this
  exact this.1
theorem encTgts_len : ∀ {l : List Tgt}, (∀ t ∈ l, (encTgt t).length ≤ 200) → (l.flatMap encTgt).length ≤ l.length * 200
  | [], _ => by simp
  | p :: l, h => by
    have h1 := encTgts_len (l := l) fun q hq => h q (by simp [hq])
    have h2 := h p (by simp)
    rw [List.flatMap_cons, List.length_append, List.length_cons, Nat.add_mul]
    omega
theorem encTgs_len {l : List Tgt} (h : isTgsB l = true) (hw : ∀ t ∈ l, t.wf) (hl : l.length ≤ 16) : (encTgs l).length ≤ 10000 := by
  have h1 := encTgts_len (l := l) fun t ht => tgt_len (tgts_is h t ht) (hw t ht)
  have h2 := encText_len ⟨#[116]⟩
  have h3 := encNs_len [1, 0]
  have h4 := encN_len l.length
  have h5 := encN_len 0
  have h6 : l.length * 200 ≤ 16 * 200 := Nat.mul_le_mul_right _ hl
  have h7 : (⟨#[116]⟩ : ByteArray).size = 1 := rfl
  simp only [List.length_cons, List.length_nil] at h3
  unfold encTgs
  simp only [List.length_append]
  omega
theorem tgts_wf {w : World} {v : Value} {l : List Tgt} (h : SlAt 37 RTgt w v l) : ∀ t ∈ l, t.wf := by
  intro t ht
  obtain ⟨i, hi, rfl⟩ := List.mem_iff_getElem.1 ht
  obtain ⟨a, c, rfl, hx⟩ := h
  obtain ⟨_, _, _, _, h1, _⟩ := (SlAt.at ⟨a, c, rfl, hx⟩).2 i hi
  exact h1.1
theorem tgs2 {a b : Tgt} (ha : isTgtB a = true) (hb : isTgtB b = true) : isTgsB [a, b] = riseB a b := by
  have h0 : tgtAt [a, b] 0 = true := by rw [tgtAt_eq (by simp)]; show (isTgtB a && _) = true; rw [ha]; rfl
  have h1 : tgtAt [a, b] 1 = riseB a b := by rw [tgtAt_eq (by simp)]; show (isTgtB b && (_ || riseB a b)) = _; rw [hb]; rfl
  show (List.range 2).all (tgtAt [a, b]) = _
  rw [show List.range 2 = [0, 1] from rfl]
  simp [h0, h1]
theorem snap2 {n m : ByteArray} (hn : nameB n = true) (hm : nameB m = true) : isSnapP ⟨1, 0, [⟨n, 1⟩, ⟨m, 1⟩]⟩ = strLt n m := by
  have h0 : pinAt [⟨n, 1⟩, ⟨m, 1⟩] 0 = true := by rw [pinAt_eq (by simp)]; show (nameB n && _) = true; rw [hn]; rfl
  have h1 : pinAt [⟨n, 1⟩, ⟨m, 1⟩] 1 = strLt n m := by rw [pinAt_eq (by simp)]; show (nameB m && (_ && (_ || strLt n m))) = _; rw [hm]; rfl
  have hv : verB 1 = true := by decide
  have hx : numB 0 = true := by decide
  unfold isSnapP
  show ((List.range 2).all (pinAt [⟨n, 1⟩, ⟨m, 1⟩]) && (verB 1 && (numB 0 && _))) = _
  rw [show List.range 2 = [0, 1] from rfl, hv, hx]
  simp [h0, h1]
theorem fill_two {ps : List (Nat × Nat)} {n : Nat} {cs ds z : List Value} (hp : ps[0]? = some (0, n)) (hq : ps[1]? = some (n, n)) (hc : cs.length = n) (hd : ds.length = n) (hz : z.length = n + n) : fillL ps [(0, .agg ⟨cs⟩), (1, .agg ⟨ds⟩)] z = some (cs ++ ds) := by
  unfold fillL
  rw [hp]
  have h1 : (Value.agg ⟨cs⟩).cells.size = n ∧ 0 + n ≤ z.length := ⟨hc, by omega⟩
  simp only [h1, and_self, if_true]
  have h3 : List.take 0 z ++ cs ++ z.drop (0 + n) = cs ++ z.drop n := by simp
  have h4 : (cs ++ z.drop n).length = n + n := by rw [List.length_append, List.length_drop]; omega
  show fillL ps [(1, .agg ⟨ds⟩)] (List.take 0 z ++ cs ++ z.drop (0 + n)) = _
  rw [h3]
  unfold fillL
  rw [hq]
  have h2 : (Value.agg ⟨ds⟩).cells.size = n ∧ n + n ≤ (cs ++ z.drop n).length := ⟨hd, by omega⟩
  simp only [h2, and_self, if_true]
  unfold fillL
  have h5 : (cs ++ z.drop n).drop (n + n) = [] := List.drop_eq_nil_of_le (by omega)
  have h6 : (cs ++ z.drop n).take n = cs := by rw [← hc]; exact List.take_left
  show some (List.take n (cs ++ z.drop n) ++ ds ++ List.drop (n + n) (cs ++ z.drop n)) = _
  rw [h5, h6, List.append_nil]
end Go.Fw

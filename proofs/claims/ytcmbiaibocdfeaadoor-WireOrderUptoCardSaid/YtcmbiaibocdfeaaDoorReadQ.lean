/- Facts for the reference's reader. -/
import Derived.Test.YtcmbiaibocdfeaaDoorReadP
import Derived.Laws.BytesArg
namespace Go.Fw
theorem shl7g (m i : Nat) (hi : i ≤ 9) (h2 : m * 128 ^ i < 18446744073709551616) : IntKind.u64.wrap ((m : Int) * 2 ^ (min (7 * (i : Int)).toNat IntKind.u64.bits)) = ((m * 128 ^ i : Nat) : Int) := by
  have h1 : min (7 * (i : Int)).toNat IntKind.u64.bits = 7 * i := by simp [IntKind.bits]; omega
  rw [h1, ← wrap_u64 h2, p128]
  congr 1
theorem or_addg (u m i : Nat) (hu : u < 128 ^ i) (h2 : u + m * 128 ^ i < 18446744073709551616) : IntKind.u64.wrap (BitVec.ofInt IntKind.u64.bits (u : Int) ||| BitVec.ofInt IntKind.u64.bits ((m * 128 ^ i : Nat) : Int)).toNat = ((u + m * 128 ^ i : Nat) : Int) := by
  have h3 : (BitVec.ofInt IntKind.u64.bits (u : Int) ||| BitVec.ofInt IntKind.u64.bits ((m * 128 ^ i : Nat) : Int)).toNat = u + m * 128 ^ i := by
    rw [BitVec.toNat_or, BitVec.ofInt_natCast, BitVec.ofInt_natCast, BitVec.toNat_ofNat, BitVec.toNat_ofNat]
    have e : (2 : Nat) ^ IntKind.u64.bits = 18446744073709551616 := by decide
    rw [e, Nat.mod_eq_of_lt (by omega), Nat.mod_eq_of_lt (by omega)]
    rw [p128] at hu ⊢
    rw [Nat.or_comm, Nat.mul_comm, ← Nat.two_pow_add_eq_or_of_lt hu, Nat.add_comm]
  rw [h3, wrap_u64 h2]
theorem acc_bound {u m i : Nat} (hu : u < 128 ^ i) (hi : i ≤ 8) (hm : m < 128) : u + m * 128 ^ i < 18446744073709551616 := by
  have h : 128 ^ i ≤ 128 ^ 8 := Nat.pow_le_pow_right (by omega) hi
  have h3 : m * 128 ^ i ≤ 127 * 128 ^ 8 := Nat.mul_le_mul (by omega) h
  have h4 : (128 : Nat) ^ 8 = 72057594037927936 := by decide
  omega
theorem acc_bound9 {u m : Nat} (hu : u < 128 ^ 9) (hm : m ≤ 1) : u + m * 128 ^ 9 < 18446744073709551616 := by
  have h4 : (128 : Nat) ^ 9 = 9223372036854775808 := by decide
  rw [h4] at hu ⊢
  omega
theorem acc_lt2 {u m i : Nat} (hu : u < 128 ^ i) (hm : m < 128) : u + m * 128 ^ i < 128 ^ (i + 1) := by
  have : (m + 1) * 128 ^ i ≤ 128 * 128 ^ i := Nat.mul_le_mul_right _ (by omega)
  rw [Nat.add_mul] at this
  rw [Nat.pow_succ]
  omega
theorem ok_fail : RS.fail.ok := fun _ => rfl
theorem ok_num {s : RS} (h : s.ok) : s.num.2.ok := by
  unfold RS.num
  split
  · rename_i u r hq
    intro hb
    have := h hb
    rw [this] at hq
    simp [rdN] at hq
  · exact ok_fail
theorem ok_raw {s : RS} (h : s.ok) (n : Int) : (s.raw n).2.ok := by
  unfold RS.raw
  split
  · exact ok_fail
  · intro hb
    have := h hb
    simp only [this, List.drop_nil]
theorem ok_hash {s : RS} (h : s.ok) : s.hash.2.ok := ok_raw h 32
theorem ok_bytes {s : RS} (h : s.ok) : s.bytes.2.ok := ok_raw (ok_num h) _
theorem ok_taken {α : Type} {take : RS → α × RS} (h : ∀ s, s.ok → (take s).2.ok) : ∀ (n : Nat) (acc : List α) (s : RS), s.ok → (takenL take n acc s).2.ok
  | 0, _, _, hs => hs
  | n + 1, acc, s, hs => by
    unfold takenL
    split
    · exact hs
    · exact ok_taken h n _ _ (h s hs)
theorem ok_rowsA {α : Type} {take : RS → α × RS} (h : ∀ s, s.ok → (take s).2.ok) : ∀ (n : Nat) (acc : List α) (s : RS), s.ok → (rowsA take n acc s).2.ok
  | 0, _, _, hs => hs
  | n + 1, acc, s, hs => ok_rowsA h n _ _ (h s hs)
theorem ok_keys (f : Nat → Nat) {s : RS} (h : s.ok) : (RS.keys f s).2.ok := ok_num (ok_taken (fun _ => ok_hash) _ _ _ (ok_num h))
theorem ok_kind (k : Int) (l : List UInt8) : (kindS k l).ok := by
  unfold kindS
  split
  · exact ok_fail
  · exact ok_num fun h => by cases h
theorem raw_bad {s : RS} (hs : s.bad = true) (hok : s.ok) {n : Int} (h : ¬ n < 0) (h1 : ¬ (s.rest.length : Int) < n) : s.raw n = ([], s) := by
  have hr := hok hs
  unfold RS.raw
  rw [if_neg (by omega), hr]
  have : s = ⟨[], s.bad⟩ := by cases s; simp at hr; simp [hr]
  rw [List.take_nil, List.drop_nil, ← this]
theorem takenL_len_le {α : Type} (take : RS → α × RS) : ∀ (n : Nat) (acc : List α) (s : RS), (takenL take n acc s).1.length ≤ acc.length + n
  | 0, acc, s => Nat.le_refl _
  | n + 1, acc, s => by
    unfold takenL
    split
    · simp only; omega
    · have := takenL_len_le take n (acc ++ [(take s).1]) (take s).2
      simp only [List.length_append, List.length_singleton] at this
      omega
theorem encRoles_len {m : Nat} : ∀ {l : List KeysP}, (∀ k ∈ l, k.keys.length ≤ m ∧ ∀ h ∈ k.keys, h.length = 32) → (l.flatMap encKeys).length ≤ l.length * (18 + 32 * m)
  | [], _ => by simp
  | k :: l, h => by
    have h1 := encRoles_len (l := l) fun k hk => h k (by simp [hk])
    obtain ⟨h2, h3⟩ := h k (by simp)
    have h4 := encKeys_len h3
    rw [List.flatMap_cons, List.length_append, List.length_cons, Nat.add_mul]
    omega
theorem encRoot_len {m : Nat} {r : RootP} (h4 : r.roles.length = 4) (h : ∀ k ∈ r.roles, k.keys.length ≤ m ∧ ∀ h ∈ k.keys, h.length = 32) : (encRoot r).length ≤ 18 + 4 * (18 + 32 * m) := by
  have h1 := encRoles_len h
  have h2 := encN_len r.ver
  have h3 := encN_len r.exp
  rw [h4] at h1
  unfold encRoot
  simp only [List.length_append]
  omega
theorem rroot_hash {w : World} {r : RootP} {cs : List Value} (h : RRoot w r cs) : ∀ k ∈ r.roles, ∀ x ∈ k.keys, x.length = 32 := by
  intro k hk
  obtain ⟨ks, _, _, _, hp⟩ := h
  obtain ⟨i, hi, rfl⟩ := List.mem_iff_getElem.1 hk
  obtain ⟨_, _, _, hs, _⟩ := hp.get (List.getElem?_eq_getElem hi)
  exact sl_hashes hs
section
variable {P : Program} {C : World → Prop} {env : Env} {dst : Option Tmp} {ty : TypeId} {pos : String} {af : Array Edge} {gd : Option (Nat × Bool)}
/-- Bytes as a string, wherever they lie. -/
theorem ev_convB {x : Operand} {S D e : TypeId} (l : List UInt8) {a : Option Addr} {n cap : Nat} (hs : P.underlying S = some (.slice e)) (he : P.underlying e = some (.int .u8)) (hd : P.underlying D = some .string) (hx : env.ev x = some (.slice a n cap))
    (hc : ∀ w, C w → SlAt 1 RByte w (.slice a n cap) l) : Ev P C env ⟨dst, .convert S D x, ty, pos, af, gd⟩ (.string ⟨l.toArray⟩) := by
  intro ρ hρ w hw
  have hsl := hc w hw
  obtain ⟨rfl, -⟩ := hsl.at
  cases a with
  | none =>
    have hl : l = [] := by
      cases l with
      | nil => rfl
      | cons b l => obtain ⟨_, _, ha, _⟩ := bytes_cells hsl (by simp); cases ha
    subst hl
    have h := run_convert_bytes_nil (P := P) w S e hs he 0 cap D hd
    simp [execOp, hρ x _ hx, h]
    rfl
  | some a =>
    have h := run_convert_bytes_back (P := P) w S D e a cap l hs he hd fun j hj => by
      obtain ⟨b, o, ha, hcc⟩ := bytes_cells hsl (fun h => by subst h; simp at hj)
      cases ha
      rw [Addr.add_mid]
      exact hcc j _ (by simp [hcells, hj])
    simp [execOp, hρ x _ hx, h]
end
theorem str_eq {a b : List UInt8} : ((⟨a.toArray⟩ : ByteArray) = ⟨b.toArray⟩) ↔ a = b := by
  constructor
  · intro h
    have h1 := congrArg (fun x : ByteArray => x.data.toList) h
    simpa using h1
  · rintro rfl; rfl
end Go.Fw

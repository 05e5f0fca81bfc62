/- A reader in memory: what is left, whether it erred. -/
import Derived.Test.YtcmbiaibocdfeaaDoorBytes
namespace Go.Fw
theorem and127 (c : UInt8) : IntKind.u8.wrap (BitVec.ofInt IntKind.u8.bits (c.toNat : Int) &&& BitVec.ofInt IntKind.u8.bits 127).toNat = ((c.toNat % 128 : Nat) : Int) := by
  have key : ∀ k, k < 256 → IntKind.u8.wrap (BitVec.ofInt IntKind.u8.bits ((k : Nat) : Int) &&& BitVec.ofInt IntKind.u8.bits 127).toNat = ((k % 128 : Nat) : Int) := by decide +kernel
  exact key _ c.toNat_lt
theorem p128 (i : Nat) : (128 : Nat) ^ i = 2 ^ (7 * i) := by rw [Nat.pow_mul]
theorem shl7 (m i : Nat) (hm : m < 128) (hi : i ≤ 8) : IntKind.u64.wrap ((m : Int) * 2 ^ (min (7 * (i : Int)).toNat IntKind.u64.bits)) = ((m * 128 ^ i : Nat) : Int) := by
  have h1 : min (7 * (i : Int)).toNat IntKind.u64.bits = 7 * i := by simp [IntKind.bits]; omega
  have h2 : m * 128 ^ i < 18446744073709551616 := by
    have : 128 ^ i ≤ 128 ^ 8 := Nat.pow_le_pow_right (by omega) hi
    calc m * 128 ^ i ≤ 127 * 128 ^ 8 := Nat.mul_le_mul (by omega) this
      _ < _ := by decide
  rw [h1, ← wrap_u64 h2, p128]
  congr 1
theorem or_add (u m i : Nat) (hu : u < 128 ^ i) (hm : m < 128) (hi : i ≤ 8) : IntKind.u64.wrap (BitVec.ofInt IntKind.u64.bits (u : Int) ||| BitVec.ofInt IntKind.u64.bits ((m * 128 ^ i : Nat) : Int)).toNat = ((u + m * 128 ^ i : Nat) : Int) := by
  have h2 : u + m * 128 ^ i < 18446744073709551616 := by
    have : 128 ^ i ≤ 128 ^ 8 := Nat.pow_le_pow_right (by omega) hi
    have h3 : m * 128 ^ i ≤ 127 * 128 ^ 8 := Nat.mul_le_mul (by omega) this
    have h4 : (128 : Nat) ^ 8 = 72057594037927936 := by decide
    omega
  have h3 : (BitVec.ofInt IntKind.u64.bits (u : Int) ||| BitVec.ofInt IntKind.u64.bits ((m * 128 ^ i : Nat) : Int)).toNat = u + m * 128 ^ i := by
    rw [BitVec.toNat_or, BitVec.ofInt_natCast, BitVec.ofInt_natCast, BitVec.toNat_ofNat, BitVec.toNat_ofNat]
    have e : (2 : Nat) ^ IntKind.u64.bits = 18446744073709551616 := by decide
    rw [e, Nat.mod_eq_of_lt (by omega), Nat.mod_eq_of_lt (by omega)]
    rw [p128] at hu ⊢
    rw [Nat.or_comm, Nat.mul_comm, ← Nat.two_pow_add_eq_or_of_lt hu, Nat.add_comm]
  rw [h3, wrap_u64 h2]
/-- The reader's block; what is left lies in memory that was there in w0 and does not turn. -/
structure RSt (T : TypeId) (w0 w : World) (rb : Nat) (v : Value) (s : RS) : Prop where
  hr : w.heap[rb]? = some (.cells ⟨[v, .bool s.bad]⟩ T (0, 0))
  rest : SlAt 1 RByte w0 v s.rest
  cap : ∃ a c, v = .slice a s.rest.length c ∧ s.rest.length ≤ c
  ext : Ext w0 w
  hrb : w0.heap.size ≤ rb
  len : s.rest.length ≤ 1099511627776
def RP (T : TypeId) (w0 w : World) (rb : Nat) (s' : RS) (w' : World) : Prop := (∃ v', RSt T w0 w' rb v' s') ∧ ExtB (fun k => k = rb) w w'
theorem RSt.up {T : TypeId} {w0 w w' : World} {rb : Nat} {v : Value} {s : RS} (st : RSt T w0 w rb v s) (he : Ext w w') : RSt T w0 w' rb v s :=
  ⟨he.at st.hr, st.rest, st.cap, st.ext.trans he, st.hrb, st.len⟩
theorem RP.from {T : TypeId} {w0 w w1 w' : World} {rb : Nat} {s : RS} (he : Ext w w1) (h : RP T w0 w1 rb s w') : RP T w0 w rb s w' := ⟨h.1, he.toB.trans h.2⟩
theorem RP.trans {T : TypeId} {w0 w w1 w' : World} {rb : Nat} {s : RS} {v : Value} {s1 : RS} (st : RSt T w0 w rb v s1) (he : ExtB (fun k => k = rb) w w1) (h : RP T w0 w1 rb s w') : RP T w0 w rb s w' := ⟨h.1, he.newB h.2 fun k hk => .inr hk⟩
theorem slice_nil_bytes {w : World} : SlAt 1 RByte w (.slice none 0 0) [] := sl_nil
end Go.Fw

/-
  The walk of the document's sum.
-/
import Derived.Test.YtamhfhodhjoapaaSum
namespace Go.Proofs.Ytamhfhodhjoapaa
open Go.RowKit

theorem wrap_i64 (n : Int) (h0 : -9223372036854775808 ≤ n) (h1 : n ≤ 9223372036854775807) : IntKind.i64.wrap n = n := by
  simp [IntKind.wrap, IntKind.bits, IntKind.signed]; omega

theorem ofInt64 (n : Nat) (h : n < 18446744073709551616) : (BitVec.ofInt 64 (n : Int)).toNat = n := by
  simp; omega

theorem bits_one (n : Nat) (h : n < 9223372036854775808) : bits .and .i64 (n : Int) 1 = ((n % 2 : Nat) : Int) := by
  show IntKind.i64.wrap ((BitVec.ofInt 64 (n : Int) &&& BitVec.ofInt 64 ((1 : Nat) : Int)).toNat : Int) = _
  rw [BitVec.toNat_and, ofInt64 n (by omega), ofInt64 1 (by omega), Nat.and_one_is_mod, wrap_i64 _ (by omega) (by omega)]

theorem bits_poly (x : BitVec 16) : bits .xor .i64 (x.toNat : Int) 4129 = ((x ^^^ 4129#16).toNat : Int) := by
  have hx : x.toNat < 65536 := x.isLt
  have h : (x ^^^ 4129#16).toNat < 65536 := (x ^^^ 4129#16).isLt
  rw [BitVec.toNat_xor] at h ⊢
  show IntKind.i64.wrap ((BitVec.ofInt 64 (x.toNat : Int) ^^^ BitVec.ofInt 64 ((4129 : Nat) : Int)).toNat : Int) = _
  rw [BitVec.toNat_xor, ofInt64 x.toNat (by omega), ofInt64 4129 (by omega)]
  have e : (4129#16).toNat = 4129 := rfl
  rw [e] at h ⊢
  rw [wrap_i64 _ (by omega) (by omega)]

/-- the text's bit, as a number. -/
def one (b : Bool) : Int := if b then 1 else 0

theorem bit_in (s : ByteArray) (k : Nat) (h : k / 8 < s.size) : bits .and .i64 (wrap64 (s[k / 8].toNat : Int) / 2 ^ (7 - k % 8)) 1 = one (Crc.bitAt s.data.toList k) := by
  have hc := UInt8.toNat_lt s[k / 8]
  have e1 : wrap64 (s[k / 8].toNat : Int) = (s[k / 8].toNat : Int) := IntWalk.wrap64_in _ ⟨by omega, by omega⟩
  have hdiv : s[k / 8].toNat / 2 ^ (7 - k % 8) ≤ s[k / 8].toNat := Nat.div_le_self _ _
  have e2 : ((s[k / 8].toNat : Int) / 2 ^ (7 - k % 8)) = ((s[k / 8].toNat / 2 ^ (7 - k % 8) : Nat) : Int) := by simp
  rw [e1, e2, bits_one _ (by omega)]
  have hg : s.data.toList.getD (k / 8) 0 = s[k / 8] := by
    rw [List.getD_eq_getElem?_getD, List.getElem?_eq_getElem (by simpa using h)]; rfl
  unfold one Crc.bitAt
  rw [hg, Nat.shiftRight_eq_div_pow]
  rcases Nat.mod_two_eq_zero_or_one (s[k / 8].toNat / 2 ^ (7 - k % 8)) with h | h <;> rw [h] <;> rfl

theorem xor_one (n : Nat) : (2 * n) ^^^ 1 = 2 * n + 1 := by
  have h1 := @Nat.xor_div_two (2 * n) 1
  have h2 := @Nat.xor_mod_two_eq_one (2 * n) 1
  have h3 : (1 : Nat) / 2 = 0 := rfl
  rw [h3, Nat.xor_zero] at h1
  omega

/-- the register moved up, the bit below, ahead of the polynomial. -/
def lay (r : BitVec 16) (b : Bool) : BitVec 16 := (r <<< 1) ^^^ (if b then 1#16 else 0#16)

theorem lay_nat (r : BitVec 16) (b : Bool) : ((lay r b).toNat : Int) = (2 * (r.toNat : Int) + one b) % 65536 := by
  unfold lay one
  have hr : r.toNat < 65536 := r.isLt
  have e : (r <<< 1).toNat = 2 * (r.toNat % 32768) := by rw [BitVec.toNat_shiftLeft, Nat.shiftLeft_eq]; omega
  cases b
  · simp only [Bool.false_eq_true, if_false, BitVec.xor_zero, e]; omega
  · simp only [if_true]
    rw [BitVec.toNat_xor, e, show (1#16).toNat = 1 from rfl, xor_one]; omega

theorem msb_of (r : BitVec 16) : r.msb = decide (32768 ≤ r.toNat) := by rw [BitVec.msb_eq_decide]

theorem L_low (r : BitVec 16) (b : Bool) (h : r.toNat < 32768) : 2 * (r.toNat : Int) + one b = ((Crc.L r b).toNat : Int) := by
  have hm : r.msb = false := by rw [msb_of]; simp; omega
  have e : Crc.L r b = lay r b := by unfold Crc.L lay; rw [hm]; simp
  have ho : one b = 0 ∨ one b = 1 := by cases b <;> simp [one]
  rw [e, lay_nat]; omega

theorem L_high (r : BitVec 16) (b : Bool) (h : 32768 ≤ r.toNat) : bits .xor .i64 (2 * (r.toNat : Int) + one b - 65536) 4129 = ((Crc.L r b).toNat : Int) := by
  have hm : r.msb = true := by rw [msb_of]; simp; omega
  have hr : r.toNat < 65536 := r.isLt
  have e : Crc.L r b = lay r b ^^^ 4129#16 := by unfold Crc.L lay; rw [hm]; simp
  have ho : one b = 0 ∨ one b = 1 := by cases b <;> simp [one]
  have hl := lay_nat r b
  rw [show 2 * (r.toNat : Int) + one b - 65536 = ((lay r b).toNat : Int) from by omega, bits_poly, e]

theorem one_or (b : Bool) : 0 ≤ one b ∧ one b ≤ 1 := by cases b <;> simp [one]
theorem one_not (b : Bool) : 1 - one b = one (b != true) := by cases b <;> rfl
theorem bne_off (b : Bool) : (b != false) = b := by cases b <;> rfl
theorem ref_in (f : Nat → Bool) (k : Nat) (h : k < 16) : Crc.ref f (k + 1) = Crc.L (Crc.ref f k) (f k != true) := by
  show Crc.L _ _ = _; rw [decide_eq_true h]
theorem ref_off (f : Nat → Bool) (k : Nat) (h : ¬ k < 16) : Crc.ref f (k + 1) = Crc.L (Crc.ref f k) (f k) := by
  show Crc.L _ _ = _; rw [decide_eq_false h]; rw [bne_off]
end Go.Proofs.Ytamhfhodhjoapaa

/-
  The walks of the two sums.
-/
import Derived.Test.YtamhfhodhjoapaaRows
import Derived.Test.YtamhfhodhjoapaaCrc
import Derived.WalkKit
import Derived.WalkSpells
import Derived.WalkLawsBesides
import Derived.Lib.Hide
namespace Go.Proofs.Ytamhfhodhjoapaa
open Go.RowKit

theorem ret_int {k : IntKind} {a b : Int} (h : a = b) : Ending.returned (.int k a) = .returned (.int k b) := by rw [h]

theorem wrap_u16 (n : Int) (h0 : 0 ≤ n) (h1 : n < 65536) : IntKind.u16.wrap n = n := by
  simp [IntKind.wrap, IntKind.bits, IntKind.signed]; omega

theorem ofInt16 (x : BitVec 16) : BitVec.ofInt 16 (x.toNat : Int) = x := by simp

theorem bits_xor16 (x y : BitVec 16) : bits .xor .u16 (x.toNat : Int) (y.toNat : Int) = ((x ^^^ y).toNat : Int) := by
  show IntKind.u16.wrap ((BitVec.ofInt 16 (x.toNat : Int) ^^^ BitVec.ofInt 16 (y.toNat : Int)).toNat : Int) = _
  rw [ofInt16, ofInt16, wrap_u16 _ (by omega) (by omega)]

theorem bits_and16 (x y : BitVec 16) : bits .and .u16 (x.toNat : Int) (y.toNat : Int) = ((x &&& y).toNat : Int) := by
  show IntKind.u16.wrap ((BitVec.ofInt 16 (x.toNat : Int) &&& BitVec.ofInt 16 (y.toNat : Int)).toNat : Int) = _
  rw [ofInt16, ofInt16, wrap_u16 _ (by omega) (by omega)]

theorem shl16 (x : BitVec 16) (n : Nat) : IntKind.u16.wrap ((x.toNat : Int) * 2 ^ n) = ((x <<< n).toNat : Int) := by
  simp only [IntKind.wrap, IntKind.bits, IntKind.signed, BitVec.toNat_shiftLeft, Nat.shiftLeft_eq]
  simp

theorem byte16 (c : UInt8) : (BitVec.ofNat 16 c.toNat).toNat = c.toNat := by
  simp

/-- what comes in above. -/
theorem in_above (x : BitVec 16) (c : UInt8) : bits .xor .u16 (x.toNat : Int) (IntKind.u16.wrap (IntKind.u16.wrap (c.toNat : Int) * 256)) = ((x ^^^ (BitVec.ofNat 16 c.toNat <<< 8)).toNat : Int) := by
  have hc := UInt8.toNat_lt c
  rw [wrap_u16 (c.toNat : Int) (by omega) (by omega)]
  rw [← byte16 c, show (256 : Int) = 2 ^ 8 from rfl, shl16, bits_xor16]
  simp

theorem mv_yes (x : BitVec 16) (h : x.msb = true) : bits .xor .u16 (IntKind.u16.wrap ((x.toNat : Int) * 2)) 4129 = ((Crc.mv x).toNat : Int) := by
  rw [show (2 : Int) = 2 ^ 1 from rfl, shl16, show (4129 : Int) = ((4129#16).toNat : Int) from rfl, bits_xor16]
  simp [Crc.mv, Crc.L, h]
theorem mv_no (x : BitVec 16) (h : x.msb = false) : IntKind.u16.wrap ((x.toNat : Int) * 2) = ((Crc.mv x).toNat : Int) := by
  rw [show (2 : Int) = 2 ^ 1 from rfl, shl16]
  simp [Crc.mv, Crc.L, h]

theorem top_only : ∀ j : Fin 16, j.val ≠ 15 → (32768#16)[j.val] = false := by decide

theorem and_top : ∀ x : BitVec 16, (x &&& 32768#16) = if x.msb then 32768#16 else 0#16 := by
  intro x
  ext i hi
  rw [BitVec.msb_eq_getLsbD_last]
  simp only [BitVec.getElem_and]
  by_cases h15 : i = 15
  · subst h15
    cases h : x.getLsbD 15 <;> simp_all [← BitVec.getLsbD_eq_getElem]
  · have : (32768#16)[i] = false := by
      exact top_only ⟨i, hi⟩ h15
    rw [this]
    split <;> simp [this]

theorem top_yes (x : BitVec 16) (h : x.msb = true) : bits .and .u16 (x.toNat : Int) 32768 = 32768 := by
  rw [show (32768 : Int) = ((32768#16).toNat : Int) from rfl, bits_and16, and_top, h]; rfl
theorem top_no (x : BitVec 16) (h : x.msb = false) : bits .and .u16 (x.toNat : Int) 32768 = 0 := by
  rw [show (32768 : Int) = ((32768#16).toNat : Int) from rfl, bits_and16, and_top, h]; rfl

theorem take_snoc (s : ByteArray) (k : Nat) (h : k < s.size) : s.data.toList.take (k + 1) = s.data.toList.take k ++ [s[k]] := by
  rw [List.take_succ_eq_append_getElem (by simpa using h)]; rfl

theorem sum_next (s : ByteArray) (k : Nat) (h : k < s.size) : Crc.sumList (s.data.toList.take (k + 1)) = Crc.mvs 8 (Crc.sumList (s.data.toList.take k) ^^^ (BitVec.ofNat 16 s[k].toNat <<< 8)) := by
  rw [take_snoc s k h, Crc.sumList_snoc]; rfl

set_option maxHeartbeats 400000 in
theorem sum_any (s : ByteArray) (w : World) (hs : s.size ≤ 140737488351232) :
    Calls Try.prog 5 #[.string s] w fun e w' => e = .returned (.int .u16 ((Crc.sumList s.data.toList).toNat : Int)) ∧ w' = w := by
  go_enter Try.func5, Try.ntmps5
  go_wp2
  go_loop [3, 4, 5, 8, 18] (fun r _ _ i _ => ∃ k : Nat, k ≤ s.size ∧ i = .int .i64 k ∧ r = .int .u16 ((Crc.sumList (s.data.toList.take k)).toNat : Int)) (fun _ _ _ i _ => s.size - (intOf i).toNat)
  case atStart => exact ⟨0, Nat.zero_le _, rfl, rfl⟩
  case round =>
    obtain ⟨k, hk, rfl, rfl⟩ := hrel
    by_cases hlt : k < s.size
    · have hin := in_above (Crc.sumList (s.data.toList.take k)) s[k]
      have hnext := Lib.hid (sum_next s k hlt)
      generalize hx : Crc.sumList (s.data.toList.take k) ^^^ (BitVec.ofNat 16 s[k].toNat <<< 8) = x at hin hnext
      clear hx
      go_wp2
      go_loop [3, 5, 18] (fun r _ i => ∃ j : Nat, j ≤ 8 ∧ i = .int .i64 j ∧ r = .int .u16 ((Crc.mvs j x).toNat : Int)) (fun _ _ i => 8 - (intOf i).toNat)
      case atStart => exact ⟨0, Nat.zero_le _, rfl, rfl⟩
      case round =>
        obtain ⟨j, hj, rfl, rfl⟩ := hrel
        by_cases hlt8 : j < 8
        · have hmv : Crc.mvs (j + 1) x = Crc.mv (Crc.mvs j x) := rfl
          have hmv' := Lib.hid hmv
          clear hmv
          generalize Crc.mvs j x = y at hmv'
          cases hm : y.msb
          · have h1 := top_no y hm
            have h2 := mv_no y hm
            go_wp2
            go_round
            case rel => exact ⟨j + 1, by omega, by go_num, by rw [hmv'.out]⟩
            case measure => simp [intOf]; omega
          · have h1 := top_yes y hm
            have h2 := mv_yes y hm
            go_wp2
            go_round
            case rel => exact ⟨j + 1, by omega, by go_num, by rw [hmv'.out]⟩
            case measure => simp [intOf]; omega
        · obtain rfl : j = 8 := by omega
          go_wp2
          go_round
          case rel => exact ⟨k + 1, by omega, by go_num, by rw [hnext.out]⟩
          case measure => simp [intOf]; omega
    · have hfull : s.data.toList.take k = s.data.toList := List.take_of_length_le (by simp; omega)
      have hf := Lib.hid hfull
      clear hfull
      go_wp2
      go_ret
      exact ⟨ret_int (by rw [hf.out]), rfl⟩
end Go.Proofs.Ytamhfhodhjoapaa

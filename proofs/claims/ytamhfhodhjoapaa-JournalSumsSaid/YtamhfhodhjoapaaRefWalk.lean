/-
  The walk of the document's sum.
-/
import Derived.Test.YtamhfhodhjoapaaRef
import Derived.Deep.LoopGhost
import Derived.Deep.DeepCutAuto
namespace Go.Proofs.Ytamhfhodhjoapaa
open Go.RowKit

/-- the bit that comes in, turned or not. -/
def bitIn (s : ByteArray) (k : Nat) : Bool := Crc.bitAt s.data.toList k != decide (k < 16)

theorem ref_next (s : ByteArray) (k : Nat) : Crc.ref (Crc.bitAt s.data.toList) (k + 1) = Crc.L (Crc.ref (Crc.bitAt s.data.toList) k) (bitIn s k) := rfl

theorem in_turned (s : ByteArray) (k : Nat) (h : k < 16) : 1 - one (Crc.bitAt s.data.toList k) = one (bitIn s k) := by
  unfold bitIn; rw [decide_eq_true h, one_not]
theorem in_plain (s : ByteArray) (k : Nat) (h : ¬ k < 16) : one (Crc.bitAt s.data.toList k) = one (bitIn s k) := by
  unfold bitIn; rw [decide_eq_false h, bne_off]

set_option maxHeartbeats 800000 in
theorem ref_any (s : ByteArray) (w : World) (hs : s.size ≤ 140737488351232) :
    Calls Try.prog 6 #[.string s] w fun e w' => e = .returned (.int .u16 ((Crc.ref (Crc.bitAt s.data.toList) (8 * s.size + 16)).toNat : Int)) ∧ w' = w := by
  go_enter Try.func6, Try.ntmps6
  go_wp2
  go_loopg [3, 4, 5] (8 * s.size + 16) (fun g r i _ wx => w = wx ∧ ∃ k : Nat, k ≤ 8 * s.size + 16 ∧ g = 8 * s.size + 16 - k ∧ i = .int .i64 k ∧ r = .int .i64 ((Crc.ref (Crc.bitAt s.data.toList) k).toNat : Int))
  case atStart => exact ⟨rfl, 0, Nat.zero_le _, rfl, rfl, rfl⟩
  case round =>
    obtain ⟨rfl, k, hk, rfl, rfl, rfl⟩ := hrel
    have hr : (Crc.ref (Crc.bitAt s.data.toList) k).toNat < 65536 := (Crc.ref (Crc.bitAt s.data.toList) k).isLt
    by_cases hlt : k < 8 * s.size + 16
    · have hn := Lib.hid (ref_next s k)
      generalize Crc.ref (Crc.bitAt s.data.toList) k = r at hr hn
      go_upto_if 18 with fail
      go_cut [5] (fun b wx => w = wx ∧ b = .int .i64 (one (Crc.bitAt s.data.toList k)))
      case first =>
        by_cases h8 : k < 8 * s.size
        · have hin := bit_in s k (by omega)
          obtain ⟨h0, h1⟩ := one_or (Crc.bitAt s.data.toList k)
          go_wp2
          go_meet
          exact ⟨rfl, rfl⟩
        · have hout : Crc.bitAt s.data.toList k = false := Crc.bitAt_out _ _ (by simp; omega)
          have hout' := Lib.hid hout
          clear hout
          go_wp2
          go_meet
          exact ⟨rfl, by rw [hout'.out]; rfl⟩
      case rest =>
      obtain ⟨rfl, rfl⟩ := hcut
      obtain ⟨h0, h1⟩ := one_or (Crc.bitAt s.data.toList k)
      go_upto_if 30 with fail
      go_cut [5] (fun b wx => w = wx ∧ b = .int .i64 (one (bitIn s k)))
      case first =>
        by_cases h16 : k < 16
        · have hno := Lib.hid (in_turned s k h16)
          generalize Crc.bitAt s.data.toList k = b at h0 h1 hno
          go_wp2
          go_meet
          exact ⟨rfl, by rw [hno.out]⟩
        · have hno := Lib.hid (in_plain s k h16)
          generalize Crc.bitAt s.data.toList k = b at h0 h1 hno
          go_wp2
          go_meet
          exact ⟨rfl, by rw [hno.out]⟩
      case rest =>
        obtain ⟨rfl, rfl⟩ := hcut
        clear h0 h1
        obtain ⟨h0, h1⟩ := one_or (bitIn s k)
        have hlo := Lib.hid (L_low r (bitIn s k))
        have hhi := Lib.hid (L_high r (bitIn s k))
        generalize bitIn s k = b at h0 h1 hn hlo hhi
        by_cases hlow : r.toNat < 32768
        · go_wp2
          go_roundg (8 * s.size + 16 - (k + 1))
          case measure => omega
          case rel => exact ⟨rfl, k + 1, by omega, rfl, by go_num, by rw [hlo.out hlow, hn.out]⟩
        · go_wp2
          go_roundg (8 * s.size + 16 - (k + 1))
          case measure => omega
          case rel => exact ⟨rfl, k + 1, by omega, rfl, by go_num, by rw [hhi.out (by omega), hn.out]⟩
    · obtain rfl : k = 8 * s.size + 16 := by omega
      obtain ⟨r, hrr⟩ : ∃ r, Crc.ref (Crc.bitAt s.data.toList) (8 * s.size + 16) = r := ⟨_, rfl⟩
      rw [hrr] at hr ⊢
      have hrr' := Lib.hid hrr
      clear hrr
      go_wp2
      go_ret
      exact ⟨ret_int (by rw [hrr'.out]), rfl⟩
end Go.Proofs.Ytamhfhodhjoapaa

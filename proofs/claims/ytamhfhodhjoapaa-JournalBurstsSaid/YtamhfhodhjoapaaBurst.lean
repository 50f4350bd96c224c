/-
  The plain law of bursts: the sum is affine over exclusive or; two texts that part in at most two neighbouring bytes have one sum only if they are one.
-/
import Derived.Test.YtamhfhodhjoapaaCrc
namespace Go.Proofs.Ytamhfhodhjoapaa.Crc

theorem Z8_inj (x y : BitVec 16) (h : mv x = mv y) : x = y := by
  have hx : ∀ z : BitVec 16, mv z = 0#16 → z = 0#16 := by
    intro z hz
    unfold mv L at hz
    have hb : (mv z).getLsbD 0 = z.msb := by
      unfold mv L
      rw [BitVec.getLsbD_xor, BitVec.getLsbD_xor, BitVec.getLsbD_shiftLeft]
      cases z.msb <;> simp
    have hm : z.msb = false := by
      rw [← hb]; unfold mv L; rw [hz]; simp
    rw [hm] at hz
    simp at hz
    have hlt : z.toNat < 32768 := by
      rw [BitVec.msb_eq_decide] at hm; simp at hm; omega
    have := congrArg BitVec.toNat hz
    rw [BitVec.toNat_shiftLeft, Nat.shiftLeft_eq] at this
    simp at this
    exact BitVec.eq_of_toNat_eq (by simp; omega)
  have : mv (x ^^^ y) = 0#16 := by
    show L (x ^^^ y) false = _
    rw [show false = (false != false) from rfl, L_xor]
    show mv x ^^^ mv y = 0#16
    rw [h]; simp
  have := hx _ this
  exact BitVec.xor_eq_zero_iff.1 this

theorem mvs_inj (n : Nat) (x y : BitVec 16) (h : mvs n x = mvs n y) : x = y := by
  induction n with
  | zero => exact h
  | succ n ih => exact ih (Z8_inj _ _ h)

theorem up_xor (b c : UInt8) : BitVec.ofNat 16 (b ^^^ c).toNat <<< 8 = (BitVec.ofNat 16 b.toNat <<< 8) ^^^ (BitVec.ofNat 16 c.toNat <<< 8) := by
  rw [UInt8.toNat_xor, ← BitVec.shiftLeft_xor_distrib, BitVec.ofNat_xor]

theorem step_xor (r s : BitVec 16) (b c : UInt8) : byteStep (r ^^^ s) (b ^^^ c) = byteStep r b ^^^ byteStep s c := by
  unfold byteStep
  rw [up_xor, mvs_Z, mvs_Z, mvs_Z, ← Z_xor]
  congr 1
  ac_rfl

theorem step_inj (r s : BitVec 16) (c : UInt8) (h : byteStep r c = byteStep s c) : r = s := by
  have := mvs_inj 8 _ _ h
  have h2 := congrArg (· ^^^ (BitVec.ofNat 16 c.toNat <<< 8)) this
  simpa [BitVec.xor_assoc] using h2

theorem fold_inj (l : List UInt8) : ∀ r s : BitVec 16, l.foldl byteStep r = l.foldl byteStep s → r = s := by
  induction l with
  | nil => exact fun r s h => h
  | cons c l ih => exact fun r s h => step_inj r s c (ih _ _ h)

theorem fold_xor : ∀ (l m : List UInt8) (r s : BitVec 16), l.length = m.length → (List.zipWith (· ^^^ ·) l m).foldl byteStep (r ^^^ s) = l.foldl byteStep r ^^^ m.foldl byteStep s
  | [], [], _, _, _ => rfl
  | b :: l, c :: m, r, s, h => by
    simp only [List.zipWith_cons_cons, List.foldl_cons, step_xor]
    exact fold_xor l m _ _ (by simpa using h)
  | [], _ :: _, _, _, h => by simp at h
  | _ :: _, [], _, _, h => by simp at h

/-- three texts, taken together. -/
def three (b c d : List UInt8) : List UInt8 := List.zipWith (· ^^^ ·) (List.zipWith (· ^^^ ·) b c) d

theorem affine (b c d : List UInt8) (h1 : b.length = c.length) (h2 : b.length = d.length) : sumList (three b c d) = sumList b ^^^ sumList c ^^^ sumList d := by
  unfold sumList three
  have e : (65535#16 : BitVec 16) = 65535#16 ^^^ 65535#16 ^^^ 65535#16 := by decide
  conv => lhs; rw [e]
  rw [fold_xor _ _ _ _ (by simp; omega), fold_xor _ _ _ _ h1]

theorem low_all : ∀ c : Fin 256, c.val ≠ 0 → (mvs 8 (BitVec.ofNat 16 c.val <<< 8)).toNat % 256 ≠ 0 := by decide +kernel

theorem up_low (c : UInt8) : (BitVec.ofNat 16 c.toNat <<< 8).toNat % 256 = 0 := by
  rw [BitVec.toNat_shiftLeft, Nat.shiftLeft_eq]
  have := UInt8.toNat_lt c
  simp only [BitVec.toNat_ofNat]
  omega

theorem up_inj (b c : UInt8) (h : BitVec.ofNat 16 b.toNat <<< 8 = BitVec.ofNat 16 c.toNat <<< 8) : b = c := by
  have hb := UInt8.toNat_lt b
  have hc := UInt8.toNat_lt c
  have := congrArg BitVec.toNat h
  rw [BitVec.toNat_shiftLeft, BitVec.toNat_shiftLeft, Nat.shiftLeft_eq, Nat.shiftLeft_eq] at this
  simp at this
  exact UInt8.toNat_inj.1 (by omega)

theorem byte_inj (r : BitVec 16) (b c : UInt8) (h : byteStep r b = byteStep r c) : b = c := by
  have := mvs_inj 8 _ _ h
  have h2 := congrArg (r ^^^ ·) this
  simp only [← BitVec.xor_assoc, BitVec.xor_self, BitVec.zero_xor] at h2
  exact up_inj _ _ h2

theorem two_inj (r : BitVec 16) (b1 b2 c1 c2 : UInt8) (h : byteStep (byteStep r b1) b2 = byteStep (byteStep r c1) c2) : b1 = c1 ∧ b2 = c2 := by
  have h1 := mvs_inj 8 _ _ h
  -- what the first bytes leave parts by a multiple of 256 alone
  have h3 : byteStep r b1 ^^^ byteStep r c1 = (BitVec.ofNat 16 (b2 ^^^ c2).toNat <<< 8) := by
    have h2 := congrArg (fun x => x ^^^ byteStep r c1 ^^^ (BitVec.ofNat 16 b2.toNat <<< 8)) h1
    rw [up_xor]
    have ac1 : ∀ p q u : BitVec 16, p ^^^ q ^^^ u ^^^ q = p ^^^ u := by
      intro p q u
      rw [show p ^^^ q ^^^ u ^^^ q = p ^^^ u ^^^ (q ^^^ q) from by ac_rfl]; simp
    have ac2 : ∀ p q u : BitVec 16, p ^^^ q ^^^ p ^^^ u = q ^^^ u := by
      intro p q u
      rw [show p ^^^ q ^^^ p ^^^ u = q ^^^ u ^^^ (p ^^^ p) from by ac_rfl]; simp
    rw [ac1, ac2] at h2
    rw [h2]; ac_rfl
  have h4 : byteStep r b1 ^^^ byteStep r c1 = mvs 8 (BitVec.ofNat 16 (b1 ^^^ c1).toNat <<< 8) := by
    rw [← step_xor]; unfold byteStep; simp
  have hz : (b1 ^^^ c1) = 0 := by
    by_cases hne : (b1 ^^^ c1).toNat = 0
    · exact UInt8.toNat_inj.1 (by rw [hne]; rfl)
    · exfalso
      refine low_all ⟨(b1 ^^^ c1).toNat, UInt8.toNat_lt _⟩ hne ?_
      show (mvs 8 (BitVec.ofNat 16 (b1 ^^^ c1).toNat <<< 8)).toNat % 256 = 0
      rw [← h4, h3]; exact up_low _
  have e1 : b1 = c1 := by simpa using UInt8.xor_eq_zero_iff.1 hz
  subst e1
  exact ⟨rfl, byte_inj _ _ _ h⟩

/-- THE LAW OF BURSTS. -/
theorem burst (b : List UInt8) (k : Nat) (x y : UInt8) (hk : k < b.length) (h : sumList ((b.set k x).set (k + 1) y) = sumList b) : (b.set k x).set (k + 1) y = b := by
  have hsplit : b = b.take k ++ b[k] :: b.drop (k + 1) := by simp
  obtain ⟨p, c, q, hb, hp⟩ : ∃ p c q, b = p ++ c :: q ∧ p.length = k := ⟨_, _, _, hsplit, by simp; omega⟩
  subst hb
  subst hp
  cases q with
  | nil =>
    have e : ((p ++ [c]).set p.length x).set (p.length + 1) y = p ++ [x] := by
      rw [List.set_append_right _ _ (Nat.le_refl _)]; simp [List.set_eq_of_length_le]
    rw [e] at h ⊢
    unfold sumList at h
    rw [List.foldl_append, List.foldl_append] at h
    rw [byte_inj _ _ _ h]
  | cons d q =>
    have e : ((p ++ c :: d :: q).set p.length x).set (p.length + 1) y = p ++ x :: y :: q := by
      rw [List.set_append_right _ _ (Nat.le_refl _), List.set_append_right _ _ (by omega)]; simp
    rw [e] at h ⊢
    unfold sumList at h
    rw [List.foldl_append, List.foldl_append] at h
    simp only [List.foldl_cons] at h
    obtain ⟨rfl, rfl⟩ := two_inj _ _ _ _ _ (fold_inj q _ _ h)
    rfl

theorem nine : sumList [49, 50, 51, 52, 53, 54, 55, 56, 57] = 10673#16 := by decide +kernel
end Go.Proofs.Ytamhfhodhjoapaa.Crc

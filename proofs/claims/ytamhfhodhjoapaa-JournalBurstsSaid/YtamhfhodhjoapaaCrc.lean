/-
  The plain law of the two checks: the sum that goes byte by byte, bit by bit, is what is left of the division of the text with 16 noughts behind and its first 16 bits turned. No program in sight.
-/
namespace Go.Proofs.Ytamhfhodhjoapaa.Crc
/-- one bit of the division: the register moved up, the bit below, what falls out taken off by the polynomial. -/
def L (s : BitVec 16) (b : Bool) : BitVec 16 :=
  (s <<< 1) ^^^ (if b then 1#16 else 0#16) ^^^ (if s.msb then 4129#16 else 0#16)

theorem L_xor (s t : BitVec 16) (a b : Bool) : L (s ^^^ t) (a != b) = L s a ^^^ L t b := by
  unfold L
  rw [BitVec.shiftLeft_xor_distrib, BitVec.msb_xor]
  generalize s <<< 1 = x
  generalize t <<< 1 = y
  have ac : ∀ p q r u v w : BitVec 16, p ^^^ q ^^^ r ^^^ (u ^^^ v ^^^ w) = (p ^^^ u) ^^^ (q ^^^ v) ^^^ (r ^^^ w) := by
    intro p q r u v w; ac_rfl
  rw [ac]
  cases a <;> cases b <;> cases s.msb <;> cases t.msb <;> simp

/-- so many noughts. -/
def Z : Nat → BitVec 16 → BitVec 16
  | 0, s => s
  | n + 1, s => Z n (L s false)

theorem Z_succ (n : Nat) (s : BitVec 16) : Z (n + 1) s = L (Z n s) false := by
  induction n generalizing s with
  | zero => rfl
  | succ n ih => show Z (n + 1) (L s false) = _; rw [ih]; rfl

theorem Z_xor (n : Nat) (s t : BitVec 16) : Z n (s ^^^ t) = Z n s ^^^ Z n t := by
  induction n generalizing s t with
  | zero => rfl
  | succ n ih => show Z n (L (s ^^^ t) false) = _; rw [show false = (false != false) from rfl, L_xor, ih]; rfl

/-- the register that is ahead by 16 noughts. -/
abbrev A (s : BitVec 16) : BitVec 16 := Z 16 s

/-- one bit of the sum: it comes in above. -/
def P (s : BitVec 16) (b : Bool) : BitVec 16 := L s false ^^^ (if b then 4129#16 else 0#16)

theorem L_split (s : BitVec 16) (b : Bool) : L s b = L s false ^^^ (if b then 1#16 else 0#16) := by
  unfold L; cases b <;> simp
  generalize s <<< 1 = x
  generalize (if s.msb = true then 4129#16 else 0#16) = y
  ac_rfl

theorem A_L (s : BitVec 16) (b : Bool) : A (L s b) = P (A s) b := by
  unfold A P
  rw [L_split, Z_xor]
  rw [show Z 16 (L s false) = L (Z 16 s) false from Z_succ 16 s]
  cases b
  · simp [show Z 16 0#16 = 0#16 from by decide +kernel]
  · simp [show Z 16 1#16 = 4129#16 from by decide +kernel]

/-- a text's bits, from the first on. -/
def bitAt (l : List UInt8) (i : Nat) : Bool := ((l.getD (i / 8) 0).toNat >>> (7 - i % 8)) % 2 == 1

/-- the register of the division behind i bits (the bits behind the text's end are noughts), the first 16 turned. -/
def ref (f : Nat → Bool) : Nat → BitVec 16
  | 0 => 0#16
  | i + 1 => L (ref f i) (f i != decide (i < 16))

/-- from a register on, nothing turned. -/
def run (f : Nat → Bool) (s : BitVec 16) : Nat → BitVec 16
  | 0 => s
  | i + 1 => L (run f s i) (f i)

/-- what the turning alone makes. -/
def turn : Nat → BitVec 16
  | 0 => 0#16
  | i + 1 => L (turn i) (decide (i < 16))

theorem ref_eq (f : Nat → Bool) (i : Nat) : ref f i = run f 0#16 i ^^^ turn i := by
  induction i with
  | zero => show 0#16 = 0#16 ^^^ 0#16; simp
  | succ i ih => show L (ref f i) _ = L _ _ ^^^ L _ _; rw [ih, L_xor]

theorem run_xor (f : Nat → Bool) (s : BitVec 16) (i : Nat) : run f s i = run f 0#16 i ^^^ Z i s := by
  induction i with
  | zero => show s = 0#16 ^^^ s; simp
  | succ i ih => show L _ _ = L _ _ ^^^ Z (i + 1) s; rw [ih, Z_succ, ← L_xor]; simp

/-- the register that 16 noughts turn into all ones. -/
def s0 : BitVec 16 := 33999#16

theorem turn_eq (k : Nat) : turn (16 + k) = Z (16 + k) s0 := by
  induction k with
  | zero => decide +kernel
  | succ k ih =>
    show L (turn (16 + k)) (decide (16 + k < 16)) = Z (16 + k + 1) s0
    rw [ih, Z_succ, show decide (16 + k < 16) = false from by simp]

theorem ref_run (f : Nat → Bool) (k : Nat) : ref f (16 + k) = run f s0 (16 + k) := by
  rw [ref_eq, turn_eq, run_xor f s0]

/-- the sum behind i bits. -/
def psum (f : Nat → Bool) : Nat → BitVec 16
  | 0 => 65535#16
  | i + 1 => P (psum f i) (f i)

theorem A_run (f : Nat → Bool) (i : Nat) : A (run f s0 i) = psum f i := by
  induction i with
  | zero => show A s0 = 65535#16; decide +kernel
  | succ i ih => show A (L _ _) = P _ _; rw [A_L, ih]

theorem run_noughts (f : Nat → Bool) (s : BitVec 16) (n : Nat) (h : ∀ i, n ≤ i → f i = false) (k : Nat) : run f s (n + k) = Z k (run f s n) := by
  induction k with
  | zero => rfl
  | succ k ih =>
    show L (run f s (n + k)) (f (n + k)) = _
    rw [ih, h _ (by omega), Z_succ]

theorem ref_psum (f : Nat → Bool) (n : Nat) (h : ∀ i, n ≤ i → f i = false) : ref f (n + 16) = psum f n := by
  rw [Nat.add_comm n 16, ref_run, Nat.add_comm 16 n, run_noughts f s0 n h, ← A_run]

/-- one byte of the sum: eight moves behind the byte's coming in above. -/
def mv (r : BitVec 16) : BitVec 16 := L r false
def mvs : Nat → BitVec 16 → BitVec 16
  | 0, r => r
  | n + 1, r => mv (mvs n r)
def byteStep (r : BitVec 16) (c : UInt8) : BitVec 16 := mvs 8 (r ^^^ (BitVec.ofNat 16 c.toNat <<< 8))
def sumList (l : List UInt8) : BitVec 16 := l.foldl byteStep 65535#16

theorem mvs_Z (n : Nat) (r : BitVec 16) : mvs n r = Z n r := by
  induction n with
  | zero => rfl
  | succ n ih => rw [Z_succ, ← ih]; rfl

/-- the eight bits of a byte, one by one. -/
def pbits (f : Nat → Bool) (r : BitVec 16) : Nat → BitVec 16
  | 0 => r
  | i + 1 => P (pbits f r i) (f i)

theorem pbits_xor (f : Nat → Bool) (r : BitVec 16) (i : Nat) : pbits f r i = Z i r ^^^ pbits f 0#16 i := by
  induction i with
  | zero => show r = r ^^^ 0#16; simp
  | succ i ih =>
    show P (pbits f r i) (f i) = Z (i + 1) r ^^^ P (pbits f 0#16 i) (f i)
    rw [ih, Z_succ]; unfold P
    rw [show false = (false != false) from rfl, L_xor, BitVec.xor_assoc]; rfl

def byteBit (c : Nat) (i : Nat) : Bool := (c >>> (7 - i)) % 2 == 1

theorem byte_all : ∀ c : Fin 256, Z 8 (BitVec.ofNat 16 c.val <<< 8) = pbits (byteBit c.val) 0#16 8 := by decide +kernel

theorem byteStep_pbits (r : BitVec 16) (c : UInt8) : byteStep r c = pbits (byteBit c.toNat) r 8 := by
  unfold byteStep
  rw [mvs_Z, Z_xor, pbits_xor, byte_all ⟨c.toNat, UInt8.toNat_lt c⟩]

theorem pbits_psum (f g : Nat → Bool) (n : Nat) (k : Nat) (h : ∀ i, i < k → f (n + i) = g i) : psum f (n + k) = pbits g (psum f n) k := by
  induction k with
  | zero => rfl
  | succ k ih =>
    show P (psum f (n + k)) (f (n + k)) = P _ _
    rw [ih (fun i hi => h i (by omega)), h k (by omega)]

theorem psum_congr (f g : Nat → Bool) (n : Nat) (h : ∀ i, i < n → f i = g i) : psum f n = psum g n := by
  induction n with
  | zero => rfl
  | succ n ih => show P _ _ = P _ _; rw [ih (fun i hi => h i (by omega)), h n (by omega)]

theorem sum_take (l : List UInt8) (k : Nat) (hk : k ≤ l.length) : sumList (l.take k) = psum (bitAt l) (8 * k) := by
  induction k with
  | zero => simp [sumList, psum]
  | succ k ih =>
    have hlt : k < l.length := by omega
    rw [List.take_succ_eq_append_getElem hlt]
    unfold sumList at *
    rw [List.foldl_append, ih (by omega)]
    show byteStep _ _ = psum _ (8 * k + 8)
    rw [byteStep_pbits, pbits_psum (bitAt l) (byteBit (l[k]).toNat) (8 * k) 8]
    intro i hi
    unfold bitAt byteBit
    rw [show (8 * k + i) / 8 = k from by omega, show (8 * k + i) % 8 = i from by omega]
    simp [List.getD_eq_getElem?_getD, hlt]

theorem bitAt_out (l : List UInt8) (i : Nat) (h : 8 * l.length ≤ i) : bitAt l i = false := by
  unfold bitAt
  rw [List.getD_eq_getElem?_getD, List.getElem?_eq_none (by omega)]
  simp

/-- THE LAW: both ways come to the same. -/
theorem law (l : List UInt8) : ref (bitAt l) (8 * l.length + 16) = sumList l := by
  rw [ref_psum _ _ (fun i hi => bitAt_out l i hi), ← sum_take l l.length (Nat.le_refl _), List.take_length]

theorem sumList_snoc (l : List UInt8) (c : UInt8) : sumList (l ++ [c]) = byteStep (sumList l) c := by
  unfold sumList; rw [List.foldl_append]; rfl

end Go.Proofs.Ytamhfhodhjoapaa.Crc

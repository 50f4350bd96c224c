/-
  Memory words for the walk of JournalBursts.
-/
import Derived.Test.YtamhfhodhjoapaaBurstWalk
import Derived.Laws.Rows
import Derived.Deep.Draws
namespace Go.Proofs.Ytamhfhodhjoapaa
open Go.RowKit

def Blk (w : World) (g : Nat) (t : TypeId) (cs : Array Value) : Prop := w.heap[g]? = some (.cells cs t (0, 0))

section
variable {w w' : World} {g : Nat} {t : TypeId} {cs : Array Value}
theorem Blk.lt (h : Blk w g t cs) : g < w.heap.size := by
  rcases Nat.lt_or_ge g w.heap.size with hlt | hge
  · exact hlt
  · unfold Blk at h; rw [Array.getElem?_eq_none hge] at h; cases h
theorem Blk.cell (h : Blk w g t cs) (i : Nat) : w.cell? ⟨g, i, none⟩ = cs[i]? := cell_of_row w g i cs t (0, 0) h
theorem Blk.frozen (h : Blk w g t cs) (i : Nat) : w.frozen? ⟨g, i, none⟩ = false := by
  unfold Blk at h
  simp [World.frozen?, h]
theorem Blk.new (w : World) (t : TypeId) (cs : Array Value) : Blk (w.alloc (.cells cs t)) w.heap.size t cs := heap_alloc_new w _
theorem Blk.drew (h : Blk w g t cs) : Blk w.drew g t cs := h
theorem Blk.drewN (h : Blk w g t cs) (n : Nat) : Blk (w.drewN n) g t cs := h
theorem Blk.alloc (h : Blk w g t cs) (o : Obj) : Blk (w.alloc o) g t cs := (Below.heap_alloc w o g h.lt).trans h
theorem Blk.set_ (h : Blk w g t cs) (i : Nat) (u : Value) : Blk (w.setCell ⟨g, i, none⟩ u) g t (cs.setIfInBounds i u) := by
  unfold Blk at h ⊢
  simp [World.setCell, Array.getElem?_modify, h]
theorem Blk.far (h : Blk w g t cs) {p : Addr} (hp : g ≠ p.block) (u : Value) : Blk (w.setCell p u) g t cs := (Below.heap_setCell w p u g hp).trans h
end

theorem nine_any (w : World) : Calls Try.prog 5 #[.string ⟨#[49, 50, 51, 52, 53, 54, 55, 56, 57]⟩] w fun e w' => e = .returned (.int .u16 10673) ∧ w' = w := by
  have h := sum_any ⟨#[49, 50, 51, 52, 53, 54, 55, 56, 57]⟩ w (by decide)
  rw [show Crc.sumList (ByteArray.mk #[49, 50, 51, 52, 53, 54, 55, 56, 57]).data.toList = 10673#16 from Crc.nine] at h
  exact h

theorem Try.info5 : (Try.prog.info? 5).map (fun i => (i.zero, i.size, i.bytes)) = some (some (.int .u8 0), 1, 1) := by kernel_rfl

theorem made_bytes (n : Nat) (hn : n ≤ 140737488351232) (W : World) :
    (Instr.makeSlice 27 (.int .i64 (n : Int)) (.int .i64 (n : Int))).run Try.prog W = .ok (.slice (some ⟨W.heap.size, 0, none⟩) n n) (W.alloc (.cells (madeCells #[.int .u8 0] n) 5)) := by
  obtain ⟨i0, hi, hz0, hz1, hz2⟩ := info_parts Try.info5
  have h := run_make W 27 5 i0 (.int .u8 0) Try.underlying27 hi hz0 .i64 .i64 (n : Int) (n : Int) (by omega) (Int.le_refl _) (by rw [hz2]; omega) (by omega)
  rw [hz1] at h
  simpa [Value.cells] using h

/-- so far filled: the first k bytes of t, then noughts. -/
def filled (t : List UInt8) (n k : Nat) : Array Value := ((t.take k).map (fun b : UInt8 => Value.int .u8 (b.toNat : Int)) ++ List.replicate (n - k) (Value.int .u8 0)).toArray

theorem filled_none (t : List UInt8) (n : Nat) : filled t n 0 = madeCells #[.int .u8 0] n := by
  unfold filled madeCells
  apply Array.ext
  · simp
  · intro i h1 h2
    simp [Nat.mod_one]

theorem filled_at (t : List UInt8) (n k : Nat) (hk : k < n) (ht : t.length = n) : (filled t n k)[k]? = some (.int .u8 0) := by
  unfold filled
  have hl : ((t.take k).map (fun b : UInt8 => Value.int .u8 (b.toNat : Int))).length = k := by
    rw [List.length_map, List.length_take]; omega
  rw [List.getElem?_toArray, List.getElem?_append_right (by omega), hl, Nat.sub_self, List.getElem?_replicate, if_pos (by omega)]

theorem filled_set (t : List UInt8) (n k : Nat) (hk : k < n) (ht : t.length = n) : (filled t n k).setIfInBounds k (.int .u8 (t[k].toNat : Int)) = filled t n (k + 1) := by
  unfold filled
  have hl : ((t.take k).map (fun b : UInt8 => Value.int .u8 (b.toNat : Int))).length = k := by
    rw [List.length_map, List.length_take]; omega
  have e : n - k = n - (k + 1) + 1 := by omega
  rw [List.setIfInBounds_toArray, List.set_append_right _ _ (by omega), hl, Nat.sub_self, e, List.replicate_succ, List.set_cons_zero, List.take_succ_eq_append_getElem (by omega), List.map_append]
  simp

/-- three bytes taken together. -/
theorem bits_three (b c d : UInt8) : bits .xor .u8 (bits .xor .u8 (b.toNat : Int) (c.toNat : Int)) (d.toNat : Int) = ((b ^^^ c ^^^ d).toNat : Int) := by
  have h2 : ∀ b c : UInt8, bits .xor .u8 (b.toNat : Int) (c.toNat : Int) = ((b ^^^ c).toNat : Int) := by
    intro b c
    have hb := UInt8.toNat_lt b
    have hc := UInt8.toNat_lt c
    have hx := UInt8.toNat_lt (b ^^^ c)
    show IntKind.u8.wrap ((BitVec.ofInt 8 (b.toNat : Int) ^^^ BitVec.ofInt 8 (c.toNat : Int)).toNat : Int) = _
    rw [UInt8.toNat_xor] at hx ⊢
    rw [BitVec.toNat_xor]
    have e : ∀ x : Nat, x < 256 → (BitVec.ofInt 8 (x : Int)).toNat = x := by intro x hx; simp; omega
    rw [e _ hb, e _ hc]
    simp [IntKind.wrap, IntKind.bits, IntKind.signed]; omega
  rw [h2, h2]

/-- the first n bytes of the three, taken together. -/
def tog (B C D : ByteArray) (n : Nat) : List UInt8 := Crc.three (B.data.toList.take n) (C.data.toList.take n) (D.data.toList.take n)

theorem tog_length (B C D : ByteArray) (n : Nat) (h1 : n ≤ B.size) (h2 : n ≤ C.size) (h3 : n ≤ D.size) : (tog B C D n).length = n := by
  have e1 : B.data.toList.length = B.size := rfl
  have e2 : C.data.toList.length = C.size := rfl
  have e3 : D.data.toList.length = D.size := rfl
  unfold tog Crc.three
  simp only [List.length_zipWith, List.length_take]
  omega

theorem tog_at (B C D : ByteArray) (n k : Nat) (h1 : n ≤ B.size) (h2 : n ≤ C.size) (h3 : n ≤ D.size) (hk : k < n) :
    (tog B C D n)[k]'(by rw [tog_length B C D n h1 h2 h3]; exact hk) = B[k] ^^^ C[k] ^^^ D[k] := by
  unfold tog Crc.three
  simp only [List.getElem_zipWith, List.getElem_take]
  rfl

theorem two_new (w : World) (ob : Obj) (t : TypeId) (cs : Array Value) : Blk ((w.alloc ob).alloc (.cells cs t)).drew (w.heap.size + 1) t cs := by
  have h := Blk.new (w.alloc ob) t cs
  rw [show (w.alloc ob).heap.size = w.heap.size + 1 from by simp] at h
  exact h

/-- the sum of a text, as the walk holds it. -/
def sumOf (X : ByteArray) : Int := ((Crc.sumList X.data.toList).toNat : Int)

theorem sumOf_any (X : ByteArray) (W : World) (h : X.size ≤ 140737488351232) : Calls Try.prog 5 #[.string X] W fun e w' => e = .returned (.int .u16 (sumOf X)) ∧ w' = W := sum_any X W h

theorem sumOf_cut (X : ByteArray) (k : Nat) : sumOf (X.extract 0 k) = ((Crc.sumList (X.data.toList.take k)).toNat : Int) := by
  unfold sumOf
  rw [show (X.extract 0 k).data.toList = X.data.toList.take k from by simp [ByteArray.data_extract]]

theorem cap_ge (W : World) (n : Nat) (e : TypeId) (hn : n ≤ 140737488351232) : n ≤ grownCap W n 0 e ∧ grownCap W n 0 e ≤ 9223372036854775807 := by
  unfold grownCap Question.cut
  generalize W.tape W.drawn (.appendCap n 0 e) = t
  have := Nat.mod_lt t (show 2 ^ 63 - n > 0 by omega)
  simp only
  omega

theorem bytesRow_at (s : ByteArray) (cap j : Nat) (hj : j < s.size) : (bytesRow s cap)[j]? = some (.int .u8 (s[j].toNat : Int)) := by
  unfold bytesRow
  rw [Array.getElem?_append_left (by simpa using hj), Array.getElem?_map]
  rw [show s.data[j]? = some s[j] from Array.getElem?_eq_getElem hj]
  rfl

theorem bytesRow_size (s : ByteArray) (cap : Nat) (h : s.size ≤ cap) : (bytesRow s cap).size = cap := by
  have : s.data.size = s.size := rfl
  unfold bytesRow
  simp; omega

theorem new_cell (W : World) (C : Array Value) (e : TypeId) (f : Nat × Nat) (j : Nat) : (W.drew.alloc (.cells C e f)).cell? ⟨W.heap.size, j, none⟩ = C[j]? := by
  have : (W.drew.alloc (.cells C e f)).heap[W.heap.size]? = some (.cells C e f) := by
    show (W.heap.push _)[W.heap.size]? = _
    simp
  unfold World.cell?
  rw [this]
  simp

theorem new_free (W : World) (C : Array Value) (e : TypeId) (n : Nat) (j : Nat) (h : j < n) : (W.drew.alloc (.cells C e (n, n + 1))).frozen? ⟨W.heap.size, j, none⟩ = false := by
  have : (W.drew.alloc (.cells C e (n, n + 1))).heap[W.heap.size]? = some (.cells C e (n, n + 1)) := by
    show (W.heap.push _)[W.heap.size]? = _
    simp
  unfold World.frozen?
  rw [this]
  simp
  omega

/-- a block holds the bytes. -/
def Held (W : World) (G : Nat) (ys : List UInt8) : Prop := ∀ j (hj : j < ys.length), W.cell? ⟨G, j, none⟩ = some (.int .u8 (ys[j].toNat : Int))
def Open (W : World) (G k : Nat) : Prop := ∀ j, j < k → W.frozen? ⟨G, j, none⟩ = false

theorem Held.set_ {W : World} {G : Nat} {ys : List UInt8} (h : Held W G ys) (m : Nat) (v : UInt8) : Held (W.setCell ⟨G, m, none⟩ (.int .u8 (v.toNat : Int))) G (ys.set m v) := by
  intro j hj
  rw [List.length_set] at hj
  by_cases e : m = j
  · subst e
    rw [List.getElem_set_self]
    exact World.cell?_setCell_same W ⟨G, m, none⟩ _ (h m hj)
  · rw [List.getElem_set_ne e, World.cell?_setCell_other W ⟨G, m, none⟩ ⟨G, j, none⟩ _ (by simp)]
    exact h j hj
theorem Open.set_ {W : World} {G k : Nat} (h : Open W G k) (p : Addr) (v : Value) : Open (W.setCell p v) G k := by
  intro j hj
  rw [World.frozen?_setCell]; exact h j hj

abbrev argCells (B C D : ByteArray) (at_ o t : Int) : Array Value := #[.string B, .string C, .string D, .int .i64 at_, .int .u8 o, .int .u8 t]

theorem bits_xor8 (b c : UInt8) : bits .xor .u8 (b.toNat : Int) (c.toNat : Int) = ((b ^^^ c).toNat : Int) := by
  have hb := UInt8.toNat_lt b
  have hc := UInt8.toNat_lt c
  have hx := UInt8.toNat_lt (b ^^^ c)
  show IntKind.u8.wrap ((BitVec.ofInt 8 (b.toNat : Int) ^^^ BitVec.ofInt 8 (c.toNat : Int)).toNat : Int) = _
  rw [UInt8.toNat_xor] at hx ⊢
  rw [BitVec.toNat_xor]
  have e : ∀ x : Nat, x < 256 → (BitVec.ofInt 8 (x : Int)).toNat = x := by intro x hx; simp; omega
  rw [e _ hb, e _ hc]
  simp [IntKind.wrap, IntKind.bits, IntKind.signed]; omega

end Go.Proofs.Ytamhfhodhjoapaa

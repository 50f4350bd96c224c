/-
  Memory words: cells that lie in a row ('rangeAt'), what a call leaves as it was ('Below'), a list that is read ('Rd'). No walk.
-/
import Derived.WalkKit
import Derived.Below
import Derived.Deep.MidRow
import Derived.Laws.MakeOwn
import Derived.Laws.OwnMore
import Derived.Maps.AppendAt
import Derived.Deep.Draws
namespace Go.Proofs.YtgjdgincebchhaaGreatDoor
open Go Go.RowKit

theorem Below.setCells_ {B b : Nat} (hb : B ≤ b) : ∀ (vs : List Value) {o : Nat} {w w' : World}, Below B w w' → Below B w (w'.setCells b o vs)
  | [], _, _, _, h => h
  | _ :: vs, _, _, _, h => Below.setCells_ hb vs (h.setCell (by exact hb) _)

theorem below_drewN {B : Nat} {a w : World} (h : Below B a w) (n : Nat) : Below B a (w.drewN n) := h.trans ⟨rfl, rfl, rfl, Nat.le_refl _, fun _ _ => rfl⟩
theorem rangeAt_below {w w' : World} {b o : Nat} {cs : List Value} {B : Nat} (h : w.rangeAt b o cs) (hb : Below B w w') (hlt : b < B) : w'.rangeAt b o cs := fun j v hj => by
  rw [World.cell?_of_block (w := w) (hb.block b hlt)]
  exact h j v hj
theorem there_below {w w' : World} {b o n : Nat} {B : Nat} (h : w.there b o n) (hb : Below B w w') (hlt : b < B) : w'.there b o n := fun j hj => by
  rw [World.cell?_of_block (w := w) (hb.block b hlt), World.frozen?_of_block (w := w) (hb.block b hlt)]
  exact h j hj
theorem rangeAt_part {w : World} {b o : Nat} {cs : List Value} (h : w.rangeAt b o cs) (k m : Nat) : w.rangeAt b (o + k) ((cs.drop k).take m) := fun j v hj => by
  rw [List.getElem?_take] at hj
  split at hj
  · rw [List.getElem?_drop] at hj
    rw [Nat.add_assoc]
    exact h _ _ hj
  · cases hj
theorem rangeAt_left {w : World} {b o : Nat} {xs ys : List Value} (h : w.rangeAt b o (xs ++ ys)) : w.rangeAt b o xs := fun j v hj => h j v (by rw [List.getElem?_append_left (List.getElem?_eq_some_iff.1 hj).1]; exact hj)
theorem rangeAt_right {w : World} {b o : Nat} {xs ys : List Value} (h : w.rangeAt b o (xs ++ ys)) : w.rangeAt b (o + xs.length) ys := fun j v hj => by
  rw [Nat.add_assoc]
  exact h _ _ (by rw [List.getElem?_append_right (by omega), Nat.add_sub_cancel_left]; exact hj)
theorem rangeAt_append {w : World} {b o : Nat} {xs ys : List Value} (h : w.rangeAt b o xs) (k : w.rangeAt b (o + xs.length) ys) : w.rangeAt b o (xs ++ ys) := fun j v hj => by
  rw [List.getElem?_append] at hj
  split at hj
  · exact h _ _ hj
  · have := k _ _ hj
    rw [Nat.add_assoc, show xs.length + (j - xs.length) = j by omega] at this
    exact this
theorem there_part {w : World} {b o n : Nat} (h : w.there b o n) (k m : Nat) (hm : k + m ≤ n) : w.there b (o + k) m := fun j hj => by
  rw [Nat.add_assoc]
  exact h _ (by omega)
/-- a store into the middle. -/
theorem rangeAt_put {w : World} {b o k : Nat} {xs vs : List Value} (h : w.rangeAt b o xs) (hk : o + xs.length = k) (ht : w.there b k vs.length) : (w.setCells b k vs).rangeAt b o (xs ++ vs) := by
  subst hk
  exact rangeAt_append (World.rangeAt_setCells_apart h _ _ _ (.inr (.inl (Nat.le_refl _)))) (World.rangeAt_setCells_same _ _ _ _ ht)

theorem setCells_size (b : Nat) : ∀ (vs : List Value) (o : Nat) (w : World), (w.setCells b o vs).heap.size = w.heap.size
  | [], _, _ => rfl
  | _ :: vs, o, w => by
    rw [World.setCells, setCells_size b vs]
    simp [World.setCell]

/-- A list that is read: its cells lie in a row. -/
def Rd (w : World) (A : Option Addr) (xs : List Value) : Prop := xs ≠ [] → ∃ b o, A = some ⟨b, o, none⟩ ∧ b < w.heap.size ∧ w.rangeAt b o xs
theorem Rd.below {w w' : World} {A : Option Addr} {xs : List Value} {B : Nat} (h : Rd w A xs) (hb : Below B w w') (hB : w.heap.size ≤ B) : Rd w' A xs := fun hne => by
  obtain ⟨b, o, e, hlt, hr⟩ := h hne
  exact ⟨b, o, e, Nat.lt_of_lt_of_le hlt hb.size, rangeAt_below hr hb (by omega)⟩

/-- fresh cells. -/
theorem new_there (w : World) (C : Array Value) (t : TypeId) (n : Nat) (hn : C.size = n) : (w.alloc (.cells C t)).there w.heap.size 0 n := fun j hj => by
  have h := heap_alloc_new w (.cells C t)
  constructor
  · rw [cell_of_row _ _ _ _ _ _ h]
    simp [Nat.zero_add, Array.getElem?_eq_getElem (show j < C.size by omega)]
  · unfold World.frozen?
    simp only [h]
    simp
theorem new_range (w : World) (cs : List Value) (t : TypeId) : (w.alloc (.cells cs.toArray t)).rangeAt w.heap.size 0 cs := fun j v hj => by
  rw [Nat.zero_add, cell_of_row _ _ _ _ _ _ (heap_alloc_new w _), List.getElem?_toArray]
  exact hj
theorem new_below (w : World) (o : Obj) : Below w.heap.size w (w.alloc o) := (Below.refl _ _).alloc (Nat.le_refl _) o

/-- so many cells, cut into elements of c. -/
theorem row_part {c n : Nat} {xs : List Value} (hl : xs.length = n * c) (j : Nat) (hj : j < n) : ((xs.drop (j * c)).take c).length = c := by
  rw [List.length_take, List.length_drop, hl]
  have : (j + 1) * c ≤ n * c := Nat.mul_le_mul_right _ hj
  rw [Nat.add_mul] at this
  omega
theorem row_step (xs : List Value) (c j : Nat) : xs.take (j * c) ++ (xs.drop (j * c)).take c = xs.take ((j + 1) * c) := by
  rw [Nat.add_mul, Nat.one_mul, List.take_add]

theorem flat_length {c : Nat} : ∀ {rows : List (List Value)}, (∀ r ∈ rows, r.length = c) → rows.flatten.length = rows.length * c
  | [], _ => by simp
  | r :: rows, h => by
    rw [List.flatten_cons, List.length_append, h r List.mem_cons_self, flat_length (fun r hr => h r (List.mem_cons_of_mem _ hr)), List.length_cons, Nat.add_mul]
    omega
theorem flat_part {c : Nat} : ∀ {rows : List (List Value)}, (∀ r ∈ rows, r.length = c) → ∀ j (hj : j < rows.length), (rows.flatten.drop (j * c)).take c = rows[j]
  | r :: rows, h, 0, _ => by
    rw [Nat.zero_mul, List.drop_zero, List.flatten_cons, List.take_append_of_le_length (by rw [h r List.mem_cons_self]; omega), List.take_of_length_le (by rw [h r List.mem_cons_self]; omega)]
    rfl
  | r :: rows, h, j + 1, hj => by
    have hr := h r List.mem_cons_self
    rw [List.flatten_cons, Nat.add_mul, Nat.one_mul, Nat.add_comm (j * c) c, List.drop_append, List.drop_of_length_le (by omega), List.nil_append, hr, Nat.add_sub_cancel_left,
      flat_part (fun r hr => h r (List.mem_cons_of_mem _ hr)) j (by simpa using hj)]
    rfl

theorem setCells_far (b : Nat) : ∀ (vs : List Value) (o : Nat) (w : World) (k : Nat), k ≠ b → (w.setCells b o vs).heap[k]? = w.heap[k]?
  | [], _, _, _, _ => rfl
  | _ :: vs, o, w, k, h => by
    rw [World.setCells, setCells_far b vs _ _ k h]
    exact Below.heap_setCell _ _ _ _ h

/-- what is known of a copied thing's cells: of blocks at lo and above. -/
abbrev Tp := Nat → World → List Value → Prop
structure TpOk (T : Tp) : Prop where
  keep : ∀ {lo : Nat} {W W' : World} {r : List Value}, T lo W r → (∀ k, lo ≤ k → k < W.heap.size → W'.heap[k]? = W.heap[k]?) → W.heap.size ≤ W'.heap.size → T lo W' r
  low : ∀ {lo lo' : Nat} {W : World} {r : List Value}, lo' ≤ lo → T lo W r → T lo' W r
theorem TpOk.below {T : Tp} (h : TpOk T) {lo : Nat} {W W' : World} {r : List Value} (ht : T lo W r) (hb : Below W.heap.size W W') : T lo W' r := h.keep ht (fun k _ hk => hb.block k hk) hb.size
theorem TpOk.set_ {T : Tp} (h : TpOk T) {g o : Nat} {W : World} {r : List Value} (ht : T (g + 1) W r) (vs : List Value) : T (g + 1) (W.setCells g o vs) r :=
  h.keep ht (fun k hk _ => setCells_far g vs o W k (by omega)) (by rw [setCells_size]; exact Nat.le_refl _)
theorem snoc_at {rs : List (List Value)} {r' : List Value} {i : Nat} {r : List Value} (h : (rs ++ [r'])[i]? = some r) : rs[i]? = some r ∨ (i = rs.length ∧ r = r') := by
  rw [List.getElem?_append] at h
  split at h
  · exact .inl h
  · rename_i hge
    by_cases e : i = rs.length
    · subst e
      simp at h
      exact .inr ⟨rfl, h.symm⟩
    · rw [List.getElem?_eq_none (by simp; omega)] at h
      cases h

theorem list4 {l : List Value} (h : l.length = 4) : ∃ x0 x1 x2 x3, l = [x0, x1, x2, x3] := by
  match l, h with
  | [x0, x1, x2, x3], _ => exact ⟨x0, x1, x2, x3, rfl⟩
theorem list6 {l : List Value} (h : l.length = 6) : ∃ x0 x1 x2 x3 x4 x5, l = [x0, x1, x2, x3, x4, x5] := by
  match l, h with
  | [x0, x1, x2, x3, x4, x5], _ => exact ⟨x0, x1, x2, x3, x4, x5, rfl⟩
theorem list16 {l : List Value} (h : l.length = 16) : ∃ x0 x1 x2 x3 x4 x5 x6 x7 x8 x9 x10 x11 x12 x13 x14 x15, l = [x0, x1, x2, x3, x4, x5, x6, x7, x8, x9, x10, x11, x12, x13, x14, x15] := by
  match l, h with
  | [x0, x1, x2, x3, x4, x5, x6, x7, x8, x9, x10, x11, x12, x13, x14, x15], _ => exact ⟨x0, x1, x2, x3, x4, x5, x6, x7, x8, x9, x10, x11, x12, x13, x14, x15, rfl⟩

theorem make_eq {P : Program} {S E : TypeId} {z : Value} {size bytes : Nat} (hu : P.underlying S = some (.slice E)) (hinfo : (P.info? E).map (fun i => (i.zero, i.size, i.bytes)) = some (some z, size, bytes)) (n : Nat) (hb : (n + 1) * bytes ≤ 281474976710656) (h63 : n + 1 ≤ 9223372036854775807) (W : World) :
    (Instr.makeSlice S (.int .i64 ((n : Int) + 1)) (.int .i64 ((n : Int) + 1))).run P W = .ok (.slice (some ⟨W.heap.size, 0, none⟩) (n + 1) (n + 1)) (W.alloc (.cells (madeCells z.cells ((n + 1) * size)) E)) := by
  obtain ⟨i0, hi, hz0, hz1, hz2⟩ := info_parts hinfo
  have hr := run_make (P := P) W S E i0 z hu hi hz0 .i64 .i64 ((n : Int) + 1) ((n : Int) + 1) (by omega) (Int.le_refl _) (by
    rw [hz2]
    have : ((bytes : Int) * ((n : Int) + 1)) = (((n + 1) * bytes : Nat) : Int) := by rw [Nat.mul_comm]; push_cast; rfl
    rw [this]
    omega) (by omega)
  rw [hz1] at hr
  have e : ((n : Int) + 1).toNat = n + 1 := by omega
  rw [e] at hr
  exact hr

end Go.Proofs.YtgjdgincebchhaaGreatDoor

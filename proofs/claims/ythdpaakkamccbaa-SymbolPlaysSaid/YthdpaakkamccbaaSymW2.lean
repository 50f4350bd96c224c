/-
  Walks: New, Len, Find, Value of a table that is there.
-/
import Derived.Test.YthdpaakkamccbaaSymW1
namespace Go.Proofs.Ythdpaakkamccbaa
open Go.RowKit Go.Maps

/-- the number of a value among those that are there, 0 if it is none. -/
def numOf (vs : List Val) (v : Val) : Nat := if v ∈ vs then vs.idxOf v else 0


theorem idx_lt {vs : List Val} {v : Val} (h : v ∈ vs) : vs.idxOf v < vs.length := List.idxOf_lt_length_of_mem h
theorem idx_at {vs : List Val} {v : Val} (h : v ∈ vs) : vs[vs.idxOf v]'(idx_lt h) = v := List.getElem_idxOf _

/-- what the look-up answers. -/
theorem look_at {w : World} {tb most : Nat} {vs : List Val} {mb : Nat} {A : Option Addr} {cap : Nat} {D : DataW Unit} (h : TabAt w tb most vs mb A cap D) (v : Val) (hv : v.wf) :
    (Instr.lookup 75 (.map (some mb)) v.agg true).run Try.prog w = .ok (.tuple #[.int .i32 (numOf vs v : Int), .bool (decide (v ∈ vs))]) w := by
  obtain ⟨x, ps, hrun, hx⟩ := h.own.look_ok law Try.underlying75 (zero_Sym w) (plainElem_int Try.underlying30 (by decide)) (key_some v hv)
  rw [h.nums.has v hv] at hrun
  by_cases hm : v ∈ vs
  · have hat := h.nums.at_ _ (idx_lt hm)
    rw [idx_at hm] at hat
    rw [hat] at hx
    obtain ⟨c, rfl, e, _⟩ := plainElem_int_inv Try.underlying30 hx
    simp only [Prod.mk.injEq] at e
    have e1 : (vs.idxOf v : Int) = c := by have := e.1; injection this with this; injection this
    rw [hrun]
    unfold numOf
    rw [if_pos hm, e1]
  · have hat : D.atKey v.lit (.lit (.int .i32 0)) = .lit (.int .i32 0) := atKey_of_not_has (by rw [h.nums.has v hv]; simp [hm]) _
    rw [hat] at hx
    obtain ⟨c, rfl, e, _⟩ := plainElem_int_inv Try.underlying30 hx
    simp only [Prod.mk.injEq] at e
    have e1 : (0 : Int) = c := by have := e.1; injection this with this; injection this
    rw [hrun]
    unfold numOf
    rw [if_neg hm, ← e1]
    rfl

set_option maxHeartbeats 400000 in
theorem new_yes (m : Nat) (w : World) (hm : m ≤ 2147483647) :
    Calls Try.prog 22 #[.int .i64 (m : Int)] w fun e w' => ∃ tb S, e = .returned (.tuple #[.pointer (some ⟨tb, 0, none⟩), .int .i64 0]) ∧ Tab w' tb m [] S ∧ (∀ k ∈ S, w.heap.size ≤ k) ∧ Below w.heap.size w w' := by
  have hmm := @run_makeMap Try.prog
  have h0 : (0 : Int) ≤ (m : Int) := by omega
  have hd : decide ((m : Int) < 0) = false := by simp
  go_enter Try.func22, Try.ntmps22
  go_wp2
  go_ret2
  go_light
  refine ⟨w.heap.size + 1, footOf (w.heap.size + 1) w.heap.size none, rfl, ⟨w.heap.size, none, 0, .map [], ⟨?_, ?_, Nums.none_, RowV.nil_ _, by simp, by simp, by simp, by simp, hm⟩, rfl⟩, by simp [footOf, blkOf], ?_⟩
  · have := Blk.new (w.alloc (.map #[] 0)) 77 #[.int .i64 (m : Int), .map (some w.heap.size), .slice none 0 0]
    rw [show (w.alloc (.map #[] 0)).heap.size = w.heap.size + 1 from by simp] at this
    exact this
  · exact ((World.ownsMap_made w _ _ _).alloc _)
  · exact ((Below.refl _ _).alloc (Nat.le_refl _) _).alloc (by simp) _

theorem new_no (m : Int) (w : World) (hm : m < 0 ∨ 2147483647 < m) :
    Calls Try.prog 22 #[.int .i64 m] w fun e w' => e = .returned (.tuple #[.pointer none, .int .i64 1]) ∧ w' = w := by
  rcases hm with hm | hm
  · have hd : decide (m < 0) = true := by simp [hm]
    go_enter Try.func22, Try.ntmps22
    go_wp2
    go_ret2
    exact ⟨rfl, rfl⟩
  · have hd : decide (m < 0) = false := by simp; omega
    go_enter Try.func22, Try.ntmps22
    go_wp2
    go_ret2
    exact ⟨rfl, rfl⟩

theorem len_any {w : World} {tb most : Nat} {vs : List Val} {S : List Nat} (h : Tab w tb most vs S) :
    Calls Try.prog 13 #[.pointer (some ⟨tb, 0, none⟩)] w fun e w' => e = .returned (.int .i64 (vs.length : Int)) ∧ w' = w := by
  obtain ⟨mb, A, cap, D, ht, rfl⟩ := h
  have c2 : w.cell? ⟨tb, 2, none⟩ = some (.slice A vs.length cap) := ht.blk.cell 2
  have hth := Lib.hid (there_any tb _ mb _ w ht.blk)
  clear ht
  go_enter Try.func13, Try.ntmps13
  go_wp2_with (go_at_call 29; refine hth.out.mono ?_; rintro e w' ⟨rfl, rfl⟩)
  go_ret
  exact ⟨rfl, rfl⟩

set_option maxHeartbeats 400000 in
theorem find_any {w : World} {tb most : Nat} {vs : List Val} {S : List Nat} (h : Tab w tb most vs S) (v : Val) (hv : v.wf) :
    Calls Try.prog 14 #[.pointer (some ⟨tb, 0, none⟩), v.agg] w fun e w' => e = .returned (.tuple #[.int .i32 (numOf vs v : Int), .bool (decide (v ∈ vs))]) ∧ Below w.heap.size w w' := by
  obtain ⟨mb, A, cap, D, ht, rfl⟩ := h
  have hk : ∀ o, TabAt (w.alloc o) tb most vs mb A cap D := fun o => ht.same fun k hk => Below.heap_alloc w o k (ht.lt k hk)
  have ho : ∀ o, Calls Try.prog 29 #[.pointer (some ⟨tb, 0, none⟩)] (w.alloc o) fun e w' => e = .returned (.bool true) ∧ w' = w.alloc o := fun o => there_any tb _ mb _ _ (hk o).blk
  have Ho := Lib.hid ho
  have c1 : w.cell? ⟨tb, 1, none⟩ = some (.map (some mb)) := ht.blk.cell 1
  have ltb : tb < w.heap.size := ht.blk.lt
  have hl : ∀ o n, (Instr.lookup 75 (.map (some mb)) v.agg true).run Try.prog ((w.alloc o).drewN n) = .ok (.tuple #[.int .i32 (numOf vs v : Int), .bool (decide (v ∈ vs))]) ((w.alloc o).drewN n) :=
    fun o n => look_at ((hk o).same (w' := (w.alloc o).drewN n) fun k _ => rfl) v hv
  clear ho ht hk
  generalize (numOf vs v : Int) = q at hl ⊢
  generalize decide (v ∈ vs) = bq at hl ⊢
  obtain ⟨vk, vn, s⟩ := v
  simp only [Val.agg] at hl ⊢
  go_enter Try.func14, Try.ntmps14
  go_wp2_with (go_at_call 29; refine (Ho.out _).mono ?_; rintro e w' ⟨rfl, rfl⟩)
  go_quiet (fail)
  go_wp2
  go_ret2
  exact ⟨rfl, ((Below.refl _ _).alloc (Nat.le_refl _) _).trans ⟨rfl, rfl, rfl, Nat.le_refl _, fun _ _ => rfl⟩⟩

end Go.Proofs.Ythdpaakkamccbaa

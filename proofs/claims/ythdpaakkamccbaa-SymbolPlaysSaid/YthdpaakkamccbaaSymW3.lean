/-
  Walks: Value, Add, Cut of a table that is there.
-/
import Derived.Test.YthdpaakkamccbaaSymW2
namespace Go.Proofs.Ythdpaakkamccbaa
open Go.RowKit Go.Maps

def Val.zero : Val := ⟨0, 0, ⟨#[]⟩⟩

theorem new_three (w : World) (a b c : Value) (t : TypeId) : (w.alloc (.cells #[a, b, c] t)).cell? ⟨w.heap.size, 0, none⟩ = some a ∧ (w.alloc (.cells #[a, b, c] t)).cell? ⟨w.heap.size, 1, none⟩ = some b ∧ (w.alloc (.cells #[a, b, c] t)).cell? ⟨w.heap.size, 2, none⟩ = some c := by
  have := Blk.new w t #[a, b, c]
  exact ⟨this.cell 0, this.cell 1, this.cell 2⟩

set_option maxHeartbeats 400000 in
theorem value_yes {w : World} {tb most : Nat} {vs : List Val} {S : List Nat} (h : Tab w tb most vs S) (i : Nat) (hi : i < vs.length) :
    Calls Try.prog 15 #[.pointer (some ⟨tb, 0, none⟩), .int .i32 (i : Int)] w fun e w' => e = .returned (.tuple #[(vs[i]).agg, .int .i64 0]) ∧ Below w.heap.size w w' := by
  obtain ⟨mb, A, cap, D, ht, rfl⟩ := h
  rcases ht.row.form with ⟨_, _, rfl⟩ | ⟨g, rfl, hg, hlc, hcm⟩
  · simp at hi
  have hk : ∀ o, TabAt (w.alloc o) tb most vs mb (some ⟨g, 0, none⟩) cap D := fun o => ht.same fun k hk => Below.heap_alloc w o k (ht.lt k hk)
  have ho : ∀ o, Calls Try.prog 29 #[.pointer (some ⟨tb, 0, none⟩)] (w.alloc o) fun e w' => e = .returned (.bool true) ∧ w' = w.alloc o := fun o => there_any tb _ mb _ _ (hk o).blk
  have Ho := Lib.hid ho
  have c2 : w.cell? ⟨tb, 2, none⟩ = some (.slice (some ⟨g, 0, none⟩) vs.length cap) := ht.blk.cell 2
  have ltb : tb < w.heap.size := ht.blk.lt
  obtain ⟨d0, d1, d2⟩ := ht.row.three i hi
  have hmost : vs.length ≤ 2147483647 := Nat.le_trans ht.le ht.most
  have hd : decide ((i : Int) < 0) = false := by simp
  clear ho ht hk
  obtain ⟨n, hn⟩ : ∃ n, vs.length = n := ⟨_, rfl⟩
  rw [hn] at c2 hi hmost hlc
  obtain ⟨v, hv⟩ : ∃ v, vs[i]'(by omega) = v := ⟨_, rfl⟩
  simp only [hv] at d0 d1 d2 ⊢
  clear hn hv
  obtain ⟨vk, vn, s⟩ := v
  simp only [Val.agg] at d0 d1 d2 ⊢
  go_enter Try.func15, Try.ntmps15
  go_wp2_with (go_at_call 29; refine (Ho.out _).mono ?_; rintro e w' ⟨rfl, rfl⟩)
  refine bodyPost_ret (v := .tuple #[.agg #[.int .i8 vk, .int .i64 vn, .string s], .int .i64 0]) (by simp [results, Try.results15, go_sem]) rfl ⟨rfl, ?_⟩
  repeat (first | exact Below.refl _ _ | refine Below.setCell ?_ (by simp) _ | refine Below.alloc ?_ (by simp) _)

set_option maxHeartbeats 400000 in
theorem value_no {w : World} {tb most : Nat} {vs : List Val} {S : List Nat} (h : Tab w tb most vs S) (i : Int) (hi : i < 0 ∨ vs.length ≤ i) (hi2 : i ≤ 2147483647) :
    Calls Try.prog 15 #[.pointer (some ⟨tb, 0, none⟩), .int .i32 i] w fun e w' => e = .returned (.tuple #[Val.zero.agg, .int .i64 21]) ∧ Below w.heap.size w w' := by
  obtain ⟨mb, A, cap, D, ht, rfl⟩ := h
  have hk : ∀ o, TabAt (w.alloc o) tb most vs mb A cap D := fun o => ht.same fun k hk => Below.heap_alloc w o k (ht.lt k hk)
  have ho : ∀ o, Calls Try.prog 29 #[.pointer (some ⟨tb, 0, none⟩)] (w.alloc o) fun e w' => e = .returned (.bool true) ∧ w' = w.alloc o := fun o => there_any tb _ mb _ _ (hk o).blk
  have Ho := Lib.hid ho
  have c2 : w.cell? ⟨tb, 2, none⟩ = some (.slice A vs.length cap) := ht.blk.cell 2
  have ltb : tb < w.heap.size := ht.blk.lt
  have hmost : vs.length ≤ 2147483647 := Nat.le_trans ht.le ht.most
  clear ho ht hk
  simp only [Val.zero, Val.agg]
  generalize vs.length = n at c2 hi hmost
  rcases hi with hi | hi
  · have hd : decide (i < 0) = true := by simp [hi]
    go_enter Try.func15, Try.ntmps15
    go_wp2_with (go_at_call 29; refine (Ho.out _).mono ?_; rintro e w' ⟨rfl, rfl⟩)
    refine bodyPost_ret (v := .tuple #[.agg #[.int .i8 0, .int .i64 0, .string ⟨#[]⟩], .int .i64 21]) (by simp [results, Try.results15, go_sem]) rfl ⟨rfl, ?_⟩
    repeat (first | exact Below.refl _ _ | refine Below.setCell ?_ (by simp) _ | refine Below.alloc ?_ (by simp) _)
  · have hd : decide (i < 0) = false := by simp; omega
    have hw := IntWalk.i64_in i ⟨by omega, by omega⟩
    go_enter Try.func15, Try.ntmps15
    go_wp2_with (go_at_call 29; refine (Ho.out _).mono ?_; rintro e w' ⟨rfl, rfl⟩)
    refine bodyPost_ret (v := .tuple #[.agg #[.int .i8 0, .int .i64 0, .string ⟨#[]⟩], .int .i64 21]) (by simp [results, Try.results15, go_sem]) rfl ⟨rfl, ?_⟩
    repeat (first | exact Below.refl _ _ | refine Below.setCell ?_ (by simp) _ | refine Below.alloc ?_ (by simp) _)

/-- the world of a table with one value more. -/
theorem TabAt.added {w w1 w2 : World} {tb most : Nat} {vs : List Val} {mb : Nat} {A A' : Option Addr} {cap cap' : Nat} {D : DataW Unit} (h : TabAt w tb most vs mb A cap D) (v : Val) (hv : v.wf) (hok : v.ok = true) (hn : v ∉ vs) (hlt : vs.length < most)
    (hblk : Blk w2 tb 77 #[.int .i64 most, .map (some mb), .slice A' (vs.length + 1) cap']) (hown : w1.ownsMap Try.prog 36 (plainElem Try.prog 30) mb (vs.length + 1) (D.put v.lit (.lit (.int .i32 (vs.length : Int)))))
    (hsame : w2.heap[mb]? = w1.heap[mb]?) (hrow : w2.ownsRow 0 36 3 (.slice A' (vs.length + 1) cap') (vs.length + 1) (vcells vs ++ v.cells)) : TabAt w2 tb most (vs ++ [v]) mb A' cap' (D.put v.lit (.lit (.int .i32 (vs.length : Int)))) := by
  have el : (vs ++ [v]).length = vs.length + 1 := by simp
  refine ⟨by rw [el]; exact hblk, by rw [el]; exact ownsMap_same hown hsame, h.nums.put h.wf v hv hn, ?_, ?_, ?_, ?_, by rw [el]; omega, h.most⟩
  · unfold RowV
    rw [el, vcells_append]
    simpa [vcells] using hrow
  · intro u hu
    rcases List.mem_append.1 hu with hu | hu
    · exact h.wf u hu
    · rw [List.mem_singleton.1 hu]; exact hv
  · intro u hu
    rcases List.mem_append.1 hu with hu | hu
    · exact h.ok u hu
    · rw [List.mem_singleton.1 hu]; exact hok
  · exact List.nodup_append.2 ⟨h.nodup, by simp, fun a ha b hb e => by rw [List.mem_singleton] at hb; subst hb; subst e; exact hn ha⟩

end Go.Proofs.Ythdpaakkamccbaa

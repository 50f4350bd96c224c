/-
  Walks of the functions on a table that is not there: the program's (a nil pointer, a zero struct) and the document's (a nil pointer).
-/
import Derived.Test.YthdpaakkamccbaaSymRef4
namespace Go.Proofs.Ythdpaakkamccbaa
open Go.RowKit Go.Maps

/-- a table that New has not made. -/
def NoT (w : World) (tv : Value) : Prop := tv = .pointer none ∨ ∃ tb, tv = .pointer (some ⟨tb, 0, none⟩) ∧ Blk w tb 77 #[.int .i64 0, .map none, .slice none 0 0]
theorem NoT.below {w w' : World} {tv : Value} (h : NoT w tv) (hb : Below w.heap.size w w') : NoT w' tv := by
  rcases h with h | ⟨tb, h, hk⟩
  · exact .inl h
  · exact .inr ⟨tb, h, hk.same (hb.block _ hk.lt)⟩
theorem no_there {w : World} {tv : Value} (h : NoT w tv) : Calls Try.prog 29 #[tv] w fun e w' => e = .returned (.bool false) ∧ w' = w := by
  rcases h with rfl | ⟨tb, rfl, hk⟩
  · exact there_nil w
  · exact there_zero tb _ _ w hk

theorem no_add {w : World} {tv : Value} (h : NoT w tv) (v : Val) :
    Calls Try.prog 16 #[tv, v.agg] w fun e w' => e = .returned (.tuple #[.int .i32 0, .int .i64 2]) ∧ Below w.heap.size w w' := by
  have Hth := Lib.hid (fun W (hb : Below w.heap.size w W) => no_there (h.below hb))
  clear h
  obtain ⟨vk, vn, s⟩ := v
  simp only [Val.agg]
  go_enter Try.func16, Try.ntmps16
  go_wp2_with (go_at_call 29; refine (Hth.out _ (tup_new w _ _).1).mono ?_; rintro e w1 ⟨rfl, hw1⟩; have hB1 : Below w.heap.size w w1 := by rw [hw1]; exact (tup_new w _ _).1
               clear hw1)
  go_ret2
  exact ⟨rfl, hB1⟩
theorem no_find {w : World} {tv : Value} (h : NoT w tv) (v : Val) :
    Calls Try.prog 14 #[tv, v.agg] w fun e w' => e = .returned (.tuple #[.int .i32 0, .bool false]) ∧ Below w.heap.size w w' := by
  have Hth := Lib.hid (fun W (hb : Below w.heap.size w W) => no_there (h.below hb))
  clear h
  obtain ⟨vk, vn, s⟩ := v
  simp only [Val.agg]
  go_enter Try.func14, Try.ntmps14
  go_wp2_with (go_at_call 29; refine (Hth.out _ (tup_new w _ _).1).mono ?_; rintro e w1 ⟨rfl, hw1⟩; have hB1 : Below w.heap.size w w1 := by rw [hw1]; exact (tup_new w _ _).1
               clear hw1)
  go_ret2
  exact ⟨rfl, hB1⟩
theorem no_value {w : World} {tv : Value} (h : NoT w tv) (i : Int) :
    Calls Try.prog 15 #[tv, .int .i32 i] w fun e w' => e = .returned (.tuple #[Val.zero.agg, .int .i64 2]) ∧ Below w.heap.size w w' := by
  have Hth := Lib.hid (fun o => no_there (h.below ((Below.refl _ _).alloc (Nat.le_refl _) o)))
  clear h
  simp only [Val.zero, Val.agg]
  go_enter Try.func15, Try.ntmps15
  go_wp2_with (go_at_call 29; refine (Hth.out _).mono ?_; rintro e w' ⟨rfl, rfl⟩)
  refine bodyPost_ret (v := .tuple #[.agg #[.int .i8 0, .int .i64 0, .string ⟨#[]⟩], .int .i64 2]) (by simp [results, Try.results15, go_sem]) rfl ⟨rfl, ?_⟩
  repeat (first | exact Below.refl _ _ | refine Below.setCell ?_ (by simp) _ | refine Below.alloc ?_ (by simp) _)
theorem no_len {w : World} {tv : Value} (h : NoT w tv) :
    Calls Try.prog 13 #[tv] w fun e w' => e = .returned (.int .i64 0) ∧ w' = w := by
  have Hth := Lib.hid (no_there h)
  clear h
  go_enter Try.func13, Try.ntmps13
  go_wp2_with (go_at_call 29; refine Hth.out.mono ?_; rintro e w' ⟨rfl, rfl⟩)
  go_ret
  exact ⟨rfl, rfl⟩
theorem no_cut {w : World} {tv : Value} (h : NoT w tv) (n : Int) :
    Calls Try.prog 12 #[tv, .int .i64 n] w fun e w' => e = .returned (.int .i64 2) ∧ w' = w := by
  have Hth := Lib.hid (no_there h)
  clear h
  go_enter Try.func12, Try.ntmps12
  go_wp2_with (go_at_call 29; refine Hth.out.mono ?_; rintro e w' ⟨rfl, rfl⟩)
  go_ret
  exact ⟨rfl, rfl⟩
set_option maxHeartbeats 1000000 in
theorem no_row {w : World} {tv : Value} (h : NoT w tv) (A : Option Addr) (n cap : Nat) :
    Calls Try.prog 17 #[tv, .slice A n cap] w fun e w' => e = .returned (.tuple #[.agg (rowOf []), .int .i64 2]) ∧ Below w.heap.size w w' := by
  obtain ⟨p, rfl⟩ : ∃ p, tv = .pointer p := by rcases h with rfl | ⟨tb, rfl, _⟩ <;> exact ⟨_, rfl⟩
  have Hth := Lib.hid (fun W (hb : Below w.heap.size w W) => no_there (h.below hb))
  clear h
  go_enter_defers Try.func17, Try.ntmps17
  go_wp2_with (first
    | (go_at_call 29; refine (Hth.out _ (three_new w _ _ _ _ _ _).1).mono ?_; rintro e w1 ⟨rfl, hw1⟩
       have h3 : Below w.heap.size w w1 ∧ Blk w1 w.heap.size 25 #[.pointer p] ∧ Blk w1 (w.heap.size + 1) 43 (rowOf []) ∧ Blk w1 (w.heap.size + 2) 27 #[.int .i64 0] ∧ w1.heap.size = w.heap.size + 3 := by
         rw [hw1]; exact three_new w _ _ _ _ _ _
       clear hw1
       obtain ⟨hB1, b2, b4, b5, hs1⟩ := h3
       have hsf : w1.setRow (w.heap.size + 1) (rowOf []) = w1 := setRow_self _ _ _ _ _ b4
       have c5 : w1.cell? ⟨w.heap.size + 1 + 1, 0, none⟩ = some (.int .i64 0) := b5.cell 0
       have f5 : w1.frozen? ⟨w.heap.size + 1 + 1, 0, none⟩ = false := b5.frozen 0)
    | (refine at_load 43 _ rfl ?_; refine wpList_load_row rfl 43 _ rfl (w.heap.size + 1) rfl 43 (rowOf []) (0, 0) _ b4 Try.underlying43 rfl (rowOf_info [] (by simp)) ?_)
    | (refine at_store 43 _ _ rfl ?_; refine wpList_store_row rfl 43 _ _ rfl (w.heap.size + 1) (rowOf []) rfl rfl 43 (rowOf []) b4 (rowOf_info [] (by simp)) rfl (rowOf_one []) ?_; rw [hsf]))
  have b5 := b5.set_ 0 (.int .i64 2)
  have b4 := b4.far (p := ⟨w.heap.size + 2, 0, none⟩) (by simp) (.int .i64 2)
  exact ⟨_, row_results _ _ _ _ _ 2 rfl rfl b4 (rowOf_info [] (by simp)) b5, rfl, hB1.setCell (p := ⟨w.heap.size + 2, 0, none⟩) (show w.heap.size ≤ w.heap.size + 2 by omega) _⟩
set_option maxHeartbeats 1000000 in
theorem no_seek {w : World} {tv : Value} (h : NoT w tv) (A : Option Addr) (n cap : Nat) :
    Calls Try.prog 21 #[tv, .slice A n cap] w fun e w' => e = .returned (.tuple #[.agg (rowOf []), .bool false]) ∧ Below w.heap.size w w' := by
  have Hth := Lib.hid (fun W (hb : Below w.heap.size w W) => no_there (h.below hb))
  clear h
  go_enter Try.func21, Try.ntmps21
  go_wp2_with (first
    | (go_at_call 29; refine (Hth.out _ (two_new w _ _ _ _).1).mono ?_; rintro e w1 ⟨rfl, hw1⟩
       have h3 : Below w.heap.size w w1 ∧ Blk w1 w.heap.size 43 (rowOf []) ∧ Blk w1 (w.heap.size + 1) 43 (rowOf []) ∧ w1.heap.size = w.heap.size + 2 := by
         rw [hw1]; exact two_new w _ _ _ _
       clear hw1
       obtain ⟨hB1, b4, b6, hs1⟩ := h3
       have hsf : w1.setRow w.heap.size (rowOf []) = w1 := setRow_self _ _ _ _ _ b4)
    | (refine at_store 43 _ _ rfl ?_; refine wpList_store_row rfl 43 _ _ rfl w.heap.size (rowOf []) rfl rfl 43 (rowOf []) b4 (rowOf_info [] (by simp)) rfl (rowOf_one []) ?_; rw [hsf]))
  refine bodyPost_ret (seek_results _ _ _ _ false rfl rfl b4 (rowOf_info [] (by simp))) rfl ⟨rfl, hB1⟩
theorem no_tuple {w : World} {tv : Value} (h : NoT w tv) (rs : List Int) (n : Int) :
    Calls Try.prog 18 #[tv, .agg (rowI rs), .int .i64 n] w fun e w' => e = .returned (.tuple #[.slice none 0 0, .int .i64 2]) ∧ Below w.heap.size w w' := by
  have Hth := Lib.hid (fun W (hb : Below w.heap.size w W) => no_there (h.below hb))
  clear h
  go_enter Try.func18, Try.ntmps18
  go_wp2_with (go_at_call 29; refine (Hth.out _ (tup_new w _ _).1).mono ?_; rintro e w1 ⟨rfl, hw1⟩; have hB1 : Below w.heap.size w w1 := by rw [hw1]; exact (tup_new w _ _).1
               clear hw1)
  go_ret2
  exact ⟨rfl, hB1⟩

/-! ### the document's, a nil pointer -/
theorem nil_add (v : Val) (w : World) :
    Calls Try.prog 35 #[.pointer none, v.agg] w fun e w' => e = .returned (.tuple #[.int .i32 0, .int .i64 2]) ∧ Below w.heap.size w w' := by
  have Hth := Lib.hid ref_there_nil
  obtain ⟨vk, vn, s⟩ := v
  simp only [Val.agg]
  go_enter Try.func35, Try.ntmps35
  go_wp2_with (go_at_call 40; refine (Hth.out _).mono ?_; rintro e w1 ⟨rfl, hw1⟩; have hB1 : Below w.heap.size w w1 := by rw [hw1]; exact (tup_new w _ _).1
               clear hw1)
  go_ret2
  exact ⟨rfl, hB1⟩
theorem nil_find (v : Val) (w : World) :
    Calls Try.prog 36 #[.pointer none, v.agg] w fun e w' => e = .returned (.tuple #[.int .i32 0, .bool false]) ∧ Below w.heap.size w w' := by
  have Hth := Lib.hid ref_there_nil
  obtain ⟨vk, vn, s⟩ := v
  simp only [Val.agg]
  go_enter Try.func36, Try.ntmps36
  go_wp2_with (go_at_call 40; refine (Hth.out _).mono ?_; rintro e w1 ⟨rfl, hw1⟩; have hB1 : Below w.heap.size w w1 := by rw [hw1]; exact (tup_new w _ _).1
               clear hw1)
  go_ret2
  exact ⟨rfl, hB1⟩
theorem nil_value (i : Int) (w : World) :
    Calls Try.prog 37 #[.pointer none, .int .i32 i] w fun e w' => e = .returned (.tuple #[Val.zero.agg, .int .i64 2]) ∧ Below w.heap.size w w' := by
  have Hth := Lib.hid ref_there_nil
  simp only [Val.zero, Val.agg]
  go_enter Try.func37, Try.ntmps37
  go_wp2_with (go_at_call 40; refine (Hth.out _).mono ?_; rintro e w' ⟨rfl, rfl⟩)
  refine bodyPost_ret (v := .tuple #[.agg #[.int .i8 0, .int .i64 0, .string ⟨#[]⟩], .int .i64 2]) (by simp [results, Try.results37, go_sem]) rfl ⟨rfl, ?_⟩
  repeat (first | exact Below.refl _ _ | refine Below.setCell ?_ (by simp) _ | refine Below.alloc ?_ (by simp) _)
theorem nil_len (w : World) :
    Calls Try.prog 25 #[.pointer none] w fun e w' => e = .returned (.int .i64 0) ∧ w' = w := by
  have Hth := Lib.hid ref_there_nil
  go_enter Try.func25, Try.ntmps25
  go_wp2_with (go_at_call 40; refine (Hth.out _).mono ?_; rintro e w' ⟨rfl, rfl⟩)
  go_ret
  exact ⟨rfl, rfl⟩
theorem nil_cut (n : Int) (w : World) :
    Calls Try.prog 47 #[.pointer none, .int .i64 n] w fun e w' => e = .returned (.int .i64 2) ∧ w' = w := by
  have Hth := Lib.hid ref_there_nil
  go_enter Try.func47, Try.ntmps47
  go_wp2_with (go_at_call 40; refine (Hth.out _).mono ?_; rintro e w' ⟨rfl, rfl⟩)
  go_ret
  exact ⟨rfl, rfl⟩
set_option maxHeartbeats 1000000 in
theorem nil_row (A : Option Addr) (n cap : Nat) (w : World) :
    Calls Try.prog 48 #[.pointer none, .slice A n cap] w fun e w' => e = .returned (.tuple #[.agg (rowOf []), .int .i64 2]) ∧ Below w.heap.size w w' := by
  have Hth := Lib.hid ref_there_nil
  go_enter Try.func48, Try.ntmps48
  go_wp2_with (first
    | (go_at_call 40; refine (Hth.out _).mono ?_; rintro e w1 ⟨rfl, hw1⟩
       have h3 : Below w.heap.size w w1 ∧ Blk w1 w.heap.size 43 (rowOf []) ∧ w1.heap.size = w.heap.size + 1 := by rw [hw1]; exact row_one w
       clear hw1
       obtain ⟨hB1, b4, hs1⟩ := h3
       have hsf : w1.setRow w.heap.size (rowOf []) = w1 := setRow_self _ _ _ _ _ b4)
    | (refine at_store 43 _ _ rfl ?_; refine wpList_store_row rfl 43 _ _ rfl w.heap.size (rowOf []) rfl rfl 43 (rowOf []) b4 (rowOf_info [] (by simp)) rfl (rowOf_one []) ?_; rw [hsf]))
  refine bodyPost_ret (ref_row_results _ _ _ _ 2 rfl rfl b4 (rowOf_info [] (by simp))) rfl ⟨rfl, hB1⟩
set_option maxHeartbeats 1000000 in
theorem nil_seek (A : Option Addr) (n cap : Nat) (w : World) :
    Calls Try.prog 50 #[.pointer none, .slice A n cap] w fun e w' => e = .returned (.tuple #[.agg (rowOf []), .bool false]) ∧ Below w.heap.size w w' := by
  have Hth := Lib.hid ref_there_nil
  go_enter Try.func50, Try.ntmps50
  go_wp2_with (first
    | (go_at_call 40; refine (Hth.out _).mono ?_; rintro e w1 ⟨rfl, hw1⟩
       have h3 : Below w.heap.size w w1 ∧ Blk w1 w.heap.size 43 (rowOf []) ∧ w1.heap.size = w.heap.size + 1 := by rw [hw1]; exact row_one w
       clear hw1
       obtain ⟨hB1, b4, hs1⟩ := h3
       have hsf : w1.setRow w.heap.size (rowOf []) = w1 := setRow_self _ _ _ _ _ b4)
    | (refine at_store 43 _ _ rfl ?_; refine wpList_store_row rfl 43 _ _ rfl w.heap.size (rowOf []) rfl rfl 43 (rowOf []) b4 (rowOf_info [] (by simp)) rfl (rowOf_one []) ?_; rw [hsf]))
  refine bodyPost_ret (ref_seek_results _ _ _ _ false rfl rfl b4 (rowOf_info [] (by simp))) rfl ⟨rfl, hB1⟩
theorem nil_tuple (rs : List Int) (n : Int) (w : World) :
    Calls Try.prog 43 #[.pointer none, .agg (rowI rs), .int .i64 n] w fun e w' => e = .returned (.tuple #[.slice none 0 0, .int .i64 2]) ∧ Below w.heap.size w w' := by
  have Hth := Lib.hid ref_there_nil
  go_enter Try.func43, Try.ntmps43
  go_wp2_with (go_at_call 40; refine (Hth.out _).mono ?_; rintro e w1 ⟨rfl, hw1⟩; have hB1 : Below w.heap.size w w1 := by rw [hw1]; exact (tup_new w _ _).1
               clear hw1)
  go_ret2
  exact ⟨rfl, hB1⟩
theorem nil_all (w : World) :
    Calls Try.prog 28 #[.pointer none] w fun e w' => e = .returned (.slice none 0 0) ∧ w' = w := by
  have Hl := Lib.hid nil_len
  go_enter Try.func28, Try.ntmps28
  go_wp2
  go_loopg [3, 4] 0 (fun gk l i wx => gk = 0 ∧ l = .slice none 0 0 ∧ i = .int .i64 0 ∧ wx = w)
  case atStart => exact ⟨rfl, rfl, rfl, rfl⟩
  case round =>
    obtain ⟨rfl, rfl, rfl, rfl⟩ := hrel
    go_wp2_with (go_at_call 25; refine (Hl.out _).mono ?_; rintro e w' ⟨rfl, rfl⟩)
    go_ret
    exact ⟨rfl, rfl⟩

/-- an iterator: the program's All of a table. -/
theorem all_any (tv : Value) (w : World) (h1 : tv.oneCell' = true) :
    Calls Try.prog 27 #[tv] w fun e w' => e = .returned (.func (.func 41) #[] #[.pointer (some ⟨w.heap.size, 0, none⟩)]) ∧ w' = w.alloc (.cells #[tv] 25) := by
  have hmf : ∀ (fn : Fn) (first cap : Array Value) (w : World), (Instr.makeFunc fn first cap).run Try.prog w = .ok (.func fn first cap) w := fun _ _ _ _ => rfl
  go_enter Try.func27, Try.ntmps27
  go_wp2
  go_ret
  exact ⟨rfl, rfl⟩

end Go.Proofs.Ythdpaakkamccbaa

/-
  Walks: a world that is not there (a nil pointer, a zero struct), under each call.
-/
import Derived.Test.YtgjdgincebchhaaGreatDoorMarks
import Derived.Test.YtgjdgincebchhaaGreatDoorOrd
import Derived.Deep.QuietTactic
import Derived.BigQuiet
namespace Go.Proofs.YtgjdgincebchhaaGreatDoor
open Go Go.RowKit Ev

/-- a nil pointer, or a zero struct. -/
def NoW (w : World) (v : Value) : Prop := v = .pointer none ∨ ∃ b : Nat, v = .pointer (some ⟨b, 0, none⟩) ∧ b < w.heap.size ∧ w.cell? ⟨b, 1, none⟩ = some (.map none)
theorem NoW.below {w W : World} {v : Value} (h : NoW w v) (hb : Below w.heap.size w W) : NoW W v := by
  rcases h with h | ⟨b, h1, h2, h3⟩
  · exact .inl h
  · exact .inr ⟨b, h1, Nat.lt_of_lt_of_le h2 hb.size, (World.cell?_of_block (w := w) (hb.block b h2)).trans h3⟩

set_option maxRecDepth 100000 in
theorem there_no (w : World) (v : Value) (h : NoW w v) : Calls Tryz.prog 21 #[v] w fun e w' => e = .returned (.bool false) ∧ Below w.heap.size w w' := by
  rcases h with rfl | ⟨b, rfl, hb, c0⟩
  · exact reckoned (args := [.pointer none]) (by kernel_rfl) rfl rfl w
  · have hz : ∀ W : World, (binOp .neq 40 (.map none) (.map none)).run Tryz.prog W = .ok (.bool false) W := fun W => by kernel_rfl
    go_enter Tryz.func21, Tryz.ntmps21
    go_wp2
    go_returns
    exact ⟨rfl, Below.refl _ _⟩

theorem add_no (w : World) (v : Value) (p : ByteArray) (A : Option Addr) (n cap : Nat) (h : NoW w v) : Calls Tryz.prog 8 #[v, .agg #[.string p, .slice A n cap]] w fun e w' => e = .returned (.tuple #[.bool false, .int .i64 2]) ∧ Below w.heap.size w w' := by
  have H := Lib.hid (h.below (new_below w (.cells #[.string p, .slice A n cap] 24)))
  clear h
  go_enter Tryz.func8, Tryz.ntmps8
  go_wp2_with (go_at_call 21; refine (there_no _ _ H.out).mono ?_; rintro e W1 ⟨rfl, hb1⟩)
  go_returns
  exact ⟨rfl, (new_below w _).trans (hb1.mono (by simp))⟩

theorem has_no (w : World) (v : Value) (p : ByteArray) (A : Option Addr) (n cap : Nat) (h : NoW w v) : Calls Tryz.prog 11 #[v, .agg #[.string p, .slice A n cap]] w fun e w' => e = .returned (.bool false) ∧ Below w.heap.size w w' := by
  have H := Lib.hid (h.below (new_below w (.cells #[.string p, .slice A n cap] 24)))
  clear h
  go_enter Tryz.func11, Tryz.ntmps11
  go_wp2_with (go_at_call 21; refine (there_no _ _ H.out).mono ?_; rintro e W1 ⟨rfl, hb1⟩)
  go_returns
  exact ⟨rfl, (new_below w _).trans (hb1.mono (by simp))⟩

theorem size_no (w : World) (v : Value) (p : ByteArray) (h : NoW w v) : Calls Tryz.prog 13 #[v, .string p] w fun e w' => e = .returned (.int .i64 0) ∧ Below w.heap.size w w' := by
  have H := Lib.hid h
  clear h
  go_enter Tryz.func13, Tryz.ntmps13
  go_wp2_with (go_at_call 21; refine (there_no _ _ H.out).mono ?_; rintro e W1 ⟨rfl, hb1⟩)
  go_returns
  exact ⟨rfl, hb1⟩

set_option maxRecDepth 10000 in
theorem facts_no (w : World) (v : Value) (h : NoW w v) : Calls Tryz.prog 5 #[v] w fun e w' => e = .returned (.slice none 0 0) ∧ Below w.heap.size w w' := by
  obtain ⟨p, rfl⟩ : ∃ p, v = .pointer p := by rcases h with rfl | ⟨b, rfl, _⟩ <;> exact ⟨_, rfl⟩
  have H := Lib.hid (h.below (new_below w (.cells #[.pointer p] 35)))
  clear h
  go_enter Tryz.func5, Tryz.ntmps5
  go_wp2_with (go_at_call 21; refine (there_no _ _ H.out).mono ?_; rintro e W1 ⟨rfl, hb1⟩)
  go_returns
  exact ⟨rfl, (new_below w _).trans (hb1.mono (by simp))⟩

set_option maxRecDepth 10000 in
theorem run_no (w : World) (v : Value) (p : ByteArray) (A0 A1 A2 : Option Addr) (n0 n1 n2 c0 c1 c2 : Nat) (x y : Value) (h : NoW w v) :
    Calls Tryz.prog 29 #[v, .agg #[.string p, .slice A0 n0 c0, .slice A1 n1 c1, .slice A2 n2 c2], x, y] w fun e w' => e = .returned (.tuple #[.slice none 0 0, .int .i64 2]) ∧ Below w.heap.size w w' := by
  have H := Lib.hid (h.below (new_below w (.cells #[.string p, .slice A0 n0 c0, .slice A1 n1 c1, .slice A2 n2 c2] 31)))
  clear h
  go_enter Tryz.func29, Tryz.ntmps29
  go_wp2_with (go_at_call 21; refine (there_no _ _ H.out).mono ?_; rintro e W1 ⟨rfl, hb1⟩)
  go_returns
  exact ⟨rfl, (new_below w _).trans (hb1.mono (by simp))⟩

/-! ### the document's: nil -/
theorem rthere_nil (w : World) : Calls Tryz.prog 18 #[.pointer none] w fun e w' => e = .returned (.bool false) ∧ Below w.heap.size w w' := reckoned (args := [.pointer none]) (by kernel_rfl) rfl rfl w
theorem rfacts_nil (w : World) : Calls Tryz.prog 16 #[.pointer none] w fun e w' => e = .returned (.slice none 0 0) ∧ Below w.heap.size w w' := reckoned (args := [.pointer none]) (by kernel_rfl) rfl rfl w
theorem sameFacts_nil (w : World) : Calls Tryz.prog 15 #[.slice none 0 0, .slice none 0 0] w fun e w' => e = .returned (.bool true) ∧ Below w.heap.size w w' := reckoned (args := [.slice none 0 0, .slice none 0 0]) (by kernel_rfl) rfl rfl w

theorem radd_nil (w : World) (p : ByteArray) (A : Option Addr) (n cap : Nat) : Calls Tryz.prog 9 #[.pointer none, .agg #[.string p, .slice A n cap]] w fun e w' => e = .returned (.tuple #[.bool false, .int .i64 2]) ∧ Below w.heap.size w w' := by
  go_enter Tryz.func9, Tryz.ntmps9
  go_wp2_with (go_at_call 18; refine (rthere_nil _).mono ?_; rintro e W1 ⟨rfl, hb1⟩)
  go_returns
  exact ⟨rfl, (new_below w _).trans (hb1.mono (by simp))⟩

set_option maxRecDepth 100000 in
theorem rhas_nil (w : World) (p : ByteArray) (A : Option Addr) (n cap : Nat) : Calls Tryz.prog 12 #[.pointer none, .agg #[.string p, .slice A n cap]] w fun e w' => e = .returned (.bool false) ∧ Below w.heap.size w w' := by
  have HW0 := Lib.hid (show Below w.heap.size w (w.alloc (.cells #[.string p, .slice A n cap] 24)).drew from (new_below w _).drew)
  go_enter Tryz.func12, Tryz.ntmps12
  go_upto_region 1 with fail
  refine wp_region_ord [(0, false), (1, true), (2, false), (3, false), (4, false), (5, false), (6, false), (7, false), (8, true), (9, false), (10, false)] (fun _ : World => True) (by kernel_rfl) (by kernel_rfl) rfl (by kernel_rfl) trivial ?_
  simp only [pickH, List.filterMap_cons, List.filterMap_nil, List.getElem?_toArray, List.getElem?_cons_succ, List.getElem?_cons_zero, Option.map_some]
  repeat (first
    | (apply ord_skip; (case hw => rfl); simp only [Act.put, List.setIfInBounds_toArray, List.set_cons_zero, List.set_cons_succ])
    | (apply ord_pass; (case hw => rfl); simp only [Act.put, List.setIfInBounds_toArray, List.set_cons_zero, List.set_cons_succ])
    | (apply ord_take; (case hw => rfl); (case hy => (intro wx hSw; go_simp; try exact rfl)); simp only [Act.put, List.setIfInBounds_toArray, List.set_cons_zero, List.set_cons_succ])
    | fail)
  refine ord_call (by rfl) (fun K hK => ?_)
  go_simp
  refine (rthere_nil _).mono ?_
  rintro e W1 ⟨rfl, hb1⟩
  have hB1 : Below w.heap.size w W1 := HW0.out.trans (hb1.mono (by simp))
  refine hK.out _ _ trivial ?_
  clear hK K
  try simp only [Act.put, List.setIfInBounds_toArray, List.set_cons_zero, List.set_cons_succ]
  repeat (first
    | (apply ord_skip; (case hw => rfl); simp only [Act.put, List.setIfInBounds_toArray, List.set_cons_zero, List.set_cons_succ])
    | (apply ord_pass; (case hw => rfl); simp only [Act.put, List.setIfInBounds_toArray, List.set_cons_zero, List.set_cons_succ])
    | (apply ord_take; (case hw => rfl); (case hy => (intro wx hSw; go_simp; try exact rfl)); simp only [Act.put, List.setIfInBounds_toArray, List.set_cons_zero, List.set_cons_succ])
    | fail)
  refine ord_nil ?_
  go_wp2
  go_returns
  exact ⟨rfl, hB1⟩

theorem rof_nil (w : World) (p : ByteArray) : Calls Tryz.prog 40 #[.pointer none, .string p] w fun e w' => e = .returned (.slice none 0 0) ∧ Below w.heap.size w w' := by
  go_enter Tryz.func40, Tryz.ntmps40
  go_wp2_with (go_at_call 18; refine (rthere_nil _).mono ?_; rintro e W1 ⟨rfl, hb1⟩)
  go_returns
  exact ⟨rfl, hb1⟩

theorem rsize_nil (w : World) (p : ByteArray) : Calls Tryz.prog 14 #[.pointer none, .string p] w fun e w' => e = .returned (.int .i64 0) ∧ Below w.heap.size w w' := by
  go_enter Tryz.func14, Tryz.ntmps14
  go_wp2_with (go_at_call 40; refine (rof_nil _ _).mono ?_; rintro e W1 ⟨rfl, hb1⟩)
  go_returns
  exact ⟨rfl, hb1⟩

set_option maxRecDepth 10000 in
theorem rrun_nil (w : World) (p : ByteArray) (A0 A1 A2 : Option Addr) (n0 n1 n2 c0 c1 c2 : Nat) (x y : Value) :
    Calls Tryz.prog 44 #[.pointer none, .agg #[.string p, .slice A0 n0 c0, .slice A1 n1 c1, .slice A2 n2 c2], x, y] w fun e w' => e = .returned (.tuple #[.slice none 0 0, .int .i64 2]) ∧ Below w.heap.size w w' := by
  go_enter Tryz.func44, Tryz.ntmps44
  go_wp2_with (go_at_call 18; refine (rthere_nil _).mono ?_; rintro e W1 ⟨rfl, hb1⟩)
  go_returns
  exact ⟨rfl, (new_below w _).trans (hb1.mono (by simp))⟩

end Go.Proofs.YtgjdgincebchhaaGreatDoor

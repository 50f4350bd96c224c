/-
  Walks: does, of the calls with lists and of the calls through the table (each by the callee's contract).
-/
import Derived.Test.YthdpaakkamccbaaSymDoes2
namespace Go.Proofs.Ythdpaakkamccbaa
open Go.RowKit Go.Maps

theorem op_info (on kind n m : Int) (v : Val) (L : Value) (rs : List Int) (h : rs.length = 24) : (Try.prog.info? 68).map (·.size) = some (opC on kind n m v L rs).size := by
  rw [opC_size, h]; kernel_rfl

set_option maxRecDepth 100000 in
set_option maxHeartbeats 2000000 in
theorem does_rows {w : World} {bb bo : Nat} (on kind n m : Int) (hk : kind = 4 ∨ kind = 5 ∨ kind = 6) (v : Val) (L : Value) (rs : List Int) (hrl : rs.length = 24) (Q : World → Prop)
    (hrows : ∀ W1, Below w.heap.size w W1 → Calls Try.prog 38 #[.pointer (some ⟨bb, bo, none⟩), .agg (opC on kind n m v L rs)] W1 fun e w' => e = .returned (.bool true) ∧ Q w') :
    Calls Try.prog 24 #[.pointer (some ⟨bb, bo, none⟩), .agg (opC on kind n m v L rs)] w fun e w' => e = .returned (.bool true) ∧ Q w' := by
  obtain ⟨o0, o1, o2, o3, o4, o5, o6, o7⟩ := opC_at on kind n m v L rs
  have hinfo := op_info on kind n m v L rs hrl
  obtain ⟨O, hO⟩ : ∃ O, opC on kind n m v L rs = O := ⟨_, rfl⟩
  rw [hO] at o0 o1 o2 o3 o4 o5 o6 o7 hrows hinfo ⊢
  have Hrows := Lib.hid hrows
  have Ho1 := Lib.hid o1
  clear hrows o0 o1 o2 o3 o4 o5 o6 o7 hO hrl
  rcases hk with rfl | rfl | rfl
  all_goals
    go_enter Try.func24, Try.ntmps24
    go_upto_region 1 with fail
    have h3 := tup_new w O 68
    generalize w.alloc (.cells O 68) = W1 at h3 ⊢
    obtain ⟨hb1, hop, hs1⟩ := h3
    have c1 := (hop.cell 1).trans Ho1.out
    clear hs1
    go_wp2_with (first
      | (refine at_load 68 _ rfl ?_; refine wpList_load_row rfl 68 _ rfl w.heap.size rfl 68 O (0, 0) _ hop Try.underlying68 rfl hinfo ?_)
      | (go_at_call 38; refine (Hrows.out W1 hb1).mono ?_; rintro e W2 ⟨rfl, hQ⟩))
    go_ret
    exact ⟨rfl, hQ⟩

set_option maxRecDepth 100000 in
set_option maxHeartbeats 2000000 in
theorem does_asks {w : World} {bb bo : Nat} (on kind n m : Int) (hk : ¬ (kind = 1 ∨ kind = 2 ∨ kind = 3 ∨ kind = 4 ∨ kind = 5 ∨ kind = 6)) (v : Val) (L : Value) (rs : List Int) (hrl : rs.length = 24) (Q : World → Prop)
    (hasks : ∀ W1, Below w.heap.size w W1 → Calls Try.prog 39 #[.pointer (some ⟨bb, bo, none⟩), .agg (opC on kind n m v L rs)] W1 fun e w' => e = .returned (.bool true) ∧ Q w') :
    Calls Try.prog 24 #[.pointer (some ⟨bb, bo, none⟩), .agg (opC on kind n m v L rs)] w fun e w' => e = .returned (.bool true) ∧ Q w' := by
  obtain ⟨o0, o1, o2, o3, o4, o5, o6, o7⟩ := opC_at on kind n m v L rs
  have hinfo := op_info on kind n m v L rs hrl
  obtain ⟨O, hO⟩ : ∃ O, opC on kind n m v L rs = O := ⟨_, rfl⟩
  rw [hO] at o0 o1 o2 o3 o4 o5 o6 o7 hasks hinfo ⊢
  have Hasks := Lib.hid hasks
  have Ho1 := Lib.hid o1
  have k1 : (kind == 1) = false := by simp; omega
  have k2 : (kind == 2) = false := by simp; omega
  have k3 : (kind == 3) = false := by simp; omega
  have k4 : (kind == 4) = false := by simp; omega
  have k5 : (kind == 5) = false := by simp; omega
  have k6 : (kind == 6) = false := by simp; omega
  clear hasks o0 o1 o2 o3 o4 o5 o6 o7 hO hrl hk
  go_enter Try.func24, Try.ntmps24
  go_upto_region 1 with fail
  have h3 := tup_new w O 68
  generalize w.alloc (.cells O 68) = W1 at h3 ⊢
  obtain ⟨hb1, hop, hs1⟩ := h3
  have c1 := (hop.cell 1).trans Ho1.out
  clear hs1
  go_wp2_with (first
    | (refine at_load 68 _ rfl ?_; refine wpList_load_row rfl 68 _ rfl w.heap.size rfl 68 O (0, 0) _ hop Try.underlying68 rfl hinfo ?_)
    | (go_at_call 39; refine (Hasks.out W1 hb1).mono ?_; rintro e W2 ⟨rfl, hQ⟩))
  go_ret
  exact ⟨rfl, hQ⟩

end Go.Proofs.Ythdpaakkamccbaa

/-
  Walks: tells, over a table that is not there (no round is run).
-/
import Derived.Test.YthdpaakkamccbaaSymRows2
import Derived.RangeFuncNested
import Derived.RangeFuncBound
import Derived.RangeFuncCalls
import Derived.RangeFuncLeaves
import Derived.RangeFuncFrom
import Derived.Shelf.Abstract
import Derived.Shelf.RegionOpen
import Derived.OwnWalkIn
import Derived.TacticsInMore
import Derived.LoopNIn
import Derived.LoopIn
namespace Go.Proofs.Ythdpaakkamccbaa
open Go.RowKit Go.Maps

/-- the iterator of a table that is not there runs no round. -/
theorem none_stops {n kb : Nat} {tv : Value} {w0 : World} {Kp : World → World → Prop} (hk : Blk w0 kb 25 #[tv]) (hN : NoT w0 tv) :
    SeqStopsK Fence.wide n Try.prog 41 #[.pointer (some ⟨kb, 0, none⟩)] (fun x : Empty => x.elim) Kp (fun _ => True) (fun _ => False) 0 w0 := fun l J Jx W hW _ _ _ h0 => by
  refine callsIn_wide.2 ?_
  have hth := Lib.hid (no_there (hN.below hW))
  have c1 : W.cell? ⟨kb, 0, none⟩ = some tv := (hk.same (hW.block _ hk.lt)).cell 0
  have H0 := Lib.hid h0
  clear hN hk hW h0
  show Calls _ _ #[.func (.yield l) #[] #[], .pointer (some ⟨kb, 0, none⟩)] _ _
  go_enter Try.func41, Try.ntmps41
  go_wp2_with (go_at_call 29; refine hth.out.mono ?_; rintro e w1 ⟨rfl, hw1⟩; obtain rfl : W = w1 := hw1.symm)
  refine bodyPost_ret (results_none rfl _ _ _) rfl ?_
  exact ⟨⟨_, rfl⟩, .inl ⟨[], trivial, H0.out⟩⟩

theorem four_new (w : World) (t1 t2 t3 t4 : TypeId) (c1 c2 c3 c4 : Array Value) (W : World) (hW : (((w.alloc (.cells c1 t1)).alloc (.cells c2 t2)).alloc (.cells c3 t3)).alloc (.cells c4 t4) = W) :
    Below w.heap.size w W ∧ Blk W w.heap.size t1 c1 ∧ Blk W (w.heap.size + 1) t2 c2 ∧ Blk W (w.heap.size + 1 + 1) t3 c3 ∧ Blk W (w.heap.size + 1 + 1 + 1) t4 c4 ∧ W.heap.size = w.heap.size + 4 := by
  subst hW
  obtain ⟨h1, b1, b2, b3, hs⟩ := three_new w t1 t2 t3 c1 c2 c3
  refine ⟨h1.alloc (by omega) _, b1.alloc _, b2.alloc _, b3.alloc _, ?_, by simp⟩
  have := Blk.new (((w.alloc (.cells c1 t1)).alloc (.cells c2 t2)).alloc (.cells c3 t3)) t4 c4
  rw [hs] at this
  exact this

theorem func_nil (f : Fn) (a b : Array Value) (W : World) : (binOp .eql 59 (.func f a b) .nilFunc).run Try.prog W = .ok (.bool false) W := by kernel_rfl
theorem nil_nil (W : World) : (binOp .eql 59 .nilFunc .nilFunc).run Try.prog W = .ok (.bool true) W := by kernel_rfl

attribute [local go_sem] Oper.semAt_some

set_option maxRecDepth 100000 in
set_option maxHeartbeats 2000000 in
theorem tells_none {w : World} {kb : Nat} {tv : Value} (hk : Blk w kb 25 #[tv]) (hN : NoT w tv) (m : Int) :
    Calls Try.prog 26 #[.func (.func 41) #[] #[.pointer (some ⟨kb, 0, none⟩)], .slice none 0 0, .int .i64 m] w fun e w' => e = .returned (.bool true) ∧ Below w.heap.size w w' := by
  refine (callsIn_wide (n := 3)).1 ?_
  refine callsIn_of_wp_marks Try.func26 rfl trivial ?_ rfl
  simp only [Try.ntmps26, List.size_toArray, List.length_cons, List.length_nil, Nat.reduceAdd, Nat.reduceSub, Array.replicate_succ, Array.replicate_zero, List.push_toArray, List.append_toArray, List.nil_append, List.cons_append]
  have hfn := func_nil (.func 41) #[] #[.pointer (some ⟨kb, 0, none⟩)]
  gi_wp2
  obtain ⟨W0, hW0⟩ : ∃ W0, (((w.alloc (.cells #[.slice none 0 0] 72)).alloc (.cells #[.int .i64 m] 3)).alloc (.cells #[.bool false] 4)).alloc (.cells #[.int .i64 0] 3) = W0 := ⟨_, rfl⟩
  rw [hW0]
  obtain ⟨hB, b1, b2, b3, b4, hs⟩ := four_new w _ _ _ _ _ _ _ _ W0 hW0
  clear hW0
  have Hs := Lib.hid hs
  clear hs
  have hk0 : Blk W0 kb 25 #[tv] := hk.same (hB.block _ hk.lt)
  have hN0 := hN.below hB
  refine wpIn_rangeFunc_ownF (α := Empty) rfl (by omega) (gf := 41) (lb := #[.pointer (some ⟨kb, 0, none⟩)]) rfl trivial (enters_of Try.func41 (by kernel_rfl) rfl) (none_stops (Kp := Below w.heap.size) hk0 hN0) belowK_t (belowK_b hB.size) (Below.refl _ _) (fun x => x.elim)
    (fun _ W => (W.cell? ⟨w.heap.size, 0, none⟩ = some (.slice none 0 0) ∧ W.cell? ⟨w.heap.size + 1, 0, none⟩ = some (.int .i64 m) ∧ W.cell? ⟨w.heap.size + 1 + 1, 0, none⟩ = some (.bool false) ∧ W.frozen? ⟨w.heap.size + 1 + 1, 0, none⟩ = false ∧ W.cell? ⟨w.heap.size + 1 + 1 + 1, 0, none⟩ = some (.int .i64 0)) ∧ Below w.heap.size w W)
    (fun _ _ _ => False)
    (OwnFrom.and (Own.from (fun s A B row hs hg hr => ⟨cell_kept hs.1 hg hr, cell_kept hs.2.1 hg hr, cell_kept hs.2.2.1 hg hr, (frozen_kept hs.2.2.1 hg hr).trans hs.2.2.2.1, cell_kept hs.2.2.2.2 hg hr⟩) _) (ownFrom_below (Nat.le_refl _) hB.size))
    (fun _ _ _ _ _ hs _ _ => hs)
    ⟨⟨b1.cell 0, b2.cell 0, b3.cell 0, b3.frozen 0, b4.cell 0⟩, hB⟩
    (fun x => x.elim) ?assign ?body ?done ?stop
  case assign => intro l x; exact x.elim
  case body => intro l pre x; exact x.elim
  case stop =>
    rintro D c pre W _ _ h _
    exact h.elim
  case done =>
    rintro D xs W hD _ ⟨⟨c1, c2, c3, f3, c4⟩, hBW⟩ hK
    have Hd := Lib.hid (show w.heap.size ≤ D by have := hB.size; omega)
    have HK := Lib.hid hK
    have HB := Lib.hid hBW
    clear hD hK hBW hk hN hk0 hN0 b1 b2 b3 b4 hB
    gi_wp2
    have hK' := (KeepsOthers.setCell W ⟨w.heap.size + 1 + 1, 0, none⟩ (.bool true)).same D _ HK.out rfl
    refine ⟨by simp, .inl ⟨_, _, rfl, run_takeDeferred hK', ?_⟩⟩
    have hc5 := cell_kept (World.cell?_setCell_same' W ⟨w.heap.size + 1 + 1, 0, none⟩ (.bool true) (by rw [c3]; rfl)) (grownBy_putObj' _ D (.deferred none)) (fun r e => by cases e; exact ⟨_, hK', rfl⟩)
    refine ⟨.bool true, ?_, rfl, ?_⟩
    · simp [results, Try.results26, go_sem, hc5]
    · exact (HB.out.setCell (by show w.heap.size ≤ w.heap.size + 1 + 1; omega) _).trans (belowK_b (w := w) (Nat.le_refl _) _ D _ _ Hd.out hK' rfl rfl)

end Go.Proofs.Ythdpaakkamccbaa

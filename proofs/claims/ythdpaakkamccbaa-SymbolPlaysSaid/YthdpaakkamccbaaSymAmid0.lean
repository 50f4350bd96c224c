/-
  Walk: amid, over a table that is not there (no round is run).
-/
import Derived.Test.YthdpaakkamccbaaSymTells
import Derived.Laws.EntriesVeiled
namespace Go.Proofs.Ythdpaakkamccbaa
open Go.RowKit Go.Maps

attribute [local go_sem] Oper.semAt_some

set_option maxRecDepth 100000 in
set_option maxHeartbeats 2000000 in
theorem amid_none {w : World} {bb : Nat} {p : Option Addr} {kept : Value} (hb : Blk w bb 61 #[.pointer p, .pointer none, kept]) (hN : NoT w (.pointer p)) (O : Array Value) :
    Calls Try.prog 46 #[.pointer (some ⟨bb, 0, none⟩), .agg O] w fun e w' => e = .returned (.bool true) ∧ Below w.heap.size w w' := by
  have c1 : ∀ a b c : Obj, (((w.alloc a).alloc b).alloc c).cell? ⟨bb, 1, none⟩ = some (.pointer none) := fun a b c => (((hb.alloc a).alloc b).alloc c).cell 1
  have hfn := fun k => func_nil (.func 41) #[] #[.pointer (some ⟨k, 0, none⟩)]
  refine (callsIn_wide (n := 3)).1 ?_
  refine callsIn_of_wp_marks Try.func46 rfl trivial ?_ rfl
  simp only [Try.ntmps46, List.size_toArray, List.length_cons, List.length_nil, Nat.reduceAdd, Nat.reduceSub, Array.replicate_succ, Array.replicate_zero, List.push_toArray, List.append_toArray, List.nil_append, List.cons_append]
  gi_wp2_with (first
    | (refine ⟨trivial, ?_⟩; gi_at_call 28; refine (callsIn_wide.2 (nil_all _)).mono ?_; rintro e w1 ⟨rfl, hw1⟩
       have h3 : Below w.heap.size w w1 ∧ Blk w1 w.heap.size 83 #[.pointer (some ⟨bb, 0, none⟩)] ∧ Blk w1 (w.heap.size + 1) 68 O ∧ Blk w1 (w.heap.size + 2) 4 #[.bool false] ∧ w1.heap.size = w.heap.size + 3 := by rw [hw1]; exact three_new w _ _ _ _ _ _
       clear hw1 c1
       obtain ⟨hB1, b1, b2, b3, hs1⟩ := h3
       have Hs1 := Lib.hid hs1
       clear hs1
       have c0 : ∀ a : Obj, (w1.alloc a).cell? ⟨bb, 0, none⟩ = some (.pointer p) := fun a => ((hb.same (hB1.block _ hb.lt)).alloc a).cell 0
       have cp : ∀ a : Obj, (w1.alloc a).cell? ⟨w.heap.size, 0, none⟩ = some (.pointer (some ⟨bb, 0, none⟩)) := fun a => (b1.alloc a).cell 0)
    | (refine ⟨trivial, ?_⟩; gi_at_call 27; refine (callsIn_wide.2 (all_any _ _ rfl)).mono ?_; rintro e w2 ⟨rfl, hw2⟩
       have h4 : Below w1.heap.size w1 w2 ∧ Blk w2 w1.heap.size 72 #[.slice none 0 0] ∧ Blk w2 (w1.heap.size + 1) 25 #[.pointer p] ∧ w2.heap.size = w1.heap.size + 2 := by rw [hw2]; exact two_new w1 _ _ _ _
       clear hw2
       obtain ⟨hB2, b4, b5, hs2⟩ := h4
       have Hs2 := Lib.hid hs2
       clear hs2))
  obtain ⟨W0, hW0⟩ : ∃ W0, (w2.alloc (.cells #[.func (.func 41) #[] #[.pointer (some ⟨w1.heap.size + 1, 0, none⟩)]] 59)).alloc (.cells #[.int .i64 0] 3) = W0 := ⟨_, rfl⟩
  rw [hW0]
  obtain ⟨hB3, b6, b7, hs3⟩ : Below w2.heap.size w2 W0 ∧ Blk W0 w2.heap.size 59 _ ∧ Blk W0 (w2.heap.size + 1) 3 #[.int .i64 0] ∧ _ := by rw [← hW0]; exact two_new w2 _ _ _ _
  have hB12 : Below w.heap.size w w2 := hB1.trans (hB2.mono hB1.size)
  have hB : Below w.heap.size w W0 := hB12.trans (hB3.mono hB12.size)
  have b5 := b5.same (hB3.block _ b5.lt)
  have b4 := b4.same (hB3.block _ b4.lt)
  have b3 := (b3.same (hB2.block _ b3.lt)).same (hB3.block _ (Nat.lt_of_lt_of_le b3.lt hB2.size))
  clear hW0
  have hN0 := hN.below hB
  refine wpIn_rangeFunc_ownF (α := Empty) rfl (by omega) (gf := 41) (lb := #[.pointer (some ⟨w1.heap.size + 1, 0, none⟩)]) rfl trivial (enters_of Try.func41 (by kernel_rfl) rfl) (none_stops (Kp := Below w.heap.size) b5 hN0) belowK_t (belowK_b hB.size) (Below.refl _ _) (fun x => x.elim)
    (fun _ W => (W.cell? ⟨w.heap.size + 1 + 1, 0, none⟩ = some (.bool false) ∧ W.frozen? ⟨w.heap.size + 1 + 1, 0, none⟩ = false ∧ W.cell? ⟨w1.heap.size, 0, none⟩ = some (.slice none 0 0) ∧ W.cell? ⟨w2.heap.size + 1, 0, none⟩ = some (.int .i64 0)) ∧ Below w.heap.size w W)
    (fun _ _ _ => False)
    (OwnFrom.and (Own.from (fun s A B row hs hg hr => ⟨cell_kept hs.1 hg hr, (frozen_kept hs.1 hg hr).trans hs.2.1, cell_kept hs.2.2.1 hg hr, cell_kept hs.2.2.2 hg hr⟩) _) (ownFrom_below (Nat.le_refl _) hB.size))
    (fun _ _ _ _ _ hs _ _ => hs)
    ⟨⟨b3.cell 0, b3.frozen 0, b4.cell 0, b7.cell 0⟩, hB⟩
    (fun x => x.elim) ?assign ?body ?done ?stop
  case assign => intro l x; exact x.elim
  case body => intro l pre x; exact x.elim
  case stop =>
    rintro D c pre W _ _ h _
    exact h.elim
  case done =>
    rintro D xs W hD _ ⟨⟨c3, f3, c4, c7⟩, hBW⟩ hK
    have Hd := Lib.hid (show w.heap.size ≤ D by have := hB.size; omega)
    have HK := Lib.hid hK
    have HB := Lib.hid hBW
    clear hD hK hBW hN hN0 b1 b2 b3 b4 b5 b6 b7 hB hb hB1 hB2 hB3 hB12 hs3 c0 cp
    gi_wp2
    have hK' := (KeepsOthers.setCell W ⟨w.heap.size + 1 + 1, 0, none⟩ (.bool true)).same D _ HK.out rfl
    refine ⟨by simp, .inl ⟨_, _, rfl, run_takeDeferred hK', ?_⟩⟩
    have hc5 := cell_kept (World.cell?_setCell_same' W ⟨w.heap.size + 1 + 1, 0, none⟩ (.bool true) (by rw [c3]; rfl)) (grownBy_putObj' _ D (.deferred none)) (fun r e => by cases e; exact ⟨_, hK', rfl⟩)
    refine ⟨.bool true, ?_, rfl, ?_⟩
    · simp [results, Try.results46, go_sem, hc5]
    · exact (HB.out.setCell (by show w.heap.size ≤ w.heap.size + 1 + 1; omega) _).trans (belowK_b (w := w) (Nat.le_refl _) _ D _ _ Hd.out hK' rfl rfl)

end Go.Proofs.Ythdpaakkamccbaa

/-
  Walks: a call on a pair of worlds that are not there. (Printed by gen_does.py.)
-/
import Derived.Test.YtgjdgincebchhaaGreatDoorNone
import Derived.Test.YtgjdgincebchhaaGreatDoorFact
import Derived.Test.YtgjdgincebchhaaGreatDoorParts
import Derived.Test.YtgjdgincebchhaaGreatDoorOrd
import Derived.Laws.Tables
namespace Go.Proofs.YtgjdgincebchhaaGreatDoor
open Go Go.RowKit

/-- a pair: the program's world is not there (nil or a zero struct), the document's neither. -/
structure Bo (w : World) (bb : Nat) (p : Option Addr) : Prop where
  lt : bb < w.heap.size
  c0 : w.cell? ⟨bb, 0, none⟩ = some (.pointer p)
  c1 : w.cell? ⟨bb, 1, none⟩ = some (.pointer none)
  no : NoW w (.pointer p)
theorem Bo.below {w W : World} {bb : Nat} {p : Option Addr} (h : Bo w bb p) (hb : Below w.heap.size w W) : Bo W bb p :=
  ⟨Nat.lt_of_lt_of_le h.lt hb.size, (World.cell?_of_block (w := w) (hb.block bb h.lt)).trans h.c0, (World.cell?_of_block (w := w) (hb.block bb h.lt)).trans h.c1, h.no.below hb⟩
theorem cell_below {w W : World} {b o : Nat} {v : Value} {B : Nat} (h : w.cell? ⟨b, o, none⟩ = some v) (hb : Below B w W) (hlt : b < B) : W.cell? ⟨b, o, none⟩ = some v := (World.cell?_of_block (w := w) (hb.block b hlt)).trans h

@[go_sem high] theorem build_77 (w : World) : (Instr.build 56 #[(0, .int .i8 1), (1, .int .i64 77)]).run Tryz.prog w = .ok (.agg #[.int .i8 1, .int .i64 77, .string ⟨#[]⟩]) w := run_build w 56 _ _ (by kernel_rfl)

set_option maxRecDepth 100000 in
set_option maxHeartbeats 8000000 in
theorem does_add (w : World) (bb : Nat) (q : Option Addr) (h : Bo w bb q) (on : Int) (p : ByteArray) (A : Option Addr) (n cap : Nat) (pp : ByteArray) (A0 A1 A2 A3 A4 : Option Addr) (n0 n1 n2 n3 n4 c0 c1 c2 c3 c4 : Nat)
    (Ft : Tp) (hF : TpOk Ft) (hF0 : ∀ {lo : Nat} {W : World} {r : List Value}, Ft lo W r → ∃ g : Nat, r = [.slice (some ⟨g, 0, none⟩) n (n + 1)] ∧ lo ≤ g ∧ g < W.heap.size ∧ W.there g 0 ((n + 1) * 3))
    (htw : ∀ W : World, Below w.heap.size w W → Calls Tryz.prog 7 #[.agg #[.string p, .slice A n cap]] W fun e w' => ∃ g : Nat, e = .returned (.agg #[.string p, .slice (some ⟨g, 0, none⟩) n (n + 1)]) ∧ Ft W.heap.size w' [.slice (some ⟨g, 0, none⟩) n (n + 1)] ∧ Below W.heap.size W w')
    (hlf : ∀ W : World, Below w.heap.size w W → ∀ g lo : Nat, Ft lo W [.slice (some ⟨g, 0, none⟩) n (n + 1)] → Calls Tryz.prog 10 #[.agg #[.string p, .slice (some ⟨g, 0, none⟩) n (n + 1)], .agg #[.string p, .slice A n cap]] W fun e w' => e = .returned (.bool true) ∧ Below W.heap.size W w')
    (hb : n * 32 ≤ 140737488351232) :
    Calls Tryz.prog 4 #[.pointer (some ⟨bb, 0, none⟩), .agg #[.int .i64 on, .int .i64 1, .string p, .slice A n cap, .string pp, .slice A0 n0 c0, .slice A1 n1 c1, .slice A2 n2 c2, .slice A3 n3 c3, .slice A4 n4 c4]] w fun e w' => e = .returned (.bool true) ∧ Below w.heap.size w w' := by
  obtain ⟨W0, hW0⟩ : ∃ W0, w.alloc (.cells #[.int .i64 on, .int .i64 1, .string p, .slice A n cap, .string pp, .slice A0 n0 c0, .slice A1 n1 c1, .slice A2 n2 c2, .slice A3 n3 c3, .slice A4 n4 c4] 34) = W0 := ⟨_, rfl⟩
  have hB0 : Below w.heap.size w W0 := hW0 ▸ new_below w _
  have hs0 : w.heap.size < W0.heap.size := by rw [← hW0]; simp
  have hr0 : W0.rangeAt w.heap.size 0 [.int .i64 on, .int .i64 1, .string p, .slice A n cap, .string pp, .slice A0 n0 c0, .slice A1 n1 c1, .slice A2 n2 c2, .slice A3 n3 c3, .slice A4 n4 c4] := hW0 ▸ new_range w [.int .i64 on, .int .i64 1, .string p, .slice A n cap, .string pp, .slice A0 n0 c0, .slice A1 n1 c1, .slice A2 n2 c2, .slice A3 n3 c3, .slice A4 n4 c4] 34
  have o1 : W0.cell? ⟨w.heap.size, 1, none⟩ = some (.int .i64 1) := by have := hr0 1 _ rfl; simpa using this
  have o2 : W0.cell? ⟨w.heap.size, 2, none⟩ = some (.string p) := by have := hr0 2 _ rfl; simpa using this
  have o3 : W0.cell? ⟨w.heap.size, 3, none⟩ = some (.slice A n cap) := by have := hr0 3 _ rfl; simpa using this
  have HW0 := Lib.hid hW0
  have HB0 := Lib.hid hB0
  have Hs0 := Lib.hid hs0
  have Hr0 := Lib.hid hr0
  have H := Lib.hid h
  clear hW0 hB0 hs0 hr0 h
  go_enter Tryz.func4, Tryz.ntmps4
  go_upto_region 1 with fail
  rw [HW0.out]
  go_upto_region 4 with (go_at_call 7; refine (htw W0 HB0.out).mono ?_; rintro e W1 ⟨g, rfl, hT, hb1⟩)
  obtain ⟨W2, hW2⟩ : ∃ W2, W1.alloc (.cells #[.string p, .slice (some ⟨g, 0, none⟩) n (n + 1)] 24) = W2 := ⟨_, rfl⟩
  rw [hW2]
  have hB1 : Below w.heap.size w W1 := HB0.out.trans (hb1.mono HB0.out.size)
  have hs2 : W2.heap.size = W1.heap.size + 1 := by rw [← hW2]; simp
  have hB12 : Below W1.heap.size W1 W2 := hW2 ▸ new_below W1 _
  have hB2 : Below w.heap.size w W2 := hB1.trans (hB12.mono hB1.size)
  have f0 : W2.cell? ⟨W1.heap.size, 0, none⟩ = some (.string p) := by rw [← hW2]; simp
  have f1 : W2.cell? ⟨W1.heap.size, 1, none⟩ = some (.slice (some ⟨g, 0, none⟩) n (n + 1)) := by rw [← hW2]; simp
  have hb02 : Below W0.heap.size W0 W2 := hb1.trans (hB12.mono hb1.size)
  have hcs : ∀ W : World, Below W2.heap.size W2 W → W.cell? ⟨bb, 0, none⟩ = some (.pointer q) ∧ W.cell? ⟨bb, 1, none⟩ = some (.pointer none) ∧ W.cell? ⟨w.heap.size, 2, none⟩ = some (.string p) ∧ W.cell? ⟨w.heap.size, 3, none⟩ = some (.slice A n cap) ∧ W.cell? ⟨W1.heap.size, 0, none⟩ = some (.string p) ∧ W.cell? ⟨W1.heap.size, 1, none⟩ = some (.slice (some ⟨g, 0, none⟩) n (n + 1)) := fun W hW => by
    have hlt := H.out.lt
    have z1 := hB2.size
    have z2 := hb02.size
    have z3 := Hs0.out
    exact ⟨cell_below (cell_below H.out.c0 hB2 hlt) hW (by omega), cell_below (cell_below H.out.c1 hB2 hlt) hW (by omega), cell_below (cell_below o2 hb02 z3) hW (by omega), cell_below (cell_below o3 hb02 z3) hW (by omega), cell_below f0 hW (by omega), cell_below f1 hW (by omega)⟩
  have Hcs := Lib.hid hcs
  have HB2 := Lib.hid hB2
  have HB12 := Lib.hid hB12
  have Hs2 := Lib.hid hs2
  have HT := Lib.hid hT
  have Hb1 := Lib.hid hb1
  have HS0 := Lib.hid (show Below W2.heap.size W2 W2.drew from (Below.refl _ _).drew)
  have HBw := Lib.hid (show ∀ W : World, Below W2.heap.size W2 W → Below w.heap.size w W from fun W hW => HB2.out.trans (hW.mono HB2.out.size))
  have HNo := Lib.hid (show ∀ W : World, Below W2.heap.size W2 W → NoW W (.pointer q) from fun W hW => H.out.no.below (HBw.out W hW))
  have HTk := Lib.hid (show ∀ W : World, Below W2.heap.size W2 W → Ft W0.heap.size W [.slice (some ⟨g, 0, none⟩) n (n + 1)] from fun W hW => hF.below HT.out (HB12.out.trans (hW.mono HB12.out.size)))
  clear hW2 hB1 hs2 hB12 hB2 f0 f1 hb02 hcs hT hb1 o1 o2 o3
  refine wp_region_ord [(0, false), (1, false), (2, false), (3, false), (4, false), (5, true), (6, false), (7, false), (8, false), (9, false), (10, false)] (fun W => Below W2.heap.size W2 W) (by kernel_rfl) (by kernel_rfl) rfl (by kernel_rfl) HS0.out ?_
  simp only [pickH, List.filterMap_cons, List.filterMap_nil, List.getElem?_toArray, List.getElem?_cons_succ, List.getElem?_cons_zero, Option.map_some]
  repeat (first
    | (apply ord_skip; (case hw => rfl); simp only [Act.put, List.setIfInBounds_toArray, List.set_cons_zero, List.set_cons_succ])
    | (apply ord_pass; (case hw => rfl); simp only [Act.put, List.setIfInBounds_toArray, List.set_cons_zero, List.set_cons_succ])
    | (apply ord_take; (case hw => rfl); (case hy => (intro wx hSw; obtain ⟨k0, k1, k2, k3, k4, k5⟩ := Hcs.out wx hSw; go_simp; try exact rfl)); simp only [Act.put, List.setIfInBounds_toArray, List.set_cons_zero, List.set_cons_succ])
    | fail)
  refine ord_call (by rfl) (fun K hK => ?_)
  go_simp
  refine (add_no _ _ _ _ _ _ (HNo.out _ HS0.out)).mono ?_
  rintro e W3 ⟨rfl, hb3⟩
  have HS3 := Lib.hid (show Below W2.heap.size W2 W3 from HS0.out.trans (hb3.mono HS0.out.size))
  refine hK.out _ _ HS3.out ?_
  clear hK K
  try simp only [Act.put, List.setIfInBounds_toArray, List.set_cons_zero, List.set_cons_succ]
  repeat (first
    | (apply ord_skip; (case hw => rfl); simp only [Act.put, List.setIfInBounds_toArray, List.set_cons_zero, List.set_cons_succ])
    | (apply ord_pass; (case hw => rfl); simp only [Act.put, List.setIfInBounds_toArray, List.set_cons_zero, List.set_cons_succ])
    | (apply ord_take; (case hw => rfl); (case hy => (intro wx hSw; obtain ⟨k0, k1, k2, k3, k4, k5⟩ := Hcs.out wx hSw; go_simp; try exact rfl)); simp only [Act.put, List.setIfInBounds_toArray, List.set_cons_zero, List.set_cons_succ])
    | fail)
  refine ord_nil ?_
  go_upto_region 5 with fail
  refine wp_region_ord [(0, false), (1, false), (2, false), (3, false), (4, false), (5, false), (6, true), (7, false), (8, false), (9, false), (10, false), (11, false)] (fun W => Below W2.heap.size W2 W) (by kernel_rfl) (by kernel_rfl) rfl (by kernel_rfl) HS3.out.drew ?_
  simp only [pickH, List.filterMap_cons, List.filterMap_nil, List.getElem?_toArray, List.getElem?_cons_succ, List.getElem?_cons_zero, Option.map_some]
  repeat (first
    | (apply ord_skip; (case hw => rfl); simp only [Act.put, List.setIfInBounds_toArray, List.set_cons_zero, List.set_cons_succ])
    | (apply ord_pass; (case hw => rfl); simp only [Act.put, List.setIfInBounds_toArray, List.set_cons_zero, List.set_cons_succ])
    | (apply ord_take; (case hw => rfl); (case hy => (intro wx hSw; obtain ⟨k0, k1, k2, k3, k4, k5⟩ := Hcs.out wx hSw; go_simp; try exact rfl)); simp only [Act.put, List.setIfInBounds_toArray, List.set_cons_zero, List.set_cons_succ])
    | fail)
  refine ord_call (by rfl) (fun K hK => ?_)
  go_simp
  refine (radd_nil _ _ _ _ _).mono ?_
  rintro e W4 ⟨rfl, hb4⟩
  have HS4 := Lib.hid (show Below W2.heap.size W2 W4 from HS3.out.drew.trans (hb4.mono HS3.out.drew.size))
  refine hK.out _ _ HS4.out ?_
  clear hK K
  try simp only [Act.put, List.setIfInBounds_toArray, List.set_cons_zero, List.set_cons_succ]
  repeat (first
    | (apply ord_skip; (case hw => rfl); simp only [Act.put, List.setIfInBounds_toArray, List.set_cons_zero, List.set_cons_succ])
    | (apply ord_pass; (case hw => rfl); simp only [Act.put, List.setIfInBounds_toArray, List.set_cons_zero, List.set_cons_succ])
    | (apply ord_take; (case hw => rfl); (case hy => (intro wx hSw; obtain ⟨k0, k1, k2, k3, k4, k5⟩ := Hcs.out wx hSw; go_simp; try exact rfl)); simp only [Act.put, List.setIfInBounds_toArray, List.set_cons_zero, List.set_cons_succ])
    | fail)
  refine ord_nil ?_
  obtain ⟨g', hg', hlo, hlt, hth⟩ := hF0 (HTk.out W4 HS4.out)
  simp only [List.cons.injEq, Value.slice.injEq, Option.some.injEq, Addr.mk.injEq, and_true] at hg'
  subst hg'
  have hl4 := hlf W4 (HBw.out W4 HS4.out) g W0.heap.size (HTk.out W4 HS4.out)
  obtain ⟨k0, k1, k2, k3, k4, k5⟩ := Hcs.out W4 HS4.out
  have k5' := k5
  have hlt1 : W1.heap.size < W4.heap.size := by have := HS4.out.size; have := Hs2.out; omega
  have hgne : W1.heap.size ≠ g := by
    obtain ⟨g', e, _, h2, _⟩ := hF0 HT.out
    simp only [List.cons.injEq, Value.slice.injEq, Option.some.injEq, Addr.mk.injEq, and_true] at e
    omega
  have Hlo := Lib.hid hlo
  have Hlt := Lib.hid hlt
  have Hth := Lib.hid hth
  have Hl4 := Lib.hid hl4
  have Hlt1 := Lib.hid hlt1
  have Hgne := Lib.hid hgne
  have K5 := Lib.hid k5'
  clear hlo hlt hth hl4 hlt1 hgne k5' hb3 hb4
  go_wp2_with (go_at_call 10; refine Hl4.out.mono ?_; rintro e W5 ⟨rfl, hb5⟩)
  have HB5 := Lib.hid hb5
  clear hb5 k0 k1 k2 k3 k4 k5
  go_loopg [11] n (fun gk si wx => ∃ i : Nat, i ≤ n ∧ gk = n - i ∧ si = .int .i64 (i : Int) ∧ Below w.heap.size w wx ∧ wx.cell? ⟨W1.heap.size, 1, none⟩ = some (.slice (some ⟨g, 0, none⟩) n (n + 1)) ∧ wx.there g 0 ((n + 1) * 3))
  case atStart => exact ⟨0, Nat.zero_le _, rfl, rfl, (HBw.out W4 HS4.out).trans (HB5.out.mono (HBw.out W4 HS4.out).size), cell_below K5.out HB5.out Hlt1.out, there_below Hth.out HB5.out Hlt.out⟩
  case round =>
    obtain ⟨i, hi, rfl, rfl, hBx, hc, hthx⟩ := hrel
    obtain ⟨Wx, rfl⟩ : ∃ Wx, Wx = wr := ⟨_, rfl⟩
    have HBx := Lib.hid hBx
    have Hc := Lib.hid hc
    have Hthx := Lib.hid hthx
    clear hBx hthx
    by_cases hlt : i < n
    · have hto := there_part Hthx.out (i * 3) 3 (by omega)
      rw [Nat.zero_add] at hto
      have Hto := Lib.hid hto
      clear hto
      go_wp2_with (refine tw_at_store 56 _ _ rfl ?_; refine wpList_store_mid rfl 56 _ _ rfl g (i * 3) #[.int .i8 1, .int .i64 77, .string ⟨#[]⟩] rfl rfl Hto.out sizeValue (by simp [Value.oneCell']) ?_)
      go_roundg (n - (i + 1))
      case measure => omega
      case rel =>
        refine ⟨i + 1, by omega, rfl, by go_num, Below.setCells_ (Nat.le_trans HB0.out.size Hlo.out) _ HBx.out, ?_, World.there_setCells Hthx.out _ _ _⟩
        exact (World.cell?_of_block (w := Wx) (setCells_far g _ _ Wx W1.heap.size Hgne.out)).trans Hc.out
    · obtain rfl : i = n := by omega
      go_wp2
      go_returns
      exact ⟨rfl, HBx.out⟩

set_option maxRecDepth 100000 in
set_option maxHeartbeats 8000000 in
theorem does_has (w : World) (bb : Nat) (q : Option Addr) (h : Bo w bb q) (on : Int) (p : ByteArray) (A : Option Addr) (n cap : Nat) (pp : ByteArray) (A0 A1 A2 A3 A4 : Option Addr) (n0 n1 n2 n3 n4 c0 c1 c2 c3 c4 : Nat)
    (Ft : Tp) (hF : TpOk Ft) (hF0 : ∀ {lo : Nat} {W : World} {r : List Value}, Ft lo W r → ∃ g : Nat, r = [.slice (some ⟨g, 0, none⟩) n (n + 1)] ∧ lo ≤ g ∧ g < W.heap.size ∧ W.there g 0 ((n + 1) * 3))
    (htw : ∀ W : World, Below w.heap.size w W → Calls Tryz.prog 7 #[.agg #[.string p, .slice A n cap]] W fun e w' => ∃ g : Nat, e = .returned (.agg #[.string p, .slice (some ⟨g, 0, none⟩) n (n + 1)]) ∧ Ft W.heap.size w' [.slice (some ⟨g, 0, none⟩) n (n + 1)] ∧ Below W.heap.size W w')
    (hlf : ∀ W : World, Below w.heap.size w W → ∀ g lo : Nat, Ft lo W [.slice (some ⟨g, 0, none⟩) n (n + 1)] → Calls Tryz.prog 10 #[.agg #[.string p, .slice (some ⟨g, 0, none⟩) n (n + 1)], .agg #[.string p, .slice A n cap]] W fun e w' => e = .returned (.bool true) ∧ Below W.heap.size W w')
    (hb : n * 32 ≤ 140737488351232) :
    Calls Tryz.prog 4 #[.pointer (some ⟨bb, 0, none⟩), .agg #[.int .i64 on, .int .i64 2, .string p, .slice A n cap, .string pp, .slice A0 n0 c0, .slice A1 n1 c1, .slice A2 n2 c2, .slice A3 n3 c3, .slice A4 n4 c4]] w fun e w' => e = .returned (.bool true) ∧ Below w.heap.size w w' := by
  obtain ⟨W0, hW0⟩ : ∃ W0, w.alloc (.cells #[.int .i64 on, .int .i64 2, .string p, .slice A n cap, .string pp, .slice A0 n0 c0, .slice A1 n1 c1, .slice A2 n2 c2, .slice A3 n3 c3, .slice A4 n4 c4] 34) = W0 := ⟨_, rfl⟩
  have hB0 : Below w.heap.size w W0 := hW0 ▸ new_below w _
  have hs0 : w.heap.size < W0.heap.size := by rw [← hW0]; simp
  have hr0 : W0.rangeAt w.heap.size 0 [.int .i64 on, .int .i64 2, .string p, .slice A n cap, .string pp, .slice A0 n0 c0, .slice A1 n1 c1, .slice A2 n2 c2, .slice A3 n3 c3, .slice A4 n4 c4] := hW0 ▸ new_range w [.int .i64 on, .int .i64 2, .string p, .slice A n cap, .string pp, .slice A0 n0 c0, .slice A1 n1 c1, .slice A2 n2 c2, .slice A3 n3 c3, .slice A4 n4 c4] 34
  have o1 : W0.cell? ⟨w.heap.size, 1, none⟩ = some (.int .i64 2) := by have := hr0 1 _ rfl; simpa using this
  have o2 : W0.cell? ⟨w.heap.size, 2, none⟩ = some (.string p) := by have := hr0 2 _ rfl; simpa using this
  have o3 : W0.cell? ⟨w.heap.size, 3, none⟩ = some (.slice A n cap) := by have := hr0 3 _ rfl; simpa using this
  have HW0 := Lib.hid hW0
  have HB0 := Lib.hid hB0
  have Hs0 := Lib.hid hs0
  have Hr0 := Lib.hid hr0
  have H := Lib.hid h
  clear hW0 hB0 hs0 hr0 h
  go_enter Tryz.func4, Tryz.ntmps4
  go_upto_region 1 with fail
  rw [HW0.out]
  go_upto_region 14 with (go_at_call 7; refine (htw W0 HB0.out).mono ?_; rintro e W1 ⟨g, rfl, hT, hb1⟩)
  obtain ⟨W2, hW2⟩ : ∃ W2, W1.alloc (.cells #[.string p, .slice (some ⟨g, 0, none⟩) n (n + 1)] 24) = W2 := ⟨_, rfl⟩
  rw [hW2]
  have hB1 : Below w.heap.size w W1 := HB0.out.trans (hb1.mono HB0.out.size)
  have hs2 : W2.heap.size = W1.heap.size + 1 := by rw [← hW2]; simp
  have hB12 : Below W1.heap.size W1 W2 := hW2 ▸ new_below W1 _
  have hB2 : Below w.heap.size w W2 := hB1.trans (hB12.mono hB1.size)
  have f0 : W2.cell? ⟨W1.heap.size, 0, none⟩ = some (.string p) := by rw [← hW2]; simp
  have f1 : W2.cell? ⟨W1.heap.size, 1, none⟩ = some (.slice (some ⟨g, 0, none⟩) n (n + 1)) := by rw [← hW2]; simp
  have hb02 : Below W0.heap.size W0 W2 := hb1.trans (hB12.mono hb1.size)
  have hcs : ∀ W : World, Below W2.heap.size W2 W → W.cell? ⟨bb, 0, none⟩ = some (.pointer q) ∧ W.cell? ⟨bb, 1, none⟩ = some (.pointer none) ∧ W.cell? ⟨w.heap.size, 2, none⟩ = some (.string p) ∧ W.cell? ⟨w.heap.size, 3, none⟩ = some (.slice A n cap) ∧ W.cell? ⟨W1.heap.size, 0, none⟩ = some (.string p) ∧ W.cell? ⟨W1.heap.size, 1, none⟩ = some (.slice (some ⟨g, 0, none⟩) n (n + 1)) := fun W hW => by
    have hlt := H.out.lt
    have z1 := hB2.size
    have z2 := hb02.size
    have z3 := Hs0.out
    exact ⟨cell_below (cell_below H.out.c0 hB2 hlt) hW (by omega), cell_below (cell_below H.out.c1 hB2 hlt) hW (by omega), cell_below (cell_below o2 hb02 z3) hW (by omega), cell_below (cell_below o3 hb02 z3) hW (by omega), cell_below f0 hW (by omega), cell_below f1 hW (by omega)⟩
  have Hcs := Lib.hid hcs
  have HB2 := Lib.hid hB2
  have HB12 := Lib.hid hB12
  have Hs2 := Lib.hid hs2
  have HT := Lib.hid hT
  have Hb1 := Lib.hid hb1
  have HS0 := Lib.hid (show Below W2.heap.size W2 W2.drew from (Below.refl _ _).drew)
  have HBw := Lib.hid (show ∀ W : World, Below W2.heap.size W2 W → Below w.heap.size w W from fun W hW => HB2.out.trans (hW.mono HB2.out.size))
  have HNo := Lib.hid (show ∀ W : World, Below W2.heap.size W2 W → NoW W (.pointer q) from fun W hW => H.out.no.below (HBw.out W hW))
  have HTk := Lib.hid (show ∀ W : World, Below W2.heap.size W2 W → Ft W0.heap.size W [.slice (some ⟨g, 0, none⟩) n (n + 1)] from fun W hW => hF.below HT.out (HB12.out.trans (hW.mono HB12.out.size)))
  clear hW2 hB1 hs2 hB12 hB2 f0 f1 hb02 hcs hT hb1 o1 o2 o3
  refine wp_region_ord [(0, false), (1, false), (2, false), (3, false), (4, false), (6, false), (7, false), (8, false), (9, false), (10, false), (11, false), (5, true), (12, true), (13, false), (14, false), (15, false), (16, false), (17, false), (18, true), (19, false), (20, false)] (fun W => Below W2.heap.size W2 W) (by kernel_rfl) (by kernel_rfl) rfl (by kernel_rfl) HS0.out ?_
  simp only [pickH, List.filterMap_cons, List.filterMap_nil, List.getElem?_toArray, List.getElem?_cons_succ, List.getElem?_cons_zero, Option.map_some]
  repeat (first
    | (apply ord_skip; (case hw => rfl); simp only [Act.put, List.setIfInBounds_toArray, List.set_cons_zero, List.set_cons_succ])
    | (apply ord_pass; (case hw => rfl); simp only [Act.put, List.setIfInBounds_toArray, List.set_cons_zero, List.set_cons_succ])
    | (apply ord_take; (case hw => rfl); (case hy => (intro wx hSw; obtain ⟨k0, k1, k2, k3, k4, k5⟩ := Hcs.out wx hSw; go_simp; try exact rfl)); simp only [Act.put, List.setIfInBounds_toArray, List.set_cons_zero, List.set_cons_succ])
    | fail)
  refine ord_call (by rfl) (fun K hK => ?_)
  go_simp
  refine (has_no _ _ _ _ _ _ (HNo.out _ HS0.out)).mono ?_
  rintro e W3 ⟨rfl, hb3⟩
  have HS3 := Lib.hid (show Below W2.heap.size W2 W3 from HS0.out.trans (hb3.mono HS0.out.size))
  refine hK.out _ _ HS3.out ?_
  clear hK K
  try simp only [Act.put, List.setIfInBounds_toArray, List.set_cons_zero, List.set_cons_succ]
  repeat (first
    | (apply ord_skip; (case hw => rfl); simp only [Act.put, List.setIfInBounds_toArray, List.set_cons_zero, List.set_cons_succ])
    | (apply ord_pass; (case hw => rfl); simp only [Act.put, List.setIfInBounds_toArray, List.set_cons_zero, List.set_cons_succ])
    | (apply ord_take; (case hw => rfl); (case hy => (intro wx hSw; obtain ⟨k0, k1, k2, k3, k4, k5⟩ := Hcs.out wx hSw; go_simp; try exact rfl)); simp only [Act.put, List.setIfInBounds_toArray, List.set_cons_zero, List.set_cons_succ])
    | fail)
  refine ord_call (by rfl) (fun K hK => ?_)
  go_simp
  refine (rhas_nil _ _ _ _ _).mono ?_
  rintro e W4 ⟨rfl, hb4⟩
  have HS4 := Lib.hid (show Below W2.heap.size W2 W4 from HS3.out.trans (hb4.mono HS3.out.size))
  have Hl4 := Lib.hid (hlf W4 (HBw.out W4 HS4.out) g W0.heap.size (HTk.out W4 HS4.out))
  refine hK.out _ _ HS4.out ?_
  clear hK K
  try simp only [Act.put, List.setIfInBounds_toArray, List.set_cons_zero, List.set_cons_succ]
  repeat (first
    | (apply ord_skip; (case hw => rfl); simp only [Act.put, List.setIfInBounds_toArray, List.set_cons_zero, List.set_cons_succ])
    | (apply ord_pass; (case hw => rfl); simp only [Act.put, List.setIfInBounds_toArray, List.set_cons_zero, List.set_cons_succ])
    | (apply ord_take; (case hw => rfl); (case hy => (intro wx hSw; obtain ⟨k0, k1, k2, k3, k4, k5⟩ := Hcs.out wx hSw; go_simp; try exact rfl)); simp only [Act.put, List.setIfInBounds_toArray, List.set_cons_zero, List.set_cons_succ])
    | fail)
  refine ord_call (by rfl) (fun K hK => ?_)
  go_simp
  refine (Hl4.out).mono ?_
  rintro e W5 ⟨rfl, hb5⟩
  have HS5 := Lib.hid (show Below W2.heap.size W2 W5 from HS4.out.trans (hb5.mono HS4.out.size))
  refine hK.out _ _ HS5.out ?_
  clear hK K
  try simp only [Act.put, List.setIfInBounds_toArray, List.set_cons_zero, List.set_cons_succ]
  repeat (first
    | (apply ord_skip; (case hw => rfl); simp only [Act.put, List.setIfInBounds_toArray, List.set_cons_zero, List.set_cons_succ])
    | (apply ord_pass; (case hw => rfl); simp only [Act.put, List.setIfInBounds_toArray, List.set_cons_zero, List.set_cons_succ])
    | (apply ord_take; (case hw => rfl); (case hy => (intro wx hSw; obtain ⟨k0, k1, k2, k3, k4, k5⟩ := Hcs.out wx hSw; go_simp; try exact rfl)); simp only [Act.put, List.setIfInBounds_toArray, List.set_cons_zero, List.set_cons_succ])
    | fail)
  refine ord_nil ?_
  go_wp2
  go_returns
  exact ⟨rfl, HBw.out W5 HS5.out⟩

set_option maxRecDepth 100000 in
set_option maxHeartbeats 8000000 in
theorem does_size (w : World) (bb : Nat) (q : Option Addr) (h : Bo w bb q) (on : Int) (p : ByteArray) (A : Option Addr) (n cap : Nat) (pp : ByteArray) (A0 A1 A2 A3 A4 : Option Addr) (n0 n1 n2 n3 n4 c0 c1 c2 c3 c4 : Nat) :
    Calls Tryz.prog 4 #[.pointer (some ⟨bb, 0, none⟩), .agg #[.int .i64 on, .int .i64 3, .string p, .slice A n cap, .string pp, .slice A0 n0 c0, .slice A1 n1 c1, .slice A2 n2 c2, .slice A3 n3 c3, .slice A4 n4 c4]] w fun e w' => e = .returned (.bool true) ∧ Below w.heap.size w w' := by
  obtain ⟨W0, hW0⟩ : ∃ W0, w.alloc (.cells #[.int .i64 on, .int .i64 3, .string p, .slice A n cap, .string pp, .slice A0 n0 c0, .slice A1 n1 c1, .slice A2 n2 c2, .slice A3 n3 c3, .slice A4 n4 c4] 34) = W0 := ⟨_, rfl⟩
  have hB0 : Below w.heap.size w W0 := hW0 ▸ new_below w _
  have hs0 : w.heap.size < W0.heap.size := by rw [← hW0]; simp
  have hr0 : W0.rangeAt w.heap.size 0 [.int .i64 on, .int .i64 3, .string p, .slice A n cap, .string pp, .slice A0 n0 c0, .slice A1 n1 c1, .slice A2 n2 c2, .slice A3 n3 c3, .slice A4 n4 c4] := hW0 ▸ new_range w [.int .i64 on, .int .i64 3, .string p, .slice A n cap, .string pp, .slice A0 n0 c0, .slice A1 n1 c1, .slice A2 n2 c2, .slice A3 n3 c3, .slice A4 n4 c4] 34
  have o1 : W0.cell? ⟨w.heap.size, 1, none⟩ = some (.int .i64 3) := by have := hr0 1 _ rfl; simpa using this
  have o2 : W0.cell? ⟨w.heap.size, 2, none⟩ = some (.string p) := by have := hr0 2 _ rfl; simpa using this
  have o3 : W0.cell? ⟨w.heap.size, 3, none⟩ = some (.slice A n cap) := by have := hr0 3 _ rfl; simpa using this
  have HW0 := Lib.hid hW0
  have HB0 := Lib.hid hB0
  have Hs0 := Lib.hid hs0
  have Hr0 := Lib.hid hr0
  have H := Lib.hid h
  clear hW0 hB0 hs0 hr0 h
  go_enter Tryz.func4, Tryz.ntmps4
  go_upto_region 1 with fail
  rw [HW0.out]
  have hcs : ∀ W : World, Below W0.heap.size W0 W → W.cell? ⟨bb, 0, none⟩ = some (.pointer q) ∧ W.cell? ⟨bb, 1, none⟩ = some (.pointer none) ∧ W.cell? ⟨w.heap.size, 2, none⟩ = some (.string p) ∧ W.cell? ⟨w.heap.size, 3, none⟩ = some (.slice A n cap) := fun W hW => by
    have hlt := H.out.lt
    have z1 := HB0.out.size
    have z3 := Hs0.out
    exact ⟨cell_below (cell_below H.out.c0 HB0.out hlt) hW (by omega), cell_below (cell_below H.out.c1 HB0.out hlt) hW (by omega), cell_below o2 hW z3, cell_below o3 hW z3⟩
  have Hcs := Lib.hid hcs
  have HS0 := Lib.hid (show Below W0.heap.size W0 W0.drew from (Below.refl _ _).drew)
  have HBw := Lib.hid (show ∀ W : World, Below W0.heap.size W0 W → Below w.heap.size w W from fun W hW => HB0.out.trans (hW.mono HB0.out.size))
  have HNo := Lib.hid (show ∀ W : World, Below W0.heap.size W0 W → NoW W (.pointer q) from fun W hW => H.out.no.below (HBw.out W hW))
  clear hcs
  go_upto_region 16 with fail
  clear o1 o2 o3
  refine wp_region_ord [(0, false), (1, false), (2, false), (3, false), (4, false), (5, false), (6, false), (8, false), (9, false), (10, false), (11, false), (12, false), (13, false), (14, false), (7, true), (15, true), (16, false), (17, false)] (fun W => Below W0.heap.size W0 W) (by kernel_rfl) (by kernel_rfl) rfl (by kernel_rfl) HS0.out ?_
  simp only [pickH, List.filterMap_cons, List.filterMap_nil, List.getElem?_toArray, List.getElem?_cons_succ, List.getElem?_cons_zero, Option.map_some]
  repeat (first
    | (apply ord_skip; (case hw => rfl); simp only [Act.put, List.setIfInBounds_toArray, List.set_cons_zero, List.set_cons_succ])
    | (apply ord_pass; (case hw => rfl); simp only [Act.put, List.setIfInBounds_toArray, List.set_cons_zero, List.set_cons_succ])
    | (apply ord_take; (case hw => rfl); (case hy => (intro wx hSw; obtain ⟨k0, k1, k2, k3⟩ := Hcs.out wx hSw; go_simp; try exact rfl)); simp only [Act.put, List.setIfInBounds_toArray, List.set_cons_zero, List.set_cons_succ])
    | fail)
  refine ord_call (by rfl) (fun K hK => ?_)
  go_simp
  refine (size_no _ _ _ (HNo.out _ HS0.out)).mono ?_
  rintro e W3 ⟨rfl, hb3⟩
  have HS3 := Lib.hid (show Below W0.heap.size W0 W3 from HS0.out.trans (hb3.mono HS0.out.size))
  refine hK.out _ _ HS3.out ?_
  clear hK K
  try simp only [Act.put, List.setIfInBounds_toArray, List.set_cons_zero, List.set_cons_succ]
  repeat (first
    | (apply ord_skip; (case hw => rfl); simp only [Act.put, List.setIfInBounds_toArray, List.set_cons_zero, List.set_cons_succ])
    | (apply ord_pass; (case hw => rfl); simp only [Act.put, List.setIfInBounds_toArray, List.set_cons_zero, List.set_cons_succ])
    | (apply ord_take; (case hw => rfl); (case hy => (intro wx hSw; obtain ⟨k0, k1, k2, k3⟩ := Hcs.out wx hSw; go_simp; try exact rfl)); simp only [Act.put, List.setIfInBounds_toArray, List.set_cons_zero, List.set_cons_succ])
    | fail)
  refine ord_call (by rfl) (fun K hK => ?_)
  go_simp
  refine (rsize_nil _ _).mono ?_
  rintro e W4 ⟨rfl, hb4⟩
  have HS4 := Lib.hid (show Below W0.heap.size W0 W4 from HS3.out.trans (hb4.mono HS3.out.size))
  refine hK.out _ _ HS4.out ?_
  clear hK K
  try simp only [Act.put, List.setIfInBounds_toArray, List.set_cons_zero, List.set_cons_succ]
  repeat (first
    | (apply ord_skip; (case hw => rfl); simp only [Act.put, List.setIfInBounds_toArray, List.set_cons_zero, List.set_cons_succ])
    | (apply ord_pass; (case hw => rfl); simp only [Act.put, List.setIfInBounds_toArray, List.set_cons_zero, List.set_cons_succ])
    | (apply ord_take; (case hw => rfl); (case hy => (intro wx hSw; obtain ⟨k0, k1, k2, k3⟩ := Hcs.out wx hSw; go_simp; try exact rfl)); simp only [Act.put, List.setIfInBounds_toArray, List.set_cons_zero, List.set_cons_succ])
    | fail)
  refine ord_nil ?_
  go_wp2
  go_returns
  exact ⟨rfl, HBw.out W4 HS4.out⟩

set_option maxRecDepth 100000 in
set_option maxHeartbeats 8000000 in
theorem does_facts (w : World) (bb : Nat) (q : Option Addr) (h : Bo w bb q) (on : Int) (p : ByteArray) (A : Option Addr) (n cap : Nat) (pp : ByteArray) (A0 A1 A2 A3 A4 : Option Addr) (n0 n1 n2 n3 n4 c0 c1 c2 c3 c4 : Nat) :
    Calls Tryz.prog 4 #[.pointer (some ⟨bb, 0, none⟩), .agg #[.int .i64 on, .int .i64 4, .string p, .slice A n cap, .string pp, .slice A0 n0 c0, .slice A1 n1 c1, .slice A2 n2 c2, .slice A3 n3 c3, .slice A4 n4 c4]] w fun e w' => e = .returned (.bool true) ∧ Below w.heap.size w w' := by
  obtain ⟨W0, hW0⟩ : ∃ W0, w.alloc (.cells #[.int .i64 on, .int .i64 4, .string p, .slice A n cap, .string pp, .slice A0 n0 c0, .slice A1 n1 c1, .slice A2 n2 c2, .slice A3 n3 c3, .slice A4 n4 c4] 34) = W0 := ⟨_, rfl⟩
  have hB0 : Below w.heap.size w W0 := hW0 ▸ new_below w _
  have hs0 : w.heap.size < W0.heap.size := by rw [← hW0]; simp
  have hr0 : W0.rangeAt w.heap.size 0 [.int .i64 on, .int .i64 4, .string p, .slice A n cap, .string pp, .slice A0 n0 c0, .slice A1 n1 c1, .slice A2 n2 c2, .slice A3 n3 c3, .slice A4 n4 c4] := hW0 ▸ new_range w [.int .i64 on, .int .i64 4, .string p, .slice A n cap, .string pp, .slice A0 n0 c0, .slice A1 n1 c1, .slice A2 n2 c2, .slice A3 n3 c3, .slice A4 n4 c4] 34
  have o1 : W0.cell? ⟨w.heap.size, 1, none⟩ = some (.int .i64 4) := by have := hr0 1 _ rfl; simpa using this
  have o2 : W0.cell? ⟨w.heap.size, 2, none⟩ = some (.string p) := by have := hr0 2 _ rfl; simpa using this
  have o3 : W0.cell? ⟨w.heap.size, 3, none⟩ = some (.slice A n cap) := by have := hr0 3 _ rfl; simpa using this
  have HW0 := Lib.hid hW0
  have HB0 := Lib.hid hB0
  have Hs0 := Lib.hid hs0
  have Hr0 := Lib.hid hr0
  have H := Lib.hid h
  clear hW0 hB0 hs0 hr0 h
  go_enter Tryz.func4, Tryz.ntmps4
  go_upto_region 1 with fail
  rw [HW0.out]
  have hcs : ∀ W : World, Below W0.heap.size W0 W → W.cell? ⟨bb, 0, none⟩ = some (.pointer q) ∧ W.cell? ⟨bb, 1, none⟩ = some (.pointer none) ∧ W.cell? ⟨w.heap.size, 2, none⟩ = some (.string p) ∧ W.cell? ⟨w.heap.size, 3, none⟩ = some (.slice A n cap) := fun W hW => by
    have hlt := H.out.lt
    have z1 := HB0.out.size
    have z3 := Hs0.out
    exact ⟨cell_below (cell_below H.out.c0 HB0.out hlt) hW (by omega), cell_below (cell_below H.out.c1 HB0.out hlt) hW (by omega), cell_below o2 hW z3, cell_below o3 hW z3⟩
  have Hcs := Lib.hid hcs
  have HS0 := Lib.hid (show Below W0.heap.size W0 W0.drew from (Below.refl _ _).drew)
  have HBw := Lib.hid (show ∀ W : World, Below W0.heap.size W0 W → Below w.heap.size w W from fun W hW => HB0.out.trans (hW.mono HB0.out.size))
  have HNo := Lib.hid (show ∀ W : World, Below W0.heap.size W0 W → NoW W (.pointer q) from fun W hW => H.out.no.below (HBw.out W hW))
  clear hcs
  go_upto_region 18 with fail
  clear o1 o2 o3
  refine wp_region_ord [(0, false), (1, false), (2, false), (3, false), (5, false), (6, false), (7, false), (8, false), (4, true), (9, true), (10, true), (11, false)] (fun W => Below W0.heap.size W0 W) (by kernel_rfl) (by kernel_rfl) rfl (by kernel_rfl) HS0.out ?_
  simp only [pickH, List.filterMap_cons, List.filterMap_nil, List.getElem?_toArray, List.getElem?_cons_succ, List.getElem?_cons_zero, Option.map_some]
  repeat (first
    | (apply ord_skip; (case hw => rfl); simp only [Act.put, List.setIfInBounds_toArray, List.set_cons_zero, List.set_cons_succ])
    | (apply ord_pass; (case hw => rfl); simp only [Act.put, List.setIfInBounds_toArray, List.set_cons_zero, List.set_cons_succ])
    | (apply ord_take; (case hw => rfl); (case hy => (intro wx hSw; obtain ⟨k0, k1, k2, k3⟩ := Hcs.out wx hSw; go_simp; try exact rfl)); simp only [Act.put, List.setIfInBounds_toArray, List.set_cons_zero, List.set_cons_succ])
    | fail)
  refine ord_call (by rfl) (fun K hK => ?_)
  go_simp
  refine (facts_no _ _ (HNo.out _ HS0.out)).mono ?_
  rintro e W3 ⟨rfl, hb3⟩
  have HS3 := Lib.hid (show Below W0.heap.size W0 W3 from HS0.out.trans (hb3.mono HS0.out.size))
  refine hK.out _ _ HS3.out ?_
  clear hK K
  try simp only [Act.put, List.setIfInBounds_toArray, List.set_cons_zero, List.set_cons_succ]
  repeat (first
    | (apply ord_skip; (case hw => rfl); simp only [Act.put, List.setIfInBounds_toArray, List.set_cons_zero, List.set_cons_succ])
    | (apply ord_pass; (case hw => rfl); simp only [Act.put, List.setIfInBounds_toArray, List.set_cons_zero, List.set_cons_succ])
    | (apply ord_take; (case hw => rfl); (case hy => (intro wx hSw; obtain ⟨k0, k1, k2, k3⟩ := Hcs.out wx hSw; go_simp; try exact rfl)); simp only [Act.put, List.setIfInBounds_toArray, List.set_cons_zero, List.set_cons_succ])
    | fail)
  refine ord_call (by rfl) (fun K hK => ?_)
  go_simp
  refine (rfacts_nil _).mono ?_
  rintro e W4 ⟨rfl, hb4⟩
  have HS4 := Lib.hid (show Below W0.heap.size W0 W4 from HS3.out.trans (hb4.mono HS3.out.size))
  refine hK.out _ _ HS4.out ?_
  clear hK K
  try simp only [Act.put, List.setIfInBounds_toArray, List.set_cons_zero, List.set_cons_succ]
  repeat (first
    | (apply ord_skip; (case hw => rfl); simp only [Act.put, List.setIfInBounds_toArray, List.set_cons_zero, List.set_cons_succ])
    | (apply ord_pass; (case hw => rfl); simp only [Act.put, List.setIfInBounds_toArray, List.set_cons_zero, List.set_cons_succ])
    | (apply ord_take; (case hw => rfl); (case hy => (intro wx hSw; obtain ⟨k0, k1, k2, k3⟩ := Hcs.out wx hSw; go_simp; try exact rfl)); simp only [Act.put, List.setIfInBounds_toArray, List.set_cons_zero, List.set_cons_succ])
    | fail)
  refine ord_call (by rfl) (fun K hK => ?_)
  go_simp
  refine (sameFacts_nil _).mono ?_
  rintro e W5 ⟨rfl, hb5⟩
  have HS5 := Lib.hid (show Below W0.heap.size W0 W5 from HS4.out.trans (hb5.mono HS4.out.size))
  refine hK.out _ _ HS5.out ?_
  clear hK K
  try simp only [Act.put, List.setIfInBounds_toArray, List.set_cons_zero, List.set_cons_succ]
  repeat (first
    | (apply ord_skip; (case hw => rfl); simp only [Act.put, List.setIfInBounds_toArray, List.set_cons_zero, List.set_cons_succ])
    | (apply ord_pass; (case hw => rfl); simp only [Act.put, List.setIfInBounds_toArray, List.set_cons_zero, List.set_cons_succ])
    | (apply ord_take; (case hw => rfl); (case hy => (intro wx hSw; obtain ⟨k0, k1, k2, k3⟩ := Hcs.out wx hSw; go_simp; try exact rfl)); simp only [Act.put, List.setIfInBounds_toArray, List.set_cons_zero, List.set_cons_succ])
    | fail)
  refine ord_nil ?_
  go_wp2
  go_returns
  exact ⟨rfl, HBw.out W5 HS5.out⟩

set_option maxRecDepth 100000 in
set_option maxHeartbeats 8000000 in
theorem run_both (w : World) (bb : Nat) (q : Option Addr) (h : Bo w bb q) (kind : Int) (on : Int) (p : ByteArray) (A : Option Addr) (n cap : Nat) (pp : ByteArray) (A0 A1 A2 A3 A4 : Option Addr) (n0 n1 n2 n3 n4 c0 c1 c2 c3 c4 : Nat)
    (Pt : Tp) (hPt : TpOk Pt) (htp : ∀ W : World, Below w.heap.size w W → Calls Tryz.prog 45 #[.agg #[.string pp, .slice A0 n0 c0, .slice A1 n1 c1, .slice A2 n2 c2]] W fun e w' => ∃ g0 g1 g2 : Nat, e = .returned (.agg #[.string pp, (.slice (some ⟨g0, 0, none⟩) n0 (n0 + 1)), (.slice (some ⟨g1, 0, none⟩) n1 (n1 + 1)), (.slice (some ⟨g2, 0, none⟩) n2 (n2 + 1))]) ∧ Pt W.heap.size w' [.string pp, (.slice (some ⟨g0, 0, none⟩) n0 (n0 + 1)), (.slice (some ⟨g1, 0, none⟩) n1 (n1 + 1)), (.slice (some ⟨g2, 0, none⟩) n2 (n2 + 1))] ∧ Below W.heap.size W w')
    (hlp : ∀ W : World, Below w.heap.size w W → ∀ g0 g1 g2 lo : Nat, Pt lo W [.string pp, (.slice (some ⟨g0, 0, none⟩) n0 (n0 + 1)), (.slice (some ⟨g1, 0, none⟩) n1 (n1 + 1)), (.slice (some ⟨g2, 0, none⟩) n2 (n2 + 1))] → Calls Tryz.prog 47 #[.agg #[.string pp, (.slice (some ⟨g0, 0, none⟩) n0 (n0 + 1)), (.slice (some ⟨g1, 0, none⟩) n1 (n1 + 1)), (.slice (some ⟨g2, 0, none⟩) n2 (n2 + 1))], .agg #[.string pp, .slice A0 n0 c0, .slice A1 n1 c1, .slice A2 n2 c2]] W fun e w' => e = .returned (.bool true) ∧ Below W.heap.size W w')
    (It3 : Tp) (hI3 : TpOk It3) (hti3 : ∀ W : World, Below w.heap.size w W → Calls Tryz.prog 46 #[.slice A3 n3 c3] W fun e w' => ∃ g : Nat, e = .returned (.slice (some ⟨g, 0, none⟩) n3 (n3 + 1)) ∧ It3 W.heap.size w' [(.slice (some ⟨g, 0, none⟩) n3 (n3 + 1))] ∧ Below W.heap.size W w')
    (hli3 : ∀ W : World, Below w.heap.size w W → ∀ g lo : Nat, It3 lo W [(.slice (some ⟨g, 0, none⟩) n3 (n3 + 1))] → Calls Tryz.prog 48 #[(.slice (some ⟨g, 0, none⟩) n3 (n3 + 1)), .slice A3 n3 c3] W fun e w' => e = .returned (.bool true) ∧ Below W.heap.size W w')
    (It4 : Tp) (hI4 : TpOk It4) (hti4 : ∀ W : World, Below w.heap.size w W → Calls Tryz.prog 46 #[.slice A4 n4 c4] W fun e w' => ∃ g : Nat, e = .returned (.slice (some ⟨g, 0, none⟩) n4 (n4 + 1)) ∧ It4 W.heap.size w' [(.slice (some ⟨g, 0, none⟩) n4 (n4 + 1))] ∧ Below W.heap.size W w')
    (hli4 : ∀ W : World, Below w.heap.size w W → ∀ g lo : Nat, It4 lo W [(.slice (some ⟨g, 0, none⟩) n4 (n4 + 1))] → Calls Tryz.prog 48 #[(.slice (some ⟨g, 0, none⟩) n4 (n4 + 1)), .slice A4 n4 c4] W fun e w' => e = .returned (.bool true) ∧ Below W.heap.size W w') :
    Calls Tryz.prog 20 #[.pointer (some ⟨bb, 0, none⟩), .agg #[.int .i64 on, .int .i64 kind, .string p, .slice A n cap, .string pp, .slice A0 n0 c0, .slice A1 n1 c1, .slice A2 n2 c2, .slice A3 n3 c3, .slice A4 n4 c4]] w fun e w' => e = .returned (.bool true) ∧ Below w.heap.size w w' := by
  obtain ⟨W0, hW0⟩ : ∃ W0, w.alloc (.cells #[.int .i64 on, .int .i64 kind, .string p, .slice A n cap, .string pp, .slice A0 n0 c0, .slice A1 n1 c1, .slice A2 n2 c2, .slice A3 n3 c3, .slice A4 n4 c4] 34) = W0 := ⟨_, rfl⟩
  have hB0 : Below w.heap.size w W0 := hW0 ▸ new_below w _
  have hs0 : w.heap.size < W0.heap.size := by rw [← hW0]; simp
  have hr0 : W0.rangeAt w.heap.size 0 [.int .i64 on, .int .i64 kind, .string p, .slice A n cap, .string pp, .slice A0 n0 c0, .slice A1 n1 c1, .slice A2 n2 c2, .slice A3 n3 c3, .slice A4 n4 c4] := hW0 ▸ new_range w [.int .i64 on, .int .i64 kind, .string p, .slice A n cap, .string pp, .slice A0 n0 c0, .slice A1 n1 c1, .slice A2 n2 c2, .slice A3 n3 c3, .slice A4 n4 c4] 34
  have o1 : W0.cell? ⟨w.heap.size, 1, none⟩ = some (.int .i64 kind) := by have := hr0 1 _ rfl; simpa using this
  have o2 : W0.cell? ⟨w.heap.size, 2, none⟩ = some (.string p) := by have := hr0 2 _ rfl; simpa using this
  have o3 : W0.cell? ⟨w.heap.size, 3, none⟩ = some (.slice A n cap) := by have := hr0 3 _ rfl; simpa using this
  have HW0 := Lib.hid hW0
  have HB0 := Lib.hid hB0
  have Hs0 := Lib.hid hs0
  have Hr0 := Lib.hid hr0
  have H := Lib.hid h
  clear hW0 hB0 hs0 hr0 h
  have hcs : ∀ W : World, Below W0.heap.size W0 W → W.cell? ⟨bb, 0, none⟩ = some (.pointer q) ∧ W.cell? ⟨bb, 1, none⟩ = some (.pointer none) ∧ W.cell? ⟨w.heap.size, 4, none⟩ = some (.string pp) ∧ W.cell? ⟨w.heap.size, 5, none⟩ = some (.slice A0 n0 c0) ∧ W.cell? ⟨w.heap.size, 6, none⟩ = some (.slice A1 n1 c1) ∧ W.cell? ⟨w.heap.size, 7, none⟩ = some (.slice A2 n2 c2) ∧ W.cell? ⟨w.heap.size, 8, none⟩ = some (.slice A3 n3 c3) ∧ W.cell? ⟨w.heap.size, 9, none⟩ = some (.slice A4 n4 c4) := fun W hW => by
    have hlt := H.out.lt
    have z1 := HB0.out.size
    have z3 := Hs0.out
    have hr := rangeAt_below Hr0.out hW z3
    refine ⟨cell_below (cell_below H.out.c0 HB0.out hlt) hW (by omega), cell_below (cell_below H.out.c1 HB0.out hlt) hW (by omega), ?_, ?_, ?_, ?_, ?_, ?_⟩
    · have := hr 4 _ rfl; simpa using this
    · have := hr 5 _ rfl; simpa using this
    · have := hr 6 _ rfl; simpa using this
    · have := hr 7 _ rfl; simpa using this
    · have := hr 8 _ rfl; simpa using this
    · have := hr 9 _ rfl; simpa using this
  have Hcs := Lib.hid hcs
  have HS0 := Lib.hid (show Below W0.heap.size W0 W0.drew from (Below.refl _ _).drew)
  have HBw := Lib.hid (show ∀ W : World, Below W0.heap.size W0 W → Below w.heap.size w W from fun W hW => HB0.out.trans (hW.mono HB0.out.size))
  have HNo := Lib.hid (show ∀ W : World, Below W0.heap.size W0 W → NoW W (.pointer q) from fun W hW => H.out.no.below (HBw.out W hW))
  clear hcs
  clear o1 o2 o3
  go_enter Tryz.func20, Tryz.ntmps20
  go_upto_region 1 with fail
  rw [HW0.out]
  refine wp_region_ord [(0, false), (1, false), (2, false), (3, false), (4, false), (5, false), (6, false), (7, false), (8, false), (9, false), (10, true), (11, false), (12, false), (13, false), (14, false), (15, false)] (fun W => Below W0.heap.size W0 W) (by kernel_rfl) (by kernel_rfl) rfl (by kernel_rfl) HS0.out ?_
  simp only [pickH, List.filterMap_cons, List.filterMap_nil, List.getElem?_toArray, List.getElem?_cons_succ, List.getElem?_cons_zero, Option.map_some]
  repeat (first
    | (apply ord_skip; (case hw => rfl); simp only [Act.put, List.setIfInBounds_toArray, List.set_cons_zero, List.set_cons_succ])
    | (apply ord_pass; (case hw => rfl); simp only [Act.put, List.setIfInBounds_toArray, List.set_cons_zero, List.set_cons_succ])
    | (apply ord_take; (case hw => rfl); (case hy => (intro wx hSw; obtain ⟨k0, k1, k4, k5, k6, k7, k8, k9⟩ := Hcs.out wx hSw; go_simp; try exact rfl)); simp only [Act.put, List.setIfInBounds_toArray, List.set_cons_zero, List.set_cons_succ])
    | fail)
  refine ord_call (by rfl) (fun K hK => ?_)
  go_simp
  refine (rrun_nil _ _ _ _ _ _ _ _ _ _ _ _ _).mono ?_
  rintro e W1 ⟨rfl, hb1⟩
  have HS1 := Lib.hid (show Below W0.heap.size W0 W1 from HS0.out.trans (hb1.mono HS0.out.size))
  refine hK.out _ _ HS1.out ?_
  clear hK K
  try simp only [Act.put, List.setIfInBounds_toArray, List.set_cons_zero, List.set_cons_succ]
  repeat (first
    | (apply ord_skip; (case hw => rfl); simp only [Act.put, List.setIfInBounds_toArray, List.set_cons_zero, List.set_cons_succ])
    | (apply ord_pass; (case hw => rfl); simp only [Act.put, List.setIfInBounds_toArray, List.set_cons_zero, List.set_cons_succ])
    | (apply ord_take; (case hw => rfl); (case hy => (intro wx hSw; obtain ⟨k0, k1, k4, k5, k6, k7, k8, k9⟩ := Hcs.out wx hSw; go_simp; try exact rfl)); simp only [Act.put, List.setIfInBounds_toArray, List.set_cons_zero, List.set_cons_succ])
    | fail)
  refine ord_nil ?_
  obtain ⟨k0, k1, k4, k5, k6, k7, k8, k9⟩ := Hcs.out W1 HS1.out
  go_upto_region 3 with (go_at_call 45; refine (htp W1 (HBw.out W1 HS1.out)).mono ?_; rintro e W2 ⟨g0, g1, g2, rfl, hT, hb2⟩)
  obtain ⟨W3, hW3⟩ : ∃ W3, W2.alloc (.cells #[.string pp, (.slice (some ⟨g0, 0, none⟩) n0 (n0 + 1)), (.slice (some ⟨g1, 0, none⟩) n1 (n1 + 1)), (.slice (some ⟨g2, 0, none⟩) n2 (n2 + 1))] 31) = W3 := ⟨_, rfl⟩
  rw [hW3]
  have hS2 : Below W0.heap.size W0 W2 := HS1.out.trans (hb2.mono HS1.out.size)
  have hB23 : Below W2.heap.size W2 W3 := hW3 ▸ new_below W2 _
  have hS3 : Below W0.heap.size W0 W3 := hS2.trans (hB23.mono hS2.size)
  have hs3 : W3.heap.size = W2.heap.size + 1 := by rw [← hW3]; simp
  have hpr : W3.rangeAt W2.heap.size 0 [.string pp, (.slice (some ⟨g0, 0, none⟩) n0 (n0 + 1)), (.slice (some ⟨g1, 0, none⟩) n1 (n1 + 1)), (.slice (some ⟨g2, 0, none⟩) n2 (n2 + 1))] := hW3 ▸ new_range W2 [.string pp, (.slice (some ⟨g0, 0, none⟩) n0 (n0 + 1)), (.slice (some ⟨g1, 0, none⟩) n1 (n1 + 1)), (.slice (some ⟨g2, 0, none⟩) n2 (n2 + 1))] 31
  have HTk := Lib.hid (show ∀ W : World, Below W3.heap.size W3 W → Pt W1.heap.size W [.string pp, (.slice (some ⟨g0, 0, none⟩) n0 (n0 + 1)), (.slice (some ⟨g1, 0, none⟩) n1 (n1 + 1)), (.slice (some ⟨g2, 0, none⟩) n2 (n2 + 1))] from fun W hW => hPt.below hT (hB23.trans (hW.mono hB23.size)))
  have HS3 := Lib.hid hS3
  have Hpr := Lib.hid hpr
  have Hs3 := Lib.hid hs3
  have HS2 := Lib.hid hS2
  clear k0 k1 k4 k5 k6 k7 k8 k9 hW3 hB23 hS3 hs3 hpr hT hb1 hb2 hS2
  obtain ⟨k0, k1, k4, k5, k6, k7, k8, k9⟩ := Hcs.out W3 HS3.out
  go_upto_region 4 with (go_at_call 46; refine (hti3 W3 (HBw.out W3 HS3.out)).mono ?_; rintro e W4 ⟨g3, rfl, hT3, hb4⟩)
  have HS4 := Lib.hid (show Below W0.heap.size W0 W4 from HS3.out.trans (hb4.mono HS3.out.size))
  have HT3 := Lib.hid hT3
  have Hb4 := Lib.hid hb4
  clear k0 k1 k4 k5 k6 k7 k8 k9 hT3 hb4
  obtain ⟨k0, k1, k4, k5, k6, k7, k8, k9⟩ := Hcs.out W4 HS4.out
  go_upto_region 5 with (go_at_call 46; refine (hti4 W4 (HBw.out W4 HS4.out)).mono ?_; rintro e W5 ⟨g4, rfl, hT4, hb5⟩)
  have HS5 := Lib.hid (show Below W0.heap.size W0 W5 from HS4.out.trans (hb5.mono HS4.out.size))
  have HT4 := Lib.hid hT4
  have Hb5 := Lib.hid hb5
  clear k0 k1 k4 k5 k6 k7 k8 k9 hT4 hb5
  have hpl : ∀ W : World, Below W5.heap.size W5 W → (W.cell? ⟨bb, 0, none⟩ = some (.pointer q) ∧ W.cell? ⟨bb, 1, none⟩ = some (.pointer none) ∧ W.cell? ⟨w.heap.size, 4, none⟩ = some (.string pp) ∧ W.cell? ⟨w.heap.size, 5, none⟩ = some (.slice A0 n0 c0) ∧ W.cell? ⟨w.heap.size, 6, none⟩ = some (.slice A1 n1 c1) ∧ W.cell? ⟨w.heap.size, 7, none⟩ = some (.slice A2 n2 c2) ∧ W.cell? ⟨w.heap.size, 8, none⟩ = some (.slice A3 n3 c3) ∧ W.cell? ⟨w.heap.size, 9, none⟩ = some (.slice A4 n4 c4)) ∧ W.cell? ⟨W2.heap.size, 0, none⟩ = some (.string pp) ∧ W.cell? ⟨W2.heap.size, 1, none⟩ = some (.slice (some ⟨g0, 0, none⟩) n0 (n0 + 1)) ∧ W.cell? ⟨W2.heap.size, 2, none⟩ = some (.slice (some ⟨g1, 0, none⟩) n1 (n1 + 1)) ∧ W.cell? ⟨W2.heap.size, 3, none⟩ = some (.slice (some ⟨g2, 0, none⟩) n2 (n2 + 1)) := fun W hW => by
    obtain ⟨k0, k1, k4, k5, k6, k7, k8, k9⟩ := Hcs.out W (HS5.out.trans (hW.mono HS5.out.size))
    have z3 := Hs3.out
    have z4 := Hb4.out.size
    have hr := rangeAt_below (rangeAt_below (rangeAt_below Hpr.out Hb4.out (by omega)) Hb5.out (by omega)) hW (by have := Hb5.out.size; omega)
    refine ⟨⟨k0, k1, k4, k5, k6, k7, k8, k9⟩, ?_, ?_, ?_, ?_⟩
    · have := hr 0 _ rfl; simpa using this
    · have := hr 1 _ rfl; simpa using this
    · have := hr 2 _ rfl; simpa using this
    · have := hr 3 _ rfl; simpa using this
  have Hpl := Lib.hid hpl
  have HR0 := Lib.hid (show Below W5.heap.size W5 W5.drew from (Below.refl _ _).drew)
  clear hpl
  refine wp_region_ord [(0, false), (1, false), (2, false), (3, false), (4, false), (5, false), (6, false), (7, true), (8, false), (9, false), (10, false), (11, false), (12, false)] (fun W => Below W5.heap.size W5 W) (by kernel_rfl) (by kernel_rfl) rfl (by kernel_rfl) HR0.out ?_
  simp only [pickH, List.filterMap_cons, List.filterMap_nil, List.getElem?_toArray, List.getElem?_cons_succ, List.getElem?_cons_zero, Option.map_some]
  repeat (first
    | (apply ord_skip; (case hw => rfl); simp only [Act.put, List.setIfInBounds_toArray, List.set_cons_zero, List.set_cons_succ])
    | (apply ord_pass; (case hw => rfl); simp only [Act.put, List.setIfInBounds_toArray, List.set_cons_zero, List.set_cons_succ])
    | (apply ord_take; (case hw => rfl); (case hy => (intro wx hSw; obtain ⟨⟨k0, k1, k4, k5, k6, k7, k8, k9⟩, j0, j1, j2, j3⟩ := Hpl.out wx hSw; go_simp; try exact rfl)); simp only [Act.put, List.setIfInBounds_toArray, List.set_cons_zero, List.set_cons_succ])
    | fail)
  refine ord_call (by rfl) (fun K hK => ?_)
  go_simp
  refine (run_no _ _ _ _ _ _ _ _ _ _ _ _ _ _ (HNo.out _ (HS5.out.trans (HR0.out.mono HS5.out.size)))).mono ?_
  rintro e W6 ⟨rfl, hb6⟩
  have HR6 := Lib.hid (show Below W5.heap.size W5 W6 from HR0.out.trans (hb6.mono HR0.out.size))
  refine hK.out _ _ HR6.out ?_
  clear hK K
  try simp only [Act.put, List.setIfInBounds_toArray, List.set_cons_zero, List.set_cons_succ]
  repeat (first
    | (apply ord_skip; (case hw => rfl); simp only [Act.put, List.setIfInBounds_toArray, List.set_cons_zero, List.set_cons_succ])
    | (apply ord_pass; (case hw => rfl); simp only [Act.put, List.setIfInBounds_toArray, List.set_cons_zero, List.set_cons_succ])
    | (apply ord_take; (case hw => rfl); (case hy => (intro wx hSw; obtain ⟨⟨k0, k1, k4, k5, k6, k7, k8, k9⟩, j0, j1, j2, j3⟩ := Hpl.out wx hSw; go_simp; try exact rfl)); simp only [Act.put, List.setIfInBounds_toArray, List.set_cons_zero, List.set_cons_succ])
    | fail)
  refine ord_nil ?_
  obtain ⟨⟨k0, k1, k4, k5, k6, k7, k8, k9⟩, j0, j1, j2, j3⟩ := Hpl.out W6 HR6.out
  clear hb6
  go_wp2_with (first
    | (go_at_call 48; refine (hli4 W9 (HBw.out W9 (HS5.out.trans (HR9.out.mono HS5.out.size))) g4 _ (hI4.below HT4.out HR9.out)).mono ?_; rintro e W10 ⟨rfl, hb10⟩
       have HR10 := Lib.hid (show Below W5.heap.size W5 W10 from HR9.out.trans (hb10.mono HR9.out.size)))
    | (go_at_call 48; refine (hli3 W8 (HBw.out W8 (HS5.out.trans (HR8.out.mono HS5.out.size))) g3 _ (hI3.below HT3.out (Hb5.out.trans (HR8.out.mono Hb5.out.size)))).mono ?_; rintro e W9 ⟨rfl, hb9⟩
       have HR9 := Lib.hid (show Below W5.heap.size W5 W9 from HR8.out.trans (hb9.mono HR8.out.size))
       clear k0 k1 k4 k5 k6 k7 k8 k9 j0 j1 j2 j3
       obtain ⟨⟨k0, k1, k4, k5, k6, k7, k8, k9⟩, j0, j1, j2, j3⟩ := Hpl.out W9 HR9.out)
    | (go_at_call 47; refine (hlp W7 (HBw.out W7 (HS5.out.trans (HR7.out.mono HS5.out.size))) g0 g1 g2 _ (HTk.out W7 (Hb4.out.trans ((Hb5.out.trans (HR7.out.mono Hb5.out.size)).mono Hb4.out.size)))).mono ?_; rintro e W8 ⟨rfl, hb8⟩
       have HR8 := Lib.hid (show Below W5.heap.size W5 W8 from HR7.out.trans (hb8.mono HR7.out.size))
       clear k0 k1 k4 k5 k6 k7 k8 k9 j0 j1 j2 j3
       obtain ⟨⟨k0, k1, k4, k5, k6, k7, k8, k9⟩, j0, j1, j2, j3⟩ := Hpl.out W8 HR8.out)
    | (go_at_call 15; refine (sameFacts_nil W6).mono ?_; rintro e W7 ⟨rfl, hb7⟩
       have HR7 := Lib.hid (show Below W5.heap.size W5 W7 from HR6.out.trans (hb7.mono HR6.out.size))
       clear k0 k1 k4 k5 k6 k7 k8 k9 j0 j1 j2 j3
       obtain ⟨⟨k0, k1, k4, k5, k6, k7, k8, k9⟩, j0, j1, j2, j3⟩ := Hpl.out W7 HR7.out))
  go_returns
  exact ⟨rfl, HBw.out W10 (HS5.out.trans (HR10.out.mono HS5.out.size))⟩

theorem sizeOp : (Tryz.prog.info? 34).map (·.size) = some 10 := by kernel_rfl
set_option maxRecDepth 100000 in
set_option maxHeartbeats 8000000 in
theorem does_run (w : World) (bb : Nat) (q : Option Addr) (h : Bo w bb q) (on : Int) (p : ByteArray) (A : Option Addr) (n cap : Nat) (pp : ByteArray) (A0 A1 A2 A3 A4 : Option Addr) (n0 n1 n2 n3 n4 c0 c1 c2 c3 c4 : Nat)
    (hby : ∀ W : World, Below w.heap.size w W → Calls Tryz.prog 17 #[.agg #[.string pp, .slice A0 n0 c0, .slice A1 n1 c1]] W fun e w' => ∃ b : Bool, e = .returned (.bool b) ∧ Below W.heap.size W w')
    (hrun : ∀ W : World, Below w.heap.size w W → Calls Tryz.prog 20 #[.pointer (some ⟨bb, 0, none⟩), .agg #[.int .i64 on, .int .i64 5, .string p, .slice A n cap, .string pp, .slice A0 n0 c0, .slice A1 n1 c1, .slice A2 n2 c2, .slice A3 n3 c3, .slice A4 n4 c4]] W fun e w' => e = .returned (.bool true) ∧ Below W.heap.size W w') :
    Calls Tryz.prog 4 #[.pointer (some ⟨bb, 0, none⟩), .agg #[.int .i64 on, .int .i64 5, .string p, .slice A n cap, .string pp, .slice A0 n0 c0, .slice A1 n1 c1, .slice A2 n2 c2, .slice A3 n3 c3, .slice A4 n4 c4]] w fun e w' => e = .returned (.bool true) ∧ Below w.heap.size w w' := by
  obtain ⟨W0, hW0⟩ : ∃ W0, w.alloc (.cells #[.int .i64 on, .int .i64 5, .string p, .slice A n cap, .string pp, .slice A0 n0 c0, .slice A1 n1 c1, .slice A2 n2 c2, .slice A3 n3 c3, .slice A4 n4 c4] 34) = W0 := ⟨_, rfl⟩
  have hB0 : Below w.heap.size w W0 := hW0 ▸ new_below w _
  have hs0 : w.heap.size < W0.heap.size := by rw [← hW0]; simp
  have hr0 : W0.rangeAt w.heap.size 0 [.int .i64 on, .int .i64 5, .string p, .slice A n cap, .string pp, .slice A0 n0 c0, .slice A1 n1 c1, .slice A2 n2 c2, .slice A3 n3 c3, .slice A4 n4 c4] := hW0 ▸ new_range w [.int .i64 on, .int .i64 5, .string p, .slice A n cap, .string pp, .slice A0 n0 c0, .slice A1 n1 c1, .slice A2 n2 c2, .slice A3 n3 c3, .slice A4 n4 c4] 34
  have o1 : W0.cell? ⟨w.heap.size, 1, none⟩ = some (.int .i64 5) := by have := hr0 1 _ rfl; simpa using this
  have o2 : W0.cell? ⟨w.heap.size, 2, none⟩ = some (.string p) := by have := hr0 2 _ rfl; simpa using this
  have o3 : W0.cell? ⟨w.heap.size, 3, none⟩ = some (.slice A n cap) := by have := hr0 3 _ rfl; simpa using this
  have HW0 := Lib.hid hW0
  have HB0 := Lib.hid hB0
  have Hs0 := Lib.hid hs0
  have Hr0 := Lib.hid hr0
  have H := Lib.hid h
  clear hW0 hB0 hs0 hr0 h
  have hcs : ∀ W : World, Below W0.heap.size W0 W → W.cell? ⟨bb, 0, none⟩ = some (.pointer q) ∧ W.cell? ⟨bb, 1, none⟩ = some (.pointer none) ∧ W.cell? ⟨w.heap.size, 4, none⟩ = some (.string pp) ∧ W.cell? ⟨w.heap.size, 5, none⟩ = some (.slice A0 n0 c0) ∧ W.cell? ⟨w.heap.size, 6, none⟩ = some (.slice A1 n1 c1) ∧ W.cell? ⟨w.heap.size, 7, none⟩ = some (.slice A2 n2 c2) ∧ W.cell? ⟨w.heap.size, 8, none⟩ = some (.slice A3 n3 c3) ∧ W.cell? ⟨w.heap.size, 9, none⟩ = some (.slice A4 n4 c4) := fun W hW => by
    have hlt := H.out.lt
    have z1 := HB0.out.size
    have z3 := Hs0.out
    have hr := rangeAt_below Hr0.out hW z3
    refine ⟨cell_below (cell_below H.out.c0 HB0.out hlt) hW (by omega), cell_below (cell_below H.out.c1 HB0.out hlt) hW (by omega), ?_, ?_, ?_, ?_, ?_, ?_⟩
    · have := hr 4 _ rfl; simpa using this
    · have := hr 5 _ rfl; simpa using this
    · have := hr 6 _ rfl; simpa using this
    · have := hr 7 _ rfl; simpa using this
    · have := hr 8 _ rfl; simpa using this
    · have := hr 9 _ rfl; simpa using this
  have Hcs := Lib.hid hcs
  have HS0 := Lib.hid (show Below W0.heap.size W0 W0.drew from (Below.refl _ _).drew)
  have HBw := Lib.hid (show ∀ W : World, Below W0.heap.size W0 W → Below w.heap.size w W from fun W hW => HB0.out.trans (hW.mono HB0.out.size))
  have HNo := Lib.hid (show ∀ W : World, Below W0.heap.size W0 W → NoW W (.pointer q) from fun W hW => H.out.no.below (HBw.out W hW))
  clear hcs
  go_enter Tryz.func4, Tryz.ntmps4
  go_upto_region 1 with fail
  rw [HW0.out]
  go_upto_region 20 with fail
  clear o1 o2 o3
  refine wp_region_ord [(0, false), (1, false), (2, false), (3, true), (4, false), (5, false), (6, false), (7, false), (8, false), (9, true), (10, false), (11, false), (12, false), (13, false), (14, false), (15, false), (16, false), (17, false), (18, false), (19, false), (20, false), (21, false), (22, true), (23, false), (24, false), (25, false), (26, false), (27, false), (28, true), (29, false), (30, false)] (fun W => Below W0.heap.size W0 W) (by kernel_rfl) (by kernel_rfl) rfl (by kernel_rfl) HS0.out ?_
  simp only [pickH, List.filterMap_cons, List.filterMap_nil, List.getElem?_toArray, List.getElem?_cons_succ, List.getElem?_cons_zero, Option.map_some]
  repeat (first
    | (apply ord_skip; (case hw => rfl); simp only [Act.put, List.setIfInBounds_toArray, List.set_cons_zero, List.set_cons_succ])
    | (apply ord_pass; (case hw => rfl); simp only [Act.put, List.setIfInBounds_toArray, List.set_cons_zero, List.set_cons_succ])
    | (refine ord_yield (yieldsIf_load_mid (by rfl) 34 _ rfl w.heap.size 0 rfl [.int .i64 on, .int .i64 5, .string p, .slice A n cap, .string pp, .slice A0 n0 c0, .slice A1 n1 c1, .slice A2 n2 c2, .slice A3 n3 c3, .slice A4 n4 c4] _ (fun wx hSw => rangeAt_below Hr0.out hSw Hs0.out) Tryz.underlying34 rfl sizeOp) ?_; simp only [Act.put, List.setIfInBounds_toArray, List.set_cons_zero, List.set_cons_succ])
    | (apply ord_take; (case hw => rfl); (case hy => (intro wx hSw; obtain ⟨k0, k1, k4, k5, k6, k7, k8, k9⟩ := Hcs.out wx hSw; go_simp; try exact rfl)); simp only [Act.put, List.setIfInBounds_toArray, List.set_cons_zero, List.set_cons_succ])
    | fail)
  refine ord_call (by rfl) (fun K hK => ?_)
  go_simp
  refine (hby _ (HBw.out _ HS0.out)).mono ?_
  rintro e W1 ⟨b, rfl, hb1⟩
  have HS1 := Lib.hid (show Below W0.heap.size W0 W1 from HS0.out.trans (hb1.mono HS0.out.size))
  refine hK.out _ _ HS1.out ?_
  clear hK K
  try simp only [Act.put, List.setIfInBounds_toArray, List.set_cons_zero, List.set_cons_succ]
  cases b
  case true =>
    repeat (first
      | (apply ord_skip; (case hw => rfl); simp only [Act.put, List.setIfInBounds_toArray, List.set_cons_zero, List.set_cons_succ])
      | (apply ord_pass; (case hw => rfl); simp only [Act.put, List.setIfInBounds_toArray, List.set_cons_zero, List.set_cons_succ])
      | (refine ord_yield (yieldsIf_load_mid (by rfl) 34 _ rfl w.heap.size 0 rfl [.int .i64 on, .int .i64 5, .string p, .slice A n cap, .string pp, .slice A0 n0 c0, .slice A1 n1 c1, .slice A2 n2 c2, .slice A3 n3 c3, .slice A4 n4 c4] _ (fun wx hSw => rangeAt_below Hr0.out hSw Hs0.out) Tryz.underlying34 rfl sizeOp) ?_; simp only [Act.put, List.setIfInBounds_toArray, List.set_cons_zero, List.set_cons_succ])
      | (apply ord_take; (case hw => rfl); (case hy => (intro wx hSw; obtain ⟨k0, k1, k4, k5, k6, k7, k8, k9⟩ := Hcs.out wx hSw; go_simp; try exact rfl)); simp only [Act.put, List.setIfInBounds_toArray, List.set_cons_zero, List.set_cons_succ])
      | fail)
    refine ord_nil ?_
    go_wp2
    go_returns
    exact ⟨rfl, HBw.out W1 HS1.out⟩
  case false =>
    repeat (first
      | (apply ord_skip; (case hw => rfl); simp only [Act.put, List.setIfInBounds_toArray, List.set_cons_zero, List.set_cons_succ])
      | (apply ord_pass; (case hw => rfl); simp only [Act.put, List.setIfInBounds_toArray, List.set_cons_zero, List.set_cons_succ])
      | (refine ord_yield (yieldsIf_load_mid (by rfl) 34 _ rfl w.heap.size 0 rfl [.int .i64 on, .int .i64 5, .string p, .slice A n cap, .string pp, .slice A0 n0 c0, .slice A1 n1 c1, .slice A2 n2 c2, .slice A3 n3 c3, .slice A4 n4 c4] _ (fun wx hSw => rangeAt_below Hr0.out hSw Hs0.out) Tryz.underlying34 rfl sizeOp) ?_; simp only [Act.put, List.setIfInBounds_toArray, List.set_cons_zero, List.set_cons_succ])
      | (apply ord_take; (case hw => rfl); (case hy => (intro wx hSw; obtain ⟨k0, k1, k4, k5, k6, k7, k8, k9⟩ := Hcs.out wx hSw; go_simp; try exact rfl)); simp only [Act.put, List.setIfInBounds_toArray, List.set_cons_zero, List.set_cons_succ])
      | fail)
    refine ord_call (by rfl) (fun K hK => ?_)
    go_simp
    refine (rthere_nil _).mono ?_
    rintro e W2 ⟨rfl, hb2⟩
    have HS2 := Lib.hid (show Below W0.heap.size W0 W2 from HS1.out.trans (hb2.mono HS1.out.size))
    refine hK.out _ _ HS2.out ?_
    clear hK K
    try simp only [Act.put, List.setIfInBounds_toArray, List.set_cons_zero, List.set_cons_succ]
    repeat (first
      | (apply ord_skip; (case hw => rfl); simp only [Act.put, List.setIfInBounds_toArray, List.set_cons_zero, List.set_cons_succ])
      | (apply ord_pass; (case hw => rfl); simp only [Act.put, List.setIfInBounds_toArray, List.set_cons_zero, List.set_cons_succ])
      | (refine ord_yield (yieldsIf_load_mid (by rfl) 34 _ rfl w.heap.size 0 rfl [.int .i64 on, .int .i64 5, .string p, .slice A n cap, .string pp, .slice A0 n0 c0, .slice A1 n1 c1, .slice A2 n2 c2, .slice A3 n3 c3, .slice A4 n4 c4] _ (fun wx hSw => rangeAt_below Hr0.out hSw Hs0.out) Tryz.underlying34 rfl sizeOp) ?_; simp only [Act.put, List.setIfInBounds_toArray, List.set_cons_zero, List.set_cons_succ])
      | (apply ord_take; (case hw => rfl); (case hy => (intro wx hSw; obtain ⟨k0, k1, k4, k5, k6, k7, k8, k9⟩ := Hcs.out wx hSw; go_simp; try exact rfl)); simp only [Act.put, List.setIfInBounds_toArray, List.set_cons_zero, List.set_cons_succ])
      | fail)
    refine ord_call (by rfl) (fun K hK => ?_)
    go_simp
    refine (hrun _ (HBw.out _ HS2.out)).mono ?_
    rintro e W3 ⟨rfl, hb3⟩
    have HS3 := Lib.hid (show Below W0.heap.size W0 W3 from HS2.out.trans (hb3.mono HS2.out.size))
    refine hK.out _ _ HS3.out ?_
    clear hK K
    try simp only [Act.put, List.setIfInBounds_toArray, List.set_cons_zero, List.set_cons_succ]
    repeat (first
      | (apply ord_skip; (case hw => rfl); simp only [Act.put, List.setIfInBounds_toArray, List.set_cons_zero, List.set_cons_succ])
      | (apply ord_pass; (case hw => rfl); simp only [Act.put, List.setIfInBounds_toArray, List.set_cons_zero, List.set_cons_succ])
      | (refine ord_yield (yieldsIf_load_mid (by rfl) 34 _ rfl w.heap.size 0 rfl [.int .i64 on, .int .i64 5, .string p, .slice A n cap, .string pp, .slice A0 n0 c0, .slice A1 n1 c1, .slice A2 n2 c2, .slice A3 n3 c3, .slice A4 n4 c4] _ (fun wx hSw => rangeAt_below Hr0.out hSw Hs0.out) Tryz.underlying34 rfl sizeOp) ?_; simp only [Act.put, List.setIfInBounds_toArray, List.set_cons_zero, List.set_cons_succ])
      | (apply ord_take; (case hw => rfl); (case hy => (intro wx hSw; obtain ⟨k0, k1, k4, k5, k6, k7, k8, k9⟩ := Hcs.out wx hSw; go_simp; try exact rfl)); simp only [Act.put, List.setIfInBounds_toArray, List.set_cons_zero, List.set_cons_succ])
      | fail)
    refine ord_nil ?_
    go_wp2
    go_returns
    exact ⟨rfl, HBw.out W3 HS3.out⟩

set_option maxRecDepth 100000 in
set_option maxHeartbeats 8000000 in
theorem does_else (w : World) (bb : Nat) (kind : Int) (h1 : kind ≠ 1) (h2 : kind ≠ 2) (h3 : kind ≠ 3) (h4 : kind ≠ 4) (h5 : kind ≠ 5) (on : Int) (p : ByteArray) (A : Option Addr) (n cap : Nat) (pp : ByteArray) (A0 A1 A2 A3 A4 : Option Addr) (n0 n1 n2 n3 n4 c0 c1 c2 c3 c4 : Nat) :
    Calls Tryz.prog 4 #[.pointer (some ⟨bb, 0, none⟩), .agg #[.int .i64 on, .int .i64 kind, .string p, .slice A n cap, .string pp, .slice A0 n0 c0, .slice A1 n1 c1, .slice A2 n2 c2, .slice A3 n3 c3, .slice A4 n4 c4]] w fun e w' => e = .returned (.bool true) ∧ Below w.heap.size w w' := by
  go_enter Tryz.func4, Tryz.ntmps4
  go_wp2
  go_returns
  exact ⟨rfl, new_below w _⟩

end Go.Proofs.YtgjdgincebchhaaGreatDoor

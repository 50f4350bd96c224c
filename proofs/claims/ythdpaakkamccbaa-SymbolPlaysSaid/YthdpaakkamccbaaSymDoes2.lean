/-
  Walks: does, of Value, of the calls with lists, of the calls through the table.
-/
import Derived.Test.YthdpaakkamccbaaSymDoes
namespace Go.Proofs.Ythdpaakkamccbaa
open Go.RowKit Go.Maps

theorem below_drew1 {B : Nat} {a w : World} (h : Below B a w) : Below B a w.drew := ⟨h.os, h.tape, h.output, h.size, h.block⟩
theorem new_drew (w : World) (o : Obj) : Below w.heap.size w (w.alloc o).drew := below_drew1 ((Below.refl _ _).alloc (Nat.le_refl _) o)
theorem val0 (w : World) : Blk (w.alloc (.cells #[.int .i8 0, .int .i64 0, .string ⟨#[]⟩] 36)).drew w.heap.size 36 #[.int .i8 0, .int .i64 0, .string ⟨#[]⟩] := Blk.new w _ _

set_option maxRecDepth 100000 in
set_option maxHeartbeats 2000000 in
theorem does_value {w : World} {bb bo : Nat} {bt : TypeId} {bc : Array Value} {tv rv : Value} {st : St} {S1 S2 : List Nat} (h : Pair w bb bo bt bc tv rv st S1 S2) (on n m : Int) (v : Val) (L : Value) (rs : List Int) :
    Calls Try.prog 24 #[.pointer (some ⟨bb, bo, none⟩), .agg (opC on 3 n m v L rs)] w fun e w' => e = .returned (.bool true) ∧ Below w.heap.size w w' := by
  have hwb : IntKind.i32.wrap n ≤ 2147483647 := by rw [IntKind.wrap_i32]; omega
  have hp := fun (W : World) (hb : Below w.heap.size w W) => pt_value (h.pt.below hb) (IntKind.i32.wrap n) (by omega)
  have hr := fun (W : World) (hb : Below w.heap.size w W) => rt_value (h.rt.below hb) (IntKind.i32.wrap n) (by omega)
  obtain ⟨pT, rfl⟩ := h.pt.ptr
  obtain ⟨pR, rfl⟩ := h.rt.ptr
  have H := Lib.hid h.blk
  have Hc0 := Lib.hid h.at0
  have Hc1 := Lib.hid h.at1
  obtain ⟨o0, o1, o2, o3, o4, o5, o6, o7⟩ := opC_at on 3 n m v L rs
  obtain ⟨O, hO⟩ : ∃ O, opC on 3 n m v L rs = O := ⟨_, rfl⟩
  rw [hO] at o0 o1 o2 o3 o4 o5 o6 o7 ⊢
  obtain ⟨⟨⟨uk, un, us⟩, code⟩, hra⟩ : ∃ R, valueA st (IntKind.i32.wrap n) = R := ⟨_, rfl⟩
  rw [hra] at hp hr
  clear hra hO h
  simp only [Val.agg] at hp hr
  have Hp := Lib.hid hp
  have Hr := Lib.hid hr
  have Ho1 := Lib.hid o1
  have Ho2 := Lib.hid o2
  clear hp hr o0 o1 o2 o3 o4 o5 o6 o7 hwb
  go_enter Try.func24, Try.ntmps24
  go_upto_region 1 with fail
  have h3 := tup_new w O 68
  generalize w.alloc (.cells O 68) = W1 at h3 ⊢
  obtain ⟨hb1, hop, hs1⟩ := h3
  have c1 : W1.cell? ⟨w.heap.size, 1, none⟩ = some (.int .i64 3) := (hop.cell 1).trans Ho1.out
  have hcb : ∀ W, Below W1.heap.size W1 W → W.cell? ⟨bb, bo, none⟩ = some (.pointer pT) ∧ W.cell? ⟨bb, bo + 1, none⟩ = some (.pointer pR) ∧ W.cell? ⟨w.heap.size, 2, none⟩ = some (.int .i64 n) := fun W hb => by
    have hbk := (H.out.same (hb1.block _ H.out.lt)).same (hb.block _ (Nat.lt_of_lt_of_le H.out.lt hb1.size))
    have hok := hop.same (hb.block _ hop.lt)
    exact ⟨(hbk.cell bo).trans Hc0.out, (hbk.cell (bo + 1)).trans Hc1.out, (hok.cell 2).trans Ho2.out⟩
  have Hcb := Lib.hid hcb
  clear hop hcb hs1
  go_upto_region 11 with fail
  go_cut [13, 14] (fun x e wx => ∃ gx, x = .pointer (some ⟨gx, 0, none⟩) ∧ e = .int .i64 code ∧ Blk wx gx 36 #[.int .i8 uk, .int .i64 un, .string us] ∧ Below W1.heap.size W1 wx)
  case first =>
    have hS0 : W1.drew.cell? ⟨bb, bo, none⟩ = some (.pointer pT) ∧ W1.drew.cell? ⟨w.heap.size, 2, none⟩ = some (.int .i64 n) := by
      have := Hcb.out W1.drew (drew_below _); exact ⟨this.1, this.2.2⟩
    have Hp1 := Lib.hid (fun W (hb : Below W1.heap.size W1 W) => Hp.out W (hb1.trans (hb.mono hb1.size)))
    have hSall : ∀ W, Below W1.heap.size W1 W → W.cell? ⟨bb, bo, none⟩ = some (.pointer pT) ∧ W.cell? ⟨w.heap.size, 2, none⟩ = some (.int .i64 n) := fun W hb => by
      have := Hcb.out W hb; exact ⟨this.1, this.2.2⟩
    have HSall := Lib.hid hSall
    have hSnew := HSall.out _ (new_drew W1 (.cells #[.int .i8 0, .int .i64 0, .string ⟨#[]⟩] 36))
    clear hSall
    go_region_held3 (fun W' : World => W'.cell? ⟨bb, bo, none⟩ = some (.pointer pT) ∧ W'.cell? ⟨w.heap.size, 2, none⟩ = some (.int .i64 n)) (first | exact hS0 | exact hSnew | exact hS1 | exact hS2 _ | exact hS3) (first
      | (go_at_call 15; refine (Hp1.out W1.drew (drew_below _)).mono ?_; rintro e Wt ⟨rfl, hbt⟩
         have hbt' : Below W1.heap.size W1 Wt := (drew_below W1).trans hbt
         have hS1 := HSall.out Wt hbt'
         have hS2 := fun o => HSall.out (Wt.alloc o) (hbt'.alloc hbt'.size o)
         have hzz := Blk.new Wt 36 #[.int .i8 0, .int .i64 0, .string ⟨#[]⟩]
         have hS3 := HSall.out ((((Wt.alloc (.cells #[.int .i8 0, .int .i64 0, .string ⟨#[]⟩] 36)).setCell ⟨Wt.heap.size, 0, none⟩ (.int .i8 uk)).setCell ⟨Wt.heap.size, 1, none⟩ (.int .i64 un)).setCell ⟨Wt.heap.size, 2, none⟩ (.string us)) ((((hbt'.alloc hbt'.size _).setCell hbt'.size _).setCell hbt'.size _).setCell hbt'.size _))
      | (go_at_call 15; refine (Hp1.out _ (new_drew W1 (.cells #[.int .i8 0, .int .i64 0, .string ⟨#[]⟩] 36))).mono ?_; rintro e Wt ⟨rfl, hbt⟩
         have hbt' : Below W1.heap.size W1 Wt := (new_drew W1 _).trans (hbt.mono (new_drew W1 _).size)
         have hS1 := HSall.out Wt hbt'
         have hzz := (val0 W1).same (hbt.block _ (val0 W1).lt)
         have z0 := hzz.cell 0
         have z1 := fun u => (hzz.set_ 0 u).cell 1
         have z2 := fun u u' => ((hzz.set_ 0 u).set_ 1 u').cell 2
         have g0 := hzz.frozen 0
         have g1 := fun u => (hzz.set_ 0 u).frozen 1
         have g2 := fun u u' => ((hzz.set_ 0 u).set_ 1 u').frozen 2
         have hS3 := HSall.out (((Wt.setCell ⟨W1.heap.size, 0, none⟩ (.int .i8 uk)).setCell ⟨W1.heap.size, 1, none⟩ (.int .i64 un)).setCell ⟨W1.heap.size, 2, none⟩ (.string us)) (((hbt'.setCell (Nat.le_refl _) _).setCell (Nat.le_refl _) _).setCell (Nat.le_refl _) _)))
    all_goals (go_wp2_with fail; go_meet; first
      | exact ⟨_, rfl, rfl, Blk.new Wt _ _, hbt'.alloc hbt'.size _⟩
      | exact ⟨_, rfl, rfl, ((hzz.set_ 0 _).set_ 1 _).set_ 2 _, ((hbt'.setCell (Nat.le_refl _) _).setCell (Nat.le_refl _) _).setCell (Nat.le_refl _) _⟩)
  case rest =>
    obtain ⟨gx, rfl, rfl, hgx, hbW2⟩ := hcut
    obtain ⟨W2, rfl⟩ : ∃ W2 : World, W2 = wc := ⟨_, rfl⟩
    go_upto_region 12 with fail
    go_cut [15, 16] (fun x e wx => ∃ gy, x = .pointer (some ⟨gy, 0, none⟩) ∧ e = .int .i64 code ∧ Blk wx gy 36 #[.int .i8 uk, .int .i64 un, .string us] ∧ Below W2.heap.size W2 wx)
    case first =>
      have hS0 : W2.drew.cell? ⟨bb, bo + 1, none⟩ = some (.pointer pR) ∧ W2.drew.cell? ⟨w.heap.size, 2, none⟩ = some (.int .i64 n) := by
        have := Hcb.out W2.drew (hbW2.trans ((drew_below _).mono hbW2.size)); exact this.2
      have Hp1 := Lib.hid (fun W (hb : Below W2.heap.size W2 W) => Hr.out W (hb1.trans ((hbW2.trans (hb.mono hbW2.size)).mono hb1.size)))
      have hSall : ∀ W, Below W2.heap.size W2 W → W.cell? ⟨bb, bo + 1, none⟩ = some (.pointer pR) ∧ W.cell? ⟨w.heap.size, 2, none⟩ = some (.int .i64 n) := fun W hb => by
        have := Hcb.out W (hbW2.trans (hb.mono hbW2.size)); exact this.2
      have HSall := Lib.hid hSall
      have hSnew := HSall.out _ (new_drew W2 (.cells #[.int .i8 0, .int .i64 0, .string ⟨#[]⟩] 36))
      clear hSall
      go_region_held3 (fun W' : World => W'.cell? ⟨bb, bo + 1, none⟩ = some (.pointer pR) ∧ W'.cell? ⟨w.heap.size, 2, none⟩ = some (.int .i64 n)) (first | exact hS0 | exact hSnew | exact hS1 | exact hS2 _ | exact hS3) (first
        | (go_at_call 37; refine (Hp1.out W2.drew (drew_below _)).mono ?_; rintro e Wt ⟨rfl, hbt⟩
           have hbt' : Below W2.heap.size W2 Wt := (drew_below W2).trans hbt
           have hS1 := HSall.out Wt hbt'
           have hS2 := fun o => HSall.out (Wt.alloc o) (hbt'.alloc hbt'.size o)
           have hzz := Blk.new Wt 36 #[.int .i8 0, .int .i64 0, .string ⟨#[]⟩]
           have hS3 := HSall.out ((((Wt.alloc (.cells #[.int .i8 0, .int .i64 0, .string ⟨#[]⟩] 36)).setCell ⟨Wt.heap.size, 0, none⟩ (.int .i8 uk)).setCell ⟨Wt.heap.size, 1, none⟩ (.int .i64 un)).setCell ⟨Wt.heap.size, 2, none⟩ (.string us)) ((((hbt'.alloc hbt'.size _).setCell hbt'.size _).setCell hbt'.size _).setCell hbt'.size _))
        | (go_at_call 37; refine (Hp1.out _ (new_drew W2 (.cells #[.int .i8 0, .int .i64 0, .string ⟨#[]⟩] 36))).mono ?_; rintro e Wt ⟨rfl, hbt⟩
           have hbt' : Below W2.heap.size W2 Wt := (new_drew W2 _).trans (hbt.mono (new_drew W2 _).size)
           have hS1 := HSall.out Wt hbt'
           have hzz := (val0 W2).same (hbt.block _ (val0 W2).lt)
           have z0 := hzz.cell 0
           have z1 := fun u => (hzz.set_ 0 u).cell 1
           have z2 := fun u u' => ((hzz.set_ 0 u).set_ 1 u').cell 2
           have g0 := hzz.frozen 0
           have g1 := fun u => (hzz.set_ 0 u).frozen 1
           have g2 := fun u u' => ((hzz.set_ 0 u).set_ 1 u').frozen 2
           have hS3 := HSall.out (((Wt.setCell ⟨W2.heap.size, 0, none⟩ (.int .i8 uk)).setCell ⟨W2.heap.size, 1, none⟩ (.int .i64 un)).setCell ⟨W2.heap.size, 2, none⟩ (.string us)) (((hbt'.setCell (Nat.le_refl _) _).setCell (Nat.le_refl _) _).setCell (Nat.le_refl _) _)))
      all_goals (go_wp2_with fail; go_meet; first
        | exact ⟨_, rfl, rfl, Blk.new Wt _ _, hbt'.alloc hbt'.size _⟩
        | exact ⟨_, rfl, rfl, ((hzz.set_ 0 _).set_ 1 _).set_ 2 _, ((hbt'.setCell (Nat.le_refl _) _).setCell (Nat.le_refl _) _).setCell (Nat.le_refl _) _⟩)
    case rest =>
      obtain ⟨gy, rfl, rfl, hgy, hbW3⟩ := hcut
      obtain ⟨W3, rfl⟩ : ∃ W3 : World, W3 = wc := ⟨_, rfl⟩
      have hgx3 := hgx.same (hbW3.block _ hgx.lt)
      have x0 : W3.cell? ⟨gx, 0, none⟩ = some (.int .i8 uk) := hgx3.cell 0
      have x1 : W3.cell? ⟨gx, 1, none⟩ = some (.int .i64 un) := hgx3.cell 1
      have x2 : W3.cell? ⟨gx, 2, none⟩ = some (.string us) := hgx3.cell 2
      have y0 : W3.cell? ⟨gy, 0, none⟩ = some (.int .i8 uk) := hgy.cell 0
      have y1 : W3.cell? ⟨gy, 1, none⟩ = some (.int .i64 un) := hgy.cell 1
      have y2 : W3.cell? ⟨gy, 2, none⟩ = some (.string us) := hgy.cell 2
      have hveq : veq ⟨uk, un, us⟩ ⟨uk, un, us⟩ = true := by unfold veq; simp
      have hbw := hb1.trans ((hbW2.trans (hbW3.mono hbW2.size)).mono hb1.size)
      clear hgx hgx3 hgy hbW2 hbW3
      go_wp2
      go_ret
      exact ⟨by simp, hbw⟩

end Go.Proofs.Ythdpaakkamccbaa

/-
  Walk: asks, over a table that is not there.
-/
import Derived.Test.YthdpaakkamccbaaSymAmid0
import Derived.Test.YthdpaakkamccbaaSymDoes3
namespace Go.Proofs.Ythdpaakkamccbaa
open Go.RowKit Go.Maps

theorem fin_below {w w' : World} {bb : Nat} {a b c : Value} (hb : Blk w bb 61 #[a, b, c]) (h : Below w.heap.size w w') : Chg [bb] w w' ∧ ∃ k', Blk w' bb 61 #[a, b, k'] :=
  ⟨Chg.of_below _ h, _, hb.same (h.block _ hb.lt)⟩

set_option maxRecDepth 100000 in
set_option maxHeartbeats 2000000 in
theorem asks_none {w : World} {bb : Nat} {p : Option Addr} (hb : Blk w bb 61 #[.pointer p, .pointer none, .nilFunc]) (hN : NoT w (.pointer p)) (on kind n m : Int) (v : Val) (L : Value) (rs : List Int) (hrl : rs.length = 24) :
    Calls Try.prog 39 #[.pointer (some ⟨bb, 0, none⟩), .agg (opC on kind n m v L rs)] w fun e w' => e = .returned (.bool true) ∧ Chg [bb] w w' ∧ ∃ k', Blk w' bb 61 #[.pointer p, .pointer none, k'] := by
  obtain ⟨o0, o1, o2, o3, o4, o5, o6, o7⟩ := opC_at on kind n m v L rs
  have hinfo := op_info on kind n m v L rs hrl
  obtain ⟨O, hO⟩ : ∃ O, opC on kind n m v L rs = O := ⟨_, rfl⟩
  rw [hO] at o0 o1 o2 o3 o4 o5 o6 o7 hinfo ⊢
  have Ho1 := Lib.hid o1
  have Ho2 := Lib.hid o2
  have Hb := Lib.hid hb
  have HN := Lib.hid hN
  have hfn := fun k => func_nil (.func 41) #[] #[.pointer (some ⟨k, 0, none⟩)]
  have hnn := nil_nil
  clear o0 o1 o2 o3 o4 o5 o6 o7 hO hrl hb hN
  go_enter Try.func39, Try.ntmps39
  go_upto_region 1 with fail
  have h3 := tup_new w O 68
  generalize w.alloc (.cells O 68) = W1 at h3 ⊢
  obtain ⟨hb1, hop, hs1⟩ := h3
  have c1 := (hop.cell 1).trans Ho1.out
  have hcb : ∀ W, Below W1.heap.size W1 W → W.cell? ⟨bb, 0, none⟩ = some (.pointer p) ∧ W.cell? ⟨bb, 1, none⟩ = some (.pointer none) ∧ W.cell? ⟨bb, 2, none⟩ = some .nilFunc ∧ W.cell? ⟨w.heap.size, 2, none⟩ = some (.int .i64 n) := fun W hw => by
    have hbk := (Hb.out.same (hb1.block _ Hb.out.lt)).same (hw.block _ (Nat.lt_of_lt_of_le Hb.out.lt hb1.size))
    have hok := hop.same (hw.block _ hop.lt)
    exact ⟨hbk.cell 0, hbk.cell 1, hbk.cell 2, (hok.cell 2).trans Ho2.out⟩
  have Hcb := Lib.hid hcb
  have HN1 := Lib.hid (HN.out.below hb1)
  have Hb1 := Lib.hid (Hb.out.same (hb1.block _ Hb.out.lt))
  have c0 := (hcb W1 (Below.refl _ _)).1
  have cc1 := (hcb W1 (Below.refl _ _)).2.1
  have cc2 := (hcb W1 (Below.refl _ _)).2.2.1
  have cn := (hcb W1 (Below.refl _ _)).2.2.2
  have f2 : W1.frozen? ⟨bb, 2, none⟩ = false := Hb1.out.frozen 2
  clear hcb hs1
  by_cases k8 : kind = 8
  · subst k8
    have hAll := Lib.hid (all_any (.pointer p) W1 rfl)
    go_upto_region 4 with (go_at_call 27; refine hAll.out.mono ?_; rintro e W2 ⟨rfl, hW2⟩
                           have h2 : Below W1.heap.size W1 W2 ∧ Blk W2 W1.heap.size 25 #[.pointer p] := by rw [hW2]; exact ⟨(tup_new W1 _ _).1, Blk.new W1 _ _⟩
                           clear hW2)
    obtain ⟨hbW2, hkb⟩ := h2
    have hS : ∀ W, Below W2.heap.size W2 W → W.cell? ⟨bb, 1, none⟩ = some (.pointer none) ∧ W.cell? ⟨w.heap.size, 2, none⟩ = some (.int .i64 n) := fun W hw => by
      have := Hcb.out W (hbW2.trans (hw.mono hbW2.size)); exact ⟨this.2.1, this.2.2.2⟩
    have HS := Lib.hid hS
    have ht : ∀ W, Below W2.heap.size W2 W → ∀ q : Int, Calls Try.prog 26 #[.func (.func 41) #[] #[.pointer (some ⟨W1.heap.size, 0, none⟩)], .slice none 0 0, .int .i64 q] W fun e w' => e = .returned (.bool true) ∧ Below W.heap.size W w' :=
      fun W hw q => tells_none (hkb.same (hw.block _ hkb.lt)) (HN1.out.below (hbW2.trans (hw.mono hbW2.size))) q
    have Ht := Lib.hid ht
    have Hnil := Lib.hid nil_all
    have Ht1 := Lib.hid (ht W2.drew (drew_below _))
    have hS0 := hS W2.drew (drew_below _)
    have Hkb := Lib.hid hkb
    clear hS ht c0 c1 cc1 cc2 cn f2 hop hkb
    go_region_held3 (fun W' : World => W'.cell? ⟨bb, 1, none⟩ = some (.pointer none) ∧ W'.cell? ⟨w.heap.size, 2, none⟩ = some (.int .i64 n)) (first | exact hS0 | exact hS1 | exact hS2) (first
      | (go_at_call 28; refine (Hnil.out _).mono ?_; rintro e Wt0 ⟨rfl, rfl⟩)
      | (go_at_call 26; refine (Ht1.out _).mono ?_; clear Ht1; rintro e Wt ⟨rfl, hbt⟩
         have hbt' : Below W2.heap.size W2 Wt := (drew_below W2).trans hbt
         have hS1 := HS.out Wt hbt')
      | (go_at_call 26; refine (Ht.out _ hbt' _).mono ?_; rintro e Wu ⟨rfl, hbu⟩
         have hbu' : Below W2.heap.size W2 Wu := hbt'.trans (hbu.mono hbt'.size)
         have hS2 := HS.out Wu hbu'))
    all_goals
      go_wp2
      go_ret
      exact ⟨rfl, fin_below Hb.out (hb1.trans ((hbW2.trans (hbu'.mono hbW2.size)).mono hb1.size))⟩
  by_cases k9 : kind = 9
  · subst k9
    go_wp2_with (go_at_call 27; refine (all_any _ _ rfl).mono ?_; rintro e W2 ⟨rfl, hW2⟩
                 have h2 : Below W1.heap.size W1 W2 := by rw [hW2]; exact (tup_new W1 _ _).1
                 clear hW2 c0 cc1 cc2 cn f2
                 have cc2 := (Hcb.out W2 h2).2.2.1
                 have f2 : W2.frozen? ⟨bb, 2, none⟩ = false := (Hb1.out.same (h2.block _ Hb1.out.lt)).frozen 2)
    go_ret
    exact ⟨rfl, (Chg.of_below _ (hb1.trans (h2.mono hb1.size))).setCell (.inl (by simp)) _, _, (Hb1.out.same (h2.block _ Hb1.out.lt)).set_ 2 _⟩
  by_cases k10 : kind = 10
  · subst k10
    go_wp2
    go_quiet (fail)
    go_wp2
    go_ret
    exact ⟨rfl, fin_below Hb.out (below_drewN hb1 _)⟩
  by_cases k11 : kind = 11
  · subst k11
    have Ham := Lib.hid (amid_none Hb1.out HN1.out O)
    go_wp2_with (first
      | (refine at_load 68 _ rfl ?_; refine wpList_load_row rfl 68 _ rfl w.heap.size rfl 68 O (0, 0) _ hop Try.underlying68 rfl hinfo ?_)
      | (go_at_call 46; refine Ham.out.mono ?_; rintro e W2 ⟨rfl, hb2⟩))
    go_ret
    exact ⟨rfl, fin_below Hb.out (hb1.trans (hb2.mono hb1.size))⟩
  by_cases k7 : kind = 7
  · subst k7
    have Hnc := Lib.hid (no_cut (HN1.out.below (drew_below W1)) n)
    have Hlc := Lib.hid (nil_cut n W1.drew)
    have hS0 : W1.drew.cell? ⟨bb, 0, none⟩ = some (.pointer p) ∧ W1.drew.cell? ⟨bb, 1, none⟩ = some (.pointer none) ∧ W1.drew.cell? ⟨w.heap.size, 2, none⟩ = some (.int .i64 n) := ⟨c0, cc1, cn⟩
    go_upto_region 12 with fail
    clear c0 c1 cc1 cc2 cn f2 hop
    go_region_held3 (fun W' : World => W'.cell? ⟨bb, 0, none⟩ = some (.pointer p) ∧ W'.cell? ⟨bb, 1, none⟩ = some (.pointer none) ∧ W'.cell? ⟨w.heap.size, 2, none⟩ = some (.int .i64 n)) (first | exact hS0) (first
      | (go_at_call 12; refine Hnc.out.mono ?_; rintro e Wt ⟨rfl, rfl⟩)
      | (go_at_call 47; refine Hlc.out.mono ?_; rintro e Wt ⟨rfl, rfl⟩))
    all_goals
      go_wp2
      go_ret
      exact ⟨by simp, fin_below Hb.out (hb1.trans ((drew_below W1).mono hb1.size))⟩
  have q8 : (kind == 8) = false := by simpa using k8
  have q9 : (kind == 9) = false := by simpa using k9
  have q10 : (kind == 10) = false := by simpa using k10
  have q11 : (kind == 11) = false := by simpa using k11
  have q7 : (kind == 7) = false := by simpa using k7
  clear k8 k9 k10 k11 k7
  go_wp2
  go_ret
  exact ⟨rfl, fin_below Hb.out hb1⟩

end Go.Proofs.Ythdpaakkamccbaa

/-
  Walks: Cut of a table that is there.
-/
import Derived.Test.YthdpaakkamccbaaSymAddN
namespace Go.Proofs.Ythdpaakkamccbaa
open Go.RowKit Go.Maps

set_option maxHeartbeats 400000 in
theorem cut_bad {w : World} {tb most : Nat} {vs : List Val} {S : List Nat} (h : Tab w tb most vs S) (n : Int) (hn : n < 0 ∨ vs.length < n) :
    Calls Try.prog 12 #[.pointer (some ⟨tb, 0, none⟩), .int .i64 n] w fun e w' => e = .returned (.int .i64 1) ∧ w' = w := by
  obtain ⟨mb, A, cap, D, ht, rfl⟩ := h
  have hth := Lib.hid (there_any tb _ mb _ w ht.blk)
  have c2 : w.cell? ⟨tb, 2, none⟩ = some (.slice A vs.length cap) := ht.blk.cell 2
  clear ht
  generalize vs.length = l at hn c2
  rcases hn with hn | hn
  · have hd : decide (n < 0) = true := by simp [hn]
    go_enter Try.func12, Try.ntmps12
    go_wp2_with (go_at_call 29; refine hth.out.mono ?_; rintro e w1 ⟨rfl, hw1⟩; obtain rfl : w = w1 := hw1.symm)
    go_ret
    exact ⟨rfl, rfl⟩
  · have hd : decide (n < 0) = false := by simp; omega
    go_enter Try.func12, Try.ntmps12
    go_wp2_with (go_at_call 29; refine hth.out.mono ?_; rintro e w1 ⟨rfl, hw1⟩; obtain rfl : w = w1 := hw1.symm)
    go_ret
    exact ⟨rfl, rfl⟩

/-- what stands behind the deletions and the store of the field. -/
theorem cut_end {w wr : World} {tb most mb cap l n : Nat} {A : Option Addr} {vs : List Val} {D : DataW Unit} (ht : TabAt w tb most vs mb A cap D) (hn : n ≤ vs.length)
    (hblk : Blk wr tb 77 #[.int .i64 most, .map (some mb), .slice A l cap]) (hrow : RowV wr A cap vs)
    (hown : wr.ownsMap Try.prog 36 (plainElem Try.prog 30) mb l ((vs.drop n).foldl (fun D v => D.del v.lit) D)) (hC : Chg [mb] w wr) :
    TabAt (wr.setCell ⟨tb, 2, none⟩ (.slice A n cap)) tb most (vs.take n) mb A cap ((vs.drop n).foldl (fun D v => D.del v.lit) D) ∧ Chg (footOf tb mb A) w (wr.setCell ⟨tb, 2, none⟩ (.slice A n cap)) := by
  have hl : (vs.take n).length = n := by rw [List.length_take]; omega
  have hsplit : vs.take n ++ vs.drop n = vs := List.take_append_drop n vs
  have hnums : Nums ((vs.drop n).foldl (fun D v => D.del v.lit) D) (vs.take n) := Nums.cut (us := vs.drop n) (by rw [hsplit]; exact ht.nums) (by rw [hsplit]; exact ht.wf) (by rw [hsplit]; exact ht.nodup)
  refine ⟨⟨?_, ?_, hnums, ?_, fun v hv => ht.wf v (List.mem_of_mem_take hv), fun v hv => ht.ok v (List.mem_of_mem_take hv), ht.nodup.sublist (List.take_sublist _ _), by have := ht.le; omega, ht.most⟩, ?_⟩
  · rw [hl]
    exact hblk.set_ 2 _
  · exact ownsMap_exact (ownsMap_same hown (Below.heap_setCell _ _ _ _ ht.mb_ne)) (Nat.le_of_eq hnums.size)
  · exact (hrow.take n hn).same (fun g hg => Below.heap_setCell _ _ _ _ (ht.row_ne g hg))
  · exact (hC.mono (by simp [footOf])).setCell (.inl (by simp [footOf])) _

set_option maxHeartbeats 1000000 in
theorem cut_ok {w : World} {tb most : Nat} {vs : List Val} {S : List Nat} (h : Tab w tb most vs S) (n : Nat) (hn : n ≤ vs.length) :
    Calls Try.prog 12 #[.pointer (some ⟨tb, 0, none⟩), .int .i64 (n : Int)] w fun e w' => e = .returned (.int .i64 0) ∧ Tab w' tb most (vs.take n) S ∧ Chg S w w' := by
  obtain ⟨mb, A, cap, D, ht, rfl⟩ := h
  have hth := Lib.hid (there_any tb _ mb _ w ht.blk)
  have hd : decide ((n : Int) < 0) = false := by simp
  have hmost : vs.length ≤ 2147483647 := Nat.le_trans ht.le ht.most
  have c2 : w.cell? ⟨tb, 2, none⟩ = some (.slice A vs.length cap) := ht.blk.cell 2
  have Ht := Lib.hid ht
  have hform := ht.row.form
  clear ht
  obtain ⟨l, hl⟩ : ∃ l, vs.length = l := ⟨_, rfl⟩
  rw [hl] at c2 hn hmost
  by_cases hnl : n = l
  · -- nothing is struck
    subst hnl
    have hcap : n ≤ cap ∧ cap ≤ 9223372036854775807 := by
      rcases hform with ⟨_, rfl, h0⟩ | ⟨g, _, _, h1, h2⟩
      · rw [h0] at hl; simp at hl; omega
      · unfold maxLen at h2; omega
    obtain ⟨hc1, hc2⟩ := hcap
    have ltb := Ht.out.blk.lt
    have f2 : w.frozen? ⟨tb, 2, none⟩ = false := Ht.out.blk.frozen 2
    have hend : TabAt (w.setCell ⟨tb, 2, none⟩ (.slice A n cap)) tb most (vs.take n) mb A cap D := by
      rw [List.take_of_length_le (by omega)]
      have hA : mb ≠ tb := Ht.out.mb_ne
      have hg : ∀ g ∈ blkOf A, g ≠ tb := Ht.out.row_ne
      refine ⟨?_, ownsMap_same Ht.out.own (Below.heap_setCell _ _ _ _ hA), Ht.out.nums, Ht.out.row.same (fun g hm => Below.heap_setCell _ _ _ _ (hg g hm)), Ht.out.wf, Ht.out.ok, Ht.out.nodup, Ht.out.le, Ht.out.most⟩
      have := Ht.out.blk.set_ 2 (.slice A n cap)
      rw [hl] at this ⊢
      exact this
    have Hend := Lib.hid hend
    clear hend hform hl
    by_cases hcn : cap = n
    · subst hcn
      go_enter Try.func12, Try.ntmps12
      go_wp2_with (go_at_call 29; refine hth.out.mono ?_; rintro e w1 ⟨rfl, hw1⟩; obtain rfl : w = w1 := hw1.symm)
      refine wp_loop_rounds 1 ?_
      rw [rounds_succ]
      go_wp2
      go_ret
      exact ⟨rfl, ⟨mb, A, cap, D, Hend.out, rfl⟩, (Chg.refl _ _).setCell (.inl (by simp [footOf])) _⟩
    · have hcn' : ¬ cap = n := hcn
      go_enter Try.func12, Try.ntmps12
      go_wp2_with (go_at_call 29; refine hth.out.mono ?_; rintro e w1 ⟨rfl, hw1⟩; obtain rfl : w = w1 := hw1.symm)
      refine wp_loop_rounds 1 ?_
      rw [rounds_succ]
      go_wp2
      go_ret
      exact ⟨rfl, ⟨mb, A, cap, D, Hend.out, rfl⟩, (Chg.refl _ _).setCell (.inl (by simp [footOf])) _⟩
  · obtain ⟨g, rfl, hg, hlc, hcm⟩ : ∃ g, A = some ⟨g, 0, none⟩ ∧ g < w.heap.size ∧ vs.length ≤ cap ∧ cap ≤ maxLen := by
      rcases hform with ⟨_, rfl, h0⟩ | h0
      · rw [h0] at hl; simp at hl; omega
      · exact h0
    clear hform
    rw [hl] at hlc
    have Hl := Lib.hid hl
    clear hl
    have hcm' : cap ≤ 9223372036854775807 := by unfold maxLen at hcm; omega
    have hcn : ¬ cap = n := by omega
    have hmbt : mb ≠ tb := Ht.out.mb_ne
    have hgt : g ≠ tb := Ht.out.row_ne g (by simp [blkOf])
    have hgm : g ≠ mb := Ht.out.row_ne_mb g (by simp [blkOf])
    have ltb := Ht.out.blk.lt
    have hd2 : decide (l < n) = false := by simp; omega
    go_enter Try.func12, Try.ntmps12
    go_wp2_with (go_at_call 29; refine hth.out.mono ?_; rintro e w1 ⟨rfl, hw1⟩; obtain rfl : w = w1 := hw1.symm)
    go_loopg [28] (l - n) (fun gk i wx => ∃ j : Nat, j ≤ l - n ∧ gk = l - n - j ∧ i = .int .i64 j ∧ wx.ownsMap Try.prog 36 (plainElem Try.prog 30) mb l (((vs.drop n).take j).foldl (fun D v => D.del v.lit) D) ∧ Chg [mb] w wx)
    case atStart =>
      refine ⟨0, Nat.zero_le _, rfl, rfl, ?_, Chg.refl _ _⟩
      have := Ht.out.own
      rw [Hl.out] at this
      exact this
    case round =>
      obtain ⟨j, hj, rfl, rfl, hown, hC⟩ := hrel
      by_cases hlt : j < l - n
      · have hrow : RowV wr (some ⟨g, 0, none⟩) cap vs := Ht.out.row.same (fun k hk => by simp [blkOf] at hk; subst hk; exact hC.block _ hg (by simp [hgm]))
        have hblk : Blk wr tb 77 #[.int .i64 most, .map (some mb), .slice (some ⟨g, 0, none⟩) l cap] := by
          have := Ht.out.blk.same (hC.block tb ltb (by simpa using hmbt.symm)); rw [Hl.out] at this; exact this
        obtain ⟨d0, d1, d2⟩ := hrow.three (n + j) (by rw [Hl.out]; omega)
        have hwf := Ht.out.wf (vs[n + j]'(by rw [Hl.out]; omega)) (by simp)
        have hkey := key_some _ hwf
        have hD : Hid (((vs.drop n).take (j + 1)).foldl (fun D v => D.del v.lit) D = (((vs.drop n).take j).foldl (fun D v => D.del v.lit) D).del (vs[n + j]'(by rw [Hl.out]; omega)).lit) := Lib.hid (by
          rw [List.take_succ_eq_append_getElem (by rw [List.length_drop, Hl.out]; omega), List.foldl_append]
          simp)
        generalize (vs[n + j]'(by rw [Hl.out]; omega)).lit = kl at hkey hD
        generalize (vs[n + j]'(by rw [Hl.out]; omega)) = v at d0 d1 d2 hkey hwf
        generalize (((vs.drop n).take j).foldl (fun D v => D.del v.lit) D) = Dj at hown hD
        obtain ⟨vk, vn, s⟩ := v
        simp only [Val.agg] at hkey d0 d1 d2
        clear hwf
        have c1 : wr.cell? ⟨tb, 1, none⟩ = some (.map (some mb)) := hblk.cell 1
        have ltb2 := hblk.lt
        rw [show (n + j) * 3 = n * 3 + j * 3 from by omega] at d0 d1 d2
        go_wp2
        have hX := Blk.new wr 36 #[.int .i8 vk, .int .i64 vn, .string s]
        have hownA := (hown.alloc (.cells #[.int .i8 vk, .int .i64 vn, .string s] 36)).drew
        have hCA := (hC.alloc (.cells #[.int .i8 vk, .int .i64 vn, .string s] 36)).drew
        refine still_tail 5 (by kernel_rfl) (by kernel_rfl) ?_
        simp only [List.take_succ_cons, List.take_zero, List.drop_succ_cons, List.drop_zero]
        repeat still_step
        refine wpStill_nil ?_
        go_wp2_with (at_delete; refine wpList_delete_own _ rfl _ _ 75 36 rfl 30 law Try.underlying75 _ mb l _ rfl hownA _ _ rfl hkey ?_; intro W3 hown3 hturn3)
        have hC3 := hCA.grown hturn3.grown (fun k hk => by cases hk; left; simp)
        rw [← hD.out] at hown3
        have Hown3 := Lib.hid hown3
        have HC3 := Lib.hid hC3
        clear hown3 hC3 hturn3 hownA hCA hown hC hD
        go_wp2
        go_roundg (l - n - (j + 1))
        case measure => omega
        case rel => exact ⟨j + 1, by omega, rfl, by go_num, Hown3.out, HC3.out⟩
      · obtain rfl : j = l - n := by omega
        have hblk : Blk wr tb 77 #[.int .i64 most, .map (some mb), .slice (some ⟨g, 0, none⟩) l cap] := by
          have := Ht.out.blk.same (hC.block tb ltb (by simpa using hmbt.symm)); rw [Hl.out] at this; exact this
        have hrow : RowV wr (some ⟨g, 0, none⟩) cap vs := Ht.out.row.same (fun k hk => by simp [blkOf] at hk; subst hk; exact hC.block _ hg (by simp [hgm]))
        have c2 : wr.cell? ⟨tb, 2, none⟩ = some (.slice (some ⟨g, 0, none⟩) l cap) := hblk.cell 2
        have f2 : wr.frozen? ⟨tb, 2, none⟩ = false := hblk.frozen 2
        have hend := cut_end Ht.out (by rw [Hl.out]; exact hn) hblk hrow (by rw [List.take_of_length_le (by rw [List.length_drop, Hl.out]; omega)] at hown; exact hown) hC
        have Hend := Lib.hid hend
        clear hend hblk hrow hown hC
        go_wp2
        go_ret
        exact ⟨rfl, ⟨mb, _, cap, _, Hend.out.1, rfl⟩, Hend.out.2⟩

end Go.Proofs.Ythdpaakkamccbaa

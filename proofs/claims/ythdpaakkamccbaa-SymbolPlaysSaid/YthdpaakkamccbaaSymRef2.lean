/-
  Walks of the document's table: Add.
-/
import Derived.Test.YthdpaakkamccbaaSymRef1
import Derived.Test.YthdpaakkamccbaaSymFull
namespace Go.Proofs.Ythdpaakkamccbaa
open Go.RowKit Go.Maps

theorem box_new (w : World) (vk vn : Int) (s : ByteArray) : Below w.heap.size w (w.alloc (.cells #[.int .i8 vk, .int .i64 vn, .string s] 36)) ∧ Blk (w.alloc (.cells #[.int .i8 vk, .int .i64 vn, .string s] 36)) w.heap.size 36 #[.int .i8 vk, .int .i64 vn, .string s] :=
  ⟨(Below.refl _ _).alloc (Nat.le_refl _) _, Blk.new w _ _⟩

set_option maxHeartbeats 1000000 in
theorem ref_add_bad {w : World} {rb most : Nat} {vs : List Val} {S : List Nat} (h : RTab w rb most vs S) (v : Val) (hok : v.ok = false) :
    Calls Try.prog 35 #[.pointer (some ⟨rb, 0, none⟩), v.agg] w fun e w' => e = .returned (.tuple #[.int .i32 0, .int .i64 10]) ∧ Below w.heap.size w w' := by
  have Hth := Lib.hid (fun W (hb : Below w.heap.size w W) => ref_there (h.below hb))
  have Hck := Lib.hid (fun W => show Calls Try.prog 20 #[v.agg] W fun e w' => e = .returned (.int .i64 10) ∧ Below W.heap.size W w' by have := rcheck_any v W; unfold Val.code at this; rw [hok] at this; exact this)
  clear h hok
  obtain ⟨vk, vn, s⟩ := v
  simp only [Val.agg] at Hck ⊢
  go_enter Try.func35, Try.ntmps35
  go_wp2_with (first
    | (go_at_call 40; refine (Hth.out _ (box_new w vk vn s).1).mono ?_; rintro e W1 ⟨rfl, hW1⟩
       have h1 : Below w.heap.size w W1 ∧ Blk W1 w.heap.size 36 #[.int .i8 vk, .int .i64 vn, .string s] := by rw [hW1]; exact box_new w vk vn s
       clear hW1
       obtain ⟨hbW1, hbox⟩ := h1
       have x0 : W1.cell? ⟨w.heap.size, 0, none⟩ = some (.int .i8 vk) := hbox.cell 0
       have x1 : W1.cell? ⟨w.heap.size, 1, none⟩ = some (.int .i64 vn) := hbox.cell 1
       have x2 : W1.cell? ⟨w.heap.size, 2, none⟩ = some (.string s) := hbox.cell 2)
    | (go_at_call 20; refine (Hck.out W1).mono ?_; rintro e W2 ⟨rfl, hb2⟩))
  go_ret2
  exact ⟨rfl, hbW1.trans (hb2.mono hbW1.size)⟩

set_option maxHeartbeats 1000000 in
theorem ref_add_old {w : World} {rb most : Nat} {vs : List Val} {S : List Nat} (h : RTab w rb most vs S) (v : Val) (hok : v.ok = true) (hm : v ∈ vs) :
    Calls Try.prog 35 #[.pointer (some ⟨rb, 0, none⟩), v.agg] w fun e w' => e = .returned (.tuple #[.int .i32 (vs.idxOf v : Int), .int .i64 0]) ∧ Below w.heap.size w w' := by
  have Hth := Lib.hid (fun W (hb : Below w.heap.size w W) => ref_there (h.below hb))
  have Hck := Lib.hid (fun W => show Calls Try.prog 20 #[v.agg] W fun e w' => e = .returned (.int .i64 0) ∧ Below W.heap.size W w' by have := rcheck_any v W; unfold Val.code at this; rw [hok] at this; exact this)
  have hfd := fun W (hb : Below w.heap.size w W) => ref_find (h.below hb) v
  rw [decide_eq_true hm, show numOf vs v = vs.idxOf v from by unfold numOf; rw [if_pos hm]] at hfd
  have Hfd := Lib.hid hfd
  clear h hok hm hfd
  generalize (vs.idxOf v : Int) = q at Hfd ⊢
  obtain ⟨vk, vn, s⟩ := v
  simp only [Val.agg] at Hck Hfd ⊢
  go_enter Try.func35, Try.ntmps35
  go_wp2_with (first
    | (go_at_call 40; refine (Hth.out _ (box_new w vk vn s).1).mono ?_; rintro e W1 ⟨rfl, hW1⟩
       have h1 : Below w.heap.size w W1 ∧ Blk W1 w.heap.size 36 #[.int .i8 vk, .int .i64 vn, .string s] := by rw [hW1]; exact box_new w vk vn s
       clear hW1
       obtain ⟨hbW1, hbox⟩ := h1
       have x0 : W1.cell? ⟨w.heap.size, 0, none⟩ = some (.int .i8 vk) := hbox.cell 0
       have x1 : W1.cell? ⟨w.heap.size, 1, none⟩ = some (.int .i64 vn) := hbox.cell 1
       have x2 : W1.cell? ⟨w.heap.size, 2, none⟩ = some (.string s) := hbox.cell 2)
    | (go_at_call 20; refine (Hck.out W1).mono ?_; rintro e W2 ⟨rfl, hb2⟩
       have y0 := (hb2.cell (p := ⟨w.heap.size, 0, none⟩) hbox.lt).trans x0
       have y1 := (hb2.cell (p := ⟨w.heap.size, 1, none⟩) hbox.lt).trans x1
       have y2 := (hb2.cell (p := ⟨w.heap.size, 2, none⟩) hbox.lt).trans x2
       have hbW2 := hbW1.trans (hb2.mono hbW1.size)
       clear x0 x1 x2)
    | (go_at_call 36; refine (Hfd.out W2 hbW2).mono ?_; rintro e W3 ⟨rfl, hb3⟩))
  go_ret2
  exact ⟨rfl, hbW2.trans (hb3.mono hbW2.size)⟩

set_option maxHeartbeats 1000000 in
theorem ref_add_full {w : World} {rb most : Nat} {vs : List Val} {S : List Nat} (h : RTab w rb most vs S) (v : Val) (hok : v.ok = true) (hm : v ∉ vs) (hf : most ≤ vs.length) :
    Calls Try.prog 35 #[.pointer (some ⟨rb, 0, none⟩), v.agg] w fun e w' => e = .returned (.tuple #[.int .i32 0, .int .i64 20]) ∧ Below w.heap.size w w' := by
  have Hth := Lib.hid (fun W (hb : Below w.heap.size w W) => ref_there (h.below hb))
  have Hck := Lib.hid (fun W => show Calls Try.prog 20 #[v.agg] W fun e w' => e = .returned (.int .i64 0) ∧ Below W.heap.size W w' by have := rcheck_any v W; unfold Val.code at this; rw [hok] at this; exact this)
  have hfd := fun W (hb : Below w.heap.size w W) => ref_find (h.below hb) v
  rw [decide_eq_false hm] at hfd
  generalize (numOf vs v : Int) = q at hfd
  have Hfd := Lib.hid hfd
  have hcells : ∀ W, Below w.heap.size w W → ∃ A cap, W.cell? ⟨rb, 2, none⟩ = some (.slice A vs.length cap) ∧ W.cell? ⟨rb, 1, none⟩ = some (.int .i64 (most : Int)) := fun W hb => by
    obtain ⟨A, cap, ht, _⟩ := h.below hb
    exact ⟨A, cap, ht.blk.cell 2, ht.blk.cell 1⟩
  have Hcells := Lib.hid hcells
  have hd : decide ((most : Int) ≤ (vs.length : Int)) = true := by simp; omega
  have hd' : decide (most ≤ vs.length) = true := by simp; omega
  clear h hok hm hfd hcells
  generalize vs.length = n at Hcells hd hd' hf
  obtain ⟨vk, vn, s⟩ := v
  simp only [Val.agg] at Hck Hfd ⊢
  go_enter Try.func35, Try.ntmps35
  go_wp2_with (first
    | (go_at_call 40; refine (Hth.out _ (box_new w vk vn s).1).mono ?_; rintro e W1 ⟨rfl, hW1⟩
       have h1 : Below w.heap.size w W1 ∧ Blk W1 w.heap.size 36 #[.int .i8 vk, .int .i64 vn, .string s] := by rw [hW1]; exact box_new w vk vn s
       clear hW1
       obtain ⟨hbW1, hbox⟩ := h1
       have x0 : W1.cell? ⟨w.heap.size, 0, none⟩ = some (.int .i8 vk) := hbox.cell 0
       have x1 : W1.cell? ⟨w.heap.size, 1, none⟩ = some (.int .i64 vn) := hbox.cell 1
       have x2 : W1.cell? ⟨w.heap.size, 2, none⟩ = some (.string s) := hbox.cell 2)
    | (go_at_call 20; refine (Hck.out W1).mono ?_; rintro e W2 ⟨rfl, hb2⟩
       have y0 := (hb2.cell (p := ⟨w.heap.size, 0, none⟩) hbox.lt).trans x0
       have y1 := (hb2.cell (p := ⟨w.heap.size, 1, none⟩) hbox.lt).trans x1
       have y2 := (hb2.cell (p := ⟨w.heap.size, 2, none⟩) hbox.lt).trans x2
       have hbW2 := hbW1.trans (hb2.mono hbW1.size)
       clear x0 x1 x2)
    | (go_at_call 36; refine (Hfd.out W2 hbW2).mono ?_; rintro e W3 ⟨rfl, hb3⟩
       have hbW3 := hbW2.trans (hb3.mono hbW2.size)
       obtain ⟨A, cap, c2, c1⟩ := Hcells.out W3 hbW3))
  go_quiet (fail)
  go_wp2
  go_ret2
  exact ⟨rfl, below_drewN hbW3 _⟩

set_option maxHeartbeats 1000000 in
theorem ref_add_new {w : World} {rb most : Nat} {vs : List Val} {S : List Nat} (h : RTab w rb most vs S) (v : Val) (hv : v.wf) (hok : v.ok = true) (hm : v ∉ vs) (hf : vs.length < most) :
    Calls Try.prog 35 #[.pointer (some ⟨rb, 0, none⟩), v.agg] w fun e w' => ∃ S', e = .returned (.tuple #[.int .i32 (vs.length : Int), .int .i64 0]) ∧ RTab w' rb most (vs ++ [v]) S' ∧ Chg S w w' ∧ (∀ k ∈ S', k ∈ S ∨ w.heap.size ≤ k) := by
  have Hth := Lib.hid (fun W (hb : Below w.heap.size w W) => ref_there (h.below hb))
  have Hck := Lib.hid (fun W => show Calls Try.prog 20 #[v.agg] W fun e w' => e = .returned (.int .i64 0) ∧ Below W.heap.size W w' by have := rcheck_any v W; unfold Val.code at this; rw [hok] at this; exact this)
  have hfd := fun W (hb : Below w.heap.size w W) => ref_find (h.below hb) v
  rw [decide_eq_false hm] at hfd
  generalize (numOf vs v : Int) = q at hfd
  have Hfd := Lib.hid hfd
  obtain ⟨A, cap, ht, rfl⟩ := h
  have hmost := ht.most
  have Hwf := Lib.hid (show ∀ u ∈ vs ++ [v], u.wf from fun u hu => by
    rcases List.mem_append.1 hu with hu | hu
    · exact ht.wf u hu
    · rw [List.mem_singleton.1 hu]; exact hv)
  have Ht := Lib.hid ht
  have hd : decide ((most : Int) ≤ (vs.length : Int)) = false := by simp; omega
  have hd' : decide (most ≤ vs.length) = false := by simp; omega
  obtain ⟨i0, hi, hz0, hz1, hz2⟩ := info_parts Try.infoV
  have Hcl := Lib.hid (show vcells (vs ++ [v]) = vcells vs ++ [.int .i8 v.k, .int .i64 v.n, .string v.s] by rw [vcells_append]; simp [vcells, Val.cells])
  obtain ⟨vs', hvs'⟩ : ∃ x, vs ++ [v] = x := ⟨_, rfl⟩
  have Hvl := Lib.hid (show vs'.length = vs.length + 1 by rw [← hvs']; simp)
  rw [hvs'] at Hwf Hcl ⊢
  clear hfd hok hm ht hvs' hv
  obtain ⟨n, hn⟩ : ∃ n, vs.length = n := ⟨_, rfl⟩
  rw [hn] at hf hd hd' Hvl ⊢
  have Hn := Lib.hid hn
  clear hn
  obtain ⟨vk, vn, s⟩ := v
  simp only [Val.agg] at Hck Hfd ⊢
  simp only at Hcl
  go_enter Try.func35, Try.ntmps35
  go_wp2_with (first
    | (go_at_call 40; refine (Hth.out _ (box_new w vk vn s).1).mono ?_; rintro e W1 ⟨rfl, hW1⟩
       have h1 : Below w.heap.size w W1 ∧ Blk W1 w.heap.size 36 #[.int .i8 vk, .int .i64 vn, .string s] := by rw [hW1]; exact box_new w vk vn s
       clear hW1
       obtain ⟨hbW1, hbox⟩ := h1
       have x0 : W1.cell? ⟨w.heap.size, 0, none⟩ = some (.int .i8 vk) := hbox.cell 0
       have x1 : W1.cell? ⟨w.heap.size, 1, none⟩ = some (.int .i64 vn) := hbox.cell 1
       have x2 : W1.cell? ⟨w.heap.size, 2, none⟩ = some (.string s) := hbox.cell 2)
    | (go_at_call 20; refine (Hck.out W1).mono ?_; rintro e W2 ⟨rfl, hb2⟩
       have y0 := (hb2.cell (p := ⟨w.heap.size, 0, none⟩) hbox.lt).trans x0
       have y1 := (hb2.cell (p := ⟨w.heap.size, 1, none⟩) hbox.lt).trans x1
       have y2 := (hb2.cell (p := ⟨w.heap.size, 2, none⟩) hbox.lt).trans x2
       have hbW2 := hbW1.trans (hb2.mono hbW1.size)
       clear x0 x1 x2)
    | (go_at_call 36; refine (Hfd.out W2 hbW2).mono ?_; rintro e W3 ⟨rfl, hb3⟩
       have hbW3 := hbW2.trans (hb3.mono hbW2.size)
       have c2 : W3.cell? ⟨rb, 2, none⟩ = some (.slice A n cap) := (hbW3.cell Ht.out.blk.lt).trans ((Ht.out.blk.cell 2).trans (by rw [Hn.out]; rfl))
       have c1 : W3.cell? ⟨rb, 1, none⟩ = some (.int .i64 (most : Int)) := (hbW3.cell Ht.out.blk.lt).trans (Ht.out.blk.cell 1)))
  go_quiet (fail)
  go_upto_region 10 with fail
  have hT : RAt (W3.drewN nq) rb most vs A cap := Ht.out.same fun k hk => hbW3.block k (Ht.out.lt k hk)
  have hX : Blk (W3.drewN nq) w.heap.size 36 #[.int .i8 vk, .int .i64 vn, .string s] := (hbox.same (hb2.block _ hbox.lt)).same (hb3.block _ (Nat.lt_of_lt_of_le hbox.lt hb2.size))
  have hB : Below w.heap.size w (W3.drewN nq) := below_drewN hbW3 _
  clear c1 c2 y0 y1 y2 hb2 hb3 hbW1 hbW2 hbW3 hbox Hth Hck Hfd
  generalize W3.drewN nq = W4 at hT hX hB ⊢
  have x0 : W4.cell? ⟨w.heap.size, 0, none⟩ = some (.int .i8 vk) := hX.cell 0
  have x1 : W4.cell? ⟨w.heap.size, 1, none⟩ = some (.int .i64 vn) := hX.cell 1
  have x2 : W4.cell? ⟨w.heap.size, 2, none⟩ = some (.string s) := hX.cell 2
  have hblk : Blk W4 rb 82 #[.bool true, .int .i64 (most : Int), .slice A n cap] := by have := hT.blk; rw [Hn.out] at this; exact this
  have c2 : W4.cell? ⟨rb, 2, none⟩ = some (.slice A n cap) := hblk.cell 2
  have hrow : W4.ownsRow 0 36 3 (.slice A n cap) n (vcells vs) := by have h0 := hT.row; unfold RowV at h0; rw [Hn.out] at h0; exact h0
  have ltb : rb < W4.heap.size := hblk.lt
  have Hc1 := Lib.hid (cells3_new W4 (.int .i8 vk) (.int .i64 vn) (.string s) 36)
  have Hc2 := Lib.hid (three_one vk vn s)
  have Hbt := Lib.hid (fun o => hblk.drew.alloc o)
  have Hrow := Lib.hid hrow
  have HT := Lib.hid hT
  have h63 : n + 1 ≤ maxLen := by unfold maxLen; omega
  have h32 : (n + 1) * 32 ≤ 140737488355328 := by omega
  clear hrow hT hX hblk
  go_region_law (refine step_append_row rfl _ _ 22 rfl 36 i0 _ 3 32 Try.underlying22 hi hz0 hz1 hz2 rfl (by decide) A n cap _ rfl (Hrow.out.drew.alloc _) ⟨W4.heap.size, 0, none⟩ 1 1 [.int .i8 vk, .int .i64 vn, .string s] rfl rfl Hc1.out Hc2.out h63 h32 (Nat.succ_pos _) rb 82 _ (Hbt.out _) (by decide) ?_; intro g cap' W5 hown4 hgrow4 hloc4 hblk4; have d2 := hblk4.cell 2; have f2 := hblk4.frozen 2; have Hown4 := Lib.hid hown4; have Hgrow4 := Lib.hid hgrow4; have Hloc4 := Lib.hid hloc4; have Hblk4 := Lib.hid hblk4; clear hown4 hgrow4 hloc4 hblk4)
  all_goals
    have hgt : g ≠ rb := by
      rintro rfl
      rcases Hown4.out.2 with ⟨hv, _⟩ | ⟨g1, c1, cur, hv, _, hh, _⟩
      · cases hv
      · injection hv with e1 _ _
        injection e1 with e1
        injection e1 with e1 _ _
        subst e1
        have hb4 := Hblk4.out
        unfold Blk at hb4
        rw [hh] at hb4
        injection hb4 with h2
        injection h2 with _ h3
        cases h3
    have hA : ∀ k, (Value.slice A n cap).ownBlock = some k → k ∈ blkOf A := fun k hk => own_blk _ _ _ _ hk
    have hw := IntWalk.i32_in (n : Int) ⟨by omega, by omega⟩
    have hfin : ∃ S', RTab (W5.setCell ⟨rb, 2, none⟩ (.slice (some ⟨g, 0, none⟩) (n + 1) cap')) rb most vs' S' ∧ Chg (footR rb A) w (W5.setCell ⟨rb, 2, none⟩ (.slice (some ⟨g, 0, none⟩) (n + 1) cap')) ∧ (∀ k ∈ S', k ∈ footR rb A ∨ w.heap.size ≤ k) := by
      refine ⟨footR rb (some ⟨g, 0, none⟩), ⟨some ⟨g, 0, none⟩, cap', ⟨?_, ?_, Hwf.out, by rw [Hvl.out]; omega, hmost⟩, rfl⟩, ?_, ?_⟩
      · rw [Hvl.out]; exact Hblk4.out.set_ 2 _
      · unfold RowV
        rw [Hvl.out, Hcl.out]
        exact ownsRow_same Hown4.out (fun k hk => by
          have : k = g := by simpa [Value.ownBlock] using hk.symm
          subst this
          exact Below.heap_setCell _ _ _ _ hgt)
      · exact (((Chg.of_below _ hB).drew.alloc _).grown Hgrow4.out (fun k hk => .inl (by simp [footR, hA k hk]))).setCell (.inl (by simp [footR])) _
      · intro k hk
        simp only [footR, blkOf, List.mem_cons, Option.map_some, Option.toList_some, List.not_mem_nil, or_false] at hk
        rcases hk with rfl | rfl
        · simp [footR]
        · rcases Hloc4.out with h | h
          · left; simp [footR, hA k h.symm]
          · right; rw [h]; have := hB.size; simp; omega
    have Hfin := Lib.hid hfin
    clear hfin hA hgt
    go_wp2
    go_ret2
    obtain ⟨S', h1, h2, h3⟩ := Hfin.out
    exact ⟨S', ret2_int (by simp), h1, h2, h3⟩

theorem ref_add {w : World} {rb most : Nat} {vs : List Val} {S : List Nat} (h : RTab w rb most vs S) (u : Val) (hu : u.wf) :
    Calls Try.prog 35 #[.pointer (some ⟨rb, 0, none⟩), u.agg] w fun e w' => ∃ S', e = .returned (.tuple #[.int .i32 ((addStep most vs u).2.1 : Int), .int .i64 (addStep most vs u).2.2]) ∧ RTab w' rb most (addStep most vs u).1 S' ∧ Chg S w w' ∧ (∀ k ∈ S', k ∈ S ∨ w.heap.size ≤ k) := by
  unfold addStep
  by_cases h1 : u.ok = false
  · simp only [if_pos h1]
    exact (ref_add_bad h u h1).mono fun e w' ⟨he, hb⟩ => ⟨S, he, h.below hb, Chg.of_below _ hb, fun k hk => .inl hk⟩
  · have hok : u.ok = true := by cases hh : u.ok; exact absurd hh h1; rfl
    simp only [if_neg h1]
    by_cases h2 : u ∈ vs
    · simp only [if_pos h2]
      exact (ref_add_old h u hok h2).mono fun e w' ⟨he, hb⟩ => ⟨S, he, h.below hb, Chg.of_below _ hb, fun k hk => .inl hk⟩
    · simp only [if_neg h2]
      by_cases h3 : vs.length < most
      · simp only [if_pos h3]
        exact ref_add_new h u hu hok h2 h3
      · simp only [if_neg h3]
        exact (ref_add_full h u hok h2 (by omega)).mono fun e w' ⟨he, hb⟩ => ⟨S, he, h.below hb, Chg.of_below _ hb, fun k hk => .inl hk⟩

end Go.Proofs.Ythdpaakkamccbaa

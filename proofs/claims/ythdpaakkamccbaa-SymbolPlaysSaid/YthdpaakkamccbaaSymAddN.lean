/-
  Walks: Add of a value that is new.
-/
import Derived.Test.YthdpaakkamccbaaSymAdd
namespace Go.Proofs.Ythdpaakkamccbaa
open Go.RowKit Go.Maps

theorem still_tail {P : Program} {id : Nat} {Q : Exit → Act → World → Prop} {a : Act} {w : World} {l : List Oper} (n : Nat) (hm : P.follows .mixedOrders = true) (hB : Region.lexTailB .any l.toArray n = true)
    (h : wpStill P l.toArray w.drew (fun a' => wpList P l.toArray Q (l.drop n) a' w.drew) (l.take n) a) : (Code.region id l.toArray true).wp P Q a w := wp_region_still_tail n hm hB h

theorem cells3_new (w : World) (a b c : Value) (t : TypeId) : ∀ j u, [a, b, c][j]? = some u → (w.drew.alloc (.cells #[a, b, c] t)).cell? ((⟨w.heap.size, 0, none⟩ : Addr).add j) = some u := by
  intro j u hj
  have hb := Blk.new w.drew t #[a, b, c]
  match j, hj with
  | 0, hj => simp at hj; subst hj; exact hb.cell 0
  | 1, hj => simp at hj; subst hj; exact hb.cell 1
  | 2, hj => simp at hj; subst hj; exact hb.cell 2

theorem ret2_int {k : IntKind} {a b : Int} {v : Value} (h : a = b) : Ending.returned (.tuple #[.int k a, v]) = .returned (.tuple #[.int k b, v]) := by rw [h]

/-- what stands behind the append and the store of the field. -/
theorem add_end {w W3 W4 : World} {tb most mb n g cap cap' : Nat} {A : Option Addr} {vs' : List Val} {D' : DataW Unit} {xs : List Value} {o : Obj}
    (hadd : ∀ (w1 w2 : World) (A' : Option Addr) (cap' : Nat), Blk w2 tb 77 #[.int .i64 most, .map (some mb), .slice A' (n + 1) cap'] → w1.ownsMap Try.prog 36 (plainElem Try.prog 30) mb (n + 1) D' →
      w2.heap[mb]? = w1.heap[mb]? → w2.ownsRow 0 36 3 (.slice A' (n + 1) cap') (n + 1) xs → TabAt w2 tb most vs' mb A' cap' D')
    (hown : W3.ownsMap Try.prog 36 (plainElem Try.prog 30) mb (n + 1) D') (hmbt : mb ≠ tb) (hmba : some mb ≠ (Value.slice A n cap).ownBlock) (hC3 : Chg (footOf tb mb A) w W3)
    (hown4 : W4.ownsRow 0 36 3 (.slice (some ⟨g, 0, none⟩) (n + 1) cap') (n + 1) xs) (hgrow4 : (W3.drew.alloc o).grownBy W4 (Value.slice A n cap).ownBlock)
    (hloc : some g = (Value.slice A n cap).ownBlock ∨ g = (W3.drew.alloc o).heap.size) (hblk4 : Blk W4 tb 77 #[.int .i64 most, .map (some mb), .slice A n cap]) :
    ∃ S', Tab (W4.setCell ⟨tb, 2, none⟩ (.slice (some ⟨g, 0, none⟩) (n + 1) cap')) tb most vs' S' ∧ Chg (footOf tb mb A) w (W4.setCell ⟨tb, 2, none⟩ (.slice (some ⟨g, 0, none⟩) (n + 1) cap')) ∧ Grew w.heap.size (footOf tb mb A) S' := by
  have hgt : g ≠ tb := by
    rintro rfl
    obtain ⟨g0, c0, hv, _⟩ := hown4.form (Nat.succ_pos n)
    rcases hown4.2 with ⟨hv, _⟩ | ⟨g1, c1, cur, hv, _, hh, _⟩
    · cases hv
    · injection hv with e1 _ _
      injection e1 with e1
      injection e1 with e1 _ _
      subst e1
      unfold Blk at hblk4
      rw [hh] at hblk4
      injection hblk4 with h2
      injection h2 with _ h3
      cases h3
  have hmb : mb < W3.heap.size := hown.lt
  have hA : ∀ k, (Value.slice A n cap).ownBlock = some k → k ∈ blkOf A := by
    intro k hk; cases A <;> simp_all [Value.ownBlock, blkOf]
  refine ⟨footOf tb mb (some ⟨g, 0, none⟩), ⟨mb, some ⟨g, 0, none⟩, cap', D', hadd W3 _ _ cap' ?_ hown ?_ ?_, rfl⟩, ?_, ?_⟩
  · exact hblk4.set_ 2 _
  · rw [Below.heap_setCell _ _ _ _ hmbt, hgrow4.block mb (by simp; omega) hmba]
    exact Below.heap_alloc W3.drew o mb hmb
  · exact ownsRow_same hown4 (fun k hk => by
      have : k = g := by simpa [Value.ownBlock] using hk.symm
      subst this
      exact Below.heap_setCell _ _ _ _ hgt)
  · exact ((hC3.drew.alloc o).grown hgrow4 (fun k hk => .inl (by simp [footOf, hA k hk]))).setCell (.inl (by simp [footOf])) _
  · refine ⟨fun k hk => ?_, rfl⟩
    simp only [footOf, blkOf, List.mem_cons, Option.map_some, Option.toList_some, List.not_mem_nil, or_false] at hk
    rcases hk with rfl | rfl | rfl
    · simp [footOf]
    · simp [footOf]
    · rcases hloc with h | h
      · left; simp [footOf, hA k h.symm]
      · right; rw [h]; have := hC3.size; simp; omega

set_option maxHeartbeats 1000000 in
theorem add_new {w : World} {tb most : Nat} {vs : List Val} {S : List Nat} (h : Tab w tb most vs S) (v : Val) (hv : v.wf) (hok : v.ok = true) (hm : v ∉ vs) (hf : vs.length < most) :
    Calls Try.prog 16 #[.pointer (some ⟨tb, 0, none⟩), v.agg] w fun e w' => ∃ S', e = .returned (.tuple #[.int .i32 (vs.length : Int), .int .i64 0]) ∧ Tab w' tb most (vs ++ [v]) S' ∧ Chg S w w' ∧ Grew w.heap.size S S' := by
  obtain ⟨mb, A, cap, D, ht, rfl⟩ := h
  have hk : ∀ o, TabAt (w.alloc o) tb most vs mb A cap D := fun o => ht.same fun k hk => Below.heap_alloc w o k (ht.lt k hk)
  have ho : ∀ o, Calls Try.prog 29 #[.pointer (some ⟨tb, 0, none⟩)] (w.alloc o) fun e w' => e = .returned (.bool true) ∧ w' = w.alloc o := fun o => there_any tb _ mb _ _ (hk o).blk
  have Ho := Lib.hid ho
  have hc : ∀ W, Calls Try.prog 30 #[v.agg] W fun e w' => e = .returned (.int .i64 0) ∧ Below W.heap.size W w' := fun W => by
    have := check_any v W; unfold Val.code at this; rw [hok] at this; exact this
  have Hc := Lib.hid hc
  have hl : ∀ W, TabAt W tb most vs mb A cap D → ∀ n, (Instr.lookup 75 (.map (some mb)) v.agg true).run Try.prog (W.drewN n) = .ok (.tuple #[.int .i32 0, .bool false]) (W.drewN n) := fun W hW n => by
    have := look_at (hW.same (w' := W.drewN n) fun k _ => rfl) v hv
    simp only [numOf, hm, if_false, decide_false] at this
    exact this
  have Hl := Lib.hid hl
  have hmost : vs.length < 2147483647 := Nat.lt_of_lt_of_le hf ht.most
  have hkey := key_some v hv
  have hadd : ∀ (w1 w2 : World) (A' : Option Addr) (cap' : Nat), Blk w2 tb 77 #[.int .i64 most, .map (some mb), .slice A' (vs.length + 1) cap'] → w1.ownsMap Try.prog 36 (plainElem Try.prog 30) mb (vs.length + 1) (D.put v.lit (.lit (.int .i32 (vs.length : Int)))) →
      w2.heap[mb]? = w1.heap[mb]? → w2.ownsRow 0 36 3 (.slice A' (vs.length + 1) cap') (vs.length + 1) (vcells vs ++ v.cells) → TabAt w2 tb most (vs ++ [v]) mb A' cap' (D.put v.lit (.lit (.int .i32 (vs.length : Int)))) :=
    fun w1 w2 A' cap' => TabAt.added (w1 := w1) (w2 := w2) (A' := A') (cap' := cap') ht v hv hok hm hf
  have Hadd := Lib.hid hadd
  have hcl : v.cells = [.int .i8 v.k, .int .i64 v.n, .string v.s] := rfl
  rw [hcl] at Hadd
  obtain ⟨i0, hi, hz0, hz1, hz2⟩ := info_parts Try.infoV
  clear ho hk hc hok hl hm hcl hadd
  generalize v.lit = kl at hkey Hadd
  generalize hvs : vs ++ [v] = vs' at Hadd ⊢
  clear hvs hv
  obtain ⟨vk, vn, s⟩ := v
  simp only [Val.agg] at Hc Hl hkey ⊢
  have Ht := Lib.hid ht
  clear ht
  go_enter Try.func16, Try.ntmps16
  go_wp2_with (go_at_call 29; refine (Ho.out _).mono ?_; rintro e w' ⟨rfl, rfl⟩)
  refine (Hc.out _).mono ?_
  rintro e W1 ⟨rfl, hb1⟩
  obtain ⟨hT, hX, hB⟩ := behind_check Ht.out _ _ _ hb1
  have x0 : W1.cell? ⟨w.heap.size, 0, none⟩ = some (.int .i8 vk) := hX.cell 0
  have x1 : W1.cell? ⟨w.heap.size, 1, none⟩ = some (.int .i64 vn) := hX.cell 1
  have x2 : W1.cell? ⟨w.heap.size, 2, none⟩ = some (.string s) := hX.cell 2
  have c0 : W1.cell? ⟨tb, 0, none⟩ = some (.int .i64 most) := hT.blk.cell 0
  have c1 : W1.cell? ⟨tb, 1, none⟩ = some (.map (some mb)) := hT.blk.cell 1
  have c2 : W1.cell? ⟨tb, 2, none⟩ = some (.slice A vs.length cap) := hT.blk.cell 2
  have hlk := Hl.out W1 hT
  have HT := Lib.hid hT
  have HX := Lib.hid hX
  clear hT hX hb1
  generalize hn : vs.length = n at *
  have Hn := Lib.hid hn
  clear hn
  go_wp2
  go_quiet (fail)
  revert nq
  intro n1
  go_wp2
  go_quiet (fail)
  go_upto_region 12 with fail
  refine still_tail 6 (by kernel_rfl) (by kernel_rfl) ?_
  simp only [List.take_succ_cons, List.take_zero, List.drop_succ_cons, List.drop_zero]
  repeat still_step
  refine wpStill_nil ?_
  have hT2 : TabAt (W1.drewN (n1 + nq)).drew tb most vs mb A cap D := HT.out.same fun k _ => rfl
  have hX2 : Blk (W1.drewN (n1 + nq)).drew w.heap.size 36 #[.int .i8 vk, .int .i64 vn, .string s] := HX.out
  have hB2 : Below w.heap.size w (W1.drewN (n1 + nq)).drew := hB.trans ⟨rfl, rfl, rfl, Nat.le_refl _, fun _ _ => rfl⟩
  clear x0 x1 x2 c0 c1 c2 hlk HT HX hB
  generalize (W1.drewN (n1 + nq)).drew = W2 at hT2 hX2 hB2 ⊢
  have hown := hT2.own
  rw [Hn.out] at hown
  go_wp2_with (at_mapUpdate; refine wpList_mapUpdate_own _ rfl _ _ _ 75 rfl 36 30 law Try.underlying75 _ mb n _ rfl hown (by unfold maxLen; omega) _ _ _ rfl rfl hkey _ [] (plainElem_int Try.underlying30 (WalkArith.wf_i32 (by omega))) ?_; intro W3 hown3 hgrow3)
  have hmbt : mb ≠ tb := by
    rintro rfl
    have h1 := hT2.blk
    obtain ⟨es, cl, h2, _⟩ := hT2.own
    unfold Blk at h1; rw [h1] at h2; cases h2
  have hmbx : mb ≠ w.heap.size := by
    rintro e
    have h1 := hX2
    obtain ⟨es, cl, h2, _⟩ := hT2.own
    rw [e] at h2
    unfold Blk at h1; rw [h1] at h2; cases h2
  have hmba : some mb ≠ (Value.slice A n cap).ownBlock := by
    intro e
    rcases hT2.row.2 with ⟨hv, _⟩ | ⟨g0, c0, cur, hv, _, hh, _⟩
    · injection hv with hA; subst hA; cases e
    · injection hv with hA; subst hA
      obtain ⟨es, cl, h2, _⟩ := hT2.own
      have e2 : mb = g0 := by simpa [Value.ownBlock] using e
      subst e2
      rw [hh] at h2; cases h2
  have htba : some tb ≠ (Value.slice A n cap).ownBlock := by
    intro e
    rcases hT2.row.2 with ⟨hv, _⟩ | ⟨g0, c0, cur, hv, _, hh, _⟩
    · injection hv with hA; subst hA; cases e
    · injection hv with hA; subst hA
      have h2 := hT2.blk
      have e2 : tb = g0 := by simpa [Value.ownBlock] using e
      subst e2
      unfold Blk at h2
      rw [hh] at h2
      injection h2 with h2
      injection h2 with _ h3
      cases h3
  have hT3 : Blk W3 tb 77 #[.int .i64 most, .map (some mb), .slice A n cap] := by
    have := hT2.blk.same (hgrow3.block tb hT2.blk.lt (by simpa using fun e => hmbt e.symm)); rw [Hn.out] at this; exact this
  have hX3 : Blk W3 w.heap.size 36 #[.int .i8 vk, .int .i64 vn, .string s] := hX2.same (hgrow3.block _ hX2.lt (by simpa using fun e => hmbx e.symm))
  have hrow3 : W3.ownsRow 0 36 3 (.slice A n cap) n (vcells vs) := by
    have h0 := hT2.row
    unfold RowV at h0
    rw [Hn.out] at h0
    exact h0.kept hgrow3 (.inr hmba.symm)
  have hC3 : Chg (footOf tb mb A) w W3 := (Chg.of_below _ hB2).grown hgrow3 (fun k hk => by cases hk; left; simp [footOf])
  have x0 : W3.cell? ⟨w.heap.size, 0, none⟩ = some (.int .i8 vk) := hX3.cell 0
  have x1 : W3.cell? ⟨w.heap.size, 1, none⟩ = some (.int .i64 vn) := hX3.cell 1
  have x2 : W3.cell? ⟨w.heap.size, 2, none⟩ = some (.string s) := hX3.cell 2
  have c2 : W3.cell? ⟨tb, 2, none⟩ = some (.slice A n cap) := hT3.cell 2
  have HT3 := Lib.hid hT3
  have Hown3 := Lib.hid hown3
  have hmbl : mb < W3.heap.size := hown3.lt
  clear hT2 hX2 hB2 hown hgrow3 hT3 hX3 hown3 Hl hkey
  have ltb : tb < W3.heap.size := HT3.out.lt
  have hc1 := cells3_new W3 (.int .i8 vk) (.int .i64 vn) (.string s) 36
  have hc2 : ∀ u ∈ [Value.int .i8 vk, .int .i64 vn, .string s], u.oneCell' = true := by intro u hu; simp at hu; rcases hu with rfl | rfl | rfl <;> rfl
  have hbt := fun o => (HT3.out.drew.alloc o)
  have Hc1 := Lib.hid hc1
  have Hc2 := Lib.hid hc2
  have Hbt := Lib.hid hbt
  have Hrow3 := Lib.hid hrow3
  have h63 : n + 1 ≤ maxLen := by unfold maxLen; omega
  have h32 : (n + 1) * 32 ≤ 140737488355328 := by omega
  clear hc1 hc2 hbt hrow3
  go_region_law (refine step_append_row rfl _ _ 22 rfl 36 i0 _ 3 32 Try.underlying22 hi hz0 hz1 hz2 rfl (by decide) A n cap _ rfl (Hrow3.out.drew.alloc _) ⟨W3.heap.size, 0, none⟩ 1 1 [.int .i8 vk, .int .i64 vn, .string s] rfl rfl Hc1.out Hc2.out h63 h32 (Nat.succ_pos _) tb 77 _ (Hbt.out _) (by decide) ?_; intro g cap' W4 hown4 hgrow4 hloc4 hblk4; have d2 := hblk4.cell 2; have f2 := hblk4.frozen 2; have Hown4 := Lib.hid hown4; have Hgrow4 := Lib.hid hgrow4; have Hloc4 := Lib.hid hloc4; have Hblk4 := Lib.hid hblk4; clear hown4 hgrow4 hloc4 hblk4)
  all_goals
    obtain ⟨S', h1, h2, h3⟩ := add_end Hadd.out Hown3.out hmbt hmba hC3 Hown4.out Hgrow4.out Hloc4.out Hblk4.out
    have H1 := Lib.hid h1
    have H2 := Lib.hid h2
    have H3 := Lib.hid h3
    clear h1 h2 h3
    go_wp2
    go_ret2
    exact ⟨S', ret2_int (by rw [Hn.out]), H1.out, H2.out, H3.out⟩

end Go.Proofs.Ythdpaakkamccbaa

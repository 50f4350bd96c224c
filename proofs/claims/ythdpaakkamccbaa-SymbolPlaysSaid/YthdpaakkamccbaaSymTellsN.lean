/-
  Walk: tells: an iterator of a table tells what the document's list says.
-/
import Derived.Test.YthdpaakkamccbaaSymRound
import Derived.Sort.CutIn
import Derived.BigQuiet
namespace Go.Proofs.Ythdpaakkamccbaa
open Go.RowKit Go.Maps

theorem Blk.turn {W W' : World} {g : Nat} {t : TypeId} {cs : Array Value} {row : Option Nat} (h : Blk W g t cs) (hg : W.grownBy W' row) (hr : ∀ r, row = some r → ∃ o : Obj, W.heap[r]? = some o ∧ o.isCells = false) : Blk W' g t cs :=
  h.same (hg.block g h.lt (fun e => by
    obtain ⟨o, ho, hc⟩ := hr g e.symm
    have h2 : W.heap[g]? = _ := h
    rw [h2] at ho
    injection ho with ho
    subst ho
    cases hc))
theorem blk_own {β : Type} (B lo : Nat) (t : TypeId) (cs : Array Value) {p : Nat → Prop} : OwnFrom B (fun (_ : β) W => ∃ Bx, lo ≤ Bx ∧ Blk W Bx t cs ∧ p Bx) := fun s X Y row hs hg hr => by
  obtain ⟨Bx, h1, h2, h3⟩ := hs
  exact ⟨Bx, h1, h2.turn hg (fun r e => (hr r e).2), h3⟩
theorem cell_alloc_l {W : World} {a : Addr} {v : Value} (o : Obj) (h : W.cell? a = some v) : (W.alloc o).cell? a = some v := cell_kept h (World.grownBy_alloc W o none) (fun r e => by cases e)
theorem frozen_alloc_l {W : World} {a : Addr} {v : Value} (o : Obj) (h : W.cell? a = some v) (hf : W.frozen? a = false) : (W.alloc o).frozen? a = false := (frozen_kept h (World.grownBy_alloc W o none) (fun r e => by cases e)).trans hf
theorem Kc.alloc (B : Nat) (W : World) (o : Obj) : Kc B W (W.alloc o) := ⟨by simp, fun k u _ hk _ => (Below.heap_alloc _ _ _ (Array.getElem?_eq_some_iff.1 hk).1).trans hk⟩
theorem Kc.setCell {B : Nat} (W : World) (p : Addr) (v : Value) (h : p.block < B) : Kc B W (W.setCell p v) := ⟨by simp [World.setCell], fun k u hB hk _ => (Below.heap_setCell _ _ _ _ (by omega)).trans hk⟩
theorem Kc.drewN (B : Nat) (W : World) (n : Nat) : Kc B W (W.drewN n) := ⟨Nat.le_refl _, fun _ _ _ h _ => h⟩
theorem KeepsOthers.drewN (W : World) (n : Nat) : KeepsOthers W (W.drewN n) := ⟨Nat.le_refl _, fun _ _ h _ => h⟩
theorem take_snoc {α : Type} {pre L : List α} {x : α} {k : Nat} (hk : pre.length = k) (h : pre = L.take pre.length) (hl : k < L.length) (he : L[k] = x) : pre ++ [x] = L.take (pre ++ [x]).length := by
  subst hk
  rw [List.length_append, List.length_singleton, List.take_succ_eq_append_getElem hl, he, ← h]
theorem snoc_prefix {α : Type} {pre L : List α} {x : α} {k : Nat} (hk : pre.length = k) (h : pre ++ [x] <+: L) : ∃ hl : k < L.length, L[k] = x := by
  subst hk
  obtain ⟨t, rfl⟩ := h
  refine ⟨by simp, ?_⟩
  simp
theorem far_cell {W : World} {p a : Addr} {v u : Value} (h : W.cell? a = some u) (hne : p.block ≠ a.block) : (W.setCell p v).cell? a = some u := (World.cell?_setCell_far W p a v hne).trans h

attribute [local go_sem] Oper.semAt_some

set_option maxRecDepth 100000 in
set_option maxHeartbeats 2000000 in
theorem tells_any {w : World} {kb : Nat} {tv : Value} {st : St} {S : List Nat} (hk : Blk w kb 25 #[tv]) (hp : PT w tv st S) (B : Option Addr) (capB : Nat) (hN : RowN w B capB (stN st)) (m : Int) :
    Calls Try.prog 26 #[.func (.func 41) #[] #[.pointer (some ⟨kb, 0, none⟩)], .slice B (stN st).length capB, .int .i64 m] w fun e w' => e = .returned (.bool true) ∧ Below w.heap.size w w' := by
  have hle := stN_le hp
  refine (callsIn_wide (n := 3)).1 ?_
  refine callsIn_of_wp_marks Try.func26 rfl trivial ?_ rfl
  simp only [Try.ntmps26, List.size_toArray, List.length_cons, List.length_nil, Nat.reduceAdd, Nat.reduceSub, Array.replicate_succ, Array.replicate_zero, List.push_toArray, List.append_toArray, List.nil_append, List.cons_append]
  have hfn := func_nil (.func 41) #[] #[.pointer (some ⟨kb, 0, none⟩)]
  obtain ⟨n, hn⟩ : ∃ n, (stN st).length = n := ⟨_, rfl⟩
  rw [hn] at hle ⊢
  have Hn := Lib.hid hn
  clear hn
  gi_wp2
  obtain ⟨W0, hW0⟩ : ∃ W0, (((w.alloc (.cells #[.slice B n capB] 72)).alloc (.cells #[.int .i64 m] 3)).alloc (.cells #[.bool false] 4)).alloc (.cells #[.int .i64 0] 3) = W0 := ⟨_, rfl⟩
  rw [hW0]
  obtain ⟨hB, b1, b2, b3, b4, hs⟩ := four_new w _ _ _ _ _ _ _ _ W0 hW0
  clear hW0
  have Hs := Lib.hid hs
  clear hs
  have hk0 : Blk W0 kb 25 #[tv] := hk.same (hB.block _ hk.lt)
  have hp0 := hp.below hB
  have HN := Lib.hid hN
  refine wpIn_rangeFunc_ownH (α := Nat × Val) rfl (by omega) (gf := 41) (lb := #[.pointer (some ⟨kb, 0, none⟩)]) rfl trivial (enters_of Try.func41 (by kernel_rfl) rfl) (all_stops (m := 2) (by omega) hk0 hp0) kc_t kc_b (Below.refl _ _) (fun x => rfl)
    (fun pre W => (W.cell? ⟨w.heap.size, 0, none⟩ = some (.slice B n capB) ∧ W.cell? ⟨w.heap.size + 1, 0, none⟩ = some (.int .i64 m) ∧ W.cell? ⟨w.heap.size + 1 + 1, 0, none⟩ = some (.bool false) ∧ W.frozen? ⟨w.heap.size + 1 + 1, 0, none⟩ = false ∧ W.cell? ⟨w.heap.size + 1 + 1 + 1, 0, none⟩ = some (.int .i64 (pre.length : Int)) ∧ W.frozen? ⟨w.heap.size + 1 + 1 + 1, 0, none⟩ = false ∧ (pre = (stN st).take pre.length ∧ pre.length ≤ n)) ∧ Below w.heap.size w W)
    (fun c pre W => (W.cell? ⟨w.heap.size, 0, none⟩ = some (.slice B n capB) ∧ W.cell? ⟨w.heap.size + 1, 0, none⟩ = some (.int .i64 m) ∧ W.cell? ⟨w.heap.size + 1 + 1, 0, none⟩ = some (.bool false) ∧ W.frozen? ⟨w.heap.size + 1 + 1, 0, none⟩ = false ∧ (∃ q, W.cell? ⟨w.heap.size + 1 + 1 + 1, 0, none⟩ = some (.int .i64 q) ∧ ((c = .ret ∧ ¬ pre <+: stN st) ∨ (c = .exit 0 ∧ 0 ≤ m ∧ q = m)))) ∧ Below w.heap.size w W)
    (OwnFrom.and (Own.from (fun s A B row hs hg hr => ⟨cell_kept hs.1 hg hr, cell_kept hs.2.1 hg hr, cell_kept hs.2.2.1 hg hr, (frozen_kept hs.2.2.1 hg hr).trans hs.2.2.2.1, cell_kept hs.2.2.2.2.1 hg hr, (frozen_kept hs.2.2.2.2.1 hg hr).trans hs.2.2.2.2.2.1, hs.2.2.2.2.2.2⟩) _) (ownFrom_below (Nat.le_refl _) hB.size))
    (fun c => OwnFrom.and (Own.from (fun s A B row hs hg hr => ⟨cell_kept hs.1 hg hr, cell_kept hs.2.1 hg hr, cell_kept hs.2.2.1 hg hr, (frozen_kept hs.2.2.1 hg hr).trans hs.2.2.2.1, (let ⟨q, h1, h2⟩ := hs.2.2.2.2; ⟨q, cell_kept h1 hg hr, h2⟩)⟩) _) (ownFrom_below (Nat.le_refl _) hB.size))
    ⟨⟨b1.cell 0, b2.cell 0, b3.cell 0, b3.frozen 0, b4.cell 0, b4.frozen 0, rfl, Nat.zero_le _⟩, hB⟩
    (fun x a' W => ∃ Bx, 0 ≤ Bx ∧ Blk W Bx 36 #[.int .i8 x.2.k, .int .i64 x.2.n, .string x.2.s] ∧ a' = ({ tmps := #[.func (.func 41) #[] #[.pointer (some ⟨kb, 0, none⟩)], .slice B n capB, .int .i64 m, undef, .pointer (some ⟨w.heap.size, 0, none⟩), .pointer (some ⟨w.heap.size + 1, 0, none⟩), .pointer (some ⟨w.heap.size + 1 + 1, 0, none⟩), .pointer (some ⟨w.heap.size + 1 + 1 + 1, 0, none⟩), .int .i32 (x.1 : Int), .pointer (some ⟨Bx, 0, none⟩), .func (.func 41) #[] #[.pointer (some ⟨kb, 0, none⟩)], .bool false, .func (.func 41) #[] #[.pointer (some ⟨kb, 0, none⟩)], .int .i32 (x.1 : Int), .agg #[.int .i8 x.2.k, .int .i64 x.2.n, .string x.2.s], undef, undef, undef, undef, undef, undef, undef, undef, undef, undef, undef, undef, undef, undef, undef, undef, undef, undef, undef, undef, undef, undef, undef, undef, undef, undef, undef, undef, undef, undef, undef, undef, undef, undef, undef, undef, undef, undef, undef, undef], defers := [] } : Act))
    (fun x a' => blk_own _ _ _ _) ?assign ?body ?done ?stop
  case assign =>
    rintro l pre x W K ⟨⟨h1, h2, h3, h4, h5, h6, h7⟩, hBW⟩ hK
    have HK := Lib.hid hK
    have Hfin := Lib.hid (show W0.heap.size ≤ W0.heap.size from Nat.le_refl _)
    clear hk hp hN hk0 hp0 hK
    simp only [encN, Val.agg]
    gi_wp2
    exact HK.out _ _ ((KeepsOthers.alloc _ _).from _) (Kc.alloc _ _ _) ⟨⟨cell_alloc_l _ h1, cell_alloc_l _ h2, cell_alloc_l _ h3, frozen_alloc_l _ h3 h4, cell_alloc_l _ h5, frozen_alloc_l _ h5 h6, h7⟩, hBW.alloc hBW.size _⟩ ⟨W.heap.size, Nat.zero_le _, Blk.new W _ _, rfl⟩
  case body =>
    rintro l pre x a' W hl hr ⟨⟨c1, c2, c3, f3, c4, f4, hpre, hpl⟩, hBW⟩ ⟨Bx, _, bX, rfl⟩ hlt
    have hRN := HN.out.below hBW
    have x0 := bX.cell 0
    have x1 := bX.cell 1
    have x2 := bX.cell 2
    have hsW0 : w.heap.size + 3 < W0.heap.size := by have := Hs.out; omega
    have HBW := Lib.hid hBW
    have Hpre := Lib.hid hpre
    clear hk hp hN hk0 hp0 bX hl hr hB b1 b2 b3 b4 hBW hpre
    obtain ⟨k, hk⟩ : ∃ k, pre.length = k := ⟨_, rfl⟩
    have Hk := Lib.hid hk
    rw [hk] at c4 hpl hlt
    clear hk
    obtain ⟨xi, vk, vn, s⟩ := x
    simp only at x0 x1 x2 ⊢
    by_cases hm : (k : Int) = m
    · subst hm
      gi_wp2
      exact ⟨(KeepsOthers.refl W).from _, ⟨c1, c2, c3, f3, _, c4, .inr ⟨rfl, by omega, rfl⟩⟩, HBW.out⟩
    · have hdm : ((k : Int) == m) = false := by simpa using hm
      by_cases hge : n ≤ k
      · have hd : decide ((n : Int) ≤ (k : Int)) = true := by simp; omega
        have hnp : ¬ (pre ++ [((xi, ⟨vk, vn, s⟩) : Nat × Val)]) <+: stN st := fun h => by
          obtain ⟨h1, _⟩ := snoc_prefix Hk.out h
          rw [Hn.out] at h1
          omega
        gi_wp2
        refine wpIn_round_quiet (by kernel_rfl) (by kernel_rfl) (by kernel_rfl) (by rintro ⟨_, _, h⟩; exact h) ?_
        repeat (go_big_quiet_step (fail))
        refine wpQuiet_nil ?_
        rintro _ ⟨nq, rfl⟩
        gi_wp2
        exact ⟨((KeepsOthers.drewN W nq).trans (KeepsOthers.setCell _ _ _)).from _, ⟨far_cell c1 (by dsimp only; omega), far_cell c2 (by dsimp only; omega), World.cell?_setCell_same' _ _ _ (by show (W.cell? _).isSome = true; rw [c3]; rfl), (World.frozen?_setCell _ _ _ _).trans f3, _, far_cell c4 (by dsimp only; omega), .inl ⟨rfl, hnp⟩⟩, (below_drewN HBW.out nq).setCell (p := ⟨w.heap.size + 1 + 1, 0, none⟩) (by show w.heap.size ≤ w.heap.size + 1 + 1; omega) _⟩
      · have hd : decide ((n : Int) ≤ (k : Int)) = false := by simp; omega
        have hkl : k < (stN st).length := by rw [Hn.out]; omega
        obtain ⟨g, rfl⟩ : ∃ g, B = some ⟨g, 0, none⟩ := by
          rcases hRN.form with ⟨_, _, h⟩ | ⟨g, h, _⟩
          · rw [h] at hkl; simp at hkl
          · exact ⟨g, h⟩
        obtain ⟨e0, e1, e2, e3⟩ := hRN.four k hkl
        have hsn : ∀ x : Nat × Val, (stN st)[k] ≠ x → ¬ (pre ++ [x]) <+: stN st := fun x hx h => hx (snoc_prefix Hk.out h).2
        have htk : ∀ x : Nat × Val, (stN st)[k] = x → pre ++ [x] = (stN st).take (pre ++ [x]).length := fun x hx => take_snoc Hk.out Hpre.out hkl hx
        clear hRN
        generalize (stN st)[k] = y at e0 e1 e2 e3 hsn htk
        obtain ⟨yi, yk, yn, ys⟩ := y
        simp only at e0 e1 e2 e3
        have Hsn := Lib.hid hsn
        have Htk := Lib.hid htk
        clear hsn htk
        have h0k : decide ((0 : Int) ≤ (k : Int)) = true := by simp
        by_cases hi : yi = xi
        · subst hi
          by_cases hv : (⟨yk, yn, ys⟩ : Val) = ⟨vk, vn, s⟩
          · injection hv with hv1 hv2 hv3
            subst hv1 hv2 hv3
            have hveq : veq ⟨yk, yn, ys⟩ ⟨yk, yn, ys⟩ = true := by unfold veq; simp
            have hwk : IntKind.i64.wrap ((k : Int) + 1) = (k : Int) + 1 := IntWalk.i64_in _ ⟨by omega, by omega⟩
            gi_wp2
            refine wpIn_round_quiet (by kernel_rfl) (by kernel_rfl) (by kernel_rfl) (by rintro ⟨_, _, h⟩; exact h) ?_
            repeat (go_big_quiet_step (fail))
            refine wpQuiet_nil ?_
            rintro _ ⟨nq, rfl⟩
            gi_wp2
            have hlx : (((pre ++ [((yi, ⟨yk, yn, ys⟩) : Nat × Val)]).length : Nat) : Int) = (k : Int) + 1 := by rw [List.length_append, Hk.out]; rfl
            refine ⟨((KeepsOthers.drewN W nq).trans (KeepsOthers.setCell _ _ _)).from _, kc_t (Kc.drewN _ W nq) (Kc.setCell _ _ _ (by dsimp only; omega)), ⟨far_cell c1 (by dsimp only; omega), far_cell c2 (by dsimp only; omega), far_cell c3 (by dsimp only; omega), (World.frozen?_setCell _ _ _ _).trans f3, ?_, (World.frozen?_setCell _ _ _ _).trans f4, Htk.out _ rfl, ?_⟩, (below_drewN HBW.out nq).setCell (p := ⟨w.heap.size + 1 + 1 + 1, 0, none⟩) (by show w.heap.size ≤ w.heap.size + 1 + 1 + 1; omega) _⟩
            · rw [hlx]
              exact World.cell?_setCell_same' _ _ _ (by show (W.cell? _).isSome = true; rw [c4]; rfl)
            · omega
          · have hnp := Hsn.out (yi, ⟨vk, vn, s⟩) (fun h => hv (congrArg Prod.snd h))
            have hveq : veq ⟨yk, yn, ys⟩ ⟨vk, vn, s⟩ = false := by unfold veq; exact decide_eq_false hv
            gi_wp2
            refine wpIn_round_quiet (by kernel_rfl) (by kernel_rfl) (by kernel_rfl) (by rintro ⟨_, _, h⟩; exact h) ?_
            repeat (go_big_quiet_step (fail))
            refine wpQuiet_nil ?_
            rintro _ ⟨nq, rfl⟩
            gi_wp2
            exact ⟨((KeepsOthers.drewN W nq).trans (KeepsOthers.setCell _ _ _)).from _, ⟨far_cell c1 (by dsimp only; omega), far_cell c2 (by dsimp only; omega), World.cell?_setCell_same' _ _ _ (by show (W.cell? _).isSome = true; rw [c3]; rfl), (World.frozen?_setCell _ _ _ _).trans f3, _, far_cell c4 (by dsimp only; omega), .inl ⟨rfl, hnp⟩⟩, (below_drewN HBW.out nq).setCell (p := ⟨w.heap.size + 1 + 1, 0, none⟩) (by show w.heap.size ≤ w.heap.size + 1 + 1; omega) _⟩
        · have hnp := Hsn.out (xi, ⟨vk, vn, s⟩) (fun h => hi (congrArg Prod.fst h))
          have hne : ((yi : Int) == (xi : Int)) = false := by simp; omega
          have hne2 : ((yi : Int) != (xi : Int)) = true := by simp; omega
          gi_wp2
          refine wpIn_round_quiet (by kernel_rfl) (by kernel_rfl) (by kernel_rfl) (by rintro ⟨_, _, h⟩; exact h) ?_
          repeat (go_big_quiet_step (fail))
          refine wpQuiet_nil ?_
          rintro _ ⟨nq, rfl⟩
          gi_wp2
          exact ⟨((KeepsOthers.drewN W nq).trans (KeepsOthers.setCell _ _ _)).from _, ⟨far_cell c1 (by dsimp only; omega), far_cell c2 (by dsimp only; omega), World.cell?_setCell_same' _ _ _ (by show (W.cell? _).isSome = true; rw [c3]; rfl), (World.frozen?_setCell _ _ _ _).trans f3, _, far_cell c4 (by dsimp only; omega), .inl ⟨rfl, hnp⟩⟩, (below_drewN HBW.out nq).setCell (p := ⟨w.heap.size + 1 + 1, 0, none⟩) (by show w.heap.size ≤ w.heap.size + 1 + 1; omega) _⟩
  case stop =>
    rintro D c pre W hD hSp ⟨⟨c1, c2, c3, f3, q, c4, hc⟩, hBW⟩ hK
    rcases hc with ⟨_, h⟩ | ⟨rfl, h0, rfl⟩
    · exact absurd hSp h
    have Hd := Lib.hid (show w.heap.size ≤ D by have := hB.size; omega)
    have HK := Lib.hid hK
    have HB := Lib.hid hBW
    have hd0 : decide ((0 : Int) ≤ q) = true := by simp; omega
    clear hD hK hBW hk hN hk0 hp hp0 b1 b2 b3 b4 hB hfn hSp
    by_cases hq : q = (n : Int)
    · have hqn : (q == (n : Int)) = true := by simpa using hq
      gi_wp2
      have hK' := (KeepsOthers.setCell W ⟨w.heap.size + 1 + 1, 0, none⟩ (.bool true)).same D _ HK.out rfl
      refine ⟨by simp, .inl ⟨_, _, rfl, run_takeDeferred hK', ?_⟩⟩
      have hc5 := cell_kept (World.cell?_setCell_same' W ⟨w.heap.size + 1 + 1, 0, none⟩ (.bool true) (by rw [c3]; rfl)) (grownBy_putObj' _ D (.deferred none)) (fun r e => by cases e; exact ⟨_, hK', rfl⟩)
      refine ⟨.bool true, ?_, rfl, ?_⟩
      · simp [results, Try.results26, go_sem, hc5]
      · exact (HB.out.setCell (by show w.heap.size ≤ w.heap.size + 1 + 1; omega) _).trans (belowK_b (w := w) (Nat.le_refl _) _ D _ _ Hd.out hK' rfl rfl)
    · have hqn : (q == (n : Int)) = false := by simpa using hq
      gi_wp2
      have hK' := (KeepsOthers.setCell W ⟨w.heap.size + 1 + 1, 0, none⟩ (.bool true)).same D _ HK.out rfl
      refine ⟨by simp, .inl ⟨_, _, rfl, run_takeDeferred hK', ?_⟩⟩
      have hc5 := cell_kept (World.cell?_setCell_same' W ⟨w.heap.size + 1 + 1, 0, none⟩ (.bool true) (by rw [c3]; rfl)) (grownBy_putObj' _ D (.deferred none)) (fun r e => by cases e; exact ⟨_, hK', rfl⟩)
      refine ⟨.bool true, ?_, rfl, ?_⟩
      · simp [results, Try.results26, go_sem, hc5]
      · exact (HB.out.setCell (by show w.heap.size ≤ w.heap.size + 1 + 1; omega) _).trans (belowK_b (w := w) (Nat.le_refl _) _ D _ _ Hd.out hK' rfl rfl)
  case done =>
    rintro D xs W hD rfl ⟨⟨c1, c2, c3, f3, c4, f4, hpre, hpl⟩, hBW⟩ hK
    rw [Hn.out] at c4
    have Hd := Lib.hid (show w.heap.size ≤ D by have := hB.size; omega)
    have HK := Lib.hid hK
    have HB := Lib.hid hBW
    clear hD hK hBW hk hN hk0 hp hp0 b1 b2 b3 b4 hB hfn hpre hpl
    gi_wp2
    have hK' := (KeepsOthers.setCell W ⟨w.heap.size + 1 + 1, 0, none⟩ (.bool true)).same D _ HK.out rfl
    refine ⟨by simp, .inl ⟨_, _, rfl, run_takeDeferred hK', ?_⟩⟩
    have hc5 := cell_kept (World.cell?_setCell_same' W ⟨w.heap.size + 1 + 1, 0, none⟩ (.bool true) (by rw [c3]; rfl)) (grownBy_putObj' _ D (.deferred none)) (fun r e => by cases e; exact ⟨_, hK', rfl⟩)
    refine ⟨.bool true, ?_, rfl, ?_⟩
    · simp [results, Try.results26, go_sem, hc5]
    · exact (HB.out.setCell (by show w.heap.size ≤ w.heap.size + 1 + 1; omega) _).trans (belowK_b (w := w) (Nat.le_refl _) _ D _ _ Hd.out hK' rfl rfl)

end Go.Proofs.Ythdpaakkamccbaa

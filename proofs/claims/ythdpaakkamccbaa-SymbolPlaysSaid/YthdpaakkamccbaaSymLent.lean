/-
  Walks: lent, left.
-/
import Derived.Test.YthdpaakkamccbaaSymPT
namespace Go.Proofs.Ythdpaakkamccbaa
open Go.RowKit Go.Maps

/-- the marks behind a list that is lent. -/
def marks (t : Nat) : List Val := (List.range t).map (mark 77)
theorem marks_succ (t : Nat) : marks (t + 1) = marks t ++ [mark 77 t] := by unfold marks; rw [List.range_succ, List.map_append]; rfl
theorem marks_length (t : Nat) : (marks t).length = t := by simp [marks]
theorem marks_at (t i : Nat) (h : i < t) : (marks t)[i]'(by rw [marks_length]; exact h) = mark 77 i := by simp [marks]

theorem append_nils (w : World) : (Builtin.append_ #[22, 22] 22 #[.slice none 0 0, .slice none 0 0]).run Try.prog w = .ok (.slice none 0 0) w := by
  obtain ⟨i0, hi, hz0, hz1, hz2⟩ := info_parts Try.infoV
  simp [Builtin.append_, run_underlying Try.underlying22, sizeOf, typeInfo, hi, Builtin.lenOf, Builtin.firstCells]

/-- RowV of what an append has left. -/
theorem RowV.of_own {w : World} {v : Value} {us : List Val} {n : Nat} (hn : us.length = n) (h : w.ownsRow 0 36 3 v n (vcells us)) : ∃ A cap, v = .slice A n cap ∧ RowV w A cap us ∧ v.ownBlock = (blkOf A).head? := by
  rcases h.2 with ⟨rfl, h0⟩ | ⟨g, cap, cur, rfl, h2⟩
  · refine ⟨none, 0, by rw [h0], ?_, rfl⟩
    unfold RowV
    rw [hn]
    rw [h0] at h ⊢
    exact h
  · refine ⟨some ⟨g, 0, none⟩, cap, rfl, ?_, rfl⟩
    unfold RowV
    rw [hn]
    exact h

/-- cut beyond its end, within its room. -/
theorem slice_room (g cap m n : Nat) (hn : n ≤ cap) (W : World) :
    (Instr.sliceAt 22 (.slice (some ⟨g, 0, none⟩) m cap) none (some (.int .i64 (n : Int))) none).run Try.prog W = .ok (.slice (some ⟨g, 0, none⟩) n cap) W := by
  rw [run_sliceAt_slice W 22 _ _ _ _ (by kernel_rfl), run_slice_h (P := Try.prog) W 22 (some ⟨g, 0, none⟩) m cap (by kernel_rfl) .i64 (n : Int) (by omega) (by omega)]
  have hs : (sizeOf (Try.prog.elem 22)).run Try.prog W = .ok 3 W := by kernel_rfl
  rw [hs]
  simp [Result.andThen, sliced, Addr.add]

set_option maxHeartbeats 2000000 in
theorem lent_any (A : Option Addr) (cap : Nat) (l : List Val) (w : World) (hA : A = none → cap = 0) (hrd : RdV w A l) (hreach : l.length * 32 ≤ 140737488351232) :
    Calls Try.prog 44 #[.slice A l.length cap] w fun e w' => ∃ g cap', e = .returned (.slice (some ⟨g, 0, none⟩) l.length cap') ∧ w.heap.size ≤ g ∧ RowV w' (some ⟨g, 0, none⟩) cap' (l ++ marks 70) ∧ Below w.heap.size w w' := by
  obtain ⟨i0, hi, hz0, hz1, hz2⟩ := info_parts Try.infoV
  obtain ⟨n, hn⟩ : ∃ n, l.length = n := ⟨_, rfl⟩
  rw [hn] at hreach ⊢
  have Hn := Lib.hid hn
  have hnone : A = none → n = 0 := fun h => by
    by_cases hl : l = []
    · rw [← hn, hl]; rfl
    · obtain ⟨b, off, hb, _⟩ := hrd hl
      rw [h] at hb; cases hb
  have h63 : n + 70 ≤ maxLen := by unfold maxLen; omega
  go_enter Try.func44, Try.ntmps44
  go_upto_region 2 with fail
  go_cut [3] (fun v wx => ∃ (A1 : Option Addr) (cap1 : Nat), v = .slice A1 n cap1 ∧ RowV wx A1 cap1 l ∧ (∀ g ∈ blkOf A1, w.heap.size ≤ g) ∧ Below w.heap.size w wx)
  case first =>
    cases A with
    | none =>
      have hc := hA rfl
      have hn0 := hnone rfl
      have hl0 : l = [] := List.eq_nil_of_length_eq_zero (by rw [Hn.out, hn0])
      subst hc
      subst hn0
      have happ := append_nils
      clear hA hnone hrd hn Hn
      go_wp2
      go_meet
      exact ⟨none, 0, rfl, by rw [hl0]; exact RowV.nil_ _, by simp [blkOf], Below.refl _ _⟩
    | some ad =>
      have hcells : ∀ j u, (vcells l)[j]? = some u → w.cell? (ad.add j) = some u := by
        intro j u hj
        by_cases hl : l = []
        · rw [hl] at hj; simp [vcells] at hj
        · obtain ⟨b, off, hb, _, hc⟩ := hrd hl
          injection hb with hb
          subst hb
          have hjl : j < l.length * 3 := by
            rw [← vcells_length]
            exact (List.getElem?_eq_some_iff.1 hj).1
          have hq : j / 3 < l.length := by omega
          obtain ⟨h0, h1, h2⟩ := vcells_at l (j / 3) hq
          obtain ⟨k0, k1, k2⟩ := hc (j / 3) hq
          have hadd : (⟨b, off, none⟩ : Addr).add j = ⟨b, off + j, none⟩ := Addr.add_mid b off j
          rw [hadd]
          have hm : j % 3 = 0 ∨ j % 3 = 1 ∨ j % 3 = 2 := by omega
          rcases hm with hm | hm | hm
          · have e : j / 3 * 3 = j := by omega
            rw [e] at h0 k0; rw [hj] at h0; rw [k0, h0]
          · have e : j / 3 * 3 + 1 = j := by omega
            have e' : off + j / 3 * 3 + 1 = off + j := by omega
            rw [e] at h1; rw [e'] at k1; rw [hj] at h1; rw [k1, h1]
          · have e : j / 3 * 3 + 2 = j := by omega
            have e' : off + j / 3 * 3 + 2 = off + j := by omega
            rw [e] at h2; rw [e'] at k2; rw [hj] at h2; rw [k2, h2]
      have hone : ∀ u ∈ vcells l, u.oneCell' = true := by
        intro u hu
        unfold vcells at hu
        obtain ⟨v, _, hu⟩ := List.mem_flatMap.1 hu
        simp only [Val.cells, List.mem_cons, List.not_mem_nil, or_false] at hu
        rcases hu with rfl | rfl | rfl <;> rfl
      have Hcells := Lib.hid hcells
      have Hone := Lib.hid hone
      have Hnil := Lib.hid (World.ownsRow_nil w 0 36 3)
      have Hvl := Lib.hid (show (vcells l).length = n * 3 by rw [vcells_length, Hn.out])
      have h63' : 0 + n ≤ maxLen := by omega
      have h32' : (0 + n) * 32 ≤ 140737488355328 := by omega
      clear hcells hone hA hnone hrd hn
      go_wp2_with (at_builtin; refine wpList_append_own_at _ rfl _ _ 22 rfl 0 36 i0 _ 3 32 Try.underlying22 hi hz0 hz1 hz2 rfl (by decide) _ 0 [] rfl Hnil.out ad n cap (vcells l) rfl Hvl.out Hcells.out Hone.out h63' h32' (Nat.zero_le _) ?_)
      intro v' W4 hown4 hgrow4 hnil4 hloc4
      obtain ⟨A1, cap1, rfl, hrow1, hob⟩ := RowV.of_own Hn.out hown4
      have hfr : ∀ g ∈ blkOf A1, w.heap.size ≤ g := fun g hg => by
        rcases hloc4 with h | h
        · cases A1 with
          | none => simp [blkOf] at hg
          | some a => simp [Value.ownBlock] at h
        · cases A1 with
          | none => simp [blkOf] at hg
          | some a => simp [blkOf] at hg; simp [Value.ownBlock] at h; omega
      have hbel : Below w.heap.size w W4 := (Below.refl _ _).grown hgrow4 (Nat.le_refl _) (fun k hk => by simp [Value.ownBlock] at hk)
      have Hrow1 := Lib.hid hrow1
      clear hown4 hgrow4 hnil4 hloc4 hrow1 hob
      go_wp2
      go_meet
      exact ⟨A1, cap1, rfl, Hrow1.out, hfr, hbel⟩
  case rest =>
    obtain ⟨A1, cap1, rfl, hrow1, hfr1, hb1⟩ := hcut
    clear hA hnone hrd hn
    go_wp2_with fail
    go_loopg [3, 4] 70 (fun gk c i wx => ∃ (t : Nat) (A2 : Option Addr) (cap2 : Nat), t ≤ 70 ∧ gk = 70 - t ∧ i = .int .i64 t ∧ c = .slice A2 (n + t) cap2 ∧ RowV wx A2 cap2 (l ++ marks t) ∧ (∀ g ∈ blkOf A2, w.heap.size ≤ g) ∧ Below w.heap.size w wx)
    case atStart => exact ⟨0, A1, cap1, by omega, rfl, rfl, rfl, by simpa [marks] using hrow1, hfr1, hb1⟩
    case round =>
      clear hrow1 hfr1 hb1
      obtain ⟨t, A2, cap2, ht, rfl, rfl, rfl, hrow, hfr, hb⟩ := hrel
      obtain ⟨wo, rfl⟩ : ∃ wo : World, wo = wr := ⟨_, rfl⟩
      by_cases hlt : t < 70
      · have hxl : (l ++ marks t).length = n + t := by rw [List.length_append, Hn.out, marks_length]
        have Hxl := Lib.hid hxl
        have hown : wo.ownsRow 0 36 3 (.slice A2 (n + t) cap2) (n + t) (vcells (l ++ marks t)) := by unfold RowV at hrow; rw [hxl] at hrow; exact hrow
        have Hown := Lib.hid hown
        have Hfr := Lib.hid hfr
        have Hb := Lib.hid hb
        have Hc1 := Lib.hid (cells3_new' wo (.int .i8 77) (.int .i64 (t : Int)) (.string ⟨#[]⟩) 36)
        have Hc2 := Lib.hid (three_one 77 (t : Int) ⟨#[]⟩)
        have h63t : n + t + 1 ≤ maxLen := by omega
        have h32t : (n + t + 1) * 32 ≤ 140737488355328 := by omega
        clear hown hrow hfr hxl
        go_wp2_with (at_builtin; refine wpList_append_own_at _ rfl _ _ 22 rfl 0 36 i0 _ 3 32 Try.underlying22 hi hz0 hz1 hz2 rfl (by decide) _ (n + t) _ rfl (Hown.out.alloc _) ⟨wo.heap.size, 0, none⟩ 1 1 [.int .i8 77, .int .i64 (t : Int), .string ⟨#[]⟩] rfl rfl Hc1.out Hc2.out h63t h32t (Nat.zero_le _) ?_)
        intro v' W4 hown4 hgrow4 hnil4 hloc4
        have hxs : vcells (l ++ marks t) ++ [.int .i8 77, .int .i64 (t : Int), .string ⟨#[]⟩] = vcells (l ++ marks (t + 1)) := by
          rw [marks_succ, ← List.append_assoc, vcells_append (l ++ marks t)]; rfl
        rw [hxs] at hown4
        obtain ⟨A4, cap4, rfl, hrow4, hob4⟩ := RowV.of_own (us := l ++ marks (t + 1)) (by rw [marks_succ, ← List.append_assoc, List.length_append, Hxl.out]; rfl) hown4
        have hob : ∀ g, (Value.slice A2 (n + t) cap2).ownBlock = some g → w.heap.size ≤ g := fun g hg => Hfr.out g (own_blk _ _ _ _ hg)
        have hbel4 : Below w.heap.size w W4 := (hb.alloc hb.size _).grown hgrow4 (by have := hb.size; simp; omega) hob
        have hfr4 : ∀ g ∈ blkOf A4, w.heap.size ≤ g := fun g hg => by
          have hg2 : (Value.slice A4 (n + t + 1) cap4).ownBlock = some g := by
            cases A4 with
            | none => simp [blkOf] at hg
            | some a => simp [blkOf] at hg; simp [Value.ownBlock, hg]
          rcases hloc4 with h | h
          · exact hob g (by rw [← h]; exact hg2)
          · have h2 := hg2.symm.trans h
            injection h2 with h2
            have h3 := hb.size
            have h4 : (wo.alloc (.cells #[.int .i8 77, .int .i64 (t : Int), .string ⟨#[]⟩] 36)).heap.size = wo.heap.size + 1 := (tup_new wo _ _).2.2
            omega
        have Hrow4 := Lib.hid hrow4
        have Hbel4 := Lib.hid hbel4
        have Hfr4 := Lib.hid hfr4
        clear hown4 hgrow4 hnil4 hloc4 hrow4 hbel4 hfr4 hob hob4 hxs
        go_wp2
        go_roundg (70 - (t + 1))
        case measure => omega
        case rel => exact ⟨t + 1, A4, cap4, by omega, rfl, by go_num, rfl, Hrow4.out, Hfr4.out, Hbel4.out⟩
      · have e : t = 70 := by omega
        subst e
        have hxl : (l ++ marks 70).length = n + 70 := by rw [List.length_append, Hn.out, marks_length]
        obtain ⟨g, rfl⟩ : ∃ g, A2 = some ⟨g, 0, none⟩ := by
          rcases hrow.form with ⟨_, _, h⟩ | ⟨g, h, _⟩
          · rw [h] at hxl; simp at hxl
          · exact ⟨g, h⟩
        have hcap : n + 70 ≤ cap2 := by
          rcases hrow.form with ⟨h, _⟩ | ⟨_, _, _, h, _⟩
          · cases h
          · rw [hxl] at h; exact h
        have hsl := slice_room g cap2 (n + 70) n (by omega)
        have Hrow := Lib.hid hrow
        have Hfr := Lib.hid (hfr g (by simp [blkOf]))
        clear hrow hfr hxl hlt
        go_wp2
        go_ret
        exact ⟨g, cap2, rfl, Hfr.out, Hrow.out, hb⟩

set_option maxHeartbeats 2000000 in
theorem left_any (g cap : Nat) (l : List Val) (B : Option Addr) (capB : Nat) (w : World) (hrow : RowV w (some ⟨g, 0, none⟩) cap (l ++ marks 70)) (hrd : RdV w B l) (hreach : l.length * 32 ≤ 140737488351232) :
    Calls Try.prog 49 #[.slice (some ⟨g, 0, none⟩) l.length cap, .slice B l.length capB] w fun e w' => e = .returned (.bool true) ∧ Below w.heap.size w w' := by
  have hsame := same_yes (some ⟨g, 0, none⟩) B cap capB l w (by have := (hrow.take l.length (by simp)).rd; rwa [List.take_left] at this) hrd (by omega)
  have hcap : l.length + 70 ≤ cap := by
    rcases hrow.form with ⟨h, _⟩ | ⟨_, _, _, h, _⟩
    · cases h
    · rw [List.length_append, marks_length] at h; exact h
  have hsl := slice_room g cap l.length (l.length + 70) hcap
  obtain ⟨n, hn⟩ : ∃ n, l.length = n := ⟨_, rfl⟩
  rw [hn] at hsame hcap hsl hreach ⊢
  have Hn := Lib.hid hn
  have Hsame := Lib.hid hsame
  have Hrow := Lib.hid hrow
  have hnb : n ≤ 4398046510976 := by omega
  obtain ⟨N, hN⟩ : ∃ N, n + 70 = N := ⟨_, rfl⟩
  rw [hN] at hsl
  have hsl2 : ∀ W, (Instr.sliceAt 22 (.slice (some ⟨g, 0, none⟩) n cap) none (some (.int .i64 ((n : Int) + 70))) none).run Try.prog W = .ok (.slice (some ⟨g, 0, none⟩) N cap) W := fun W => by
    have := hsl W
    rw [← hN] at this ⊢
    push_cast at this
    exact this
  have HN := Lib.hid hN
  have hw := IntWalk.i64_in ((n : Int) + 70) ⟨by omega, by omega⟩
  clear hsame hrow hrd hn hcap hsl hN hreach
  go_enter Try.func49, Try.ntmps49
  go_wp2_with (go_at_call 19; refine Hsame.out.mono ?_; rintro e W1 ⟨rfl, hb1⟩)
  go_loopg [6] 70 (fun gk i wx => ∃ t : Nat, t ≤ 70 ∧ gk = 70 - t ∧ i = .int .i64 t ∧ wx = W1)
  case atStart => exact ⟨0, by omega, rfl, rfl, rfl⟩
  case round =>
    obtain ⟨t, ht, rfl, rfl, rfl⟩ := hrel
    by_cases hlt : t < 70
    · have htl : n + t < (l ++ marks 70).length := by rw [List.length_append, Hn.out, marks_length]; omega
      obtain ⟨q0, q1, q2⟩ := (Hrow.out.below_ hb1).three (n + t) htl
      have he : (l ++ marks 70)[n + t] = mark 77 t := by
        rw [List.getElem_append_right (by rw [Hn.out]; omega)]
        have : (n + t - l.length) = t := by rw [Hn.out]; omega
        simp only [this]
        exact marks_at 70 t hlt
      rw [he] at q0 q1 q2
      have d0 : wr.cell? ⟨g, (n + t) * 3, none⟩ = some (.int .i8 77) := q0
      have d1 : wr.cell? ⟨g, (n + t) * 3 + 1, none⟩ = some (.int .i64 (t : Int)) := q1
      have d2 : wr.cell? ⟨g, (n + t) * 3 + 2, none⟩ = some (.string ⟨#[]⟩) := q2
      clear q0 q1 q2
      have hveq : veq ⟨77, (t : Int), ⟨#[]⟩⟩ ⟨77, (t : Int), ⟨#[]⟩⟩ = true := by unfold veq; simp
      have hNt : n + t < N := by have := HN.out; omega
      have hwt := IntWalk.i64_in ((n : Int) + (t : Int)) ⟨by omega, by omega⟩
      clear he htl
      go_wp2
      go_roundg (70 - (t + 1))
      case measure => omega
      case rel => exact ⟨t + 1, by omega, rfl, by go_num, rfl⟩
    · have hd : decide (t < 70) = false := by simp; omega
      have hd' : decide ((t : Int) < 70) = false := by simp; omega
      clear ht
      go_wp2
      go_ret
      exact ⟨rfl, hb1⟩

end Go.Proofs.Ythdpaakkamccbaa

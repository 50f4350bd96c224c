/-
  Walks: has a rule more parts than are gone through? Literals and rules: only that it is answered.
-/
import Derived.Test.YtgjdgincebchhaaGreatDoorBeyond
import Derived.Deep.RegionHeld3
namespace Go.Proofs.YtgjdgincebchhaaGreatDoor
open Go Go.RowKit

theorem rd_row {α : Type} {w : World} {A : Option Addr} {xs : List α} {f : α → List Value} {c : Nat} (hc : ∀ x, (f x).length = c + 1) (h : Rd w A (xs.map f).flatten) (i : Nat) (hi : i < xs.length) : ∃ b o, A = some ⟨b, o, none⟩ ∧ b < w.heap.size ∧ w.rangeAt b (o + i * (c + 1)) (f xs[i]) := by
  have hl : ∀ r ∈ xs.map f, r.length = c + 1 := fun r hr => by
    obtain ⟨x, _, rfl⟩ := List.mem_map.1 hr
    exact hc x
  have hne : (xs.map f).flatten ≠ [] := by
    intro e
    have h1 := flat_length hl
    rw [e, List.length_map, List.length_nil] at h1
    have : 0 < xs.length * (c + 1) := Nat.mul_pos (by omega) (by omega)
    omega
  obtain ⟨b, o, rfl, hb, hr⟩ := h hne
  refine ⟨b, o, rfl, hb, ?_⟩
  have := rangeAt_part hr (i * (c + 1)) (c + 1)
  rw [flat_part hl i (by rw [List.length_map]; exact hi), List.getElem_map] at this
  exact this

set_option maxHeartbeats 2000000 in
set_option maxRecDepth 10000 in
theorem literalParts_any (x : Li) (left : Nat) (w : World) (h1 : left ≤ 1048576) (hl : x.lies w) :
    Calls Tryz.prog 84 #[.agg x.cells.toArray, .int .i64 (left : Int)] w fun e w' => ∃ r : Nat, e = .returned (.int .i64 (r : Int)) ∧ r ≤ left + 1 ∧ Below w.heap.size w w' := by
  obtain ⟨k, rl, p, A, cap, args, l, r⟩ := x
  obtain ⟨x1a, x1b, x1c, x1d, x1e, x1f, e1⟩ := list6 l.cells_length
  obtain ⟨x2a, x2b, x2c, x2d, x2e, x2f, e2⟩ := list6 r.cells_length
  have t1 := fun (W : World) (hW : Below w.heap.size w W) => exprParts_any l left W h1 (Ex.lies_below hW hl.l)
  have t2 := fun (W : World) (hW : Below w.heap.size w W) (z : Int) (hz : 0 ≤ z) (hz1 : z ≤ 1048576) => (exprParts_any r z.toNat W (by omega) (Ex.lies_below hW hl.r))
  have hlen := hl.len
  simp only at hlen
  rw [e1] at t1
  rw [e2] at t2
  have t2 : ∀ (W : World), Below w.heap.size w W → ∀ z : Int, 0 ≤ z → z ≤ 1048576 → Calls Tryz.prog 134 #[.agg #[x2a, x2b, x2c, x2d, x2e, x2f], .int .i64 z] W fun e w' => ∃ r : Nat, e = .returned (.int .i64 (r : Int)) ∧ (r : Int) ≤ z + 1 ∧ Below W.heap.size W w' := fun W hW z hz hz1 => by
    have h := t2 W hW z hz hz1
    rw [Int.toNat_of_nonneg hz] at h
    refine h.mono ?_
    rintro e w' ⟨r, rfl, h1, h2⟩
    exact ⟨r, rfl, by omega, h2⟩
  unfold Li.cells
  simp only
  rw [e1, e2]
  simp only [List.cons_append, List.nil_append]
  obtain ⟨n, hn⟩ : ∃ n, args.length = n := ⟨_, rfl⟩
  rw [hn] at hlen ⊢
  clear hn e1 e2 hl
  obtain ⟨W0, hW0⟩ : ∃ W0, (w.alloc (.cells #[.int .i8 k, .string p, .slice A n cap, .int .i8 rl, x1a, x1b, x1c, x1d, x1e, x1f, x2a, x2b, x2c, x2d, x2e, x2f] 93)) = W0 := ⟨_, rfl⟩
  have hB0 : Below w.heap.size w W0.drew := hW0 ▸ (new_below w _).drew
  have hs0 : w.heap.size < W0.drew.heap.size := by rw [← hW0]; simp
  have hr0 : W0.drew.rangeAt w.heap.size 0 [.int .i8 k, .string p, .slice A n cap, .int .i8 rl, x1a, x1b, x1c, x1d, x1e, x1f, x2a, x2b, x2c, x2d, x2e, x2f] := hW0 ▸ new_range w [.int .i8 k, .string p, .slice A n cap, .int .i8 rl, x1a, x1b, x1c, x1d, x1e, x1f, x2a, x2b, x2c, x2d, x2e, x2f] 93
  have cells : ∀ W : World, W.rangeAt w.heap.size 0 [.int .i8 k, .string p, .slice A n cap, .int .i8 rl, x1a, x1b, x1c, x1d, x1e, x1f, x2a, x2b, x2c, x2d, x2e, x2f] →
      W.cell? ⟨w.heap.size, 2, none⟩ = some (.slice A n cap) ∧ W.cell? ⟨w.heap.size, 4, none⟩ = some x1a ∧ W.cell? ⟨w.heap.size, 5, none⟩ = some x1b ∧ W.cell? ⟨w.heap.size, 6, none⟩ = some x1c ∧ W.cell? ⟨w.heap.size, 7, none⟩ = some x1d ∧ W.cell? ⟨w.heap.size, 8, none⟩ = some x1e ∧ W.cell? ⟨w.heap.size, 9, none⟩ = some x1f :=
    fun W h => ⟨h 2 _ rfl, h 4 _ rfl, h 5 _ rfl, h 6 _ rfl, h 7 _ rfl, h 8 _ rfl, h 9 _ rfl⟩
  have hS0 := cells _ hr0
  have Hcells := Lib.hid cells
  have HW0 := Lib.hid hW0
  have HB0 := Lib.hid hB0
  have Hs0 := Lib.hid hs0
  have Hr0 := Lib.hid hr0
  have Hc1 := Lib.hid (t1 W0.drew hB0)
  have Hc2 := Lib.hid t2
  clear hW0 hB0 hs0 hr0 t1 t2 cells
  go_enter Tryz.func84, Tryz.ntmps84
  go_upto_region 1 with fail
  rw [HW0.out]
  go_region_held3 (fun W' : World => W'.cell? ⟨w.heap.size, 2, none⟩ = some (.slice A n cap) ∧ W'.cell? ⟨w.heap.size, 4, none⟩ = some x1a ∧ W'.cell? ⟨w.heap.size, 5, none⟩ = some x1b ∧ W'.cell? ⟨w.heap.size, 6, none⟩ = some x1c ∧ W'.cell? ⟨w.heap.size, 7, none⟩ = some x1d ∧ W'.cell? ⟨w.heap.size, 8, none⟩ = some x1e ∧ W'.cell? ⟨w.heap.size, 9, none⟩ = some x1f) (first | exact hS0 | exact hS1) (first
    | (go_at_call 134; refine Hc1.out.mono ?_; rintro e W1 ⟨r1, rfl, hr1, hb1⟩
       have Hr1 := Lib.hid (rangeAt_below Hr0.out hb1 Hs0.out)
       have hS1 := Hcells.out W1 Hr1.out))
  have hB1 : Below w.heap.size w W1 := HB0.out.trans (hb1.mono HB0.out.size)
  have g0 := Hr1.out 10 _ rfl
  have g1 := Hr1.out 11 _ rfl
  have g2 := Hr1.out 12 _ rfl
  have g3 := Hr1.out 13 _ rfl
  have g4 := Hr1.out 14 _ rfl
  have g5 := Hr1.out 15 _ rfl
  simp only [Nat.zero_add] at g0 g1 g2 g3 g4 g5
  have HB1 := Lib.hid hB1
  clear hB1 hb1 hS0 hS1
  by_cases hgt : 1 + n + r1 ≤ left
  · go_wp2_with (go_at_call 134; refine (Hc2.out W1 HB1.out _ (by omega) (by omega)).mono ?_; rintro e W2 ⟨r2, rfl, hr2, hb2⟩)
    go_returns
    exact ⟨1 + n + r1 + r2, by go_num, by omega, HB1.out.trans (hb2.mono HB1.out.size)⟩
  · go_wp2
    go_returns
    exact ⟨left + 1, by go_num, Nat.le_refl _, HB1.out⟩

set_option maxHeartbeats 2000000 in
set_option maxRecDepth 10000 in
theorem ruleParts_any (x : Ru) (left : Nat) (w : World) (h1 : left ≤ 1048576) (hl : x.lies w) :
    Calls Tryz.prog 42 #[.agg x.cells.toArray, .int .i64 (left : Int)] w fun e w' => ∃ r : Nat, e = .returned (.int .i64 (r : Int)) ∧ r ≤ x.head.length + left + 2 ∧ Below w.heap.size w w' := by
  obtain ⟨p, A, cap, head, B, capB, body⟩ := x
  obtain ⟨n, hn⟩ : ∃ n, head.length = n := ⟨_, rfl⟩
  obtain ⟨m, hm⟩ : ∃ m, body.length = m := ⟨_, rfl⟩
  have hlenA := hl.lenA
  have hlenB := hl.lenB
  simp only at hlenA hlenB
  unfold Ru.cells
  simp only
  rw [hn] at hlenA ⊢
  rw [hm] at hlenB ⊢
  have hbod : ∀ y ∈ body, y.lies w := hl.body
  obtain ⟨W0, hW0⟩ : ∃ W0, (w.alloc (.cells #[.string p, .slice A n cap, .slice B m capB] 28)) = W0 := ⟨_, rfl⟩
  have hB0 : Below w.heap.size w W0 := hW0 ▸ new_below w _
  have hs0 : w.heap.size < W0.heap.size := by rw [← hW0]; simp
  have hr0 : W0.rangeAt w.heap.size 0 [.string p, .slice A n cap, .slice B m capB] := hW0 ▸ new_range w [.string p, .slice A n cap, .slice B m capB] 28
  have c1 : W0.cell? ⟨w.heap.size, 1, none⟩ = some (.slice A n cap) := hr0 1 _ rfl
  have hread : ∀ i, (hi : i < body.length) → ∃ b o, B = some ⟨b, o, none⟩ ∧ b < w.heap.size ∧ w.rangeAt b (o + i * 16) body[i].cells := fun i hi => rd_row (c := 15) Li.cells_length hl.rdB i hi
  have hcall : ∀ (i : Nat) (hi : i < body.length) (W : World), Below w.heap.size w W → ∀ z : Int, 0 ≤ z → z ≤ 1048576 → Calls Tryz.prog 84 #[.agg body[i].cells.toArray, .int .i64 z] W fun e w' => ∃ r : Nat, e = .returned (.int .i64 (r : Int)) ∧ (r : Int) ≤ z + 1 ∧ Below W.heap.size W w' := fun i hi W hW z hz hz1 => by
    have h := literalParts_any body[i] z.toNat W (by omega) ((hbod _ (List.getElem_mem _)).below hW)
    rw [Int.toNat_of_nonneg hz] at h
    refine h.mono ?_
    rintro e w' ⟨r, rfl, h1, h2⟩
    exact ⟨r, rfl, by omega, h2⟩
  have HW0 := Lib.hid hW0
  have HB0 := Lib.hid hB0
  have Hs0 := Lib.hid hs0
  have Hr0 := Lib.hid hr0
  have Hread := Lib.hid hread
  have Hcall := Lib.hid hcall
  have Hm := Lib.hid hm
  clear hW0 hB0 hs0 hr0 hread hcall hn hm hl hbod
  go_enter Tryz.func42, Tryz.ntmps42
  go_wp2
  go_loopg [5, 6] (m + 1) (fun gk s5 s6 wx => ∃ (a i : Nat), s5 = .int .i64 (a : Int) ∧ s6 = .int .i64 (i : Int) ∧ i ≤ m ∧ gk = m + 1 - i ∧ a ≤ n + left + 2 ∧ Below W0.heap.size W0 wx)
  case atStart => exact ⟨1 + n, 0, by go_num, rfl, Nat.zero_le _, rfl, by omega, by rw [HW0.out]; exact Below.refl _ _⟩
  case round =>
    obtain ⟨a, i, rfl, rfl, hi, rfl, ha, hB⟩ := hrel
    obtain ⟨W1, rfl⟩ : ∃ W1, W1 = wr := ⟨_, rfl⟩
    have c2 : W1.cell? ⟨w.heap.size, 2, none⟩ = some (.slice B m capB) := rangeAt_below Hr0.out hB Hs0.out 2 _ rfl
    have HB := Lib.hid hB
    have HB1 := Lib.hid (show Below w.heap.size w W1 from HB0.out.trans (hB.mono (Nat.le_of_lt Hs0.out)))
    clear hB
    by_cases hlt : i < m
    · by_cases hle : a ≤ left
      · have hib : i < body.length := by rw [Hm.out]; exact hlt
        obtain ⟨b, o, rfl, hb, hrow⟩ := Hread.out i hib
        have hc := Hcall.out i hib W1 HB1.out
        have hrow1 := rangeAt_below hrow HB1.out hb
        have hlen16 := body[i].cells_length
        generalize body[i].cells = cs at hc hrow hrow1 hlen16
        clear hib
        obtain ⟨x0, x1, x2, x3, x4, x5, x6, x7, x8, x9, x10, x11, x12, x13, x14, x15, rfl⟩ := list16 hlen16
        have Hc := Lib.hid hc
        have Hrow := Lib.hid hrow1
        clear hc hrow hrow1 hlen16
        go_wp2_with (first
          | (refine tw_at_load 93 _ rfl ?_; refine wpList_load_mid rfl 93 _ rfl b (o + i * 16) rfl [x0, x1, x2, x3, x4, x5, x6, x7, x8, x9, x10, x11, x12, x13, x14, x15] _ Hrow.out Tryz.underlying93 rfl sizeLiteral ?_)
          | (go_at_call 84; refine (Hc.out _ (by omega) (by omega)).mono ?_; rintro e W2 ⟨r2, rfl, hr2, hb2⟩))
        go_roundg (m + 1 - (i + 1))
        case measure => omega
        case rel => exact ⟨a + r2, i + 1, by go_num, by go_num, by omega, rfl, by omega, HB.out.trans (hb2.mono HB.out.size)⟩
      · go_wp2
        go_returns
        exact ⟨a, by go_num, ha, HB1.out⟩
    · obtain rfl : i = m := by omega
      go_wp2
      go_returns
      exact ⟨a, by go_num, ha, HB1.out⟩

theorem beyondRule_any (x : Ru) (w : World) (hl : x.lies w) :
    Calls Tryz.prog 17 #[.agg x.cells.toArray] w fun e w' => ∃ b : Bool, e = .returned (.bool b) ∧ Below w.heap.size w w' := by
  have hB := new_below w (.cells x.cells.toArray 28)
  have hc := ruleParts_any x 1048576 (w.alloc (.cells x.cells.toArray 28)) (Nat.le_refl _) (hl.below hB)
  have hh : x.head.length * 56 ≤ 140737488351232 := hl.lenA
  obtain ⟨p, A, cap, head, B, capB, body⟩ := x
  unfold Ru.cells at hc hB ⊢
  simp only at hc hB hh ⊢
  obtain ⟨n, hn⟩ : ∃ n, head.length = n := ⟨_, rfl⟩
  obtain ⟨m, hm⟩ : ∃ m, body.length = m := ⟨_, rfl⟩
  rw [hn] at hc hB hh ⊢
  rw [hm] at hc hB ⊢
  have Hc := Lib.hid hc
  have HB := Lib.hid hB
  clear hc hB hn hm hl
  go_enter Tryz.func17, Tryz.ntmps17
  go_wp2_with (go_at_call 42; refine Hc.out.mono ?_; rintro e W1 ⟨r, rfl, hr, hb1⟩)
  go_returns
  exact ⟨_, rfl, HB.out.trans (hb1.mono HB.out.size)⟩

end Go.Proofs.YtgjdgincebchhaaGreatDoor

/-
  Walks: filled, a table of just these values; lives.
-/
import Derived.Test.YthdpaakkamccbaaSymGood
namespace Go.Proofs.Ythdpaakkamccbaa
open Go.RowKit Go.Maps

set_option maxHeartbeats 1000000 in
theorem filled_any (A : Option Addr) (cap most : Nat) (vs : List Val) (w : World) (hrd : RdV w A vs) (hg : GoodL most vs) (hmost : most ≤ 2147483647) :
    Calls Try.prog 11 #[.slice A vs.length cap, .int .i64 (most : Int)] w fun e w' => ∃ tb S, e = .returned (.pointer (some ⟨tb, 0, none⟩)) ∧ Tab w' tb most vs S ∧ (∀ k ∈ S, w.heap.size ≤ k) ∧ Below w.heap.size w w' := by
  have hnew := Lib.hid (new_yes most w hmost)
  obtain ⟨n, hn⟩ : ∃ n, vs.length = n := ⟨_, rfl⟩
  have hle := hg.le
  rw [hn] at hle ⊢
  have Hn := Lib.hid hn
  have Hg := Lib.hid hg
  have Hrd := Lib.hid hrd
  clear hn hg hrd
  go_enter Try.func11, Try.ntmps11
  go_wp2_with (go_at_call 22; refine hnew.out.mono ?_; rintro e W1 ⟨tb, S, rfl, hT, hS, hb1⟩)
  go_loopg [7] n (fun gk i wx => ∃ (j : Nat) (S : List Nat), j ≤ n ∧ gk = n - j ∧ i = .int .i64 j ∧ Tab wx tb most (vs.take j) S ∧ (∀ k ∈ S, w.heap.size ≤ k) ∧ Below w.heap.size w wx)
  case atStart => exact ⟨0, S, Nat.zero_le _, rfl, rfl, hT, hS, hb1⟩
  case round =>
    obtain ⟨j, S, hj, rfl, rfl, hT, hS, hbel⟩ := hrel
    by_cases hlt : j < n
    · have hvl : j < vs.length := by rw [Hn.out]; exact hlt
      have hmem : vs[j] ∈ vs := List.getElem_mem hvl
      have hnot : vs[j] ∉ vs.take j := by
        intro hm
        obtain ⟨i, hi, he⟩ := List.mem_iff_getElem.1 hm
        rw [List.length_take] at hi
        rw [List.getElem_take] at he
        have := (List.getElem_inj Hg.out.nodup).1 he
        omega
      have hadd := add_new hT (vs[j]) (Hg.out.wf _ hmem) (Hg.out.ok _ hmem) hnot (by rw [List.length_take]; omega)
      rw [← List.take_succ_eq_append_getElem hvl] at hadd
      rw [show (vs.take j).length = j from by rw [List.length_take]; omega] at hadd
      obtain ⟨b, off, rfl, hb, hc⟩ := (Hrd.out.below hbel) (by intro h; rw [h] at hvl; simp at hvl)
      obtain ⟨d0, d1, d2⟩ := hc j hvl
      clear hc hnot hmem hT
      have Hadd := Lib.hid hadd
      clear hadd
      generalize vs[j] = v at Hadd d0 d1 d2
      obtain ⟨vk, vn, s⟩ := v
      simp only [Val.agg] at Hadd d0 d1 d2
      have hw := IntWalk.i64_in (j : Int) ⟨by omega, by omega⟩
      go_wp2_with (go_at_call 16; refine Hadd.out.mono ?_; rintro e W2 ⟨S2, rfl, hT2, hC2, hS2⟩)
      have hS3 : ∀ k ∈ S2, w.heap.size ≤ k := fun k hk => by
        rcases hS2 k hk with h | h
        · exact hS k h
        · have := hbel.size; omega
      have hbel2 : Below w.heap.size w W2 := hbel.trans (hC2.below hbel.size hS)
      have hlen := len_any hT2
      rw [show (vs.take (j + 1)).length = j + 1 from by rw [List.length_take]; omega] at hlen
      have Hlen := Lib.hid hlen
      have HT2 := Lib.hid hT2
      have HS3 := Lib.hid hS3
      have Hbel2 := Lib.hid hbel2
      clear hlen hT2 hS3 hbel2 hC2 hS2
      go_wp2_with (go_at_call 13; refine Hlen.out.mono ?_; rintro e w1 ⟨rfl, hw1⟩; obtain rfl : W2 = w1 := hw1.symm)
      go_roundg (n - (j + 1))
      case measure => omega
      case rel => exact ⟨j + 1, S2, by omega, rfl, by go_num, HT2.out, HS3.out, Hbel2.out⟩
    · obtain rfl : j = n := by omega
      have hall : vs.take j = vs := List.take_of_length_le (by rw [Hn.out]; omega)
      rw [hall] at hT
      have HT := Lib.hid hT
      clear hT hall
      go_wp2
      go_ret
      exact ⟨tb, S, rfl, HT.out, hS, hbel⟩

theorem good_of (vs : List Val) (most : Nat) (hw : ∀ v ∈ vs, v.wf) (hok : ∀ v ∈ vs, v.ok = true) (hn : vs.Nodup) (hl : vs.length ≤ most) : GoodL most vs := ⟨hw, hok, hn, hl⟩

set_option maxHeartbeats 1000000 in
theorem lives_any (w : World) :
    Calls Try.prog 9 #[] w fun e w' => e = .returned (.bool true) ∧ Below w.heap.size w w' := by
  have hnew := Lib.hid (new_yes 2 w (by omega))
  go_enter Try.func9, Try.ntmps9
  go_wp2_with (go_at_call 22; refine hnew.out.mono ?_; rintro e W1 ⟨tb, S, rfl, hT, hS, hb1⟩)
  have hA : Blk ((W1.alloc (.cells #[.int .i8 1, .int .i64 5, .string ⟨#[]⟩] 36)).alloc (.cells #[.int .i8 2, .int .i64 0, .string ⟨#[98]⟩] 36)) W1.heap.size 36 #[.int .i8 1, .int .i64 5, .string ⟨#[]⟩] := (Blk.new W1 _ _).alloc _
  have hB : Blk ((W1.alloc (.cells #[.int .i8 1, .int .i64 5, .string ⟨#[]⟩] 36)).alloc (.cells #[.int .i8 2, .int .i64 0, .string ⟨#[98]⟩] 36)) (W1.heap.size + 1) 36 #[.int .i8 2, .int .i64 0, .string ⟨#[98]⟩] := by
    have := Blk.new (W1.alloc (.cells #[.int .i8 1, .int .i64 5, .string ⟨#[]⟩] 36)) 36 #[.int .i8 2, .int .i64 0, .string ⟨#[98]⟩]
    rw [show (W1.alloc (.cells #[.int .i8 1, .int .i64 5, .string ⟨#[]⟩] 36)).heap.size = W1.heap.size + 1 from by simp] at this
    exact this
  have hlt := hT.lt
  have hT1 : Tab ((W1.alloc (.cells #[.int .i8 1, .int .i64 5, .string ⟨#[]⟩] 36)).alloc (.cells #[.int .i8 2, .int .i64 0, .string ⟨#[98]⟩] 36)) tb 2 [] S :=
    hT.same fun k hk => (Below.heap_alloc _ _ k (by have := hlt k hk; simp; omega)).trans (Below.heap_alloc _ _ k (hlt k hk))
  have hbA : Below w.heap.size w ((W1.alloc (.cells #[.int .i8 1, .int .i64 5, .string ⟨#[]⟩] 36)).alloc (.cells #[.int .i8 2, .int .i64 0, .string ⟨#[98]⟩] 36)) :=
    (hb1.alloc hb1.size _).alloc (by have := hb1.size; simp; omega) _
  have hs1 : ((W1.alloc (.cells #[.int .i8 1, .int .i64 5, .string ⟨#[]⟩] 36)).alloc (.cells #[.int .i8 2, .int .i64 0, .string ⟨#[98]⟩] 36)).heap.size = W1.heap.size + 2 := by simp
  have hadd1 := add_new hT1 ⟨1, 5, ⟨#[]⟩⟩ ⟨by decide, by decide, Nat.zero_le _⟩ (by decide) (by simp) (by simp)
  refine hadd1.mono ?_
  rintro e W2 ⟨S2, rfl, hT2, hC2, hS2⟩
  have hA2 := hA.same (hC2.block _ hA.lt (fun h => by have := hlt _ h; omega))
  have hB2 := hB.same (hC2.block _ hB.lt (fun h => by have := hlt _ h; omega))
  have hbW2 : Below w.heap.size w W2 := hbA.trans (hC2.below (by have := hb1.size; omega) hS)
  have hS2' : ∀ k ∈ S2, w.heap.size ≤ k := fun k hk => by
    rcases hS2 k hk with h | h
    · exact hS k h
    · have := hb1.size; omega
  have hS2'' : W1.heap.size ∉ S2 ∧ W1.heap.size + 1 ∉ S2 := by
    refine ⟨fun h => ?_, fun h => ?_⟩
    · rcases hS2 _ h with h | h
      · have := hlt _ h; omega
      · omega
    · rcases hS2 _ h with h | h
      · have := hlt _ h; omega
      · omega
  clear hadd1 hT1 hT hA hB hbA hC2 hS2
  have x0 : W2.cell? ⟨W1.heap.size + 1, 0, none⟩ = some (.int .i8 2) := hB2.cell 0
  have x1 : W2.cell? ⟨W1.heap.size + 1, 1, none⟩ = some (.int .i64 0) := hB2.cell 1
  have x2 : W2.cell? ⟨W1.heap.size + 1, 2, none⟩ = some (.string ⟨#[98]⟩) := hB2.cell 2
  have hadd2 := add_new hT2 ⟨2, 0, ⟨#[98]⟩⟩ ⟨by decide, by decide, by simp [maxLen]; decide⟩ (by decide) (by decide) (by decide)
  have Hadd2 := Lib.hid hadd2
  have HT2 := Lib.hid hT2
  have HA2 := Lib.hid hA2
  have HB2 := Lib.hid hB2
  have HS2 := Lib.hid hS2'
  have HS2' := Lib.hid hS2''
  clear hadd2 hT2 hA2 hB2 hS2' hS2'' hlt hs1
  go_wp2_with fail
  refine Hadd2.out.mono ?_
  rintro e W3 ⟨S3, rfl, hT3, hC3, hS3⟩
  have hA3 := HA2.out.same (hC3.block _ HA2.out.lt HS2'.out.1)
  have hB3 := HB2.out.same (hC3.block _ HB2.out.lt HS2'.out.2)
  have hbW3 : Below w.heap.size w W3 := hbW2.trans (hC3.below hbW2.size HS2.out)
  clear x0 x1 x2
  have x0 : W3.cell? ⟨W1.heap.size + 1, 0, none⟩ = some (.int .i8 2) := hB3.cell 0
  have x1 : W3.cell? ⟨W1.heap.size + 1, 1, none⟩ = some (.int .i64 0) := hB3.cell 1
  have x2 : W3.cell? ⟨W1.heap.size + 1, 2, none⟩ = some (.string ⟨#[98]⟩) := hB3.cell 2
  have hfind := find_any hT3 ⟨2, 0, ⟨#[98]⟩⟩ ⟨by decide, by decide, by simp [maxLen]; decide⟩
  rw [show numOf ([] ++ [⟨1, 5, ⟨#[]⟩⟩] ++ [⟨2, 0, ⟨#[98]⟩⟩]) (⟨2, 0, ⟨#[98]⟩⟩ : Val) = 1 from by decide, show decide ((⟨2, 0, ⟨#[98]⟩⟩ : Val) ∈ [] ++ [⟨1, 5, ⟨#[]⟩⟩] ++ [⟨2, 0, ⟨#[98]⟩⟩]) = true from by decide] at hfind
  have Hfind := Lib.hid hfind
  have HT3 := Lib.hid hT3
  have HA3 := Lib.hid hA3
  clear hfind hT3 hA3 hB3 hC3 hS3
  go_wp2_with fail
  refine Hfind.out.mono ?_
  rintro e W4 ⟨rfl, hb4⟩
  have hT4 := HT3.out.below hb4
  have hA4 := HA3.out.same (hb4.block _ HA3.out.lt)
  have hbW4 : Below w.heap.size w W4 := hbW3.trans (hb4.mono hbW3.size)
  have hval : Calls Try.prog 15 #[.pointer (some ⟨tb, 0, none⟩), .int .i32 0] W4 fun e w' => e = .returned (.tuple #[.agg #[.int .i8 1, .int .i64 5, .string ⟨#[]⟩], .int .i64 0]) ∧ Below W4.heap.size W4 w' := value_yes hT4 0 (by decide)
  have Hval := Lib.hid hval
  have HT4 := Lib.hid hT4
  have HA4 := Lib.hid hA4
  clear hval hT4 hA4 hb4
  go_wp2_with fail
  refine Hval.out.mono ?_
  rintro e W5 ⟨rfl, hb5⟩
  have hT5 := HT4.out.below hb5
  have hA5 := HA4.out.same (hb5.block _ HA4.out.lt)
  have hbW5 : Below w.heap.size w W5 := hbW4.trans (hb5.mono hbW4.size)
  have y0 : W5.cell? ⟨W1.heap.size, 0, none⟩ = some (.int .i8 1) := hA5.cell 0
  have y1 : W5.cell? ⟨W1.heap.size, 1, none⟩ = some (.int .i64 5) := hA5.cell 1
  have y2 : W5.cell? ⟨W1.heap.size, 2, none⟩ = some (.string ⟨#[]⟩) := hA5.cell 2
  have yl := hA5.lt
  have hlen : ∀ o, Calls Try.prog 13 #[.pointer (some ⟨tb, 0, none⟩)] (W5.alloc o) fun e w' => e = .returned (.int .i64 2) ∧ w' = W5.alloc o := fun o =>
    len_any (vs := [] ++ [⟨1, 5, ⟨#[]⟩⟩] ++ [⟨2, 0, ⟨#[98]⟩⟩]) (hT5.same fun k hk => Below.heap_alloc _ _ k (hT5.lt k hk))
  have Hlen := Lib.hid hlen
  have hve : veq ⟨1, 5, ⟨#[]⟩⟩ ⟨1, 5, ⟨#[]⟩⟩ = true := by decide
  clear hT5 hA5 hb5 hlen
  go_wp2_with (go_at_call 13; refine (Hlen.out _).mono ?_; rintro e w1 ⟨rfl, rfl⟩)
  go_ret
  exact ⟨rfl, by repeat (first | exact hbW5 | refine Below.setCell ?_ hbW5.size _ | refine Below.alloc ?_ hbW5.size _)⟩

end Go.Proofs.Ythdpaakkamccbaa

/-
  SymbolNone's walk.
-/
import Derived.Test.YthdpaakkamccbaaSymAsks0
namespace Go.Proofs.Ythdpaakkamccbaa
open Go.RowKit Go.Maps

theorem stL_none (kind : Int) (l : List Val) : stL kind none l = none := by unfold stL; split <;> rfl

/-- any call on a pair that is not there. -/
theorem does_none {w : World} {bb : Nat} {tv : Value} {S1 : List Nat} (hb : Blk w bb 61 #[tv, .pointer none, .nilFunc]) (hp : PT w tv none S1) (hbS : bb ∉ S1) (on kind n m : Int) (v : Val) (hv : v.wf) (l : List Val) (A : Option Addr) (cap : Nat) (rs : List Int)
    (hrl : rs.length = 24) (hrs : ∀ r ∈ rs, r ≤ 2147483647) (hA : A = none → cap = 0) (hl : RdV w A l) (hwf : ∀ u ∈ l, u.wf) (hreach : l.length * 32 ≤ 140737488351232) (hB : ∀ a, A = some a → a.block ∉ S1 ∧ a.block < w.heap.size) :
    Calls Try.prog 24 #[.pointer (some ⟨bb, 0, none⟩), .agg (opC on kind n m v (.slice A l.length cap) rs)] w fun e w' =>
      e = .returned (.bool true) ∧ (∃ S1' k', PT w' tv none S1' ∧ Blk w' bb 61 #[tv, .pointer none, k']) ∧ Chg (bb :: S1) w w' := by
  have hP : Pair w bb 0 _ _ tv (.pointer none) none S1 [] :=
    { blk := hb, at0 := rfl, at1 := rfl, pt := hp, rt := ⟨rfl, rfl⟩, dis := fun k _ => List.not_mem_nil, b1 := hbS, b2 := List.not_mem_nil }
  have hbel : ∀ w', Below w.heap.size w w' → (∃ S1' k', PT w' tv none S1' ∧ Blk w' bb 61 #[tv, .pointer none, k']) ∧ Chg (bb :: S1) w w' := fun w' h => ⟨⟨S1, _, hp.below h, hb.same (h.block _ hb.lt)⟩, Chg.of_below _ h⟩
  by_cases h1 : kind = 1
  · subst h1
    exact (does_add hP on n m v hv _ rs).mono fun e w' ⟨he, S1', S2', hp', hc, _⟩ => ⟨he, ⟨S1', _, hp'.pt, hp'.blk⟩, hc.mono fun x hx => by simp at hx; exact List.mem_cons_of_mem _ hx⟩
  by_cases h2 : kind = 2
  · subst h2
    exact (does_find hP on n m v hv _ rs).mono fun e w' ⟨he, h⟩ => ⟨he, hbel w' h⟩
  by_cases h3 : kind = 3
  · subst h3
    exact (does_value hP on n m v _ rs).mono fun e w' ⟨he, h⟩ => ⟨he, hbel w' h⟩
  by_cases h6 : kind = 6
  · subst h6
    exact does_rows on 6 n m (.inr (.inr rfl)) v _ rs hrl _ fun W1 hW => (rows_tuple (hP.below hW) on n m v _ rs hrl hrs).mono fun e w' ⟨he, h⟩ => ⟨he, hbel w' (hW.trans (h.mono hW.size))⟩
  by_cases h45 : kind = 4 ∨ kind = 5
  · refine does_rows on kind n m (by omega) v _ rs hrl _ fun W1 hW => (rows_lists (hP.below hW) on kind n m h6 v l A cap rs hA (hl.below hW) hwf hreach (fun _ a ha => ⟨(hB a ha).1, by simp, Nat.lt_of_lt_of_le (hB a ha).2 hW.size⟩)).mono fun e w' ⟨he, S1', S2', hp', hc, _⟩ => ⟨he, ⟨S1', _, ?_, hp'.blk⟩, ?_⟩
    · have := hp'.pt
      rw [stL_none, stL_none] at this
      exact this
    · exact (Chg.of_below _ hW).trans hc (fun x hx => by simp at hx; exact .inl (List.mem_cons_of_mem _ hx))
  obtain ⟨p, rfl⟩ := hp.ptr
  refine does_asks on kind n m (by omega) v _ rs hrl _ fun W1 hW => (asks_none (hb.same (hW.block _ hb.lt)) (hp.none_.below hW) on kind n m v _ rs hrl).mono fun e w' ⟨he, hc, k', hk'⟩ => ⟨he, ?_, ?_⟩
  · exact ⟨S1, k', (hp.below hW).same fun k hk => hc.block k (Nat.lt_of_lt_of_le (hp.lt k hk) hW.size) (fun hm => hbS (by rw [← List.mem_singleton.1 hm]; exact hk)), hk'⟩
  · exact (Chg.of_below _ hW).trans hc (fun x hx => by rw [List.mem_singleton.1 hx]; exact .inl (.head _))

@[go_sem high] theorem build_both (p : Option Addr) (w : World) : (Instr.build 61 #[(0, .pointer p)]).run Try.prog w = .ok (.agg #[.pointer p, .pointer none, .nilFunc]) w := run_build w 61 _ _ (by kernel_rfl)
@[go_sem high] theorem build_table (w : World) : (Instr.build 77 #[]).run Try.prog w = .ok (.agg #[.int .i64 0, .map none, .slice none 0 0]) w := run_build w 77 _ _ (by kernel_rfl)

set_option maxRecDepth 100000 in
set_option maxHeartbeats 2000000 in
theorem none_any (w : World) (on kind n m : Int) (v : Val) (hv : v.wf) (l : List Val) (A : Option Addr) (cap : Nat) (rs : List Int)
    (hrl : rs.length = 24) (hrs : ∀ r ∈ rs, r ≤ 2147483647) (hA : A = none → cap = 0) (hl : RdV w A l) (hwf : ∀ u ∈ l, u.wf) (hreach : l.length * 32 ≤ 140737488351232) (hB : ∀ a, A = some a → a.block < w.heap.size) :
    Calls Try.prog 8 #[.agg (opC on kind n m v (.slice A l.length cap) rs)] w fun e w' => e = .returned (.bool true) ∧ Below w.heap.size w w' := by
  have hinfo := op_info on kind n m v (.slice A l.length cap) rs hrl
  have hd := fun (W : World) (bb : Nat) (tv : Value) (S1 : List Nat) (hb : Blk W bb 61 #[tv, .pointer none, .nilFunc]) (hp : PT W tv none S1) (hbS : bb ∉ S1) (hW : Below w.heap.size w W) (hS : ∀ k ∈ S1, w.heap.size ≤ k) =>
    does_none hb hp hbS on kind n m v hv l A cap rs hrl hrs hA (hl.below hW) hwf hreach (fun a ha => ⟨fun hm => by have := hS _ hm; have := hB a ha; omega, Nat.lt_of_lt_of_le (hB a ha) hW.size⟩)
  obtain ⟨O, hO⟩ : ∃ O, opC on kind n m v (.slice A l.length cap) rs = O := ⟨_, rfl⟩
  rw [hO] at hinfo hd ⊢
  have Hd := Lib.hid hd
  have hlives := Lib.hid lives_any
  clear hO hd hrl hrs hA hl hwf hreach hB hv
  go_enter Try.func8, Try.ntmps8
  go_upto_region 4 with fail
  obtain ⟨W0, hW0⟩ : ∃ W0, (((w.alloc (.cells O 68)).alloc (.cells #[.pointer none, .pointer none, .nilFunc] 61)).alloc (.cells #[.int .i64 0, .map none, .slice none 0 0] 77)).alloc (.cells #[.pointer (some ⟨w.heap.size + 1 + 1, 0, none⟩), .pointer none, .nilFunc] 61) = W0 := ⟨_, rfl⟩
  rw [hW0]
  obtain ⟨hB, b1, b2, b3, b4, hs⟩ := four_new w _ _ _ _ _ _ _ _ W0 hW0
  have Hs := Lib.hid hs
  have Hd1 := Lib.hid (Hd.out W0 (w.heap.size + 1) (.pointer none) [] b2 (.inl ⟨rfl, rfl⟩) (by simp) hB (by simp))
  clear hW0 hs
  go_wp2_with (first
    | (refine at_load 68 _ rfl ?_; first
        | refine wpList_load_row_g 68 _ rfl rfl w.heap.size rfl 68 O (0, 0) _ b1' Try.underlying68 rfl hinfo ?_
        | refine wpList_load_row_g 68 _ rfl rfl w.heap.size rfl 68 O (0, 0) _ b1 Try.underlying68 rfl hinfo ?_)
    | (go_at_call 24; refine Hd1.out.mono ?_; clear Hd1; rintro e W1 ⟨rfl, ⟨_, _, _, _⟩, hC1⟩
       have b1' : Blk W1 w.heap.size 68 O := b1.same (hC1.block _ b1.lt (by simp only [List.mem_cons, List.not_mem_nil, or_false]; omega))
       have b3' : Blk W1 (w.heap.size + 1 + 1) 77 _ := b3.same (hC1.block _ b3.lt (by simp only [List.mem_cons, List.not_mem_nil, or_false]; omega))
       have b4' : Blk W1 (w.heap.size + 1 + 1 + 1) 61 _ := b4.same (hC1.block _ b4.lt (by simp only [List.mem_cons, List.not_mem_nil, or_false]; omega))
       have hB1 : Below w.heap.size w W1 := hB.trans (hC1.below hB.size (fun x hx => by simp at hx; omega))
       have Hd2 := Lib.hid (Hd.out W1 (w.heap.size + 1 + 1 + 1) _ [w.heap.size + 1 + 1] b4' (.inr ⟨_, rfl, b3', rfl⟩) (by simp only [List.mem_cons, List.not_mem_nil, or_false]; omega) hB1 (by intro k hk; simp at hk; omega)))
    | (go_at_call 24; refine Hd2.out.mono ?_; rintro e W2 ⟨rfl, ⟨S1', k', hpt, hbk⟩, hC2⟩
       have hB2 : Below w.heap.size w W2 := hB1.trans (hC2.below hB1.size (fun x hx => by simp at hx; omega))
       have q0 : W2.cell? ⟨w.heap.size + 1 + 1 + 1, 0, none⟩ = some (.pointer (some ⟨w.heap.size + 1 + 1, 0, none⟩)) := hbk.cell 0
       have Hl1 := Lib.hid (no_len (w := W2) (tv := .pointer none) (.inl rfl))
       have Hl2 := Lib.hid (no_len hpt.none_)
       clear hbk hpt hC2 hC1 b3' b4')
    | (go_at_call 13; first
        | (refine Hl1.out.mono ?_; clear Hl1; rintro e w1 ⟨rfl, hw1⟩; obtain rfl : W2 = w1 := hw1.symm)
        | (refine Hl2.out.mono ?_; rintro e w1 ⟨rfl, hw1⟩; obtain rfl : W2 = w1 := hw1.symm))
    | (go_at_call 9; refine (hlives.out W2).mono ?_; rintro e W3 ⟨rfl, hb3⟩))
  go_ret
  exact ⟨rfl, hB2.trans (hb3.mono hB2.size)⟩

end Go.Proofs.Ythdpaakkamccbaa

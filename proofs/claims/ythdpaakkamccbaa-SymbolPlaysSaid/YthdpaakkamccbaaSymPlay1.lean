/-
  Walks: the document's New; does, of any call; two pairs of tables in one block.
-/
import Derived.Test.YthdpaakkamccbaaSymAsks
namespace Go.Proofs.Ythdpaakkamccbaa
open Go.RowKit Go.Maps

def newA (m : Int) : St × Int := if m < 0 ∨ 2147483647 < m then (none, 1) else (some (m.toNat, []), 0)

theorem new_any (m : Int) (w : World) :
    Calls Try.prog 22 #[.int .i64 m] w fun e w' => ∃ p S, e = .returned (.tuple #[.pointer p, .int .i64 (newA m).2]) ∧ PT w' (.pointer p) (newA m).1 S ∧ (∀ k ∈ S, w.heap.size ≤ k) ∧ Below w.heap.size w w' ∧ (p = none ↔ (newA m).1 = none) := by
  unfold newA
  by_cases h : m < 0 ∨ 2147483647 < m
  · simp only [if_pos h]
    exact (new_no m w h).mono fun e w' ⟨he, hw⟩ => ⟨none, [], he, .inl ⟨rfl, rfl⟩, by simp, by rw [hw]; exact Below.refl _ _, by simp⟩
  · simp only [if_neg h]
    obtain ⟨k, rfl⟩ : ∃ k : Nat, m = k := ⟨m.toNat, by omega⟩
    exact (new_yes k w (by omega)).mono fun e w' ⟨tb, S, he, ht, hS, hb⟩ => ⟨_, S, he, ⟨tb, rfl, by rw [Int.toNat_natCast]; exact ht⟩, hS, hb, by simp⟩

set_option maxHeartbeats 400000 in
theorem ref_new_yes (m : Nat) (w : World) (hm : m ≤ 2147483647) :
    Calls Try.prog 23 #[.int .i64 (m : Int)] w fun e w' => ∃ rb S, e = .returned (.tuple #[.pointer (some ⟨rb, 0, none⟩), .int .i64 0]) ∧ RTab w' rb m [] S ∧ (∀ k ∈ S, w.heap.size ≤ k) ∧ Below w.heap.size w w' := by
  have hd : decide ((m : Int) < 0) = false := by simp
  have hbl : ∀ w, (Instr.build 82 #[(0, .bool true), (1, .int .i64 (m : Int))]).run Try.prog w = .ok (.agg #[.bool true, .int .i64 (m : Int), .slice none 0 0]) w := fun w => run_build w 82 _ _ (by kernel_rfl)
  go_enter Try.func23, Try.ntmps23
  go_wp2
  go_ret2
  refine ⟨w.heap.size, footR w.heap.size none, rfl, ⟨none, 0, ⟨Blk.new w _ _, RowV.nil_ _, by simp, by simp, hm⟩, rfl⟩, by simp [footR, blkOf], ?_⟩
  exact (Below.refl _ _).alloc (Nat.le_refl _) _

theorem ref_new_no (m : Int) (w : World) (hm : m < 0 ∨ 2147483647 < m) :
    Calls Try.prog 23 #[.int .i64 m] w fun e w' => e = .returned (.tuple #[.pointer none, .int .i64 1]) ∧ w' = w := by
  rcases hm with hm | hm
  · have hd : decide (m < 0) = true := by simp [hm]
    go_enter Try.func23, Try.ntmps23
    go_wp2
    go_ret2
    exact ⟨rfl, rfl⟩
  · have hd : decide (m < 0) = false := by simp; omega
    go_enter Try.func23, Try.ntmps23
    go_wp2
    go_ret2
    exact ⟨rfl, rfl⟩

theorem ref_new_any (m : Int) (w : World) :
    Calls Try.prog 23 #[.int .i64 m] w fun e w' => ∃ p S, e = .returned (.tuple #[.pointer p, .int .i64 (newA m).2]) ∧ RT w' (.pointer p) (newA m).1 S ∧ (∀ k ∈ S, w.heap.size ≤ k) ∧ Below w.heap.size w w' ∧ (p = none ↔ (newA m).1 = none) := by
  unfold newA
  by_cases h : m < 0 ∨ 2147483647 < m
  · simp only [if_pos h]
    exact (ref_new_no m w h).mono fun e w' ⟨he, hw⟩ => ⟨none, [], he, ⟨rfl, rfl⟩, by simp, by rw [hw]; exact Below.refl _ _, by simp⟩
  · simp only [if_neg h]
    obtain ⟨k, rfl⟩ : ∃ k : Nat, m = k := ⟨m.toNat, by omega⟩
    exact (ref_new_yes k w (by omega)).mono fun e w' ⟨tb, S, he, ht, hS, hb⟩ => ⟨_, S, he, ⟨tb, rfl, by rw [Int.toNat_natCast]; exact ht⟩, hS, hb, by simp⟩

section
variable {w W1 w' : World} {bb bo : Nat} {bt : TypeId} {bc : Array Value} {tv rv : Value} {S1 S2 : List Nat}
theorem After.before (hb : Below w.heap.size w W1) (h : After W1 w' bb bo bt bc tv rv S1 S2) : After w w' bb bo bt bc tv rv S1 S2 := by
  obtain ⟨k', st', S1', S2', h1, h2, h3, h4, h5⟩ := h
  have hz := hb.size
  refine ⟨k', st', S1', S2', h1, h2, (Chg.of_below _ hb).trans h3 (fun x hx => .inl hx), fun x hx => ?_, fun x hx => ?_⟩
  · rcases h4 x hx with h | h
    · exact .inl h
    · right; omega
  · rcases h5 x hx with h | h
    · exact .inl h
    · right; omega
end

/-- any call on a pair. -/
theorem does_any {w : World} {bb bo : Nat} {bt : TypeId} {bc : Array Value} {tv rv kept : Value} {st : St} {S1 S2 : List Nat} (h : Pair w bb bo bt bc tv rv st S1 S2) (hkept : KeptOk w kept tv) (hk2 : bc[bo + 2]? = some kept) (on kind n m : Int) (v : Val) (hv : v.wf) (l : List Val) (A : Option Addr) (cap : Nat) (rs : List Int) (hrl : rs.length = 24) (hrs : ∀ r ∈ rs, r ≤ 2147483647)
    (hA : A = none → cap = 0) (hl : RdV w A l) (hwf : ∀ u ∈ l, u.wf) (hreach : l.length * 32 ≤ 140737488351232) (hB : l ≠ [] → ∀ a, A = some a → a.block ∉ S1 ∧ a.block ∉ S2 ∧ a.block < w.heap.size) :
    Calls Try.prog 24 #[.pointer (some ⟨bb, bo, none⟩), .agg (opC on kind n m v (.slice A l.length cap) rs)] w fun e w' => e = .returned (.bool true) ∧ After w w' bb bo bt bc tv rv S1 S2 := by
  have hB' := fun (W : World) (hW : Below w.heap.size w W) (hne : l ≠ []) a (ha : A = some a) => (⟨(hB hne a ha).1, (hB hne a ha).2.1, Nat.lt_of_lt_of_le (hB hne a ha).2.2 hW.size⟩ : a.block ∉ S1 ∧ a.block ∉ S2 ∧ a.block < W.heap.size)
  by_cases h1 : kind = 1
  · subst h1
    exact (does_add h on n m v hv _ rs).mono fun e w' ⟨he, S1', S2', hp', hc, hg, hs⟩ => ⟨he, After.of_pair h hkept hk2 hp' hc hg.sub hs⟩
  by_cases h2 : kind = 2
  · subst h2
    exact (does_find h on n m v hv _ rs).mono fun e w' ⟨he, hb⟩ => ⟨he, After.of_below h hkept hk2 hb⟩
  by_cases h3 : kind = 3
  · subst h3
    exact (does_value h on n m v _ rs).mono fun e w' ⟨he, hb⟩ => ⟨he, After.of_below h hkept hk2 hb⟩
  by_cases h6 : kind = 6
  · subst h6
    exact does_rows on 6 n m (.inr (.inr rfl)) v _ rs hrl _ fun W1 hW => (rows_tuple (h.below hW) on n m v _ rs hrl hrs).mono fun e w' ⟨he, hb⟩ => ⟨he, After.of_below h hkept hk2 (hW.trans (hb.mono hW.size))⟩
  by_cases h45 : kind = 4 ∨ kind = 5
  · refine does_rows on kind n m (by omega) v _ rs hrl _ fun W1 hW => (rows_lists (h.below hW) on kind n m h6 v l A cap rs hA (hl.below hW) hwf hreach (hB' W1 hW)).mono fun e w' ⟨he, S1', S2', hp', hc, hg, hs⟩ => ⟨he, After.of_pair h hkept hk2 hp' ((Chg.of_below _ hW).trans hc (fun x hx => .inl hx)) (fun x hx => ?_) (fun x hx => ?_)⟩
    · have hz := hW.size
      rcases hg x hx with h | h
      · exact .inl h
      · right; omega
    · have hz := hW.size
      rcases hs x hx with h | h
      · exact .inl h
      · right; omega
  exact does_asks on kind n m (by omega) v _ rs hrl _ fun W1 hW => (asks_any (h.below hW) (hkept.chg h (Chg.of_below _ hW)) hk2 on kind n m v hv l A cap rs hrl hA (hl.below hW) hwf hreach (hB' W1 hW)).mono fun e w' ⟨he, ha⟩ => ⟨he, ha.before hW⟩

/-! ### two pairs in one block -/
structure TwoAt (w : World) (B lb : Nat) (bc : Array Value) (tv0 rv0 tv1 rv1 k0 k1 : Value) (st0 st1 : St) (S1 S2 S3 S4 : List Nat) : Prop where
  p0 : Pair w lb 0 62 bc tv0 rv0 st0 S1 S2
  p1 : Pair w lb 3 62 bc tv1 rv1 st1 S3 S4
  c2 : bc[2]? = some k0
  c5 : bc[5]? = some k1
  k0 : KeptOk w k0 tv0
  k1 : KeptOk w k1 tv1
  dis : ∀ x ∈ S1 ++ S2, x ∉ S3 ++ S4
  new0 : ∀ x ∈ S1 ++ S2, B ≤ x
  new1 : ∀ x ∈ S3 ++ S4, B ≤ x
def Two (w : World) (B lb : Nat) : Prop := ∃ bc tv0 rv0 tv1 rv1 k0 k1 st0 st1 S1 S2 S3 S4, TwoAt w B lb bc tv0 rv0 tv1 rv1 k0 k1 st0 st1 S1 S2 S3 S4

theorem TwoAt.below {w w' : World} {B lb : Nat} {bc : Array Value} {tv0 rv0 tv1 rv1 k0 k1 : Value} {st0 st1 : St} {S1 S2 S3 S4 : List Nat} (h : TwoAt w B lb bc tv0 rv0 tv1 rv1 k0 k1 st0 st1 S1 S2 S3 S4) (hb : Below w.heap.size w w') : TwoAt w' B lb bc tv0 rv0 tv1 rv1 k0 k1 st0 st1 S1 S2 S3 S4 :=
  ⟨h.p0.below hb, h.p1.below hb, h.c2, h.c5, h.k0.chg h.p0 (Chg.of_below _ hb), h.k1.chg h.p1 (Chg.of_below _ hb), h.dis, h.new0, h.new1⟩

/-- the other pair abides. -/
theorem Pair.aside {w w' : World} {lb bo bo' : Nat} {bt : TypeId} {bc : Array Value} {tv rv tv' rv' kept kept' : Value} {st st' : St} {S1 S2 S3 S4 : List Nat} (h : Pair w lb bo bt bc tv rv st S1 S2) (h' : Pair w lb bo' bt bc tv' rv' st' S3 S4)
    (hk : KeptOk w kept' tv') (hd : ∀ x ∈ S1 ++ S2, x ∉ S3 ++ S4) (hC : Chg (lb :: (S1 ++ S2)) w w') (hb : Blk w' lb bt (bc.setIfInBounds (bo + 2) kept)) (h0 : bo + 2 ≠ bo') (h1 : bo + 2 ≠ bo' + 1) (hbt : bt ≠ 25) :
    Pair w' lb bo' bt (bc.setIfInBounds (bo + 2) kept) tv' rv' st' S3 S4 ∧ KeptOk w' kept' tv' := by
  have hn : ∀ x ∈ S3 ++ S4, x ∉ lb :: (S1 ++ S2) := fun x hx hm => by
    rcases List.mem_cons.1 hm with e | hm
    · subst e
      rcases List.mem_append.1 hx with h | h
      · exact h'.b1 h
      · exact h'.b2 h
    · exact hd x hm hx
  refine ⟨⟨hb, ?_, ?_, h'.pt.same fun k hk => hC.block k (h'.pt.lt k hk) (hn k (List.mem_append_left _ hk)), h'.rt.same fun k hk => hC.block k (h'.rt.lt k hk) (hn k (List.mem_append_right _ hk)), h'.dis, h'.b1, h'.b2⟩, ?_⟩
  · rw [Array.getElem?_setIfInBounds_ne h0]; exact h'.at0
  · rw [Array.getElem?_setIfInBounds_ne h1]; exact h'.at1
  · rcases hk with hk | ⟨kb, hk, hkb⟩
    · exact .inl hk
    · refine .inr ⟨kb, hk, hkb.same (hC.block _ hkb.lt (fun hm => ?_))⟩
      rcases List.mem_cons.1 hm with e | hm
      · exact hkb.ne_ h.blk (fun e => hbt e.symm) e
      · rcases List.mem_append.1 hm with h1 | h1
        · exact h.pt.not_box hkb h1
        · exact h.rt.not_box hkb h1

theorem TwoAt.first {w w' : World} {B lb : Nat} {bc : Array Value} {tv0 rv0 tv1 rv1 k0 k1 : Value} {st0 st1 : St} {S1 S2 S3 S4 : List Nat} (h : TwoAt w B lb bc tv0 rv0 tv1 rv1 k0 k1 st0 st1 S1 S2 S3 S4) (hB : B ≤ w.heap.size) (ha : After w w' lb 0 62 bc tv0 rv0 S1 S2) :
    ∃ bc' k0' st0' S1' S2', TwoAt w' B lb bc' tv0 rv0 tv1 rv1 k0' k1 st0' st1 S1' S2' S3 S4 ∧ Chg (lb :: (S1 ++ S2)) w w' := by
  obtain ⟨k', st', S1', S2', hp, hk, hC, hs1, hs2⟩ := ha
  obtain ⟨hp1, hk1⟩ := h.p0.aside h.p1 h.k1 h.dis hC hp.blk (by decide) (by decide) (by decide)
  have hin : ∀ x ∈ S1' ++ S2', x ∈ S1 ++ S2 ∨ w.heap.size ≤ x := fun x hx => by
    rcases List.mem_append.1 hx with hx | hx
    · rcases hs1 x hx with h | h
      · exact .inl (List.mem_append_left _ h)
      · exact .inr h
    · rcases hs2 x hx with h | h
      · exact .inl (List.mem_append_right _ h)
      · exact .inr h
  refine ⟨_, k', st', S1', S2', ⟨hp, hp1, ?_, ?_, hk, hk1, fun x hx hm => ?_, fun x hx => ?_, h.new1⟩, hC⟩
  · have := h.c2
    rw [Array.getElem?_setIfInBounds, if_pos rfl, if_pos (Array.getElem?_eq_some_iff.1 this).1]
  · rw [Array.getElem?_setIfInBounds_ne (by decide)]; exact h.c5
  · rcases hin x hx with h1 | h1
    · exact h.dis x h1 hm
    · rcases List.mem_append.1 hm with h2 | h2
      · have := h.p1.pt.lt x h2; omega
      · have := h.p1.rt.lt x h2; omega
  · rcases hin x hx with h1 | h1
    · exact h.new0 x h1
    · omega
theorem TwoAt.second {w w' : World} {B lb : Nat} {bc : Array Value} {tv0 rv0 tv1 rv1 k0 k1 : Value} {st0 st1 : St} {S1 S2 S3 S4 : List Nat} (h : TwoAt w B lb bc tv0 rv0 tv1 rv1 k0 k1 st0 st1 S1 S2 S3 S4) (hB : B ≤ w.heap.size) (ha : After w w' lb 3 62 bc tv1 rv1 S3 S4) :
    ∃ bc' k1' st1' S3' S4', TwoAt w' B lb bc' tv0 rv0 tv1 rv1 k0 k1' st0 st1' S1 S2 S3' S4' ∧ Chg (lb :: (S3 ++ S4)) w w' := by
  obtain ⟨k', st', S1', S2', hp, hk, hC, hs1, hs2⟩ := ha
  obtain ⟨hp1, hk1⟩ := h.p1.aside h.p0 h.k0 (fun x hx hm => h.dis x hm hx) hC hp.blk (by decide) (by decide) (by decide)
  have hin : ∀ x ∈ S1' ++ S2', x ∈ S3 ++ S4 ∨ w.heap.size ≤ x := fun x hx => by
    rcases List.mem_append.1 hx with hx | hx
    · rcases hs1 x hx with h | h
      · exact .inl (List.mem_append_left _ h)
      · exact .inr h
    · rcases hs2 x hx with h | h
      · exact .inl (List.mem_append_right _ h)
      · exact .inr h
  refine ⟨_, k', st', S1', S2', ⟨hp1, hp, ?_, ?_, hk1, hk, fun x hx hm => ?_, h.new0, fun x hx => ?_⟩, hC⟩
  · rw [Array.getElem?_setIfInBounds_ne (by decide)]; exact h.c2
  · have := h.c5
    rw [Array.getElem?_setIfInBounds, if_pos rfl, if_pos (Array.getElem?_eq_some_iff.1 this).1]
  · rcases hin x hm with h1 | h1
    · exact h.dis x hx h1
    · rcases List.mem_append.1 hx with h2 | h2
      · have := h.p0.pt.lt x h2; omega
      · have := h.p0.rt.lt x h2; omega
  · rcases hin x hx with h1 | h1
    · exact h.new1 x h1
    · omega

end Go.Proofs.Ythdpaakkamccbaa

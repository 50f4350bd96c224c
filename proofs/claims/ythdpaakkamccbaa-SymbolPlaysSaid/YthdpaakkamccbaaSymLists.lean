/-
  Walks: lists. A pair of tables in one state.
-/
import Derived.Test.YthdpaakkamccbaaSymLent
namespace Go.Proofs.Ythdpaakkamccbaa
open Go.RowKit Go.Maps

/-- the program's table and the document's, in one state. -/
structure Pair (w : World) (bb bo : Nat) (bt : TypeId) (bc : Array Value) (tv rv : Value) (st : St) (S1 S2 : List Nat) : Prop where
  blk : Blk w bb bt bc
  at0 : bc[bo]? = some tv
  at1 : bc[bo + 1]? = some rv
  pt : PT w tv st S1
  rt : RT w rv st S2
  dis : ∀ k ∈ S1, k ∉ S2
  b1 : bb ∉ S1
  b2 : bb ∉ S2

theorem Pair.below {w w' : World} {bb bo : Nat} {bt : TypeId} {bc : Array Value} {tv rv : Value} {st : St} {S1 S2 : List Nat} (h : Pair w bb bo bt bc tv rv st S1 S2) (hb : Below w.heap.size w w') : Pair w' bb bo bt bc tv rv st S1 S2 :=
  ⟨h.blk.same (hb.block _ h.blk.lt), h.at0, h.at1, h.pt.below hb, h.rt.below hb, h.dis, h.b1, h.b2⟩

/-- the document's table first, then the program's. -/
theorem Pair.step {w W1 W2 W3 W4 : World} {bb bo : Nat} {bt : TypeId} {bc : Array Value} {tv rv : Value} {st st' : St} {S1 S2 S1' S2' : List Nat} (h : Pair w bb bo bt bc tv rv st S1 S2)
    (hr : RT W1 rv st' S2') (hc1 : Chg S2 w W1) (hs2 : ∀ k ∈ S2', k ∈ S2 ∨ w.heap.size ≤ k) (hb2 : Below W1.heap.size W1 W2)
    (hp : PT W3 tv st' S1') (hc3 : Chg S1 W2 W3) (hs1 : Grew W2.heap.size S1 S1') (hb4 : Below W3.heap.size W3 W4) :
    Pair W4 bb bo bt bc tv rv st' S1' S2' ∧ Chg (S1 ++ S2) w W4 := by
  have l1 := h.pt.lt
  have l2 := hr.lt
  have hbl := h.blk.lt
  have z1 := hc1.size
  have z2 := hb2.size
  refine ⟨⟨?_, h.at0, h.at1, hp.below hb4, ?_, ?_, ?_, ?_⟩, ?_⟩
  · exact (((h.blk.same (hc1.block _ hbl h.b2)).same (hb2.block _ (by omega))).same (hc3.block _ (by omega) h.b1)).same (hb4.block _ (by have := hc3.size; omega))
  · refine ((hr.below hb2).same fun k hk => hc3.block k (by have := l2 k hk; omega) (fun hm => ?_)).below hb4
    rcases hs2 k hk with h1 | h1
    · exact h.dis k hm h1
    · have := l1 k hm; omega
  · intro k hk hk2
    rcases hs1 k hk with h1 | h1
    · rcases hs2 k hk2 with h3 | h3
      · exact h.dis k h1 h3
      · have := l1 k h1; omega
    · have := l2 k hk2; omega
  · intro hm
    rcases hs1 bb hm with h1 | h1
    · exact h.b1 h1
    · omega
  · intro hm
    rcases hs2 bb hm with h1 | h1
    · exact h.b2 h1
    · omega
  · have c1 : Chg (S1 ++ S2) w W2 := (hc1.mono (S' := S1 ++ S2) (fun x hx => List.mem_append_right _ hx)).trans (Chg.of_below [] hb2) (fun x hx => by cases hx)
    have c3 : Chg (S1 ++ S2) w W3 := c1.trans hc3 (fun x hx => .inl (List.mem_append_left _ hx))
    exact c3.trans (Chg.of_below [] hb4) (fun x hx => by cases hx)

theorem row_eql_self (ns : List Nat) (h : ns.length ≤ 24) (w : World) : (binOp .eql 43 (.agg (rowOf ns)) (.agg (rowOf ns))).run Try.prog w = .ok (.bool true) w := by
  rw [rowOf_rowI, run_eql_struct]
  unfold rowI
  rw [row_eq_self _ (rsOf_length ns h)]
  rfl

theorem rowGo_len (most : Nat) (us vs : List Val) : (rowGo most us vs).2.1.length ≤ 24 := by
  unfold rowGo
  split
  · simp
  · split
    · have := addGo_len most us vs []
      simp at this; omega
    · simp
theorem rowA_len (st : St) (us : List Val) : (rowA st us).1.1.length ≤ 24 := by
  match st with
  | none => simp [rowA]
  | some (most, vs) => exact rowGo_len most us vs
theorem seekA_len (st : St) (us : List Val) : (seekA st us).1.length ≤ 24 := by
  match st with
  | none => simp [seekA]
  | some (most, vs) =>
    show (seekRes vs us).1.length ≤ 24
    unfold seekRes
    split
    · simp
    · split
      · have := seekGo_len vs us []
        simp at this ⊢; omega
      · simp

/-- a list that is read lies apart from what is turned. -/
theorem RdV.chg {w w' : World} {A : Option Addr} {vs : List Val} {S : List Nat} (h : RdV w A vs) (hc : Chg S w w') (hd : vs ≠ [] → ∀ a, A = some a → a.block ∉ S) : RdV w' A vs := by
  intro hne
  obtain ⟨b, off, rfl, hb, hcl⟩ := h hne
  exact RdV.keep (w := w) (fun _ => ⟨b, off, rfl, hb, hcl⟩) hc.size (fun a ha => by cases ha; exact hc.block b hb (hd hne _ rfl)) hne

set_option maxHeartbeats 2000000 in
theorem lists_row {w : World} {bb bo : Nat} {bt : TypeId} {bc : Array Value} {tv rv : Value} {st : St} {S1 S2 : List Nat} (h : Pair w bb bo bt bc tv rv st S1 S2) (l : List Val) (g capc : Nat) (hcv : RowV w (some ⟨g, 0, none⟩) capc (l ++ marks 70)) (B : Option Addr) (capB : Nat) (hl : RdV w B l)
    (hwf : ∀ u ∈ l, u.wf) (hreach : l.length * 32 ≤ 140737488351232) (hg1 : g ∉ S1) (hg2 : g ∉ S2) (hB : l ≠ [] → ∀ a, B = some a → a.block ∉ S1 ∧ a.block ∉ S2 ∧ a.block < w.heap.size) :
    Calls Try.prog 45 #[.pointer (some ⟨bb, bo, none⟩), .int .i64 4, .slice (some ⟨g, 0, none⟩) l.length capc, .slice B l.length capB] w fun e w' =>
      e = .returned (.bool true) ∧ ∃ S1' S2', Pair w' bb bo bt bc tv rv (rowA st l).2 S1' S2' ∧ Chg (S1 ++ S2) w w' ∧ Grew w.heap.size S1 S1' ∧ (∀ k ∈ S2', k ∈ S2 ∨ w.heap.size ≤ k) := by
  have hr := rt_row h.rt l B capB hl (fun hne a ha => (hB hne a ha).2) hwf
  have hp := fun (W1 W2 : World) (hc1 : Chg S2 w W1) (hb2 : Below W1.heap.size W1 W2) => pt_row (((h.pt.same fun k hk => hc1.block k (h.pt.lt k hk) (h.dis k hk)).below hb2)) l (some ⟨g, 0, none⟩) capc
    (by have := ((hcv.same fun x hx => hc1.block x (hcv.lt x hx) (by simp [blkOf] at hx; subst hx; exact hg2)).below_ hb2).take l.length (by simp)
        rw [List.take_left] at this; exact this.rd) (fun _ a ha => by cases ha; exact ⟨hg1, by have := hcv.lt g (by simp [blkOf]); have := hc1.size; have := hb2.size; show g < _; omega⟩) hwf
  have hlf := fun (W : World) (hC : Chg (S1 ++ S2) w W) => left_any g capc l B capB W (hcv.same fun x hx => hC.block x (hcv.lt x hx) (by
      simp only [blkOf, Option.map_some, Option.toList_some, List.mem_singleton] at hx; subst hx; rw [List.mem_append]; rintro (h | h); exact hg1 h; exact hg2 h)) (hl.chg hC (fun hne a ha => by rw [List.mem_append]; rintro (h | h); exact (hB hne a ha).1 h; exact (hB hne a ha).2.1 h)) hreach
  have hnl := rowA_len st l
  have hneq := row_eql_self (rowA st l).1.1 hnl
  obtain ⟨pT, rfl⟩ := h.pt.ptr
  obtain ⟨pR, rfl⟩ := h.rt.ptr
  have H := Lib.hid h
  have c0 : w.cell? ⟨bb, bo + 1, none⟩ = some (.pointer pR) := (h.blk.cell _).trans h.at1
  have hbl := h.blk.lt
  have hb2' := h.b2
  obtain ⟨⟨⟨rn, rc⟩, st'⟩, hra⟩ : ∃ R, rowA st l = R := ⟨_, rfl⟩
  rw [hra] at hr hp hnl hneq ⊢
  clear hra
  simp only at hr hp hnl hneq ⊢
  have Hr := Lib.hid hr
  have Hp := Lib.hid hp
  have Hlf := Lib.hid hlf
  have Hnl := Lib.hid hnl
  obtain ⟨n, hn⟩ : ∃ n, l.length = n := ⟨_, rfl⟩
  rw [hn] at Hr Hp Hlf ⊢
  clear hr hp hlf hcv hl hwf hreach hB hn hnl h
  go_enter Try.func45, Try.ntmps45
  go_upto_region 3 with (first
    | (go_at_call 48; refine Hr.out.mono ?_; rintro e W1 ⟨S2', rfl, hT1, hC1, hS1⟩)
    | (refine at_store 43 _ _ rfl ?_; refine wpList_store_new 43 _ _ rfl rfl W1.heap.size (rowOf rn) rfl rfl 43 (rowOf []) (Blk.new W1 _ (rowOf [])) (rowOf_info rn Hnl.out) (by rw [rowOf_size rn Hnl.out]; rfl) (rowOf_one rn) (fun W => Below W1.heap.size W1 W ∧ Blk W W1.heap.size 43 (rowOf rn)) (row_new W1 rn []) ?_
       rintro W2 ⟨hb2, hr2⟩))
  have c0' : W2.cell? ⟨bb, bo, none⟩ = some (.pointer pT) := (((H.out.blk.same (hC1.block _ hbl hb2')).same (hb2.block _ (Nat.lt_of_lt_of_le hbl hC1.size))).cell bo).trans H.out.at0
  have Hp2 := Lib.hid (Hp.out W1 W2 hC1 hb2)
  clear c0
  go_upto_region 4 with (first
    | (go_at_call 17; refine Hp2.out.mono ?_; rintro e W3 ⟨S1', rfl, hT3, hC3, hS3⟩)
    | (refine at_store 43 _ _ rfl ?_; refine wpList_store_new 43 _ _ rfl rfl W3.heap.size (rowOf rn) rfl rfl 43 (rowOf []) (Blk.new W3 _ (rowOf [])) (rowOf_info rn Hnl.out) (by rw [rowOf_size rn Hnl.out]; rfl) (rowOf_one rn) (fun W => Below W3.heap.size W3 W ∧ Blk W W3.heap.size 43 (rowOf rn)) (row_new W3 rn []) ?_
       rintro W4 ⟨hb4, hr4⟩))
  obtain ⟨hP4, hC4⟩ := H.out.step hT1 hC1 hS1 hb2 hT3 hC3 hS3 hb4
  have hr24 : Blk W4 W1.heap.size 43 (rowOf rn) := (hr2.same (hC3.block _ hr2.lt (fun hm => by have := H.out.pt.lt _ hm; have := hC1.size; omega))).same (hb4.block _ (Nat.lt_of_lt_of_le hr2.lt hC3.size))
  have Hlf4 := Lib.hid (Hlf.out W4 hC4)
  have HP4 := Lib.hid hP4
  have HC4 := Lib.hid hC4
  have HS2 := Lib.hid hS1
  have HS1 := Lib.hid (show Grew w.heap.size S1 S1' from ⟨fun k hk => by
    rcases hS3 k hk with h | h
    · exact .inl h
    · right; have := hC1.size; have := hb2.size; omega, hS3.map⟩)
  clear hP4 hC4 hT1 hC1 hS1 hb2 hT3 hC3 hS3 hb4 hr2 c0' Hr Hp Hp2 Hlf
  go_wp2_with (first
    | (refine at_load 43 _ rfl ?_; first
        | refine wpList_load_row_g 43 _ rfl rfl W3.heap.size rfl 43 (rowOf rn) (0, 0) _ hr4 Try.underlying43 rfl (rowOf_info rn Hnl.out) ?_
        | refine wpList_load_row_g 43 _ rfl rfl W1.heap.size rfl 43 (rowOf rn) (0, 0) _ hr24 Try.underlying43 rfl (rowOf_info rn Hnl.out) ?_)
    | (go_at_call 49; refine Hlf4.out.mono ?_; rintro e W5 ⟨rfl, hb5⟩))
  go_ret
  exact ⟨rfl, S1', S2', HP4.out.below hb5, HC4.out.trans (Chg.of_below [] hb5) (fun x hx => by cases hx), HS1.out, HS2.out⟩

set_option maxHeartbeats 2000000 in
theorem lists_seek {w : World} {bb bo : Nat} {bt : TypeId} {bc : Array Value} {tv rv : Value} {st : St} {S1 S2 : List Nat} (h : Pair w bb bo bt bc tv rv st S1 S2) (kind : Int) (hk : kind ≠ 4) (l : List Val) (g capc : Nat) (hcv : RowV w (some ⟨g, 0, none⟩) capc (l ++ marks 70)) (B : Option Addr) (capB : Nat) (hl : RdV w B l)
    (hwf : ∀ u ∈ l, u.wf) (hreach : l.length * 32 ≤ 140737488351232) :
    Calls Try.prog 45 #[.pointer (some ⟨bb, bo, none⟩), .int .i64 kind, .slice (some ⟨g, 0, none⟩) l.length capc, .slice B l.length capB] w fun e w' => e = .returned (.bool true) ∧ Below w.heap.size w w' := by
  have hr := rt_seek h.rt l B capB hl
  have hp := fun (W : World) (hb : Below w.heap.size w W) => pt_seek (h.pt.below hb) l (some ⟨g, 0, none⟩) capc
    (by have := (hcv.below_ hb).take l.length (by simp)
        rw [List.take_left] at this; exact this.rd) (fun _ a ha => by cases ha; exact (hcv.below_ hb).lt g (by simp [blkOf])) hwf
  have hlf := fun (W : World) (hb : Below w.heap.size w W) => left_any g capc l B capB W (hcv.below_ hb) (hl.below hb) hreach
  have hnl := seekA_len st l
  have hneq := row_eql_self (seekA st l).1 hnl
  have hkd : (kind == 4) = false := by simpa using hk
  obtain ⟨pT, rfl⟩ := h.pt.ptr
  obtain ⟨pR, rfl⟩ := h.rt.ptr
  have H := Lib.hid h
  have c0 : w.cell? ⟨bb, bo + 1, none⟩ = some (.pointer pR) := (h.blk.cell _).trans h.at1
  obtain ⟨⟨rn, rb0⟩, hra⟩ : ∃ R, seekA st l = R := ⟨_, rfl⟩
  rw [hra] at hr hp hnl hneq
  clear hra
  simp only at hr hp hnl hneq
  have Hr := Lib.hid hr
  have Hp := Lib.hid hp
  have Hlf := Lib.hid hlf
  have Hnl := Lib.hid hnl
  obtain ⟨n, hn⟩ : ∃ n, l.length = n := ⟨_, rfl⟩
  rw [hn] at Hr Hp Hlf ⊢
  clear hr hp hlf hcv hl hwf hreach hn hnl h hk
  go_enter Try.func45, Try.ntmps45
  go_upto_region 6 with (first
    | (go_at_call 50; refine Hr.out.mono ?_; rintro e W1 ⟨rfl, hb1⟩)
    | (refine at_store 43 _ _ rfl ?_; refine wpList_store_new 43 _ _ rfl rfl W1.heap.size (rowOf rn) rfl rfl 43 (rowOf []) (Blk.new W1 _ (rowOf [])) (rowOf_info rn Hnl.out) (by rw [rowOf_size rn Hnl.out]; rfl) (rowOf_one rn) (fun W => Below W1.heap.size W1 W ∧ Blk W W1.heap.size 43 (rowOf rn)) (row_new W1 rn []) ?_
       rintro W2 ⟨hb2, hr2⟩))
  have hbW2 : Below w.heap.size w W2 := hb1.trans (hb2.mono hb1.size)
  have c0' : W2.cell? ⟨bb, bo, none⟩ = some (.pointer pT) := ((H.out.blk.same (hbW2.block _ H.out.blk.lt)).cell bo).trans H.out.at0
  have Hp2 := Lib.hid (Hp.out W2 hbW2)
  clear c0 hb1 hb2
  go_upto_region 7 with (first
    | (go_at_call 21; refine Hp2.out.mono ?_; rintro e W3 ⟨rfl, hb3⟩)
    | (refine at_store 43 _ _ rfl ?_; refine wpList_store_new 43 _ _ rfl rfl W3.heap.size (rowOf rn) rfl rfl 43 (rowOf []) (Blk.new W3 _ (rowOf [])) (rowOf_info rn Hnl.out) (by rw [rowOf_size rn Hnl.out]; rfl) (rowOf_one rn) (fun W => Below W3.heap.size W3 W ∧ Blk W W3.heap.size 43 (rowOf rn)) (row_new W3 rn []) ?_
       rintro W4 ⟨hb4, hr4⟩))
  have hr24 : Blk W4 W1.heap.size 43 (rowOf rn) := (hr2.same (hb3.block _ hr2.lt)).same (hb4.block _ (Nat.lt_of_lt_of_le hr2.lt hb3.size))
  have hbW3 : Below w.heap.size w W3 := hbW2.trans (hb3.mono hbW2.size)
  have hbW4 : Below w.heap.size w W4 := hbW3.trans (hb4.mono hbW3.size)
  have Hlf4 := Lib.hid (Hlf.out W4 hbW4)
  clear hb3 hb4 hr2 c0' Hr Hp Hp2 Hlf hbW2 hbW3
  go_wp2_with (first
    | (refine at_load 43 _ rfl ?_; first
        | refine wpList_load_row_g 43 _ rfl rfl W3.heap.size rfl 43 (rowOf rn) (0, 0) _ hr4 Try.underlying43 rfl (rowOf_info rn Hnl.out) ?_
        | refine wpList_load_row_g 43 _ rfl rfl W1.heap.size rfl 43 (rowOf rn) (0, 0) _ hr24 Try.underlying43 rfl (rowOf_info rn Hnl.out) ?_)
    | (go_at_call 49; refine Hlf4.out.mono ?_; rintro e W5 ⟨rfl, hb5⟩))
  go_ret
  exact ⟨by simp, hbW4.trans (hb5.mono hbW4.size)⟩

end Go.Proofs.Ythdpaakkamccbaa

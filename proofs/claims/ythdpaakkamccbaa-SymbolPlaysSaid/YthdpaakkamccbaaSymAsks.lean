/-
  Walk: asks.
-/
import Derived.Test.YthdpaakkamccbaaSymAmid
namespace Go.Proofs.Ythdpaakkamccbaa
open Go.RowKit Go.Maps

section
variable {P : Program} {ops : Array Oper} {Q : Exit → Act → World → Prop}
/-- the same of a plain walk. -/
theorem wp_region_ord {id : Nat} {a : Act} {w : World} (ord : List (Nat × Bool)) (S : World → Prop) (hm : P.follows .mixedOrders = true) (hs : Region.noSelect ops = true) (hn : ord.length = ops.size)
    (hc : chkH .any ops ord (Array.replicate ops.size false) = true) (hP : ∀ c a w, ¬ Q (.panic c) a w) (hS : S w.drew) (h : ordH P ops Q S (pickH ops ord) a w.drew) :
    (Code.region id ops true).wp P Q a w :=
  wp_region_held hm (by rw [← hn]; rw [← hn] at hc; exact ord_sound hs hP ord _ a _ hc hS h)
end

/-- an iterator that is kept. -/
def KeptOk (w : World) (kept tv : Value) : Prop := kept = .nilFunc ∨ ∃ kb, kept = .func (.func 41) #[] #[.pointer (some ⟨kb, 0, none⟩)] ∧ Blk w kb 25 #[tv]

theorem row_not {w : World} {A : Option Addr} {cap : Nat} {vs : List Val} {kb : Nat} {cs : Array Value} {t : TypeId} (h : RowV w A cap vs) (hb : Blk w kb t cs) (ht : t ≠ 36) : kb ∉ blkOf A := by
  intro hg
  rcases h.2 with ⟨hv, _⟩ | ⟨g0, c0, cur, hv, _, hh, _⟩
  · injection hv with hA; subst hA; simp [blkOf] at hg
  · injection hv with hA; subst hA
    simp [blkOf] at hg
    subst hg
    unfold Blk at hb
    rw [hh] at hb
    injection hb with hb
    injection hb with _ h3
    exact ht h3.symm
theorem PT.not_box {w : World} {tv : Value} {st : St} {S : List Nat} (h : PT w tv st S) {kb : Nat} {cs : Array Value} (hb : Blk w kb 25 cs) : kb ∉ S := by
  match st, h with
  | none, .inl h => rw [h.2]; simp
  | none, .inr ⟨tb, h, hk, e⟩ => rw [e, List.mem_singleton]; exact hb.ne_ hk (by decide)
  | some (most, vs), ⟨tb, h, ht⟩ =>
    obtain ⟨mb, A, cap, D, hta, rfl⟩ := ht
    intro hm
    simp only [footOf, List.mem_cons] at hm
    rcases hm with h | h | h
    · exact hb.ne_ hta.blk (by decide) h
    · obtain ⟨es, cl, h2, _⟩ := hta.own
      rw [← h] at h2
      unfold Blk at hb
      rw [h2] at hb
      cases hb
    · exact row_not hta.row hb (by decide) h
theorem RT.not_box {w : World} {rv : Value} {st : St} {S : List Nat} (h : RT w rv st S) {kb : Nat} {cs : Array Value} (hb : Blk w kb 25 cs) : kb ∉ S := by
  match st, h with
  | none, h => rw [h.2]; simp
  | some (most, vs), ⟨rb, h, ht⟩ =>
    obtain ⟨A, cap, hta, rfl⟩ := ht
    intro hm
    simp only [footR, List.mem_cons] at hm
    rcases hm with h | h
    · exact hb.ne_ hta.blk (by decide) h
    · exact row_not hta.row hb (by decide) h

/-- behind a call: the pair in some state, perhaps another iterator kept; nothing else has turned. -/
def After (w w' : World) (bb bo : Nat) (bt : TypeId) (bc : Array Value) (tv rv : Value) (S1 S2 : List Nat) : Prop :=
  ∃ kept' st' S1' S2', Pair w' bb bo bt (bc.setIfInBounds (bo + 2) kept') tv rv st' S1' S2' ∧ KeptOk w' kept' tv ∧ Chg (bb :: (S1 ++ S2)) w w' ∧ (∀ k ∈ S1', k ∈ S1 ∨ w.heap.size ≤ k) ∧ (∀ k ∈ S2', k ∈ S2 ∨ w.heap.size ≤ k)

theorem set_own {bc : Array Value} {i : Nat} {v : Value} (h : bc[i]? = some v) : bc.setIfInBounds i v = bc := by
  apply Array.ext_getElem?
  intro j
  rw [Array.getElem?_setIfInBounds]
  split
  · rename_i e
    subst e
    obtain ⟨hl, he⟩ := Array.getElem?_eq_some_iff.1 h
    rw [if_pos hl, h]
  · rfl

section
variable {w w' : World} {bb bo : Nat} {bt : TypeId} {bc : Array Value} {tv rv kept : Value} {st st' : St} {S1 S2 S1' S2' : List Nat}
theorem KeptOk.chg (hk : KeptOk w kept tv) (h : Pair w bb bo bt bc tv rv st S1 S2) (hC : Chg (S1 ++ S2) w w') : KeptOk w' kept tv := by
  rcases hk with hk | ⟨kb, hk, hb⟩
  · exact .inl hk
  · exact .inr ⟨kb, hk, hb.same (hC.block _ hb.lt (fun hm => by
      rcases List.mem_append.1 hm with h1 | h1
      · exact h.pt.not_box hb h1
      · exact h.rt.not_box hb h1))⟩
theorem After.of_pair (h : Pair w bb bo bt bc tv rv st S1 S2) (hk : KeptOk w kept tv) (h2 : bc[bo + 2]? = some kept) (hp : Pair w' bb bo bt bc tv rv st' S1' S2') (hC : Chg (S1 ++ S2) w w') (hs1 : ∀ k ∈ S1', k ∈ S1 ∨ w.heap.size ≤ k) (hs2 : ∀ k ∈ S2', k ∈ S2 ∨ w.heap.size ≤ k) : After w w' bb bo bt bc tv rv S1 S2 :=
  ⟨kept, st', S1', S2', by rw [set_own h2]; exact hp, hk.chg h hC, hC.mono (fun x hx => List.mem_cons_of_mem _ hx), hs1, hs2⟩
theorem After.of_below (h : Pair w bb bo bt bc tv rv st S1 S2) (hk : KeptOk w kept tv) (h2 : bc[bo + 2]? = some kept) (hb : Below w.heap.size w w') : After w w' bb bo bt bc tv rv S1 S2 :=
  After.of_pair h hk h2 (h.below hb) (Chg.of_below _ hb) (fun _ hk => .inl hk) (fun _ hk => .inl hk)
end

set_option maxRecDepth 100000 in
set_option maxHeartbeats 4000000 in
theorem asks_any {w : World} {bb bo : Nat} {bt : TypeId} {bc : Array Value} {tv rv kept : Value} {st : St} {S1 S2 : List Nat} (h : Pair w bb bo bt bc tv rv st S1 S2) (hkept : KeptOk w kept tv) (hk2 : bc[bo + 2]? = some kept) (on kind n m : Int) (v : Val) (hv : v.wf) (l : List Val) (A : Option Addr) (cap : Nat) (rs : List Int) (hrl : rs.length = 24)
    (hA : A = none → cap = 0) (hl : RdV w A l) (hwf : ∀ u ∈ l, u.wf) (hreach : l.length * 32 ≤ 140737488351232) (hB : l ≠ [] → ∀ a, A = some a → a.block ∉ S1 ∧ a.block ∉ S2 ∧ a.block < w.heap.size) :
    Calls Try.prog 39 #[.pointer (some ⟨bb, bo, none⟩), .agg (opC on kind n m v (.slice A l.length cap) rs)] w fun e w' => e = .returned (.bool true) ∧ After w w' bb bo bt bc tv rv S1 S2 := by
  have ham := fun (W : World) (hb : Below w.heap.size w W) => amid_any (h.below hb) on kind n m v hv l A cap rs hrl hA (hl.below hb) hwf hreach (fun hne a ha => ⟨(hB hne a ha).1, (hB hne a ha).2.1, Nat.lt_of_lt_of_le (hB hne a ha).2.2 hb.size⟩)
  obtain ⟨o0, o1, o2, o3, o4, o5, o6, o7⟩ := opC_at on kind n m v (.slice A l.length cap) rs
  have hinfo := op_info on kind n m v (.slice A l.length cap) rs hrl
  obtain ⟨O, hO⟩ : ∃ O, opC on kind n m v (.slice A l.length cap) rs = O := ⟨_, rfl⟩
  rw [hO] at o0 o1 o2 o3 o4 o5 o6 o7 hinfo ham ⊢
  obtain ⟨pT, rfl⟩ := h.pt.ptr
  obtain ⟨pR, rfl⟩ := h.rt.ptr
  have Ho1 := Lib.hid o1
  have Ho2 := Lib.hid o2
  have H := Lib.hid h
  have Ham := Lib.hid ham
  have HK := Lib.hid hkept
  have Hk2 := Lib.hid hk2
  have hfn := fun k => func_nil (.func 41) #[] #[.pointer (some ⟨k, 0, none⟩)]
  have hnn := nil_nil
  clear o0 o1 o2 o3 o4 o5 o6 o7 hO hrl h ham hkept hk2 hA hl hwf hreach hB hv
  go_enter Try.func39, Try.ntmps39
  go_upto_region 1 with fail
  have h3 := tup_new w O 68
  generalize w.alloc (.cells O 68) = W1 at h3 ⊢
  obtain ⟨hb1, hop, hs1⟩ := h3
  have c1 := (hop.cell 1).trans Ho1.out
  have hwn : w.heap.size ∉ S1 ++ S2 := fun hm => by
    rcases List.mem_append.1 hm with h | h
    · have := H.out.pt.lt _ h; omega
    · have := H.out.rt.lt _ h; omega
  have hbn : bb ∉ S1 ++ S2 := fun hm => by
    rcases List.mem_append.1 hm with h | h
    · exact H.out.b1 h
    · exact H.out.b2 h
  have HP1 := Lib.hid (H.out.below hb1)
  have hcb : ∀ W, Chg (S1 ++ S2) W1 W → W.cell? ⟨bb, bo, none⟩ = some (.pointer pT) ∧ W.cell? ⟨bb, bo + 1, none⟩ = some (.pointer pR) ∧ W.cell? ⟨bb, bo + 2, none⟩ = some kept ∧ W.cell? ⟨w.heap.size, 2, none⟩ = some (.int .i64 n) := fun W hw => by
    have hbk := HP1.out.blk.same (hw.block _ HP1.out.blk.lt hbn)
    have hok := hop.same (hw.block _ hop.lt hwn)
    exact ⟨(hbk.cell _).trans H.out.at0, (hbk.cell _).trans H.out.at1, (hbk.cell _).trans Hk2.out, (hok.cell 2).trans Ho2.out⟩
  have Hcb := Lib.hid hcb
  obtain ⟨c0, cc1, cc2, cn⟩ := hcb W1 (Chg.refl _ _)
  have f2 : W1.frozen? ⟨bb, bo + 2, none⟩ = false := HP1.out.blk.frozen _
  have Hb1 := Lib.hid hb1
  clear hcb hs1 hwn hbn hb1
  by_cases k8 : kind = 8
  · subst k8
    have hAll := Lib.hid (all_any (.pointer pT) W1 rfl)
    go_upto_region 4 with (go_at_call 27; refine hAll.out.mono ?_; rintro e W2 ⟨rfl, hW2⟩
                           have h2 : Below W1.heap.size W1 W2 ∧ Blk W2 W1.heap.size 25 #[.pointer pT] := by rw [hW2]; exact ⟨(tup_new W1 _ _).1, Blk.new W1 _ _⟩
                           clear hW2)
    obtain ⟨hbW2, hkb⟩ := h2
    have Hkb := Lib.hid hkb
    have HbW2 := Lib.hid hbW2
    have HCW2 := Lib.hid (Chg.of_below (S1 ++ S2) hbW2)
    have HP2 := Lib.hid (HP1.out.below hbW2)
    have HbD := Lib.hid (drew_below W2)
    have HA1 := Lib.hid (rt_all (HP2.out.rt.below HbD.out))
    clear hbW2 hkb c0 cc1 cc2 cn f2 hop c1 hAll
    refine wp_region_ord [(0, false), (1, false), (2, false), (3, false), (4, false), (6, false), (7, false), (5, true), (8, true), (9, false), (10, false), (11, false), (12, false), (13, false), (14, false), (15, true), (16, true), (17, false), (18, false)] (fun W' => Chg (S1 ++ S2) W1 W') (by kernel_rfl) (by kernel_rfl) rfl (by kernel_rfl) (by rintro c a w ⟨_, h, _⟩; cases h) (HCW2.out.drew) ?_
    simp only [pickH, List.filterMap_cons, List.filterMap_nil, List.getElem?_toArray, List.getElem?_cons_succ, List.getElem?_cons_zero, Option.map_some]
    refine' ord_take (v := _) (by rfl) (fun wx hSw => ?hy1) ?rest1
    case hy1 => (go_simp; try exact rfl)
    simp only [Act.put, List.setIfInBounds_toArray, List.set_cons_zero, List.set_cons_succ]
    refine' ord_take (v := _) (by rfl) (fun wx hSw => ?hy2) ?rest2
    case hy2 => (go_simp; try exact rfl)
    simp only [Act.put, List.setIfInBounds_toArray, List.set_cons_zero, List.set_cons_succ]
    refine' ord_take (v := _) (by rfl) (fun wx hSw => ?hy3) ?rest3
    case hy3 => (go_simp; try exact rfl)
    simp only [Act.put, List.setIfInBounds_toArray, List.set_cons_zero, List.set_cons_succ]
    refine' ord_take (v := _) (by rfl) (fun wx hSw => ?hy4) ?rest4
    case hy4 => (go_simp; try exact rfl)
    simp only [Act.put, List.setIfInBounds_toArray, List.set_cons_zero, List.set_cons_succ]
    refine' ord_take (v := _) (by rfl) (fun wx hSw => ?hy5) ?rest5
    case hy5 => (obtain ⟨d0, d1, d2, d3⟩ := Hcb.out wx hSw; go_simp; try exact rfl)
    simp only [Act.put, List.setIfInBounds_toArray, List.set_cons_zero, List.set_cons_succ]
    refine' ord_take (v := _) (by rfl) (fun wx hSw => ?hy6) ?rest6
    case hy6 => (go_simp; try exact rfl)
    simp only [Act.put, List.setIfInBounds_toArray, List.set_cons_zero, List.set_cons_succ]
    refine' ord_take (v := _) (by rfl) (fun wx hSw => ?hy7) ?rest7
    case hy7 => (obtain ⟨d0, d1, d2, d3⟩ := Hcb.out wx hSw; go_simp; try exact rfl)
    simp only [Act.put, List.setIfInBounds_toArray, List.set_cons_zero, List.set_cons_succ]
    refine ord_call (by rfl) (fun K hK => ?_)
    go_simp
    refine HA1.out.mono ?_
    rintro e Wt ⟨BWt, capWt, rfl, hNWt, _, hbWt⟩
    have HbWt := Lib.hid (show Below W2.heap.size W2 Wt from HbD.out.trans (hbWt.mono HbD.out.size))
    have HCWt := Lib.hid (show Chg (S1 ++ S2) W1 Wt from HCW2.out.trans (Chg.of_below [] HbWt.out) (fun x hx => by cases hx))
    have HtWt := Lib.hid (tells_any (Hkb.out.same (HbWt.out.block _ Hkb.out.lt)) (HP2.out.pt.below HbWt.out) BWt capWt hNWt n)
    clear hNWt hbWt
    refine hK.out _ _ HCWt.out ?_
    clear hK K
    refine ord_call (by rfl) (fun K hK => ?_)
    go_simp
    refine HtWt.out.mono ?_
    rintro e Wu ⟨rfl, hbWu⟩
    have HbWu := Lib.hid (show Below W2.heap.size W2 Wu from HbWt.out.trans (hbWu.mono HbWt.out.size))
    have HCWu := Lib.hid (show Chg (S1 ++ S2) W1 Wu from HCW2.out.trans (Chg.of_below [] HbWu.out) (fun x hx => by cases hx))
    have HA2 := Lib.hid (rt_all (HP2.out.rt.below HbWu.out))
    clear hbWu
    refine hK.out _ _ HCWu.out ?_
    clear hK K
    refine' ord_take (v := _) (by rfl) (fun wx hSw => ?hy8) ?rest8
    case hy8 => (go_simp; try exact rfl)
    simp only [Act.put, List.setIfInBounds_toArray, List.set_cons_zero, List.set_cons_succ]
    refine' ord_take (v := _) (by rfl) (fun wx hSw => ?hy9) ?rest9
    case hy9 => (go_simp; try exact rfl)
    simp only [Act.put, List.setIfInBounds_toArray, List.set_cons_zero, List.set_cons_succ]
    refine' ord_take (v := _) (by rfl) (fun wx hSw => ?hy10) ?rest10
    case hy10 => (go_simp; try exact rfl)
    simp only [Act.put, List.setIfInBounds_toArray, List.set_cons_zero, List.set_cons_succ]
    refine' ord_take (v := _) (by rfl) (fun wx hSw => ?hy11) ?rest11
    case hy11 => (go_simp; try exact rfl)
    simp only [Act.put, List.setIfInBounds_toArray, List.set_cons_zero, List.set_cons_succ]
    refine' ord_take (v := _) (by rfl) (fun wx hSw => ?hy12) ?rest12
    case hy12 => (go_simp; try exact rfl)
    simp only [Act.put, List.setIfInBounds_toArray, List.set_cons_zero, List.set_cons_succ]
    refine' ord_take (v := _) (by rfl) (fun wx hSw => ?hy13) ?rest13
    case hy13 => (obtain ⟨d0, d1, d2, d3⟩ := Hcb.out wx hSw; go_simp; try exact rfl)
    simp only [Act.put, List.setIfInBounds_toArray, List.set_cons_zero, List.set_cons_succ]
    refine ord_call (by rfl) (fun K hK => ?_)
    go_simp
    refine HA2.out.mono ?_
    rintro e Wv ⟨BWv, capWv, rfl, hNWv, _, hbWv⟩
    have HbWv := Lib.hid (show Below W2.heap.size W2 Wv from HbWu.out.trans (hbWv.mono HbWu.out.size))
    have HCWv := Lib.hid (show Chg (S1 ++ S2) W1 Wv from HCW2.out.trans (Chg.of_below [] HbWv.out) (fun x hx => by cases hx))
    have HtWv := Lib.hid (tells_any (Hkb.out.same (HbWv.out.block _ Hkb.out.lt)) (HP2.out.pt.below HbWv.out) BWv capWv hNWv (-1))
    clear hNWv hbWv
    refine hK.out _ _ HCWv.out ?_
    clear hK K
    refine ord_call (by rfl) (fun K hK => ?_)
    go_simp
    refine HtWv.out.mono ?_
    rintro e Wx ⟨rfl, hbWx⟩
    have HbWx := Lib.hid (show Below W2.heap.size W2 Wx from HbWv.out.trans (hbWx.mono HbWv.out.size))
    have HCWx := Lib.hid (show Chg (S1 ++ S2) W1 Wx from HCW2.out.trans (Chg.of_below [] HbWx.out) (fun x hx => by cases hx))
    clear hbWx
    refine hK.out _ _ HCWx.out ?_
    clear hK K
    refine' ord_take (v := _) (by rfl) (fun wx hSw => ?hy14) ?rest14
    case hy14 => (go_simp; try exact rfl)
    simp only [Act.put, List.setIfInBounds_toArray, List.set_cons_zero, List.set_cons_succ]
    refine' ord_take (v := _) (by rfl) (fun wx hSw => ?hy15) ?rest15
    case hy15 => (go_simp; try exact rfl)
    simp only [Act.put, List.setIfInBounds_toArray, List.set_cons_zero, List.set_cons_succ]
    refine ord_nil ?_
    go_wp2
    go_ret
    exact ⟨rfl, After.of_below H.out HK.out Hk2.out (Hb1.out.trans ((HbW2.out.trans (HbWx.out.mono HbW2.out.size)).mono Hb1.out.size))⟩
  by_cases k9 : kind = 9
  · subst k9
    go_wp2_with (go_at_call 27; refine (all_any _ _ rfl).mono ?_; rintro e W2 ⟨rfl, hW2⟩
                 have h2 : Below W1.heap.size W1 W2 ∧ Blk W2 W1.heap.size 25 #[.pointer pT] := by rw [hW2]; exact ⟨(tup_new W1 _ _).1, Blk.new W1 _ _⟩
                 clear hW2 c0 cc1 cc2 cn f2
                 have cc2 := (Hcb.out W2 (Chg.of_below _ h2.1)).2.2.1
                 have f2 : W2.frozen? ⟨bb, bo + 2, none⟩ = false := (HP1.out.blk.same (h2.1.block _ HP1.out.blk.lt)).frozen _)
    go_ret
    obtain ⟨hbW2, hkb⟩ := h2
    have hP2 := HP1.out.below hbW2
    have hkb2 : Blk (W2.setCell ⟨bb, bo + 2, none⟩ (.func (.func 41) #[] #[.pointer (some ⟨W1.heap.size, 0, none⟩)])) W1.heap.size 25 #[.pointer pT] := hkb.far (p := ⟨bb, bo + 2, none⟩) (by have := HP1.out.blk.lt; show W1.heap.size ≠ bb; omega) _
    have hne : ∀ k, k ≠ bb → (W2.setCell ⟨bb, bo + 2, none⟩ (.func (.func 41) #[] #[.pointer (some ⟨W1.heap.size, 0, none⟩)])).heap[k]? = W2.heap[k]? := fun k hk => Below.heap_setCell _ _ _ _ hk
    refine ⟨rfl, _, st, S1, S2, ⟨hP2.blk.set_ _ _, ?_, ?_, hP2.pt.same fun k hk => hne k (fun e => hP2.b1 (e ▸ hk)), hP2.rt.same fun k hk => hne k (fun e => hP2.b2 (e ▸ hk)), hP2.dis, hP2.b1, hP2.b2⟩, .inr ⟨_, rfl, hkb2⟩, ?_, fun k hk => .inl hk, fun k hk => .inl hk⟩
    · rw [Array.getElem?_setIfInBounds_ne (by omega)]; exact hP2.at0
    · rw [Array.getElem?_setIfInBounds_ne (by omega)]; exact hP2.at1
    · exact ((Chg.of_below _ Hb1.out).trans (Chg.of_below [] hbW2) (fun x hx => by cases hx)).setCell (.inl (by simp)) _
  by_cases k10 : kind = 10
  · subst k10
    rcases HK.out with rfl | ⟨kb, rfl, hkb⟩
    · go_wp2
      go_quiet (fail)
      go_wp2
      go_ret
      exact ⟨rfl, After.of_below H.out HK.out Hk2.out (below_drewN Hb1.out _)⟩
    · go_upto_region 8 with fail
      have Hkb := Lib.hid (hkb.same (Hb1.out.block _ hkb.lt))
      obtain ⟨W2, hW2⟩ : ∃ W2, W2 = W1 := ⟨_, rfl⟩
      have HCW2 := Lib.hid (show Chg (S1 ++ S2) W1 W2 by rw [hW2]; exact Chg.refl _ _)
      have HP2 := Lib.hid (show Pair W2 bb bo bt bc (.pointer pT) (.pointer pR) st S1 S2 by rw [hW2]; exact HP1.out)
      have HbW2 := Lib.hid (show Below W1.heap.size W1 W2 by rw [hW2]; exact Below.refl _ _)
      have Hkb := Lib.hid (show Blk W2 kb 25 #[.pointer pT] by rw [hW2]; exact Hkb.out)
      rw [← hW2]
      have HbD := Lib.hid (drew_below W2)
      have HA1 := Lib.hid (rt_all (HP2.out.rt.below HbD.out))
      clear c0 cc1 cc2 cn f2 hop c1 hkb hW2
      refine wp_region_ord [(0, false), (1, false), (2, false), (3, false), (4, false), (5, false), (6, false), (7, false), (8, false), (9, false), (10, false), (11, false), (12, false), (13, false), (15, false), (16, false), (14, true), (17, true), (18, false), (19, false)] (fun W' => Chg (S1 ++ S2) W1 W') (by kernel_rfl) (by kernel_rfl) rfl (by kernel_rfl) (by rintro c a w ⟨_, h, _⟩; cases h) (HCW2.out.drew) ?_
      simp only [pickH, List.filterMap_cons, List.filterMap_nil, List.getElem?_toArray, List.getElem?_cons_succ, List.getElem?_cons_zero, Option.map_some]
      refine' ord_take (v := _) (by rfl) (fun wx hSw => ?hy16) ?rest16
      case hy16 => (go_simp; try exact rfl)
      simp only [Act.put, List.setIfInBounds_toArray, List.set_cons_zero, List.set_cons_succ]
      refine' ord_take (v := _) (by rfl) (fun wx hSw => ?hy17) ?rest17
      case hy17 => (go_simp; try exact rfl)
      simp only [Act.put, List.setIfInBounds_toArray, List.set_cons_zero, List.set_cons_succ]
      refine' ord_take (v := _) (by rfl) (fun wx hSw => ?hy18) ?rest18
      case hy18 => (go_simp; try exact rfl)
      simp only [Act.put, List.setIfInBounds_toArray, List.set_cons_zero, List.set_cons_succ]
      refine' ord_take (v := _) (by rfl) (fun wx hSw => ?hy19) ?rest19
      case hy19 => (obtain ⟨d0, d1, d2, d3⟩ := Hcb.out wx hSw; go_simp; try exact rfl)
      simp only [Act.put, List.setIfInBounds_toArray, List.set_cons_zero, List.set_cons_succ]
      refine' ord_take (v := _) (by rfl) (fun wx hSw => ?hy20) ?rest20
      case hy20 => (go_simp; try exact rfl)
      simp only [Act.put, List.setIfInBounds_toArray, List.set_cons_zero, List.set_cons_succ]
      refine' ord_take (v := _) (by rfl) (fun wx hSw => ?hy21) ?rest21
      case hy21 => (go_simp; try exact rfl)
      simp only [Act.put, List.setIfInBounds_toArray, List.set_cons_zero, List.set_cons_succ]
      refine' ord_take (v := _) (by rfl) (fun wx hSw => ?hy22) ?rest22
      case hy22 => (go_simp; try exact rfl)
      simp only [Act.put, List.setIfInBounds_toArray, List.set_cons_zero, List.set_cons_succ]
      refine' ord_take (v := _) (by rfl) (fun wx hSw => ?hy23) ?rest23
      case hy23 => (go_simp; try exact rfl)
      simp only [Act.put, List.setIfInBounds_toArray, List.set_cons_zero, List.set_cons_succ]
      refine' ord_take (v := _) (by rfl) (fun wx hSw => ?hy24) ?rest24
      case hy24 => (go_simp; try exact rfl)
      simp only [Act.put, List.setIfInBounds_toArray, List.set_cons_zero, List.set_cons_succ]
      refine' ord_take (v := _) (by rfl) (fun wx hSw => ?hy25) ?rest25
      case hy25 => (obtain ⟨d0, d1, d2, d3⟩ := Hcb.out wx hSw; go_simp; try exact rfl)
      simp only [Act.put, List.setIfInBounds_toArray, List.set_cons_zero, List.set_cons_succ]
      refine' ord_take (v := _) (by rfl) (fun wx hSw => ?hy26) ?rest26
      case hy26 => (go_simp; try exact rfl)
      simp only [Act.put, List.setIfInBounds_toArray, List.set_cons_zero, List.set_cons_succ]
      refine' ord_take (v := _) (by rfl) (fun wx hSw => ?hy27) ?rest27
      case hy27 => (go_simp; try exact rfl)
      simp only [Act.put, List.setIfInBounds_toArray, List.set_cons_zero, List.set_cons_succ]
      refine' ord_take (v := _) (by rfl) (fun wx hSw => ?hy28) ?rest28
      case hy28 => (go_simp; try exact rfl)
      simp only [Act.put, List.setIfInBounds_toArray, List.set_cons_zero, List.set_cons_succ]
      refine' ord_take (v := _) (by rfl) (fun wx hSw => ?hy29) ?rest29
      case hy29 => (obtain ⟨d0, d1, d2, d3⟩ := Hcb.out wx hSw; go_simp; try exact rfl)
      simp only [Act.put, List.setIfInBounds_toArray, List.set_cons_zero, List.set_cons_succ]
      refine' ord_take (v := _) (by rfl) (fun wx hSw => ?hy30) ?rest30
      case hy30 => (go_simp; try exact rfl)
      simp only [Act.put, List.setIfInBounds_toArray, List.set_cons_zero, List.set_cons_succ]
      refine' ord_take (v := _) (by rfl) (fun wx hSw => ?hy31) ?rest31
      case hy31 => (obtain ⟨d0, d1, d2, d3⟩ := Hcb.out wx hSw; go_simp; try exact rfl)
      simp only [Act.put, List.setIfInBounds_toArray, List.set_cons_zero, List.set_cons_succ]
      refine ord_call (by rfl) (fun K hK => ?_)
      go_simp
      refine HA1.out.mono ?_
      rintro e Wt ⟨BWt, capWt, rfl, hNWt, _, hbWt⟩
      have HbWt := Lib.hid (show Below W2.heap.size W2 Wt from HbD.out.trans (hbWt.mono HbD.out.size))
      have HCWt := Lib.hid (show Chg (S1 ++ S2) W1 Wt from HCW2.out.trans (Chg.of_below [] HbWt.out) (fun x hx => by cases hx))
      have HtWt := Lib.hid (tells_any (Hkb.out.same (HbWt.out.block _ Hkb.out.lt)) (HP2.out.pt.below HbWt.out) BWt capWt hNWt n)
      clear hNWt hbWt
      refine hK.out _ _ HCWt.out ?_
      clear hK K
      refine ord_call (by rfl) (fun K hK => ?_)
      go_simp
      refine HtWt.out.mono ?_
      rintro e Wu ⟨rfl, hbWu⟩
      have HbWu := Lib.hid (show Below W2.heap.size W2 Wu from HbWt.out.trans (hbWu.mono HbWt.out.size))
      have HCWu := Lib.hid (show Chg (S1 ++ S2) W1 Wu from HCW2.out.trans (Chg.of_below [] HbWu.out) (fun x hx => by cases hx))
      clear hbWu
      refine hK.out _ _ HCWu.out ?_
      clear hK K
      refine' ord_take (v := _) (by rfl) (fun wx hSw => ?hy32) ?rest32
      case hy32 => (go_simp; try exact rfl)
      simp only [Act.put, List.setIfInBounds_toArray, List.set_cons_zero, List.set_cons_succ]
      refine' ord_take (v := _) (by rfl) (fun wx hSw => ?hy33) ?rest33
      case hy33 => (go_simp; try exact rfl)
      simp only [Act.put, List.setIfInBounds_toArray, List.set_cons_zero, List.set_cons_succ]
      refine ord_nil ?_
      go_wp2
      go_ret
      exact ⟨rfl, After.of_below H.out HK.out Hk2.out (Hb1.out.trans ((HbW2.out.trans (HbWu.out.mono HbW2.out.size)).mono Hb1.out.size))⟩
  by_cases k11 : kind = 11
  · subst k11
    go_wp2_with (first
      | (refine at_load 68 _ rfl ?_; refine wpList_load_row rfl 68 _ rfl w.heap.size rfl 68 O (0, 0) _ hop Try.underlying68 rfl hinfo ?_)
      | (go_at_call 46; refine (Ham.out W1 Hb1.out).mono ?_; rintro e W2 ⟨rfl, st', S1', S2', hp2, hc2, hg2, hs2⟩))
    go_ret
    refine ⟨rfl, After.of_pair H.out HK.out Hk2.out hp2 ((Chg.of_below _ Hb1.out).trans hc2 (fun x hx => .inl hx)) (fun x hx => ?_) (fun x hx => ?_)⟩
    · rcases hg2 x hx with h | h
      · exact .inl h
      · right; have := Hb1.out.size; omega
    · rcases hs2 x hx with h | h
      · exact .inl h
      · right; have := Hb1.out.size; omega
  by_cases k7 : kind = 7
  · subst k7
    obtain ⟨⟨cc, st2⟩, hcu⟩ : ∃ R, cutA st n = R := ⟨_, rfl⟩
    have HbC := Lib.hid (drew_below W1)
    have hpc := pt_cut (HP1.out.pt.below HbC.out) n
    rw [hcu] at hpc
    have Hpc := Lib.hid hpc
    clear hpc
    go_upto_region 12 with fail
    clear c0 c1 cc1 cc2 cn f2 hop
    refine wp_region_ord [(0, false), (1, false), (2, false), (3, false), (4, false), (5, false), (7, false), (8, false), (9, false), (10, false), (11, false), (12, false), (6, true), (13, true), (14, false), (15, false)] (fun W' => Chg (S1 ++ S2) W1 W') (by kernel_rfl) (by kernel_rfl) rfl (by kernel_rfl) (by rintro c a w ⟨_, h, _⟩; cases h) ((Chg.refl _ W1).drew) ?_
    simp only [pickH, List.filterMap_cons, List.filterMap_nil, List.getElem?_toArray, List.getElem?_cons_succ, List.getElem?_cons_zero, Option.map_some]
    refine' ord_take (v := _) (by rfl) (fun wx hSw => ?hy34) ?rest34
    case hy34 => (go_simp; try exact rfl)
    simp only [Act.put, List.setIfInBounds_toArray, List.set_cons_zero, List.set_cons_succ]
    refine' ord_take (v := _) (by rfl) (fun wx hSw => ?hy35) ?rest35
    case hy35 => (go_simp; try exact rfl)
    simp only [Act.put, List.setIfInBounds_toArray, List.set_cons_zero, List.set_cons_succ]
    refine' ord_take (v := _) (by rfl) (fun wx hSw => ?hy36) ?rest36
    case hy36 => (go_simp; try exact rfl)
    simp only [Act.put, List.setIfInBounds_toArray, List.set_cons_zero, List.set_cons_succ]
    refine' ord_take (v := _) (by rfl) (fun wx hSw => ?hy37) ?rest37
    case hy37 => (obtain ⟨d0, d1, d2, d3⟩ := Hcb.out wx hSw; go_simp; try exact rfl)
    simp only [Act.put, List.setIfInBounds_toArray, List.set_cons_zero, List.set_cons_succ]
    refine' ord_take (v := _) (by rfl) (fun wx hSw => ?hy38) ?rest38
    case hy38 => (go_simp; try exact rfl)
    simp only [Act.put, List.setIfInBounds_toArray, List.set_cons_zero, List.set_cons_succ]
    refine' ord_take (v := _) (by rfl) (fun wx hSw => ?hy39) ?rest39
    case hy39 => (obtain ⟨d0, d1, d2, d3⟩ := Hcb.out wx hSw; go_simp; try exact rfl)
    simp only [Act.put, List.setIfInBounds_toArray, List.set_cons_zero, List.set_cons_succ]
    refine' ord_take (v := _) (by rfl) (fun wx hSw => ?hy40) ?rest40
    case hy40 => (go_simp; try exact rfl)
    simp only [Act.put, List.setIfInBounds_toArray, List.set_cons_zero, List.set_cons_succ]
    refine' ord_take (v := _) (by rfl) (fun wx hSw => ?hy41) ?rest41
    case hy41 => (go_simp; try exact rfl)
    simp only [Act.put, List.setIfInBounds_toArray, List.set_cons_zero, List.set_cons_succ]
    refine' ord_take (v := _) (by rfl) (fun wx hSw => ?hy42) ?rest42
    case hy42 => (go_simp; try exact rfl)
    simp only [Act.put, List.setIfInBounds_toArray, List.set_cons_zero, List.set_cons_succ]
    refine' ord_take (v := _) (by rfl) (fun wx hSw => ?hy43) ?rest43
    case hy43 => (obtain ⟨d0, d1, d2, d3⟩ := Hcb.out wx hSw; go_simp; try exact rfl)
    simp only [Act.put, List.setIfInBounds_toArray, List.set_cons_zero, List.set_cons_succ]
    refine' ord_take (v := _) (by rfl) (fun wx hSw => ?hy44) ?rest44
    case hy44 => (go_simp; try exact rfl)
    simp only [Act.put, List.setIfInBounds_toArray, List.set_cons_zero, List.set_cons_succ]
    refine' ord_take (v := _) (by rfl) (fun wx hSw => ?hy45) ?rest45
    case hy45 => (obtain ⟨d0, d1, d2, d3⟩ := Hcb.out wx hSw; go_simp; try exact rfl)
    simp only [Act.put, List.setIfInBounds_toArray, List.set_cons_zero, List.set_cons_succ]
    refine ord_call (by rfl) (fun K hK => ?_)
    go_simp
    refine Hpc.out.mono ?_
    rintro e Wd ⟨rfl, hptd, hcd⟩
    have Hptd := Lib.hid hptd
    have Hcd := Lib.hid hcd
    have HCd := Lib.hid (show Chg (S1 ++ S2) W1 Wd from (Chg.refl _ W1).drew.trans hcd (fun x hx => .inl (List.mem_append_left _ hx)))
    have hrc := rt_cut ((HP1.out.rt.below HbC.out).same fun k hk => hcd.block k (HP1.out.rt.lt k hk) (fun hm => HP1.out.dis k hm hk)) n
    rw [hcu] at hrc
    have Hrc := Lib.hid hrc
    clear hptd hcd hrc
    refine hK.out _ _ HCd.out ?_
    clear hK K
    refine ord_call (by rfl) (fun K hK => ?_)
    go_simp
    refine Hrc.out.mono ?_
    rintro e We ⟨rfl, hrte, hce⟩
    have Hste := Lib.hid (HP1.out.step2 HbC.out Hptd.out Hcd.out (Grew.refl _ _) hrte hce (fun k hk => .inl hk))
    have HCe := Lib.hid (show Chg (S1 ++ S2) W1 We from HCd.out.trans hce (fun x hx => .inl (List.mem_append_right _ hx)))
    clear hrte hce
    refine hK.out _ _ HCe.out ?_
    clear hK K
    refine' ord_take (v := _) (by rfl) (fun wx hSw => ?hy46) ?rest46
    case hy46 => (go_simp; try exact rfl)
    simp only [Act.put, List.setIfInBounds_toArray, List.set_cons_zero, List.set_cons_succ]
    refine' ord_take (v := _) (by rfl) (fun wx hSw => ?hy47) ?rest47
    case hy47 => (go_simp; try exact rfl)
    simp only [Act.put, List.setIfInBounds_toArray, List.set_cons_zero, List.set_cons_succ]
    refine ord_nil ?_
    go_wp2
    go_ret
    obtain ⟨q1, q2, q3, q4⟩ := Hste.out
    refine ⟨by simp, After.of_pair H.out HK.out Hk2.out q1 ((Chg.of_below _ Hb1.out).trans q2 (fun x hx => .inl hx)) (fun x hx => ?_) (fun x hx => ?_)⟩
    · rcases q3 x hx with h | h
      · exact .inl h
      · right; have := Hb1.out.size; omega
    · rcases q4 x hx with h | h
      · exact .inl h
      · right; have := Hb1.out.size; omega
  have q8 : (kind == 8) = false := by simpa using k8
  have q9 : (kind == 9) = false := by simpa using k9
  have q10 : (kind == 10) = false := by simpa using k10
  have q11 : (kind == 11) = false := by simpa using k11
  have q7 : (kind == 7) = false := by simpa using k7
  clear k8 k9 k10 k11 k7
  go_wp2
  go_ret
  exact ⟨rfl, After.of_below H.out HK.out Hk2.out Hb1.out⟩

end Go.Proofs.Ythdpaakkamccbaa

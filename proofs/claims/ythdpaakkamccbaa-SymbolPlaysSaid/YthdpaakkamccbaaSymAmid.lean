/-
  Walk: amid: a table is turned while its iterator is ranged over.
-/
import Derived.Test.YthdpaakkamccbaaSymTurn
import Derived.Test.YthdpaakkamccbaaSymOrd
import Derived.Sort.CutIn
import Derived.BigQuiet
import Derived.Test.YthdpaakkamccbaaSymAmid0
import Derived.Test.YthdpaakkamccbaaSymDoes3
namespace Go.Proofs.Ythdpaakkamccbaa
open Go.RowKit Go.Maps

theorem build_op (A : Option Addr) (n cap : Nat) (w : World) : (Instr.build 68 #[(1, .int .i64 4), (5, .slice A n cap)]).run Try.prog w = .ok (.agg (opC 0 4 0 0 Val.zero (.slice A n cap) (List.replicate 24 0))) w := run_build w 68 _ _ (by kernel_rfl)

attribute [local go_sem] Oper.semAt_some

set_option maxRecDepth 100000 in
set_option maxHeartbeats 4000000 in
theorem amid_any {w : World} {bb bo : Nat} {bt : TypeId} {bc : Array Value} {tv rv : Value} {st : St} {S1 S2 : List Nat} (h : Pair w bb bo bt bc tv rv st S1 S2) (on kind n m : Int) (v : Val) (hv : v.wf) (l : List Val) (A : Option Addr) (cap : Nat) (rs : List Int) (hrl : rs.length = 24)
    (hA : A = none → cap = 0) (hl : RdV w A l) (hwf : ∀ u ∈ l, u.wf) (hreach : l.length * 32 ≤ 140737488351232) (hB : l ≠ [] → ∀ a, A = some a → a.block ∉ S1 ∧ a.block ∉ S2 ∧ a.block < w.heap.size) :
    Calls Try.prog 46 #[.pointer (some ⟨bb, bo, none⟩), .agg (opC on kind n m v (.slice A l.length cap) rs)] w fun e w' => e = .returned (.bool true) ∧ ∃ st' S1' S2', Pair w' bb bo bt bc tv rv st' S1' S2' ∧ Chg (S1 ++ S2) w w' ∧ Grew w.heap.size S1 S1' ∧ (∀ k ∈ S2', k ∈ S2 ∨ w.heap.size ≤ k) := by
  have hall := fun (W : World) (hb : Below w.heap.size w W) => rt_all (h.rt.below hb)
  have hle := stN_le h.pt
  obtain ⟨pT, rfl⟩ := h.pt.ptr
  obtain ⟨pR, rfl⟩ := h.rt.ptr
  have c1 : ∀ a b c : Obj, (((w.alloc a).alloc b).alloc c).cell? ⟨bb, bo + 1, none⟩ = some (.pointer pR) := fun a b c => ((((h.blk.alloc a).alloc b).alloc c).cell _).trans h.at1
  have hfn := fun k => func_nil (.func 41) #[] #[.pointer (some ⟨k, 0, none⟩)]
  have H := Lib.hid h
  have Hall := Lib.hid hall
  have Hl := Lib.hid hl
  have Hwf := Lib.hid hwf
  have HB := Lib.hid hB
  have HA := Lib.hid hA
  have Hreach := Lib.hid hreach
  have Hrl := Lib.hid hrl
  have Hv := Lib.hid hv
  obtain ⟨O, hO⟩ : ∃ O, opC on kind n m v (.slice A l.length cap) rs = O := ⟨_, rfl⟩
  rw [hO]
  have HO := Lib.hid hO
  obtain ⟨q, hq⟩ : ∃ q, (stN st).length = q := ⟨_, rfl⟩
  have Hq := Lib.hid hq
  rw [hq] at hall hle
  simp only [hq] at Hall
  clear hall hl hwf hB hA hreach hrl hv hO hq h
  refine (callsIn_wide (n := 3)).1 ?_
  refine callsIn_of_wp_marks Try.func46 rfl trivial ?_ rfl
  simp only [Try.ntmps46, List.size_toArray, List.length_cons, List.length_nil, Nat.reduceAdd, Nat.reduceSub, Array.replicate_succ, Array.replicate_zero, List.push_toArray, List.append_toArray, List.nil_append, List.cons_append]
  gi_wp2_with (first
    | (refine ⟨trivial, ?_⟩; gi_at_call 28; refine (callsIn_wide.2 (Hall.out _ (three_new w _ _ _ _ _ _).1)).mono ?_; rintro e w1 ⟨Bn, capB, rfl, hN, hgN, hb01⟩
       have h3 : Below w.heap.size w w1 ∧ Blk w1 w.heap.size 83 #[.pointer (some ⟨bb, bo, none⟩)] ∧ Blk w1 (w.heap.size + 1) 68 O ∧ Blk w1 (w.heap.size + 2) 4 #[.bool false] ∧ w.heap.size + 3 ≤ w1.heap.size := by
         obtain ⟨g0, g1, g2, g3, gs⟩ := three_new w 83 68 4 #[.pointer (some ⟨bb, bo, none⟩)] O #[.bool false]
         exact ⟨g0.trans (hb01.mono g0.size), g1.same (hb01.block _ g1.lt), g2.same (hb01.block _ g2.lt), g3.same (hb01.block _ g3.lt), by have := hb01.size; omega⟩
       clear hb01 c1
       obtain ⟨hB1, b1, b2, b3, hs1⟩ := h3
       have Hs1 := Lib.hid hs1
       have HN1 := Lib.hid hN
       have HgN := Lib.hid (show ∀ g ∈ blkOf Bn, w.heap.size ≤ g ∧ g < w1.heap.size from fun g hg => ⟨Nat.le_trans (three_new w _ _ _ _ _ _).1.size (hgN g hg), hN.lt g hg⟩)
       clear hs1 hN hgN
       have c0 : ∀ a : Obj, (w1.alloc a).cell? ⟨bb, bo, none⟩ = some (.pointer pT) := fun a => (((H.out.blk.same (hB1.block _ H.out.blk.lt)).alloc a).cell _).trans H.out.at0
       have cp : ∀ a : Obj, (w1.alloc a).cell? ⟨w.heap.size, 0, none⟩ = some (.pointer (some ⟨bb, bo, none⟩)) := fun a => (b1.alloc a).cell 0)
    | (refine ⟨trivial, ?_⟩; gi_at_call 27; refine (callsIn_wide.2 (all_any _ _ rfl)).mono ?_; rintro e w2 ⟨rfl, hw2⟩
       have h4 : Below w1.heap.size w1 w2 ∧ Blk w2 w1.heap.size 72 #[.slice Bn q capB] ∧ Blk w2 (w1.heap.size + 1) 25 #[.pointer pT] ∧ w2.heap.size = w1.heap.size + 2 := by rw [hw2]; exact two_new w1 _ _ _ _
       clear hw2
       obtain ⟨hB2, b4, b5, hs2⟩ := h4
       have Hs2 := Lib.hid hs2
       clear hs2))
  obtain ⟨W0, hW0⟩ : ∃ W0, (w2.alloc (.cells #[.func (.func 41) #[] #[.pointer (some ⟨w1.heap.size + 1, 0, none⟩)]] 59)).alloc (.cells #[.int .i64 0] 3) = W0 := ⟨_, rfl⟩
  rw [hW0]
  obtain ⟨hB3, b6, b7, hs3⟩ : Below w2.heap.size w2 W0 ∧ Blk W0 w2.heap.size 59 #[.func (.func 41) #[] #[.pointer (some ⟨w1.heap.size + 1, 0, none⟩)]] ∧ Blk W0 (w2.heap.size + 1) 3 #[.int .i64 0] ∧ W0.heap.size = w2.heap.size + 2 := by rw [← hW0]; exact two_new w2 _ _ _ _
  have hB12 : Below w.heap.size w w2 := hB1.trans (hB2.mono hB1.size)
  have hB0 : Below w.heap.size w W0 := hB12.trans (hB3.mono hB12.size)
  have hB10 : Below w1.heap.size w1 W0 := hB2.trans (hB3.mono hB2.size)
  have b1 := b1.same (hB10.block _ b1.lt)
  have b2 := b2.same (hB10.block _ b2.lt)
  have b3 := b3.same (hB10.block _ b3.lt)
  have b4 := b4.same (hB3.block _ b4.lt)
  have b5 := b5.same (hB3.block _ b5.lt)
  have HN := Lib.hid (HN1.out.below hB10)
  have HP := Lib.hid (H.out.below hB0)
  have Hb1 := Lib.hid b1
  have Hb2 := Lib.hid b2
  have Hb3 := Lib.hid b3
  have Hb4 := Lib.hid b4
  have Hb5 := Lib.hid b5
  have Hb6 := Lib.hid b6
  have Hb7 := Lib.hid b7
  have HB0 := Lib.hid hB0
  have Hs3 := Lib.hid hs3
  have Hz := Lib.hid (show w.heap.size + 3 ≤ w1.heap.size ∧ w2.heap.size = w1.heap.size + 2 ∧ W0.heap.size = w2.heap.size + 2 from ⟨Hs1.out, Hs2.out, Hs3.out⟩)
  clear hW0 hs3 c0 cp hB1 hB2 hB3 hB12 hB10 b1 b2 b3 b4 b5 b6 b7 HN1 hB0 Hs1 Hs2 Hs3
  have hmapB : ∀ x, S1[1]? = some x → x < W0.heap.size := fun x hx => Nat.lt_of_lt_of_le (H.out.pt.lt x (List.mem_of_getElem? hx)) HB0.out.size
  have hkb0 : w2.heap.size + 1 ∉ S1 := fun hm => by have := H.out.pt.lt _ hm; have := Hz.out; omega
  have hkb0' : w2.heap.size + 1 ∉ S2 := fun hm => by have := H.out.rt.lt _ hm; have := Hz.out; omega
  have hbbk : bb ≠ w2.heap.size + 1 := fun e => by have := H.out.blk.lt; have := Hz.out; omega
  have hnew : ∀ x, w.heap.size ≤ x → x ≠ w2.heap.size + 1 → x ∉ (w2.heap.size + 1) :: (S1 ++ S2) := fun x h1 h2 hm => by
    rcases List.mem_cons.1 hm with h | h
    · exact h2 h
    · rcases List.mem_append.1 h with h | h
      · have := H.out.pt.lt _ h; omega
      · have := H.out.rt.lt _ h; omega
  have Hnew := Lib.hid hnew
  have hcells : ∀ W' : World, Chg ((w2.heap.size + 1) :: (S1 ++ S2)) W0 W' → W'.cell? ⟨w.heap.size, 0, none⟩ = some (.pointer (some ⟨bb, bo, none⟩)) ∧ W'.cell? ⟨w2.heap.size, 0, none⟩ = some (.func (.func 41) #[] #[.pointer (some ⟨w1.heap.size + 1, 0, none⟩)]) ∧
      W'.cell? ⟨bb, bo, none⟩ = some (.pointer pT) ∧ W'.cell? ⟨bb, bo + 1, none⟩ = some (.pointer pR) ∧ Blk W' (w.heap.size + 1) 68 O ∧ W'.cell? ⟨w1.heap.size, 0, none⟩ = some (.slice Bn q capB) ∧ W'.cell? ⟨w.heap.size + 1 + 1, 0, none⟩ = some (.bool false) ∧ W'.frozen? ⟨w.heap.size + 1 + 1, 0, none⟩ = false := fun W' hC => by
    have hz := Hz.out
    have e1 := Hb1.out.same (hC.block _ Hb1.out.lt (Hnew.out _ (Nat.le_refl _) (by omega)))
    have e2 := Hb2.out.same (hC.block _ Hb2.out.lt (Hnew.out _ (by omega) (by omega)))
    have e3 : Blk W' (w.heap.size + 2) 4 #[.bool false] := Hb3.out.same (hC.block _ Hb3.out.lt (Hnew.out _ (by omega) (by omega)))
    have e4 := Hb4.out.same (hC.block _ Hb4.out.lt (Hnew.out _ (by omega) (by omega)))
    have e6 := Hb6.out.same (hC.block _ Hb6.out.lt (Hnew.out _ (by omega) (by omega)))
    have e8 := HP.out.blk.same (hC.block _ HP.out.blk.lt (fun hm => by
      rcases List.mem_cons.1 hm with h | h
      · exact hbbk h
      · rcases List.mem_append.1 h with h | h
        · exact HP.out.b1 h
        · exact HP.out.b2 h))
    exact ⟨e1.cell 0, e6.cell 0, (e8.cell _).trans HP.out.at0, (e8.cell _).trans HP.out.at1, e2, e4.cell 0, e3.cell 0, e3.frozen 0⟩
  have Hcells := Lib.hid hcells
  have hkbox : ∀ W' : World, Chg ((w2.heap.size + 1) :: (S1 ++ S2)) W0 W' → Blk W' (w1.heap.size + 1) 25 #[.pointer pT] := fun W' hC => by
    have hz := Hz.out
    exact Hb5.out.same (hC.block _ Hb5.out.lt (Hnew.out _ (by omega) (by omega)))
  have Hkbox := Lib.hid hkbox
  obtain ⟨o0, o1, o2, o3, o4, o5, o6, o7⟩ := opC_at on kind n m v (.slice A l.length cap) rs
  rw [HO.out] at o0 o1 o2 o3 o4 o5 o6 o7
  have Ho2 := Lib.hid o2
  have Ho3 := Lib.hid o3
  have Ho4 := Lib.hid o4
  have Ho5 := Lib.hid o5
  have Ho6 := Lib.hid o6
  have Ho7 := Lib.hid o7
  clear hnew hcells hkbox o0 o1 o2 o3 o4 o5 o6 o7
  refine wpIn_rangeFunc_ownH (α := Nat × Val) rfl (by omega) (gf := 41) (lb := #[.pointer (some ⟨w1.heap.size + 1, 0, none⟩)]) rfl trivial (enters_of Try.func41 (by kernel_rfl) rfl) (all_stops (m := 2) (by omega) Hb5.out HP.out.pt) kc_t kc_b (Below.refl _ _) (fun x => rfl)
    (fun pre W => (W.cell? ⟨w2.heap.size + 1, 0, none⟩ = some (.int .i64 (pre.length : Int)) ∧ W.frozen? ⟨w2.heap.size + 1, 0, none⟩ = false ∧ (pre = (stN st).take pre.length ∧ pre.length ≤ q)) ∧ AmidSt W0 (w2.heap.size + 1) bb bo bt bc (.pointer pT) (.pointer pR) st S1 S2 ((pre.length : Int) ≤ m) W)
    (fun c pre W => ¬ pre <+: stN st)
    (OwnFrom.and (Own.from (fun s A B row hs hg hr => ⟨cell_kept hs.1 hg hr, (frozen_kept hs.1 hg hr).trans hs.2.1, hs.2.2⟩) _) (amidSt_own (Nat.le_refl _) hmapB))
    (fun c => ownFrom_pure _ _)
    ⟨⟨Hb7.out.cell 0, Hb7.out.frozen 0, rfl, Nat.zero_le _⟩, Chg.refl _ _, st, S1, S2, HP.out, Grew.refl _ _, fun k hk => .inl hk, fun _ => ⟨rfl, rfl, rfl⟩⟩
    (fun x a' W => ∃ Bx, 0 ≤ Bx ∧ Blk W Bx 36 #[.int .i8 x.2.k, .int .i64 x.2.n, .string x.2.s] ∧ a' = ({ tmps := #[.pointer (some ⟨bb, bo, none⟩), .agg O, .pointer (some ⟨w.heap.size, 0, none⟩), .pointer (some ⟨w.heap.size + 1, 0, none⟩), .pointer (some ⟨w.heap.size + 1 + 1, 0, none⟩), .pointer (some ⟨w1.heap.size, 0, none⟩), .pointer (some ⟨w2.heap.size, 0, none⟩), .pointer (some ⟨w2.heap.size + 1, 0, none⟩), .int .i32 (x.1 : Int), .pointer (some ⟨Bx, 0, none⟩), undef, undef, undef, undef, .pointer (some ⟨bb, bo, none⟩), .pointer (some ⟨bb, bo, none⟩), .pointer (some ⟨bb, bo + 1, none⟩), .pointer pR, .slice Bn q capB, .pointer (some ⟨bb, bo, none⟩), .pointer (some ⟨bb, bo, none⟩), .pointer (some ⟨bb, bo, none⟩), .pointer pT, (.func (.func 41) #[] #[.pointer (some ⟨w1.heap.size + 1, 0, none⟩)]), (.func (.func 41) #[] #[.pointer (some ⟨w1.heap.size + 1, 0, none⟩)]), .bool false, (.func (.func 41) #[] #[.pointer (some ⟨w1.heap.size + 1, 0, none⟩)]), .int .i32 (x.1 : Int), .agg #[.int .i8 x.2.k, .int .i64 x.2.n, .string x.2.s], undef, undef, undef, undef, undef, undef, undef, undef, undef, undef, undef, undef, undef, undef, undef, undef, undef, undef, undef, undef, undef, undef, undef, undef, undef, undef, undef, undef, undef, undef, undef, undef, undef, undef, undef, undef, undef, undef, undef, undef, undef, undef, undef, undef, undef, undef, undef, undef, undef, undef, undef, undef, undef, undef, undef, undef, undef, undef, undef, undef, undef, undef, undef, undef, undef, undef, undef, undef, undef, undef, undef, undef, undef, undef, undef, undef, undef, undef, undef, undef, undef, undef, undef, undef, undef, undef, undef, undef, undef, undef, undef, undef, undef, undef, undef, undef, undef, undef, undef, undef, undef, undef, undef], defers := [] } : Act))
    (fun x a' => blk_own _ _ _ _) ?assign ?body ?done ?stop
  case assign =>
    rintro l' pre x W K ⟨⟨h1, h2, h3⟩, hSt⟩ hK
    have HK := Lib.hid hK
    have HSt := Lib.hid hSt
    clear hK hSt
    simp only [encN, Val.agg]
    gi_wp2
    exact HK.out _ _ ((KeepsOthers.alloc _ _).from _) (Kc.alloc _ _ _) ⟨⟨cell_alloc_l _ h1, frozen_alloc_l _ h1 h2, h3⟩, (amidSt_own (β := Unit) (early := fun _ => (pre.length : Int) ≤ m) (Nat.le_refl _) hmapB).alloc (s := ()) _ HSt.out⟩ ⟨W.heap.size, Nat.zero_le _, Blk.new W _ _, rfl⟩
  case body =>
    rintro l' pre x a' W hlL hr ⟨⟨c4, f4, hpre, hpl⟩, hSt⟩ ⟨Bx, _, bX, rfl⟩ hlt
    have hC := hSt.1
    obtain ⟨cb, csq, cT, cR, bO, c1, c3, f3⟩ := Hcells.out W hC
    have cM : W.cell? ⟨w.heap.size + 1, 3, none⟩ = some (.int .i64 m) := (bO.cell 3).trans Ho3.out
    have hRN : RowN W Bn capB (stN st) := HN.out.same fun g hg => by
      have hz := Hz.out
      obtain ⟨h1, h2⟩ := HgN.out g hg
      exact hC.block g (HN.out.lt g hg) (Hnew.out _ h1 (by omega))
    have x0 := bX.cell 0
    have x1 := bX.cell 1
    have x2 := bX.cell 2
    have HbX := Lib.hid bX
    have HSt := Lib.hid hSt
    have HC := Lib.hid hC
    have Hpre := Lib.hid hpre
    clear bX hlL hr hSt hC hpre bO
    obtain ⟨k, hk⟩ : ∃ k, pre.length = k := ⟨_, rfl⟩
    have Hk := Lib.hid hk
    rw [hk] at c4 hpl hlt
    clear hk
    obtain ⟨xi, vk, vn, s⟩ := x
    simp only at x0 x1 x2 ⊢
    by_cases hge : q ≤ k
    · have hd : decide ((q : Int) ≤ (k : Int)) = true := by simp; omega
      have hnp : ¬ (pre ++ [((xi, ⟨vk, vn, s⟩) : Nat × Val)]) <+: stN st := fun h => by
        obtain ⟨h1, _⟩ := snoc_prefix Hk.out h
        rw [Hq.out] at h1
        omega
      gi_wp2
      refine wpIn_round_quiet (by kernel_rfl) (by kernel_rfl) (by kernel_rfl) (by rintro ⟨_, _, h⟩; exact h) ?_
      repeat (go_big_quiet_step (fail))
      refine wpQuiet_nil ?_
      rintro _ ⟨nq, rfl⟩
      gi_wp2
      exact ⟨((KeepsOthers.drewN W nq).trans (KeepsOthers.setCell _ _ _)).from _, hnp⟩
    · have hd : decide ((q : Int) ≤ (k : Int)) = false := by simp; omega
      have hkl : k < (stN st).length := by rw [Hq.out]; omega
      obtain ⟨g, rfl⟩ : ∃ g, Bn = some ⟨g, 0, none⟩ := by
        rcases hRN.form with ⟨_, _, h⟩ | ⟨g, h, _⟩
        · rw [h] at hkl; simp at hkl
        · exact ⟨g, h⟩
      obtain ⟨e0, e1, e2, e3⟩ := hRN.four k hkl
      have hsn : ∀ x : Nat × Val, (stN st)[k] ≠ x → ¬ (pre ++ [x]) <+: stN st := fun x hx h => hx (snoc_prefix Hk.out h).2
      have htk : ∀ x : Nat × Val, (stN st)[k] = x → pre ++ [x] = (stN st).take (pre ++ [x]).length := fun x hx => take_snoc Hk.out Hpre.out hkl hx
      clear hRN
      generalize (stN st)[k] = y at e0 e1 e2 e3 hsn htk
      obtain ⟨yi, yk, yn, ys⟩ := y
      simp only at e0 e1 e2 e3
      have Hsn := Lib.hid hsn
      have Htk := Lib.hid htk
      clear hsn htk
      by_cases hi : yi = xi
      · subst hi
        by_cases hv : (⟨yk, yn, ys⟩ : Val) = ⟨vk, vn, s⟩
        · injection hv with hv1 hv2 hv3
          subst hv1 hv2 hv3
          have hveq : veq ⟨yk, yn, ys⟩ ⟨yk, yn, ys⟩ = true := by unfold veq; simp
          have hwk : IntKind.i64.wrap ((k : Int) + 1) = (k : Int) + 1 := IntWalk.i64_in _ ⟨by omega, by omega⟩
          have hlx : (((pre ++ [((yi, ⟨yk, yn, ys⟩) : Nat × Val)]).length : Nat) : Int) = (k : Int) + 1 := by rw [List.length_append, Hk.out]; rfl
          have Hlx := Lib.hid hlx
          clear hlx
          by_cases hkm : (k : Int) = m
          · subst hkm
            obtain ⟨_, st', S1', S2', hP, hG, hS2', hE⟩ := HSt.out
            obtain ⟨hq1, hq2, hq3⟩ := hE (by rw [Hk.out]; exact Int.le_refl _)
            rw [hq1, hq2, hq3] at hP
            have HPW := Lib.hid hP
            have hbo := build_op A l.length cap
            obtain ⟨⟨⟨num, code⟩, st1⟩, hra⟩ : ∃ R, addA st v = R := ⟨_, rfl⟩
            obtain ⟨⟨cc, st2⟩, hcu⟩ : ∃ R, cutA st1 n = R := ⟨_, rfl⟩
            have Hra0 := Lib.hid hra
            clear hP hG hS2' hE hq1 hq2 hq3 hra
            gi_wp2
            refine wpIn_round_quiet (by kernel_rfl) (by kernel_rfl) (by kernel_rfl) (by rintro ⟨_, _, h⟩; exact h) ?_
            repeat (go_big_quiet_step (fail))
            refine wpQuiet_nil ?_
            rintro _ ⟨nq, rfl⟩
            have HCq := Lib.hid (show Chg ((w2.heap.size + 1) :: (S1 ++ S2)) W0 (W.drewN nq) from ⟨HC.out.os, HC.out.tape, HC.out.output, HC.out.size, HC.out.block⟩)
            have HbA := Lib.hid (show Below W.heap.size W (W.drewN nq).drew from ⟨rfl, rfl, rfl, Nat.le_refl _, fun _ _ => rfl⟩)
            have ha12 := rt_all (HPW.out.rt.below HbA.out)
            rw [Hq.out] at ha12
            have HA12 := Lib.hid ha12
            clear ha12
            gi_wp2
            refine wpIn_round_ord [(0, false), (1, false), (2, false), (3, false), (4, false), (5, true), (6, true), (7, false)] (fun W' => Chg ((w2.heap.size + 1) :: (S1 ++ S2)) W0 W') (by kernel_rfl) (by kernel_rfl) (by kernel_rfl) rfl (by kernel_rfl) (by rintro ⟨_, _, h⟩; exact h) (fun _ _ _ h => h) (HCq.out.drew) ?_
            simp only [pickH, List.filterMap_cons, List.filterMap_nil, List.getElem?_toArray, List.getElem?_cons_succ, List.getElem?_cons_zero, Option.map_some]
            refine' ord_take (v := _) (by rfl) (fun wx hSw => ?hy1) ?rest1
            case hy1 => (obtain ⟨cb, csq, cT, cR, bO, _⟩ := Hcells.out wx hSw; have q2 := (bO.cell 2).trans Ho2.out; have q4 := (bO.cell 4).trans Ho4.out; have q5 := (bO.cell 5).trans Ho5.out; have q6 := (bO.cell 6).trans Ho6.out; have q7 := (bO.cell 7).trans Ho7.out; go_simp; try exact rfl)
            simp only [Act.put, List.setIfInBounds_toArray, List.set_cons_zero, List.set_cons_succ]
            refine' ord_take (v := _) (by rfl) (fun wx hSw => ?hy2) ?rest2
            case hy2 => (obtain ⟨cb, csq, cT, cR, bO, _⟩ := Hcells.out wx hSw; have q2 := (bO.cell 2).trans Ho2.out; have q4 := (bO.cell 4).trans Ho4.out; have q5 := (bO.cell 5).trans Ho5.out; have q6 := (bO.cell 6).trans Ho6.out; have q7 := (bO.cell 7).trans Ho7.out; go_simp; try exact rfl)
            simp only [Act.put, List.setIfInBounds_toArray, List.set_cons_zero, List.set_cons_succ]
            refine' ord_take (v := _) (by rfl) (fun wx hSw => ?hy3) ?rest3
            case hy3 => (go_simp; try exact rfl)
            simp only [Act.put, List.setIfInBounds_toArray, List.set_cons_zero, List.set_cons_succ]
            refine' ord_take (v := _) (by rfl) (fun wx hSw => ?hy4) ?rest4
            case hy4 => (go_simp; try exact rfl)
            simp only [Act.put, List.setIfInBounds_toArray, List.set_cons_zero, List.set_cons_succ]
            refine' ord_take (v := _) (by rfl) (fun wx hSw => ?hy5) ?rest5
            case hy5 => (obtain ⟨cb, csq, cT, cR, bO, _⟩ := Hcells.out wx hSw; have q2 := (bO.cell 2).trans Ho2.out; have q4 := (bO.cell 4).trans Ho4.out; have q5 := (bO.cell 5).trans Ho5.out; have q6 := (bO.cell 6).trans Ho6.out; have q7 := (bO.cell 7).trans Ho7.out; go_simp; try exact rfl)
            simp only [Act.put, List.setIfInBounds_toArray, List.set_cons_zero, List.set_cons_succ]
            refine ord_call (by rfl) (fun K hK => ?_)
            go_simp
            refine HA12.out.mono ?_
            rintro e Wt ⟨Bw, capw, rfl, hNw, _, hbw⟩
            have HbWt := Lib.hid (show Below W.heap.size W Wt from HbA.out.trans (hbw.mono HbA.out.size))
            have HCt := Lib.hid (show Chg ((w2.heap.size + 1) :: (S1 ++ S2)) W0 Wt from HCq.out.drew.trans (Chg.of_below [] hbw) (fun x hx => by cases hx))
            have htl := tells_any (Hkbox.out Wt HCt.out) (HPW.out.pt.below HbWt.out) Bw capw hNw (-1)
            rw [Hq.out] at htl
            have Htl := Lib.hid htl
            clear htl hNw hbw
            refine hK.out _ _ HCt.out ?_
            clear hK K
            refine ord_call (by rfl) (fun K hK => ?_)
            go_simp
            refine Htl.out.mono ?_
            rintro e Wu ⟨rfl, hbu⟩
            have HbWu := Lib.hid (show Below W.heap.size W Wu from HbWt.out.trans (hbu.mono HbWt.out.size))
            have HCu := Lib.hid (show Chg ((w2.heap.size + 1) :: (S1 ++ S2)) W0 Wu from HCt.out.trans (Chg.of_below [] hbu) (fun x hx => by cases hx))
            clear hbu
            refine hK.out _ _ HCu.out ?_
            clear hK K
            refine' ord_take (v := _) (by rfl) (fun wx hSw => ?hy6) ?rest6
            case hy6 => (go_simp; try exact rfl)
            simp only [Act.put, List.setIfInBounds_toArray, List.set_cons_zero, List.set_cons_succ]
            refine ord_nil ?_
            gi_wp2
            have HbUd := Lib.hid (show Below W.heap.size W Wu.drew from ⟨HbWu.out.os, HbWu.out.tape, HbWu.out.output, HbWu.out.size, HbWu.out.block⟩)
            have hpa := pt_add (HPW.out.pt.below HbUd.out) v Hv.out
            rw [Hra0.out] at hpa
            simp only [Val.agg] at hpa
            have Hpa := Lib.hid hpa
            clear hpa
            refine wpIn_round_ord [(0, false), (1, false), (2, false), (3, false), (4, false), (5, false), (6, true), (7, false), (8, false), (9, false), (10, false), (11, false)] (fun W' => Chg ((w2.heap.size + 1) :: (S1 ++ S2)) W0 W') (by kernel_rfl) (by kernel_rfl) (by kernel_rfl) rfl (by kernel_rfl) (by rintro ⟨_, _, h⟩; exact h) (fun _ _ _ h => h) (HCu.out.drew) ?_
            simp only [pickH, List.filterMap_cons, List.filterMap_nil, List.getElem?_toArray, List.getElem?_cons_succ, List.getElem?_cons_zero, Option.map_some]
            refine' ord_take (v := _) (by rfl) (fun wx hSw => ?hy7) ?rest7
            case hy7 => (obtain ⟨cb, csq, cT, cR, bO, _⟩ := Hcells.out wx hSw; have q2 := (bO.cell 2).trans Ho2.out; have q4 := (bO.cell 4).trans Ho4.out; have q5 := (bO.cell 5).trans Ho5.out; have q6 := (bO.cell 6).trans Ho6.out; have q7 := (bO.cell 7).trans Ho7.out; go_simp; try exact rfl)
            simp only [Act.put, List.setIfInBounds_toArray, List.set_cons_zero, List.set_cons_succ]
            refine' ord_take (v := _) (by rfl) (fun wx hSw => ?hy8) ?rest8
            case hy8 => (go_simp; try exact rfl)
            simp only [Act.put, List.setIfInBounds_toArray, List.set_cons_zero, List.set_cons_succ]
            refine' ord_take (v := _) (by rfl) (fun wx hSw => ?hy9) ?rest9
            case hy9 => (go_simp; try exact rfl)
            simp only [Act.put, List.setIfInBounds_toArray, List.set_cons_zero, List.set_cons_succ]
            refine' ord_take (v := _) (by rfl) (fun wx hSw => ?hy10) ?rest10
            case hy10 => (obtain ⟨cb, csq, cT, cR, bO, _⟩ := Hcells.out wx hSw; have q2 := (bO.cell 2).trans Ho2.out; have q4 := (bO.cell 4).trans Ho4.out; have q5 := (bO.cell 5).trans Ho5.out; have q6 := (bO.cell 6).trans Ho6.out; have q7 := (bO.cell 7).trans Ho7.out; go_simp; try exact rfl)
            simp only [Act.put, List.setIfInBounds_toArray, List.set_cons_zero, List.set_cons_succ]
            refine' ord_take (v := _) (by rfl) (fun wx hSw => ?hy11) ?rest11
            case hy11 => (go_simp; try exact rfl)
            simp only [Act.put, List.setIfInBounds_toArray, List.set_cons_zero, List.set_cons_succ]
            refine' ord_take (v := _) (by rfl) (fun wx hSw => ?hy12) ?rest12
            case hy12 => (obtain ⟨cb, csq, cT, cR, bO, _⟩ := Hcells.out wx hSw; have q2 := (bO.cell 2).trans Ho2.out; have q4 := (bO.cell 4).trans Ho4.out; have q5 := (bO.cell 5).trans Ho5.out; have q6 := (bO.cell 6).trans Ho6.out; have q7 := (bO.cell 7).trans Ho7.out; go_simp; try exact rfl)
            simp only [Act.put, List.setIfInBounds_toArray, List.set_cons_zero, List.set_cons_succ]
            refine ord_call (by rfl) (fun K hK => ?_)
            go_simp
            refine Hpa.out.mono ?_
            rintro e Wb ⟨S1b, rfl, hptb, hcb, hgb⟩
            have Hptb := Lib.hid hptb
            have Hcb := Lib.hid hcb
            have Hgb := Lib.hid hgb
            have HCb := Lib.hid (show Chg ((w2.heap.size + 1) :: (S1 ++ S2)) W0 Wb from HCu.out.drew.trans hcb (fun x hx => .inl (List.mem_cons_of_mem _ (List.mem_append_left _ hx))))
            clear hptb hcb hgb
            refine hK.out _ _ HCb.out ?_
            clear hK K
            refine' ord_take (v := _) (by rfl) (fun wx hSw => ?hy13) ?rest13
            case hy13 => (go_simp; try exact rfl)
            simp only [Act.put, List.setIfInBounds_toArray, List.set_cons_zero, List.set_cons_succ]
            refine' ord_take (v := _) (by rfl) (fun wx hSw => ?hy14) ?rest14
            case hy14 => (go_simp; try exact rfl)
            simp only [Act.put, List.setIfInBounds_toArray, List.set_cons_zero, List.set_cons_succ]
            refine' ord_take (v := _) (by rfl) (fun wx hSw => ?hy15) ?rest15
            case hy15 => (go_simp; try exact rfl)
            simp only [Act.put, List.setIfInBounds_toArray, List.set_cons_zero, List.set_cons_succ]
            refine' ord_take (v := _) (by rfl) (fun wx hSw => ?hy16) ?rest16
            case hy16 => (go_simp; try exact rfl)
            simp only [Act.put, List.setIfInBounds_toArray, List.set_cons_zero, List.set_cons_succ]
            refine' ord_take (v := _) (by rfl) (fun wx hSw => ?hy17) ?rest17
            case hy17 => (go_simp; try exact rfl)
            simp only [Act.put, List.setIfInBounds_toArray, List.set_cons_zero, List.set_cons_succ]
            refine ord_nil ?_
            gi_wp2
            have hra := rt_add (((HPW.out.rt.below HbUd.out).same fun k hk => Hcb.out.block k (Nat.lt_of_lt_of_le (HPW.out.rt.lt k hk) HbUd.out.size) (fun hm => HPW.out.dis k hm hk)).below (drew_below Wb)) v Hv.out
            rw [Hra0.out] at hra
            simp only [Val.agg] at hra
            have Hra := Lib.hid hra
            clear hra
            refine wpIn_round_ord [(0, false), (1, false), (2, false), (3, false), (4, false), (5, false), (6, true), (7, false), (8, false), (9, false), (10, false), (11, false)] (fun W' => Chg ((w2.heap.size + 1) :: (S1 ++ S2)) W0 W') (by kernel_rfl) (by kernel_rfl) (by kernel_rfl) rfl (by kernel_rfl) (by rintro ⟨_, _, h⟩; exact h) (fun _ _ _ h => h) (HCb.out.drew) ?_
            simp only [pickH, List.filterMap_cons, List.filterMap_nil, List.getElem?_toArray, List.getElem?_cons_succ, List.getElem?_cons_zero, Option.map_some]
            refine' ord_take (v := _) (by rfl) (fun wx hSw => ?hy18) ?rest18
            case hy18 => (obtain ⟨cb, csq, cT, cR, bO, _⟩ := Hcells.out wx hSw; have q2 := (bO.cell 2).trans Ho2.out; have q4 := (bO.cell 4).trans Ho4.out; have q5 := (bO.cell 5).trans Ho5.out; have q6 := (bO.cell 6).trans Ho6.out; have q7 := (bO.cell 7).trans Ho7.out; go_simp; try exact rfl)
            simp only [Act.put, List.setIfInBounds_toArray, List.set_cons_zero, List.set_cons_succ]
            refine' ord_take (v := _) (by rfl) (fun wx hSw => ?hy19) ?rest19
            case hy19 => (go_simp; try exact rfl)
            simp only [Act.put, List.setIfInBounds_toArray, List.set_cons_zero, List.set_cons_succ]
            refine' ord_take (v := _) (by rfl) (fun wx hSw => ?hy20) ?rest20
            case hy20 => (go_simp; try exact rfl)
            simp only [Act.put, List.setIfInBounds_toArray, List.set_cons_zero, List.set_cons_succ]
            refine' ord_take (v := _) (by rfl) (fun wx hSw => ?hy21) ?rest21
            case hy21 => (obtain ⟨cb, csq, cT, cR, bO, _⟩ := Hcells.out wx hSw; have q2 := (bO.cell 2).trans Ho2.out; have q4 := (bO.cell 4).trans Ho4.out; have q5 := (bO.cell 5).trans Ho5.out; have q6 := (bO.cell 6).trans Ho6.out; have q7 := (bO.cell 7).trans Ho7.out; go_simp; try exact rfl)
            simp only [Act.put, List.setIfInBounds_toArray, List.set_cons_zero, List.set_cons_succ]
            refine' ord_take (v := _) (by rfl) (fun wx hSw => ?hy22) ?rest22
            case hy22 => (go_simp; try exact rfl)
            simp only [Act.put, List.setIfInBounds_toArray, List.set_cons_zero, List.set_cons_succ]
            refine' ord_take (v := _) (by rfl) (fun wx hSw => ?hy23) ?rest23
            case hy23 => (obtain ⟨cb, csq, cT, cR, bO, _⟩ := Hcells.out wx hSw; have q2 := (bO.cell 2).trans Ho2.out; have q4 := (bO.cell 4).trans Ho4.out; have q5 := (bO.cell 5).trans Ho5.out; have q6 := (bO.cell 6).trans Ho6.out; have q7 := (bO.cell 7).trans Ho7.out; go_simp; try exact rfl)
            simp only [Act.put, List.setIfInBounds_toArray, List.set_cons_zero, List.set_cons_succ]
            refine ord_call (by rfl) (fun K hK => ?_)
            go_simp
            refine Hra.out.mono ?_
            rintro e Wc ⟨S2c, rfl, hrtc, hcc, hsc⟩
            have Hst := Lib.hid (HPW.out.step2 HbUd.out Hptb.out Hcb.out Hgb.out hrtc hcc.drew' hsc)
            have HCc := Lib.hid (show Chg ((w2.heap.size + 1) :: (S1 ++ S2)) W0 Wc from HCb.out.drew.trans hcc (fun x hx => .inl (List.mem_cons_of_mem _ (List.mem_append_right _ hx))))
            clear hrtc hcc hsc
            refine hK.out _ _ HCc.out ?_
            clear hK K
            refine' ord_take (v := _) (by rfl) (fun wx hSw => ?hy24) ?rest24
            case hy24 => (go_simp; try exact rfl)
            simp only [Act.put, List.setIfInBounds_toArray, List.set_cons_zero, List.set_cons_succ]
            refine' ord_take (v := _) (by rfl) (fun wx hSw => ?hy25) ?rest25
            case hy25 => (go_simp; try exact rfl)
            simp only [Act.put, List.setIfInBounds_toArray, List.set_cons_zero, List.set_cons_succ]
            refine' ord_take (v := _) (by rfl) (fun wx hSw => ?hy26) ?rest26
            case hy26 => (go_simp; try exact rfl)
            simp only [Act.put, List.setIfInBounds_toArray, List.set_cons_zero, List.set_cons_succ]
            refine' ord_take (v := _) (by rfl) (fun wx hSw => ?hy27) ?rest27
            case hy27 => (go_simp; try exact rfl)
            simp only [Act.put, List.setIfInBounds_toArray, List.set_cons_zero, List.set_cons_succ]
            refine' ord_take (v := _) (by rfl) (fun wx hSw => ?hy28) ?rest28
            case hy28 => (go_simp; try exact rfl)
            simp only [Act.put, List.setIfInBounds_toArray, List.set_cons_zero, List.set_cons_succ]
            refine ord_nil ?_
            obtain ⟨hPc, hC5, hGb, hSb⟩ := Hst.out
            have hz0 := HC.out.size
            have HPc := Lib.hid hPc
            have HC5 := Lib.hid hC5
            have HGb := Lib.hid hGb
            have HSb := Lib.hid hSb
            have HbC := Lib.hid (drew_below Wc)
            have Hin1 := Lib.hid (show ∀ x ∈ S1b, x ∈ ((w2.heap.size + 1) :: (S1 ++ S2)) ∨ W0.heap.size ≤ x from fun x hx => by
              rcases hGb x hx with h | h
              · exact .inl (List.mem_cons_of_mem _ (List.mem_append_left _ h))
              · right; omega)
            have Hin2 := Lib.hid (show ∀ x ∈ S2c, x ∈ ((w2.heap.size + 1) :: (S1 ++ S2)) ∨ W0.heap.size ≤ x from fun x hx => by
              rcases hSb x hx with h | h
              · exact .inl (List.mem_cons_of_mem _ (List.mem_append_right _ h))
              · right; omega)
            have hz := Hz.out
            have hw0 := HB0.out.size
            have HrdV := Lib.hid (show ∀ W' : World, Chg ((w2.heap.size + 1) :: (S1 ++ S2)) W0 W' → RdV W' A l from fun W' hC' => (Hl.out.below HB0.out).chg hC' (fun hne a ha hm => by
              obtain ⟨h1, h2, h3⟩ := HB.out hne a ha
              rcases List.mem_cons.1 hm with h | h
              · omega
              · rcases List.mem_append.1 h with h | h
                · exact h1 h
                · exact h2 h))
            have HapB := Lib.hid (show ∀ W' : World, Wc.heap.size ≤ W'.heap.size → l ≠ [] → ∀ a, A = some a → a.block ∉ S1b ∧ a.block ∉ S2c ∧ a.block < W'.heap.size from fun W' hW' hne a ha => by
              obtain ⟨h1, h2, h3⟩ := HB.out hne a ha
              have hz5 := HC5.out.size
              refine ⟨fun hm => ?_, fun hm => ?_, by omega⟩
              · rcases HGb.out _ hm with h | h
                · exact h1 h
                · omega
              · rcases HSb.out _ hm with h | h
                · exact h2 h
                · omega)
            clear hPc hC5 hGb hSb hz hw0 hz0
            gi_wp2
            have hpc := pt_cut (HPc.out.pt.below HbC.out) n
            rw [hcu] at hpc
            have Hpc := Lib.hid hpc
            clear hpc
            refine wpIn_round_ord [(0, false), (1, false), (2, false), (3, false), (4, false), (5, false), (6, false), (7, false), (8, false), (9, false), (10, false), (11, false), (12, false), (13, false), (14, false), (16, false), (17, false), (18, false), (19, false), (20, false), (21, false), (15, true), (22, true), (23, false), (24, false), (25, false), (26, false), (27, false), (28, false), (29, false), (30, true), (31, false), (32, false), (33, false), (34, false), (35, false), (36, false), (37, false), (38, false), (39, true), (40, true), (41, false), (42, false)] (fun W' => Chg ((w2.heap.size + 1) :: (S1 ++ S2)) W0 W') (by kernel_rfl) (by kernel_rfl) (by kernel_rfl) rfl (by kernel_rfl) (by rintro ⟨_, _, h⟩; exact h) (fun _ _ _ h => h) (HCc.out.drew) ?_
            simp only [pickH, List.filterMap_cons, List.filterMap_nil, List.getElem?_toArray, List.getElem?_cons_succ, List.getElem?_cons_zero, Option.map_some]
            refine' ord_take (v := _) (by rfl) (fun wx hSw => ?hy29) ?rest29
            case hy29 => (go_simp; try exact rfl)
            simp only [Act.put, List.setIfInBounds_toArray, List.set_cons_zero, List.set_cons_succ]
            refine' ord_take (v := _) (by rfl) (fun wx hSw => ?hy30) ?rest30
            case hy30 => (go_simp; try exact rfl)
            simp only [Act.put, List.setIfInBounds_toArray, List.set_cons_zero, List.set_cons_succ]
            refine' ord_take (v := _) (by rfl) (fun wx hSw => ?hy31) ?rest31
            case hy31 => (go_simp; try exact rfl)
            simp only [Act.put, List.setIfInBounds_toArray, List.set_cons_zero, List.set_cons_succ]
            refine' ord_take (v := _) (by rfl) (fun wx hSw => ?hy32) ?rest32
            case hy32 => (go_simp; try exact rfl)
            simp only [Act.put, List.setIfInBounds_toArray, List.set_cons_zero, List.set_cons_succ]
            refine' ord_take (v := _) (by rfl) (fun wx hSw => ?hy33) ?rest33
            case hy33 => (go_simp; try exact rfl)
            simp only [Act.put, List.setIfInBounds_toArray, List.set_cons_zero, List.set_cons_succ]
            refine' ord_take (v := _) (by rfl) (fun wx hSw => ?hy34) ?rest34
            case hy34 => (go_simp; try exact rfl)
            simp only [Act.put, List.setIfInBounds_toArray, List.set_cons_zero, List.set_cons_succ]
            refine' ord_take (v := _) (by rfl) (fun wx hSw => ?hy35) ?rest35
            case hy35 => (go_simp; try exact rfl)
            simp only [Act.put, List.setIfInBounds_toArray, List.set_cons_zero, List.set_cons_succ]
            refine' ord_take (v := _) (by rfl) (fun wx hSw => ?hy36) ?rest36
            case hy36 => (go_simp; try exact rfl)
            simp only [Act.put, List.setIfInBounds_toArray, List.set_cons_zero, List.set_cons_succ]
            refine' ord_take (v := _) (by rfl) (fun wx hSw => ?hy37) ?rest37
            case hy37 => (go_simp; try exact rfl)
            simp only [Act.put, List.setIfInBounds_toArray, List.set_cons_zero, List.set_cons_succ]
            refine' ord_take (v := _) (by rfl) (fun wx hSw => ?hy38) ?rest38
            case hy38 => (obtain ⟨cb, csq, cT, cR, bO, _⟩ := Hcells.out wx hSw; have q2 := (bO.cell 2).trans Ho2.out; have q4 := (bO.cell 4).trans Ho4.out; have q5 := (bO.cell 5).trans Ho5.out; have q6 := (bO.cell 6).trans Ho6.out; have q7 := (bO.cell 7).trans Ho7.out; go_simp; try exact rfl)
            simp only [Act.put, List.setIfInBounds_toArray, List.set_cons_zero, List.set_cons_succ]
            refine' ord_take (v := _) (by rfl) (fun wx hSw => ?hy39) ?rest39
            case hy39 => (go_simp; try exact rfl)
            simp only [Act.put, List.setIfInBounds_toArray, List.set_cons_zero, List.set_cons_succ]
            refine' ord_take (v := _) (by rfl) (fun wx hSw => ?hy40) ?rest40
            case hy40 => (go_simp; try exact rfl)
            simp only [Act.put, List.setIfInBounds_toArray, List.set_cons_zero, List.set_cons_succ]
            refine' ord_take (v := _) (by rfl) (fun wx hSw => ?hy41) ?rest41
            case hy41 => (obtain ⟨cb, csq, cT, cR, bO, _⟩ := Hcells.out wx hSw; have q2 := (bO.cell 2).trans Ho2.out; have q4 := (bO.cell 4).trans Ho4.out; have q5 := (bO.cell 5).trans Ho5.out; have q6 := (bO.cell 6).trans Ho6.out; have q7 := (bO.cell 7).trans Ho7.out; go_simp; try exact rfl)
            simp only [Act.put, List.setIfInBounds_toArray, List.set_cons_zero, List.set_cons_succ]
            refine' ord_take (v := _) (by rfl) (fun wx hSw => ?hy42) ?rest42
            case hy42 => (go_simp; try exact rfl)
            simp only [Act.put, List.setIfInBounds_toArray, List.set_cons_zero, List.set_cons_succ]
            refine' ord_take (v := _) (by rfl) (fun wx hSw => ?hy43) ?rest43
            case hy43 => (obtain ⟨cb, csq, cT, cR, bO, _⟩ := Hcells.out wx hSw; have q2 := (bO.cell 2).trans Ho2.out; have q4 := (bO.cell 4).trans Ho4.out; have q5 := (bO.cell 5).trans Ho5.out; have q6 := (bO.cell 6).trans Ho6.out; have q7 := (bO.cell 7).trans Ho7.out; go_simp; try exact rfl)
            simp only [Act.put, List.setIfInBounds_toArray, List.set_cons_zero, List.set_cons_succ]
            refine' ord_take (v := _) (by rfl) (fun wx hSw => ?hy44) ?rest44
            case hy44 => (obtain ⟨cb, csq, cT, cR, bO, _⟩ := Hcells.out wx hSw; have q2 := (bO.cell 2).trans Ho2.out; have q4 := (bO.cell 4).trans Ho4.out; have q5 := (bO.cell 5).trans Ho5.out; have q6 := (bO.cell 6).trans Ho6.out; have q7 := (bO.cell 7).trans Ho7.out; go_simp; try exact rfl)
            simp only [Act.put, List.setIfInBounds_toArray, List.set_cons_zero, List.set_cons_succ]
            refine' ord_take (v := _) (by rfl) (fun wx hSw => ?hy45) ?rest45
            case hy45 => (go_simp; try exact rfl)
            simp only [Act.put, List.setIfInBounds_toArray, List.set_cons_zero, List.set_cons_succ]
            refine' ord_take (v := _) (by rfl) (fun wx hSw => ?hy46) ?rest46
            case hy46 => (go_simp; try exact rfl)
            simp only [Act.put, List.setIfInBounds_toArray, List.set_cons_zero, List.set_cons_succ]
            refine' ord_take (v := _) (by rfl) (fun wx hSw => ?hy47) ?rest47
            case hy47 => (obtain ⟨cb, csq, cT, cR, bO, _⟩ := Hcells.out wx hSw; have q2 := (bO.cell 2).trans Ho2.out; have q4 := (bO.cell 4).trans Ho4.out; have q5 := (bO.cell 5).trans Ho5.out; have q6 := (bO.cell 6).trans Ho6.out; have q7 := (bO.cell 7).trans Ho7.out; go_simp; try exact rfl)
            simp only [Act.put, List.setIfInBounds_toArray, List.set_cons_zero, List.set_cons_succ]
            refine' ord_take (v := _) (by rfl) (fun wx hSw => ?hy48) ?rest48
            case hy48 => (go_simp; try exact rfl)
            simp only [Act.put, List.setIfInBounds_toArray, List.set_cons_zero, List.set_cons_succ]
            refine' ord_take (v := _) (by rfl) (fun wx hSw => ?hy49) ?rest49
            case hy49 => (obtain ⟨cb, csq, cT, cR, bO, _⟩ := Hcells.out wx hSw; have q2 := (bO.cell 2).trans Ho2.out; have q4 := (bO.cell 4).trans Ho4.out; have q5 := (bO.cell 5).trans Ho5.out; have q6 := (bO.cell 6).trans Ho6.out; have q7 := (bO.cell 7).trans Ho7.out; go_simp; try exact rfl)
            simp only [Act.put, List.setIfInBounds_toArray, List.set_cons_zero, List.set_cons_succ]
            refine ord_call (by rfl) (fun K hK => ?_)
            go_simp
            refine Hpc.out.mono ?_
            rintro e Wd ⟨rfl, hptd, hcd⟩
            have Hptd := Lib.hid hptd
            have Hcd := Lib.hid hcd
            have HCd := Lib.hid (show Chg ((w2.heap.size + 1) :: (S1 ++ S2)) W0 Wd from HCc.out.drew.trans hcd Hin1.out)
            have hrc := rt_cut ((HPc.out.rt.below HbC.out).same fun k hk => hcd.block k (HPc.out.rt.lt k hk) (fun hm => HPc.out.dis k hm hk)) n
            rw [hcu] at hrc
            have Hrc := Lib.hid hrc
            clear hptd hcd hrc
            refine hK.out _ _ HCd.out ?_
            clear hK K
            refine ord_call (by rfl) (fun K hK => ?_)
            go_simp
            refine Hrc.out.mono ?_
            rintro e We ⟨rfl, hrte, hce⟩
            have Hste := Lib.hid (HPc.out.step2 HbC.out Hptd.out Hcd.out (Grew.refl _ _) hrte hce (fun k hk => .inl hk))
            have HCe := Lib.hid (show Chg ((w2.heap.size + 1) :: (S1 ++ S2)) W0 We from HCd.out.trans hce Hin2.out)
            have hro := rows_lists Hste.out.1 0 4 0 0 (by decide) Val.zero l A cap (List.replicate 24 0) HA.out (HrdV.out We HCe.out) Hwf.out Hreach.out (HapB.out We Hste.out.2.1.size)
            have Hro := Lib.hid hro
            clear hrte hce hro
            refine hK.out _ _ HCe.out ?_
            clear hK K
            refine' ord_take (v := _) (by rfl) (fun wx hSw => ?hy50) ?rest50
            case hy50 => (go_simp; try exact rfl)
            simp only [Act.put, List.setIfInBounds_toArray, List.set_cons_zero, List.set_cons_succ]
            refine' ord_take (v := _) (by rfl) (fun wx hSw => ?hy51) ?rest51
            case hy51 => (go_simp; try exact rfl)
            simp only [Act.put, List.setIfInBounds_toArray, List.set_cons_zero, List.set_cons_succ]
            refine' ord_take (v := _) (by rfl) (fun wx hSw => ?hy52) ?rest52
            case hy52 => (go_simp; try exact rfl)
            simp only [Act.put, List.setIfInBounds_toArray, List.set_cons_zero, List.set_cons_succ]
            refine' ord_take (v := _) (by rfl) (fun wx hSw => ?hy53) ?rest53
            case hy53 => (obtain ⟨cb, csq, cT, cR, bO, _⟩ := Hcells.out wx hSw; have q2 := (bO.cell 2).trans Ho2.out; have q4 := (bO.cell 4).trans Ho4.out; have q5 := (bO.cell 5).trans Ho5.out; have q6 := (bO.cell 6).trans Ho6.out; have q7 := (bO.cell 7).trans Ho7.out; go_simp; try exact rfl)
            simp only [Act.put, List.setIfInBounds_toArray, List.set_cons_zero, List.set_cons_succ]
            refine' ord_take (v := _) (by rfl) (fun wx hSw => ?hy54) ?rest54
            case hy54 => (go_simp; try exact rfl)
            simp only [Act.put, List.setIfInBounds_toArray, List.set_cons_zero, List.set_cons_succ]
            refine' ord_take (v := _) (by rfl) (fun wx hSw => ?hy55) ?rest55
            case hy55 => (obtain ⟨cb, csq, cT, cR, bO, _⟩ := Hcells.out wx hSw; have q2 := (bO.cell 2).trans Ho2.out; have q4 := (bO.cell 4).trans Ho4.out; have q5 := (bO.cell 5).trans Ho5.out; have q6 := (bO.cell 6).trans Ho6.out; have q7 := (bO.cell 7).trans Ho7.out; go_simp; try exact rfl)
            simp only [Act.put, List.setIfInBounds_toArray, List.set_cons_zero, List.set_cons_succ]
            refine' ord_take (v := _) (by rfl) (fun wx hSw => ?hy56) ?rest56
            case hy56 => (go_simp; try exact rfl)
            simp only [Act.put, List.setIfInBounds_toArray, List.set_cons_zero, List.set_cons_succ]
            refine ord_call (by rfl) (fun K hK => ?_)
            go_simp
            refine Hro.out.mono ?_
            rintro e Wf ⟨rfl, S1f, S2f, hPf, hCf, hGf, hSf⟩
            have HPf := Lib.hid hPf
            have HCff := Lib.hid hCf
            have HGf := Lib.hid hGf
            have HSf := Lib.hid hSf
            have HCf := Lib.hid (show Chg ((w2.heap.size + 1) :: (S1 ++ S2)) W0 Wf from HCe.out.trans hCf (fun x hx => by
              rcases List.mem_append.1 hx with h | h
              · exact Hin1.out x h
              · exact Hin2.out x h))
            have Hal := Lib.hid (rt_all hPf.rt)
            clear hPf hCf hGf hSf
            refine hK.out _ _ HCf.out ?_
            clear hK K
            refine' ord_take (v := _) (by rfl) (fun wx hSw => ?hy57) ?rest57
            case hy57 => (go_simp; try exact rfl)
            simp only [Act.put, List.setIfInBounds_toArray, List.set_cons_zero, List.set_cons_succ]
            refine' ord_take (v := _) (by rfl) (fun wx hSw => ?hy58) ?rest58
            case hy58 => (go_simp; try exact rfl)
            simp only [Act.put, List.setIfInBounds_toArray, List.set_cons_zero, List.set_cons_succ]
            refine' ord_take (v := _) (by rfl) (fun wx hSw => ?hy59) ?rest59
            case hy59 => (go_simp; try exact rfl)
            simp only [Act.put, List.setIfInBounds_toArray, List.set_cons_zero, List.set_cons_succ]
            refine' ord_take (v := _) (by rfl) (fun wx hSw => ?hy60) ?rest60
            case hy60 => (obtain ⟨cb, csq, cT, cR, bO, _⟩ := Hcells.out wx hSw; have q2 := (bO.cell 2).trans Ho2.out; have q4 := (bO.cell 4).trans Ho4.out; have q5 := (bO.cell 5).trans Ho5.out; have q6 := (bO.cell 6).trans Ho6.out; have q7 := (bO.cell 7).trans Ho7.out; go_simp; try exact rfl)
            simp only [Act.put, List.setIfInBounds_toArray, List.set_cons_zero, List.set_cons_succ]
            refine' ord_take (v := _) (by rfl) (fun wx hSw => ?hy61) ?rest61
            case hy61 => (obtain ⟨cb, csq, cT, cR, bO, _⟩ := Hcells.out wx hSw; have q2 := (bO.cell 2).trans Ho2.out; have q4 := (bO.cell 4).trans Ho4.out; have q5 := (bO.cell 5).trans Ho5.out; have q6 := (bO.cell 6).trans Ho6.out; have q7 := (bO.cell 7).trans Ho7.out; go_simp; try exact rfl)
            simp only [Act.put, List.setIfInBounds_toArray, List.set_cons_zero, List.set_cons_succ]
            refine' ord_take (v := _) (by rfl) (fun wx hSw => ?hy62) ?rest62
            case hy62 => (go_simp; try exact rfl)
            simp only [Act.put, List.setIfInBounds_toArray, List.set_cons_zero, List.set_cons_succ]
            refine' ord_take (v := _) (by rfl) (fun wx hSw => ?hy63) ?rest63
            case hy63 => (go_simp; try exact rfl)
            simp only [Act.put, List.setIfInBounds_toArray, List.set_cons_zero, List.set_cons_succ]
            refine' ord_take (v := _) (by rfl) (fun wx hSw => ?hy64) ?rest64
            case hy64 => (obtain ⟨cb, csq, cT, cR, bO, _⟩ := Hcells.out wx hSw; have q2 := (bO.cell 2).trans Ho2.out; have q4 := (bO.cell 4).trans Ho4.out; have q5 := (bO.cell 5).trans Ho5.out; have q6 := (bO.cell 6).trans Ho6.out; have q7 := (bO.cell 7).trans Ho7.out; go_simp; try exact rfl)
            simp only [Act.put, List.setIfInBounds_toArray, List.set_cons_zero, List.set_cons_succ]
            refine ord_call (by rfl) (fun K hK => ?_)
            go_simp
            refine Hal.out.mono ?_
            rintro e Wg ⟨Bg, capg, rfl, hNg, _, hbg⟩
            have HbWg := Lib.hid hbg
            have HCg := Lib.hid (show Chg ((w2.heap.size + 1) :: (S1 ++ S2)) W0 Wg from HCf.out.trans (Chg.of_below [] hbg) (fun x hx => by cases hx))
            have Htg := Lib.hid (tells_any (Hkbox.out Wg HCg.out) (HPf.out.pt.below hbg) Bg capg hNg (-1))
            clear hNg hbg
            refine hK.out _ _ HCg.out ?_
            clear hK K
            refine ord_call (by rfl) (fun K hK => ?_)
            go_simp
            refine Htg.out.mono ?_
            rintro e Wh ⟨rfl, hbh⟩
            have HbWh := Lib.hid (show Below Wf.heap.size Wf Wh from HbWg.out.trans (hbh.mono HbWg.out.size))
            have HCh := Lib.hid (show Chg ((w2.heap.size + 1) :: (S1 ++ S2)) W0 Wh from HCg.out.trans (Chg.of_below [] hbh) (fun x hx => by cases hx))
            clear hbh
            refine hK.out _ _ HCh.out ?_
            clear hK K
            refine' ord_take (v := _) (by rfl) (fun wx hSw => ?hy65) ?rest65
            case hy65 => (go_simp; try exact rfl)
            simp only [Act.put, List.setIfInBounds_toArray, List.set_cons_zero, List.set_cons_succ]
            refine' ord_take (v := _) (by rfl) (fun wx hSw => ?hy66) ?rest66
            case hy66 => (go_simp; try exact rfl)
            simp only [Act.put, List.setIfInBounds_toArray, List.set_cons_zero, List.set_cons_succ]
            refine ord_nil ?_
            have hb1 : ∀ x ∈ S1b ++ S2c, x ∈ S1 ++ S2 ∨ W.heap.size ≤ x := fun x hx => by
              rcases List.mem_append.1 hx with h | h
              · rcases HGb.out x h with h | h
                · exact .inl (List.mem_append_left _ h)
                · exact .inr h
              · rcases HSb.out x h with h | h
                · exact .inl (List.mem_append_right _ h)
                · exact .inr h
            have hcWf : Chg (S1 ++ S2) W Wf := (HC5.out.trans Hste.out.2.1 hb1).trans HCff.out hb1
            have hcWh : Chg (S1 ++ S2) W Wh := hcWf.trans (Chg.of_below [] HbWh.out) (fun x hx => by cases hx)
            have hz1 : W.heap.size ≤ We.heap.size := Nat.le_trans HC5.out.size Hste.out.2.1.size
            have hzW := HC.out.size
            have hgf : Grew W.heap.size S1 S1f := ⟨fun x hx => by
              rcases HGf.out x hx with h | h
              · exact HGb.out x h
              · right; omega, HGf.out.map.trans HGb.out.map⟩
            have hsf : ∀ x ∈ S2f, x ∈ S2 ∨ W.heap.size ≤ x := fun x hx => by
              rcases HSf.out x hx with h | h
              · exact HSb.out x h
              · right; omega
            have Haft := Lib.hid (AmidSt.after (st := st) (e := ((pre ++ [((yi, ⟨yk, yn, ys⟩) : Nat × Val)]).length : Int) ≤ (k : Int)) HC.out (HPf.out.below HbWh.out) hcWh hgf hsf (fun h => by have := Hlx.out; omega))
            have hkS : w2.heap.size + 1 ∉ S1 ++ S2 := fun h => by
              rcases List.mem_append.1 h with h | h
              · exact hkb0 h
              · exact hkb0' h
            have hzz := Hz.out
            have hbk : Wh.heap[w2.heap.size + 1]? = W.heap[w2.heap.size + 1]? := hcWh.block _ (by omega) hkS
            have c4h : Wh.cell? ⟨w2.heap.size + 1, 0, none⟩ = some (.int .i64 (k : Int)) := (World.cell?_of_block (w := W) (a := ⟨w2.heap.size + 1, 0, none⟩) hbk).trans c4
            have f4h : Wh.frozen? ⟨w2.heap.size + 1, 0, none⟩ = false := (World.frozen?_of_block (w := W) (a := ⟨w2.heap.size + 1, 0, none⟩) hbk).trans f4
            have HcWh := Lib.hid hcWh
            clear hb1 hcWf hcWh hz1 hzW hgf hsf hkS hbk hzz
            gi_wp2
            have hz := Hz.out
            have hSlt : ∀ x ∈ S1 ++ S2, x < W0.heap.size := fun x hx => by
              have := HB0.out.size
              rcases List.mem_append.1 hx with h | h
              · have := H.out.pt.lt x h; omega
              · have := H.out.rt.lt x h; omega
            refine ⟨(KeepsFrom.of_chg HcWh.out hSlt).trans ((KeepsOthers.setCell _ _ _).from _), kc_t (Kc.of_chg HcWh.out hSlt) (Kc.setCell _ _ _ (by dsimp only; omega)), ⟨?_, (World.frozen?_setCell _ _ _ _).trans f4h, Htk.out _ rfl, by have := Hlx.out; omega⟩, Haft.out.tick (by omega) hkb0 hkb0' hbbk 0 _ (fun h => by omega)⟩
            rw [Hlx.out]
            exact World.cell?_setCell_same' _ _ _ (by rw [c4h]; rfl)
          · have hdm : ((k : Int) == m) = false := by simpa using hkm
            gi_wp2
            refine wpIn_round_quiet (by kernel_rfl) (by kernel_rfl) (by kernel_rfl) (by rintro ⟨_, _, h⟩; exact h) ?_
            repeat (go_big_quiet_step (fail))
            refine wpQuiet_nil ?_
            rintro _ ⟨nq, rfl⟩
            gi_wp2
            have hz := Hz.out
            refine ⟨((KeepsOthers.drewN W nq).trans (KeepsOthers.setCell _ _ _)).from _, kc_t (Kc.drewN _ W nq) (Kc.setCell _ _ _ (by dsimp only; omega)), ⟨?_, (World.frozen?_setCell _ _ _ _).trans f4, Htk.out _ rfl, by have := Hlx.out; omega⟩, HSt.out.tick (by omega) hkb0 hkb0' hbbk nq _ (fun h => by rw [Hlx.out] at h; rw [Hk.out]; omega)⟩
            rw [Hlx.out]
            exact World.cell?_setCell_same' _ _ _ (by show (W.cell? _).isSome = true; rw [c4]; rfl)
        · have hnp := Hsn.out (yi, ⟨vk, vn, s⟩) (fun h => hv (congrArg Prod.snd h))
          have hveq : veq ⟨yk, yn, ys⟩ ⟨vk, vn, s⟩ = false := by unfold veq; exact decide_eq_false hv
          gi_wp2
          refine wpIn_round_quiet (by kernel_rfl) (by kernel_rfl) (by kernel_rfl) (by rintro ⟨_, _, h⟩; exact h) ?_
          repeat (go_big_quiet_step (fail))
          refine wpQuiet_nil ?_
          rintro _ ⟨nq, rfl⟩
          gi_wp2
          exact ⟨((KeepsOthers.drewN W nq).trans (KeepsOthers.setCell _ _ _)).from _, hnp⟩
      · have hnp := Hsn.out (xi, ⟨vk, vn, s⟩) (fun h => hi (congrArg Prod.fst h))
        have hne : ((yi : Int) == (xi : Int)) = false := by simp; omega
        have hne2 : ((yi : Int) != (xi : Int)) = true := by simp; omega
        gi_wp2
        refine wpIn_round_quiet (by kernel_rfl) (by kernel_rfl) (by kernel_rfl) (by rintro ⟨_, _, h⟩; exact h) ?_
        repeat (go_big_quiet_step (fail))
        refine wpQuiet_nil ?_
        rintro _ ⟨nq, rfl⟩
        gi_wp2
        exact ⟨((KeepsOthers.drewN W nq).trans (KeepsOthers.setCell _ _ _)).from _, hnp⟩
  case stop =>
    rintro D c pre W _ hSp h _
    exact absurd hSp h
  case done =>
    rintro D xs W hD rfl ⟨⟨c4, f4, hpre, hpl⟩, hC, st', S1', S2', hP, hG, hS2', hE⟩ hK
    rw [Hq.out] at c4
    obtain ⟨cb, csq, cT, cR, bO, c1, c3, f3⟩ := Hcells.out W hC
    have HK := Lib.hid hK
    have HP' := Lib.hid hP
    have HC := Lib.hid hC
    have HG := Lib.hid hG
    have HS2' := Lib.hid hS2'
    have HD := Lib.hid hD
    clear hK hP hC hG hS2' hE hD bO hfn hpre hpl
    gi_wp2
    have hz := Hz.out
    have hK' := (KeepsOthers.setCell W ⟨w.heap.size + 1 + 1, 0, none⟩ (.bool true)).same D _ HK.out rfl
    refine ⟨by simp, .inl ⟨_, _, rfl, run_takeDeferred hK', ?_⟩⟩
    have hc5 := cell_kept (World.cell?_setCell_same' W ⟨w.heap.size + 1 + 1, 0, none⟩ (.bool true) (by rw [c3]; rfl)) (grownBy_putObj' _ D (.deferred none)) (fun r e => by cases e; exact ⟨_, hK', rfl⟩)
    refine ⟨.bool true, ?_, rfl, st', S1', S2', ?_, ?_, ?_, ?_⟩
    · simp [results, Try.results46, go_sem, hc5]
    · have hc0 : Chg [w.heap.size + 1 + 1] W (W.setCell ⟨w.heap.size + 1 + 1, 0, none⟩ (.bool true)) := (Chg.refl _ _).setCell (.inl (by simp)) _
      have hP1 := HP'.out.chg hc0 (fun x hx hm => by
        rw [List.mem_singleton.1 hm] at hx
        rcases HG.out _ hx with h | h
        · have := H.out.pt.lt _ h; omega
        · omega) (fun x hx hm => by
        rw [List.mem_singleton.1 hm] at hx
        rcases HS2'.out _ hx with h | h
        · have := H.out.rt.lt _ h; omega
        · omega) (fun hm => by have := H.out.blk.lt; have := List.mem_singleton.1 hm; omega)
      exact hP1.turn (B := W0.heap.size) (fun x hx => hmapB x (by rw [← HG.out.map]; exact hx)) (grownBy_putObj' _ D (.deferred none)) (fun r e => by cases e; exact ⟨HD.out, _, hK', rfl⟩)
    · have hc1 : Chg (S1 ++ S2) w W := (Chg.of_below _ HB0.out).trans HC.out (fun x hx => by
        rcases List.mem_cons.1 hx with rfl | h
        · right; omega
        · exact .inl h)
      exact (hc1.setCell (p := ⟨w.heap.size + 1 + 1, 0, none⟩) (.inr (by show w.heap.size ≤ w.heap.size + 1 + 1; omega)) _).grown (grownBy_putObj' _ D (.deferred none)) (fun r e => by cases e; right; have := HD.out; have := HB0.out.size; omega)
    · refine ⟨fun x hx => ?_, HG.out.map⟩
      rcases HG.out x hx with h | h
      · exact .inl h
      · right; have := HB0.out.size; omega
    · intro x hx
      rcases HS2'.out x hx with h | h
      · exact .inl h
      · right; have := HB0.out.size; omega

end Go.Proofs.Ythdpaakkamccbaa

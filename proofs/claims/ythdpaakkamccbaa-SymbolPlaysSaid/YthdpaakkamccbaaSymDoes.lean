/-
  Walks: does, of Add and Find.
-/
import Derived.Test.YthdpaakkamccbaaSymRows2
namespace Go.Proofs.Ythdpaakkamccbaa
open Go.RowKit Go.Maps

/-- the program's table first, then the document's. -/
theorem Pair.step2 {w W1 W2 W3 : World} {bb bo : Nat} {bt : TypeId} {bc : Array Value} {tv rv : Value} {st st' : St} {S1 S2 S1' S2' : List Nat} (h : Pair w bb bo bt bc tv rv st S1 S2) (hb1 : Below w.heap.size w W1)
    (hp : PT W2 tv st' S1') (hc2 : Chg S1 W1 W2) (hs1 : Grew W1.heap.size S1 S1')
    (hr : RT W3 rv st' S2') (hc3 : Chg S2 W2 W3) (hs2 : ∀ k ∈ S2', k ∈ S2 ∨ W2.heap.size ≤ k) :
    Pair W3 bb bo bt bc tv rv st' S1' S2' ∧ Chg (S1 ++ S2) w W3 ∧ Grew w.heap.size S1 S1' ∧ (∀ k ∈ S2', k ∈ S2 ∨ w.heap.size ≤ k) := by
  have l1 := hp.lt
  have l2 := h.rt.lt
  have hbl := h.blk.lt
  have z1 := hb1.size
  have z2 := hc2.size
  refine ⟨⟨?_, h.at0, h.at1, ?_, hr, ?_, ?_, ?_⟩, ?_, ⟨?_, hs1.map⟩, ?_⟩
  · exact ((h.blk.same (hb1.block _ hbl)).same (hc2.block _ (by omega) h.b1)).same (hc3.block _ (by omega) h.b2)
  · refine hp.same fun k hk => hc3.block k (l1 k hk) (fun hm => ?_)
    rcases hs1 k hk with h1 | h1
    · exact h.dis k h1 hm
    · have := l2 k hm; omega
  · intro k hk hk2
    rcases hs1 k hk with h1 | h1
    · rcases hs2 k hk2 with h3 | h3
      · exact h.dis k h1 h3
      · have := h.pt.lt k h1; omega
    · rcases hs2 k hk2 with h3 | h3
      · have := l2 k h3; omega
      · have := l1 k hk; omega
  · intro hm
    rcases hs1 bb hm with h1 | h1
    · exact h.b1 h1
    · omega
  · intro hm
    rcases hs2 bb hm with h1 | h1
    · exact h.b2 h1
    · omega
  · have c1 : Chg (S1 ++ S2) w W2 := (Chg.of_below _ hb1).trans hc2 (fun x hx => .inl (List.mem_append_left _ hx))
    exact c1.trans hc3 (fun x hx => .inl (List.mem_append_right _ hx))
  · intro k hk
    rcases hs1 k hk with h1 | h1
    · exact .inl h1
    · right; omega
  · intro k hk
    rcases hs2 k hk with h1 | h1
    · exact .inl h1
    · right; omega

theorem Chg.drew' {S : List Nat} {w w' : World} (h : Chg S w.drew w') : Chg S w w' := ⟨h.os, h.tape, h.output, h.size, h.block⟩

set_option maxRecDepth 100000 in
set_option maxHeartbeats 2000000 in
theorem does_add {w : World} {bb bo : Nat} {bt : TypeId} {bc : Array Value} {tv rv : Value} {st : St} {S1 S2 : List Nat} (h : Pair w bb bo bt bc tv rv st S1 S2) (on n m : Int) (v : Val) (hv : v.wf) (L : Value) (rs : List Int) :
    Calls Try.prog 24 #[.pointer (some ⟨bb, bo, none⟩), .agg (opC on 1 n m v L rs)] w fun e w' =>
      e = .returned (.bool true) ∧ ∃ S1' S2', Pair w' bb bo bt bc tv rv (addA st v).2 S1' S2' ∧ Chg (S1 ++ S2) w w' ∧ Grew w.heap.size S1 S1' ∧ (∀ k ∈ S2', k ∈ S2 ∨ w.heap.size ≤ k) := by
  have hp := fun (W : World) (hb : Below w.heap.size w W) => pt_add (h.pt.below hb) v hv
  have hr := fun (W1 W2 : World) (hb : Below w.heap.size w W1) (hc : Chg S1 W1 W2) => rt_add ((h.rt.below hb).same fun k hk => hc.block k (Nat.lt_of_lt_of_le (h.rt.lt k hk) hb.size) (fun hm => h.dis k hm hk)) v hv
  obtain ⟨pT, rfl⟩ := h.pt.ptr
  obtain ⟨pR, rfl⟩ := h.rt.ptr
  have H := Lib.hid h
  have Hc0 := Lib.hid h.at0
  have Hc1 := Lib.hid h.at1
  obtain ⟨o0, o1, o2, o3, o4, o5, o6, o7⟩ := opC_at on 1 n m v L rs
  obtain ⟨O, hO⟩ : ∃ O, opC on 1 n m v L rs = O := ⟨_, rfl⟩
  rw [hO] at o0 o1 o2 o3 o4 o5 o6 o7 ⊢
  obtain ⟨⟨⟨num, code⟩, st'⟩, hra⟩ : ∃ R, addA st v = R := ⟨_, rfl⟩
  rw [hra] at hp hr ⊢
  clear hra hO h
  simp only at hp hr ⊢
  obtain ⟨vk, vn, s⟩ := v
  simp only [Val.agg] at hp hr o4 o5 o6
  have Hp := Lib.hid hp
  have Hr := Lib.hid hr
  have Ho1 := Lib.hid o1
  have Ho4 := Lib.hid o4
  have Ho5 := Lib.hid o5
  have Ho6 := Lib.hid o6
  clear hp hr o0 o1 o2 o3 o4 o5 o6 o7 hv
  go_enter Try.func24, Try.ntmps24
  go_upto_region 1 with fail
  have h3 := tup_new w O 68
  generalize w.alloc (.cells O 68) = W1 at h3 ⊢
  obtain ⟨hb1, hop, hs1⟩ := h3
  have c1 : W1.cell? ⟨w.heap.size, 1, none⟩ = some (.int .i64 1) := (hop.cell 1).trans Ho1.out
  have Hs1 := Lib.hid hs1
  have hcb : ∀ W : World, W.heap[bb]? = W1.heap[bb]? → W.heap[w.heap.size]? = W1.heap[w.heap.size]? → W.cell? ⟨bb, bo, none⟩ = some (.pointer pT) ∧ W.cell? ⟨bb, bo + 1, none⟩ = some (.pointer pR) ∧ W.cell? ⟨w.heap.size, 4, none⟩ = some (.int .i8 vk) ∧ W.cell? ⟨w.heap.size, 5, none⟩ = some (.int .i64 vn) ∧ W.cell? ⟨w.heap.size, 6, none⟩ = some (.string s) := fun W e1 e2 => by
    have hbk := (H.out.blk.same (hb1.block _ H.out.blk.lt)).same e1
    have hok := hop.same e2
    exact ⟨(hbk.cell bo).trans Hc0.out, (hbk.cell (bo + 1)).trans Hc1.out, (hok.cell 4).trans Ho4.out, (hok.cell 5).trans Ho5.out, (hok.cell 6).trans Ho6.out⟩
  have Hcb := Lib.hid hcb
  have hob : w.heap.size < W1.heap.size := hop.lt
  have hbbl : bb < W1.heap.size := Nat.lt_of_lt_of_le H.out.blk.lt hb1.size
  have hon : w.heap.size ∉ S1 := fun hm => by have := H.out.pt.lt _ hm; omega
  have hon2 : w.heap.size ∉ S2 := fun hm => by have := H.out.rt.lt _ hm; omega
  have hbn := H.out.b1
  have hbn2 := H.out.b2
  clear hop hcb hs1
  go_upto_region 3 with fail
  go_cut [5, 6] (fun x e wx => ∃ S1', x = .int .i32 (num : Int) ∧ e = .int .i64 code ∧ PT wx (.pointer pT) st' S1' ∧ Chg S1 W1 wx ∧ Grew W1.heap.size S1 S1')
  case first =>
    have hS0 : W1.drew.cell? ⟨bb, bo, none⟩ = some (.pointer pT) ∧ W1.drew.cell? ⟨w.heap.size, 4, none⟩ = some (.int .i8 vk) ∧ W1.drew.cell? ⟨w.heap.size, 5, none⟩ = some (.int .i64 vn) ∧ W1.drew.cell? ⟨w.heap.size, 6, none⟩ = some (.string s) := by
      have := Hcb.out W1.drew rfl rfl; exact ⟨this.1, this.2.2⟩
    have Hp1 := Lib.hid (Hp.out W1.drew (hb1.trans ((drew_below W1).mono hb1.size)))
    go_region_held3 (fun W' : World => W'.cell? ⟨bb, bo, none⟩ = some (.pointer pT) ∧ W'.cell? ⟨w.heap.size, 4, none⟩ = some (.int .i8 vk) ∧ W'.cell? ⟨w.heap.size, 5, none⟩ = some (.int .i64 vn) ∧ W'.cell? ⟨w.heap.size, 6, none⟩ = some (.string s)) (first | exact hS0 | exact hS1) (first
      | (go_at_call 16; refine Hp1.out.mono ?_; rintro e Wt ⟨S1', rfl, hpt, hct, hst⟩
         have hS1 : Wt.cell? ⟨bb, bo, none⟩ = some (.pointer pT) ∧ Wt.cell? ⟨w.heap.size, 4, none⟩ = some (.int .i8 vk) ∧ Wt.cell? ⟨w.heap.size, 5, none⟩ = some (.int .i64 vn) ∧ Wt.cell? ⟨w.heap.size, 6, none⟩ = some (.string s) := by
           have := Hcb.out Wt (hct.block _ hbbl hbn) (hct.block _ hob hon); exact ⟨this.1, this.2.2⟩))
    all_goals (go_wp2_with fail; go_meet; exact ⟨S1', rfl, rfl, hpt, hct.drew', hst⟩)
  case rest =>
    obtain ⟨S1', rfl, rfl, hpt, hC2, hS1'⟩ := hcut
    obtain ⟨W2, rfl⟩ : ∃ W2 : World, W2 = wc := ⟨_, rfl⟩
    go_upto_region 4 with fail
    go_cut [7, 8] (fun x e wx => ∃ S2', x = .int .i32 (num : Int) ∧ e = .int .i64 code ∧ RT wx (.pointer pR) st' S2' ∧ Chg S2 W2 wx ∧ (∀ k ∈ S2', k ∈ S2 ∨ W2.heap.size ≤ k))
    case first =>
      have hbd : W2.drew.heap[bb]? = W1.heap[bb]? := hC2.block _ hbbl hbn
      have hod : W2.drew.heap[w.heap.size]? = W1.heap[w.heap.size]? := hC2.block _ hob hon
      have hS0 : W2.drew.cell? ⟨bb, bo + 1, none⟩ = some (.pointer pR) ∧ W2.drew.cell? ⟨w.heap.size, 4, none⟩ = some (.int .i8 vk) ∧ W2.drew.cell? ⟨w.heap.size, 5, none⟩ = some (.int .i64 vn) ∧ W2.drew.cell? ⟨w.heap.size, 6, none⟩ = some (.string s) := by
        have := Hcb.out W2.drew hbd hod; exact this.2
      have Hr1 := Lib.hid (Hr.out W1 W2.drew hb1 hC2.drew)
      have hz2 := hC2.size
      go_region_held3 (fun W' : World => W'.cell? ⟨bb, bo + 1, none⟩ = some (.pointer pR) ∧ W'.cell? ⟨w.heap.size, 4, none⟩ = some (.int .i8 vk) ∧ W'.cell? ⟨w.heap.size, 5, none⟩ = some (.int .i64 vn) ∧ W'.cell? ⟨w.heap.size, 6, none⟩ = some (.string s)) (first | exact hS0 | exact hS1) (first
        | (go_at_call 35; refine Hr1.out.mono ?_; rintro e Wt ⟨S2', rfl, hrt, hct, hst⟩
           have hS1 : Wt.cell? ⟨bb, bo + 1, none⟩ = some (.pointer pR) ∧ Wt.cell? ⟨w.heap.size, 4, none⟩ = some (.int .i8 vk) ∧ Wt.cell? ⟨w.heap.size, 5, none⟩ = some (.int .i64 vn) ∧ Wt.cell? ⟨w.heap.size, 6, none⟩ = some (.string s) := by
             have := Hcb.out Wt ((hct.block _ (Nat.lt_of_lt_of_le hbbl hz2) hbn2).trans hbd) ((hct.block _ (Nat.lt_of_lt_of_le hob hz2) hon2).trans hod); exact this.2))
      all_goals (go_wp2_with fail; go_meet; exact ⟨S2', rfl, rfl, hrt, hct.drew', hst⟩)
    case rest =>
      obtain ⟨S2', rfl, rfl, hrt, hC3, hS2'⟩ := hcut
      obtain ⟨W3, rfl⟩ : ∃ W3 : World, W3 = wc := ⟨_, rfl⟩
      have hfin := H.out.step2 hb1 hpt hC2 hS1' hrt hC3 hS2'
      have Hfin := Lib.hid hfin
      clear hfin hpt hC2 hS1' hrt hC3 hS2'
      go_wp2
      go_ret
      obtain ⟨f1, f2, f3, f4⟩ := Hfin.out
      exact ⟨by simp, S1', S2', f1, f2, f3, f4⟩

set_option maxRecDepth 100000 in
set_option maxHeartbeats 2000000 in
theorem does_find {w : World} {bb bo : Nat} {bt : TypeId} {bc : Array Value} {tv rv : Value} {st : St} {S1 S2 : List Nat} (h : Pair w bb bo bt bc tv rv st S1 S2) (on n m : Int) (v : Val) (hv : v.wf) (L : Value) (rs : List Int) :
    Calls Try.prog 24 #[.pointer (some ⟨bb, bo, none⟩), .agg (opC on 2 n m v L rs)] w fun e w' => e = .returned (.bool true) ∧ Below w.heap.size w w' := by
  have hp := fun (W : World) (hb : Below w.heap.size w W) => pt_find (h.pt.below hb) v hv
  have hr := fun (W : World) (hb : Below w.heap.size w W) => rt_find (h.rt.below hb) v
  obtain ⟨pT, rfl⟩ := h.pt.ptr
  obtain ⟨pR, rfl⟩ := h.rt.ptr
  have H := Lib.hid h.blk
  have Hc0 := Lib.hid h.at0
  have Hc1 := Lib.hid h.at1
  obtain ⟨o0, o1, o2, o3, o4, o5, o6, o7⟩ := opC_at on 2 n m v L rs
  obtain ⟨O, hO⟩ : ∃ O, opC on 2 n m v L rs = O := ⟨_, rfl⟩
  rw [hO] at o0 o1 o2 o3 o4 o5 o6 o7 ⊢
  obtain ⟨⟨num, fb⟩, hra⟩ : ∃ R, findA st v = R := ⟨_, rfl⟩
  rw [hra] at hp hr
  clear hra hO h
  simp only at hp hr
  obtain ⟨vk, vn, s⟩ := v
  simp only [Val.agg] at hp hr o4 o5 o6
  have Hp := Lib.hid hp
  have Hr := Lib.hid hr
  have Ho1 := Lib.hid o1
  have Ho4 := Lib.hid o4
  have Ho5 := Lib.hid o5
  have Ho6 := Lib.hid o6
  clear hp hr o0 o1 o2 o3 o4 o5 o6 o7 hv
  go_enter Try.func24, Try.ntmps24
  go_upto_region 1 with fail
  have h3 := tup_new w O 68
  generalize w.alloc (.cells O 68) = W1 at h3 ⊢
  obtain ⟨hb1, hop, hs1⟩ := h3
  have c1 : W1.cell? ⟨w.heap.size, 1, none⟩ = some (.int .i64 2) := (hop.cell 1).trans Ho1.out
  have hcb : ∀ W, Below W1.heap.size W1 W → W.cell? ⟨bb, bo, none⟩ = some (.pointer pT) ∧ W.cell? ⟨bb, bo + 1, none⟩ = some (.pointer pR) ∧ W.cell? ⟨w.heap.size, 4, none⟩ = some (.int .i8 vk) ∧ W.cell? ⟨w.heap.size, 5, none⟩ = some (.int .i64 vn) ∧ W.cell? ⟨w.heap.size, 6, none⟩ = some (.string s) := fun W hb => by
    have hbk := (H.out.same (hb1.block _ H.out.lt)).same (hb.block _ (Nat.lt_of_lt_of_le H.out.lt hb1.size))
    have hok := hop.same (hb.block _ hop.lt)
    exact ⟨(hbk.cell bo).trans Hc0.out, (hbk.cell (bo + 1)).trans Hc1.out, (hok.cell 4).trans Ho4.out, (hok.cell 5).trans Ho5.out, (hok.cell 6).trans Ho6.out⟩
  have Hcb := Lib.hid hcb
  clear hop hcb hs1
  go_upto_region 7 with fail
  go_cut [9, 10] (fun x e wx => x = .int .i32 (num : Int) ∧ e = .bool fb ∧ Below W1.heap.size W1 wx)
  case first =>
    have hS0 : W1.drew.cell? ⟨bb, bo, none⟩ = some (.pointer pT) ∧ W1.drew.cell? ⟨w.heap.size, 4, none⟩ = some (.int .i8 vk) ∧ W1.drew.cell? ⟨w.heap.size, 5, none⟩ = some (.int .i64 vn) ∧ W1.drew.cell? ⟨w.heap.size, 6, none⟩ = some (.string s) := by
      have := Hcb.out W1.drew (drew_below _); exact ⟨this.1, this.2.2⟩
    have Hp1 := Lib.hid (Hp.out W1.drew (hb1.trans ((drew_below W1).mono hb1.size)))
    go_region_held3 (fun W' : World => W'.cell? ⟨bb, bo, none⟩ = some (.pointer pT) ∧ W'.cell? ⟨w.heap.size, 4, none⟩ = some (.int .i8 vk) ∧ W'.cell? ⟨w.heap.size, 5, none⟩ = some (.int .i64 vn) ∧ W'.cell? ⟨w.heap.size, 6, none⟩ = some (.string s)) (first | exact hS0 | exact hS1) (first
      | (go_at_call 14; refine Hp1.out.mono ?_; rintro e Wt ⟨rfl, hbt⟩
         have hbt' : Below W1.heap.size W1 Wt := (drew_below W1).trans hbt
         have hS1 : Wt.cell? ⟨bb, bo, none⟩ = some (.pointer pT) ∧ Wt.cell? ⟨w.heap.size, 4, none⟩ = some (.int .i8 vk) ∧ Wt.cell? ⟨w.heap.size, 5, none⟩ = some (.int .i64 vn) ∧ Wt.cell? ⟨w.heap.size, 6, none⟩ = some (.string s) := by
           have := Hcb.out Wt hbt'; exact ⟨this.1, this.2.2⟩))
    all_goals (go_wp2_with fail; go_meet; exact ⟨rfl, rfl, hbt'⟩)
  case rest =>
    obtain ⟨rfl, rfl, hbW2⟩ := hcut
    obtain ⟨W2, rfl⟩ : ∃ W2 : World, W2 = wc := ⟨_, rfl⟩
    go_upto_region 8 with fail
    go_cut [11, 12] (fun x e wx => x = .int .i32 (num : Int) ∧ e = .bool fb ∧ Below W1.heap.size W1 wx)
    case first =>
      have hbd : Below W1.heap.size W1 W2.drew := hbW2.trans ((drew_below W2).mono hbW2.size)
      have hS0 : W2.drew.cell? ⟨bb, bo + 1, none⟩ = some (.pointer pR) ∧ W2.drew.cell? ⟨w.heap.size, 4, none⟩ = some (.int .i8 vk) ∧ W2.drew.cell? ⟨w.heap.size, 5, none⟩ = some (.int .i64 vn) ∧ W2.drew.cell? ⟨w.heap.size, 6, none⟩ = some (.string s) := by
        have := Hcb.out W2.drew hbd; exact this.2
      have Hr1 := Lib.hid (Hr.out W2.drew (hb1.trans (hbd.mono hb1.size)))
      go_region_held3 (fun W' : World => W'.cell? ⟨bb, bo + 1, none⟩ = some (.pointer pR) ∧ W'.cell? ⟨w.heap.size, 4, none⟩ = some (.int .i8 vk) ∧ W'.cell? ⟨w.heap.size, 5, none⟩ = some (.int .i64 vn) ∧ W'.cell? ⟨w.heap.size, 6, none⟩ = some (.string s)) (first | exact hS0 | exact hS1) (first
        | (go_at_call 36; refine Hr1.out.mono ?_; rintro e Wt ⟨rfl, hbt⟩
           have hbt' : Below W1.heap.size W1 Wt := hbd.trans (hbt.mono hbd.size)
           have hS1 : Wt.cell? ⟨bb, bo + 1, none⟩ = some (.pointer pR) ∧ Wt.cell? ⟨w.heap.size, 4, none⟩ = some (.int .i8 vk) ∧ Wt.cell? ⟨w.heap.size, 5, none⟩ = some (.int .i64 vn) ∧ Wt.cell? ⟨w.heap.size, 6, none⟩ = some (.string s) := by
             have := Hcb.out Wt hbt'; exact this.2))
      all_goals (go_wp2_with fail; go_meet; exact ⟨rfl, rfl, hbt'⟩)
    case rest =>
      obtain ⟨rfl, rfl, hbW3⟩ := hcut
      obtain ⟨W3, rfl⟩ : ∃ W3 : World, W3 = wc := ⟨_, rfl⟩
      go_wp2
      go_ret
      exact ⟨by simp, hb1.trans (hbW3.mono hb1.size)⟩

end Go.Proofs.Ythdpaakkamccbaa

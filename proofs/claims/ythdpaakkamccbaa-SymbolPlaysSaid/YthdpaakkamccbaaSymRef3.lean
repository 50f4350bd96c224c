/-
  Walks of the document's table: Row, Seek.
-/
import Derived.Test.YthdpaakkamccbaaSymRef2
import Derived.Deep.CutBlock
namespace Go.Proofs.Ythdpaakkamccbaa
open Go.RowKit Go.Maps

theorem ref_row_results (tmps : Array Value) (w : World) (g4 : Nat) (cs : Array Value) (c : Int) (h4 : tmps.getD 4 undef = .pointer (some ⟨g4, 0, none⟩)) (h5 : tmps.getD 5 undef = .int .i64 c)
    (b4 : Blk w g4 43 cs) (hi : (Try.prog.info? 43).map (·.size) = some cs.size) :
    (results Try.f48 tmps).run Try.prog w = .ok (.tuple #[.agg cs, .int .i64 c]) w := by
  have h4' : tmps[4]?.getD undef = .pointer (some ⟨g4, 0, none⟩) := by simpa using h4
  have h5' : tmps[5]?.getD undef = .int .i64 c := by simpa using h5
  have hl := run_loadVar_row (P := Try.prog) w g4 43 43 cs (0, 0) _ b4 Try.underlying43 rfl hi
  simp [results, Try.results48, h4', h5', asAddr, hl]
theorem ref_seek_results (tmps : Array Value) (w : World) (g4 : Nat) (cs : Array Value) (b : Bool) (h4 : tmps.getD 4 undef = .pointer (some ⟨g4, 0, none⟩)) (h5 : tmps.getD 5 undef = .bool b)
    (b4 : Blk w g4 43 cs) (hi : (Try.prog.info? 43).map (·.size) = some cs.size) :
    (results Try.f50 tmps).run Try.prog w = .ok (.tuple #[.agg cs, .bool b]) w := by
  have h4' : tmps[4]?.getD undef = .pointer (some ⟨g4, 0, none⟩) := by simpa using h4
  have h5' : tmps[5]?.getD undef = .bool b := by simpa using h5
  have hl := run_loadVar_row (P := Try.prog) w g4 43 43 cs (0, 0) _ b4 Try.underlying43 rfl hi
  simp [results, Try.results50, h4', h5', asAddr, hl]

theorem row_one (w : World) : Below w.heap.size w (w.alloc (.cells (rowOf []) 43)) ∧ Blk (w.alloc (.cells (rowOf []) 43)) w.heap.size 43 (rowOf []) ∧ (w.alloc (.cells (rowOf []) 43)).heap.size = w.heap.size + 1 := tup_new w _ _

theorem addStep_same {most : Nat} {vs : List Val} {u : Val} (h : (addStep most vs u).2.2 ≠ 0) : (addStep most vs u).1 = vs := by
  unfold addStep at h ⊢
  split
  · rfl
  · split
    · rfl
    · split
      · rename_i h1 h2 h3
        rw [if_neg h1, if_neg h2, if_pos h3] at h
        exact absurd rfl h
      · rfl

set_option maxHeartbeats 2000000 in
theorem ref_row {w : World} {rb most : Nat} {vs : List Val} {S : List Nat} (h : RTab w rb most vs S) (us : List Val) (A : Option Addr) (cap : Nat) (hrd : RdV w A us) (hdis : us ≠ [] → ∀ a, A = some a → a.block ∉ S ∧ a.block < w.heap.size) (hwf : ∀ u ∈ us, u.wf) :
    Calls Try.prog 48 #[.pointer (some ⟨rb, 0, none⟩), .slice A us.length cap] w fun e w' =>
      ∃ S', e = .returned (.tuple #[.agg (rowOf (rowGo most us vs).2.1), .int .i64 (rowGo most us vs).2.2]) ∧ RTab w' rb most (rowGo most us vs).1 S' ∧ Chg S w w' ∧ (∀ k ∈ S', k ∈ S ∨ w.heap.size ≤ k) := by
  have HT := Lib.hid h
  have Hrd := Lib.hid hrd
  have Hdis := Lib.hid hdis
  have Hwf := Lib.hid hwf
  have Hth := Lib.hid (fun W (hb : Below w.heap.size w W) => ref_there (h.below hb))
  have hmost : most ≤ 2147483647 := by obtain ⟨_, _, ht, _⟩ := h; exact ht.most
  clear h hrd hdis hwf
  by_cases h24 : 24 < us.length
  · have hd : decide ((24 : Int) < (us.length : Int)) = true := by simp; omega
    have hro : rowGo most us vs = (vs, [], 1) := by unfold rowGo; rw [if_pos h24]
    rw [hro]
    clear hro
    go_enter Try.func48, Try.ntmps48
    go_wp2_with (first
      | (go_at_call 40; refine (Hth.out _ (row_one w).1).mono ?_; rintro e w1 ⟨rfl, hw1⟩
         have h3 : Below w.heap.size w w1 ∧ Blk w1 w.heap.size 43 (rowOf []) ∧ w1.heap.size = w.heap.size + 1 := by rw [hw1]; exact row_one w
         clear hw1
         obtain ⟨hB1, b4, hs1⟩ := h3
         have hsf : w1.setRow w.heap.size (rowOf []) = w1 := setRow_self _ _ _ _ _ b4)
      | (refine at_store 43 _ _ rfl ?_; refine wpList_store_row rfl 43 _ _ rfl w.heap.size (rowOf []) rfl rfl 43 (rowOf []) b4 (rowOf_info [] (by simp)) rfl (rowOf_one []) ?_; rw [hsf]))
    refine bodyPost_ret (ref_row_results _ _ _ _ 1 rfl rfl b4 (rowOf_info [] (by simp))) rfl ⟨S, rfl, HT.out.below hB1, Chg.of_below _ hB1, fun k hk => .inl hk⟩
  · have hd : decide ((24 : Int) < (us.length : Int)) = false := by simp; omega
    have hro : rowGo most us vs = if (addGo most us vs []).2.2 = 0 then addGo most us vs [] else (vs, [], (addGo most us vs []).2.2) := by unfold rowGo; rw [if_neg h24]
    obtain ⟨⟨rv, rn, rc⟩, hR⟩ : ∃ R, rowGo most us vs = R := ⟨_, rfl⟩
    rw [hR]
    rw [hR] at hro
    have HR := Lib.hid hro
    clear hro hR
    simp only
    obtain ⟨n, hn⟩ : ∃ n, us.length = n := ⟨_, rfl⟩
    rw [hn] at h24 hd ⊢
    have Hn := Lib.hid hn
    obtain ⟨z, hz⟩ : ∃ z, vs.length = z := ⟨_, rfl⟩
    have Hz := Lib.hid hz
    clear hn hz
    go_enter Try.func48, Try.ntmps48
    go_upto_block 0 with (go_at_call 40; refine (Hth.out _ (row_one w).1).mono ?_; rintro e w1 ⟨rfl, hw1⟩
                          have h3 : Below w.heap.size w w1 ∧ Blk w1 w.heap.size 43 (rowOf []) ∧ w1.heap.size = w.heap.size + 1 := by rw [hw1]; exact row_one w
                          clear hw1
                          obtain ⟨hB1, b4, hs1⟩ := h3
                          have Hs1 := Lib.hid hs1
                          clear hs1
                          obtain ⟨Av, capv, cv⟩ : ∃ Av capv, w1.cell? ⟨rb, 2, none⟩ = some (.slice Av z capv) := by obtain ⟨A, cap, ht, _⟩ := HT.out.below hB1; exact ⟨A, cap, by rw [← Hz.out]; exact ht.blk.cell 2⟩)
    have h2 : Below w1.heap.size w1 (w1.alloc (.cells (rowOf []) 43)) ∧ Blk (w1.alloc (.cells (rowOf []) 43)) w1.heap.size 43 (rowOf []) ∧ (w1.alloc (.cells (rowOf []) 43)).heap.size = w1.heap.size + 1 := row_one w1
    have hro0 : (rowOf []) = #[.int .i32 0, .int .i32 0, .int .i32 0, .int .i32 0, .int .i32 0, .int .i32 0, .int .i32 0, .int .i32 0, .int .i32 0, .int .i32 0, .int .i32 0, .int .i32 0, .int .i32 0, .int .i32 0, .int .i32 0, .int .i32 0, .int .i32 0, .int .i32 0, .int .i32 0, .int .i32 0, .int .i32 0, .int .i32 0, .int .i32 0, .int .i32 0] := rfl
    rw [← hro0]
    generalize w1.alloc (.cells (rowOf []) 43) = w2 at h2 ⊢
    obtain ⟨hB2, b7, hs2⟩ := h2
    have hBw2 : Below w.heap.size w w2 := hB1.trans (hB2.mono (by (have q1 := Hs1.out; omega)))
    have b4' : Blk w2 w.heap.size 43 (rowOf []) := b4.same (hB2.block _ b4.lt)
    have HT2 := Lib.hid (HT.out.below hBw2)
    have Hb7 := Lib.hid b7
    have Hb4 := Lib.hid b4'
    have HBw2 := Lib.hid hBw2
    clear hro0 b7 b4' b4 hB2 hB1 cv hBw2
    go_wp2_with fail
    go_loopg [8, 9, 10] n (fun gk i _ _ wx => ∃ (j : Nat) (vs' : List Val) (ns : List Nat) (S' : List Nat), j ≤ n ∧ gk = n - j ∧ i = .int .i64 j ∧ ns.length = j ∧ addGo most us vs [] = addGo most (us.drop j) vs' ns ∧ vs <+: vs' ∧ RTab wx rb most vs' S' ∧ Blk wx w1.heap.size 43 (rowOf ns) ∧ Blk wx w.heap.size 43 (rowOf []) ∧ Chg S w wx ∧ (∀ k ∈ S', k ∈ S ∨ w2.heap.size ≤ k) ∧ w2.heap.size ≤ wx.heap.size)
    case atStart => exact ⟨0, vs, [], S, Nat.zero_le _, rfl, rfl, rfl, rfl, List.prefix_refl _, HT2.out, Hb7.out, Hb4.out, Chg.of_below _ HBw2.out, fun k hk => .inl hk, Nat.le_refl _⟩
    case round =>
      obtain ⟨j, vs', ns, S', hj, rfl, rfl, hnl, hgo, hpre, hT, hr7, hr4, hC, hS', hsz⟩ := hrel
      have hlim : ∀ k ∈ S', k ≠ w1.heap.size ∧ k ≠ w.heap.size := fun k hk => by
        rcases hS' k hk with h | h
        · have := HT.out.lt k h; (have q1 := Hs1.out; omega)
        · (have q1 := Hs1.out; omega)
      obtain ⟨wo, rfl⟩ : ∃ wo : World, wo = wr := ⟨_, rfl⟩
      by_cases hlt : j < n
      · have hul : j < us.length := by rw [Hn.out]; exact hlt
        have hrdr : RdV wo A us := by
          intro hne
          obtain ⟨b, off, rfl, hb, hc⟩ := Hrd.out hne
          have e := hC.block b hb (Hdis.out hne _ rfl).1
          exact RdV.keep (w := w) (fun _ => ⟨b, off, rfl, hb, hc⟩) hC.size (fun a ha => by cases ha; exact e) hne
        obtain ⟨b, off, rfl, hb, hc⟩ := hrdr (by intro h; rw [h] at hul; simp at hul)
        obtain ⟨d0, d1, d2⟩ := hc j hul
        have hadd := ref_add hT (us[j]) (Hwf.out _ (List.getElem_mem hul))
        have hbound := addStep_bound (u := us[j]) (show vs'.length ≤ most by obtain ⟨_, _, ht, _⟩ := hT; exact ht.le)
        have hsame := addStep_same (most := most) (vs := vs') (u := us[j])
        have hpre2 := addStep_take most vs' us[j]
        rw [List.drop_eq_getElem_cons hul, addGo_cons] at hgo
        clear hc hrdr
        have Hr7 := Lib.hid hr7
        have Hr4 := Lib.hid hr4
        have HC := Lib.hid hC
        have HS' := Lib.hid hS'
        have Hlim := Lib.hid hlim
        have Hpre := Lib.hid hpre
        have hTlt := Lib.hid hT.lt
        clear hT hr7 hr4 hC hS' hlim hpre
        generalize us[j] = v at hadd d0 d1 d2 hgo hbound hsame hpre2
        obtain ⟨vk, vn, s⟩ := v
        simp only [Val.agg] at hadd d0 d1 d2
        obtain ⟨q, hq⟩ : ∃ q, addStep most vs' ⟨vk, vn, s⟩ = q := ⟨_, rfl⟩
        rw [hq] at hbound hadd hgo hsame hpre2
        clear hq
        obtain ⟨vs2, num, code⟩ := q
        simp only at hadd hgo hbound hsame hpre2
        have Hadd := Lib.hid hadd
        have Hgo := Lib.hid hgo
        have Hsame := Lib.hid hsame
        have Hpre2 := Lib.hid hpre2
        clear hadd hgo hsame hpre2
        go_upto_if 40 with (go_at_call 35; refine Hadd.out.mono ?_; rintro e W3 ⟨S3, rfl, hT3, hC3, hS3⟩)
        have hlim3 : ∀ k ∈ S3, k ≠ w1.heap.size ∧ k ≠ w.heap.size ∧ (k ∈ S ∨ w2.heap.size ≤ k) := fun k hk => by
          rcases hS3 k hk with h | h
          · exact ⟨(Hlim.out k h).1, (Hlim.out k h).2, HS'.out k h⟩
          · (have q1 := Hs1.out; omega)
        have hr73 : Blk W3 w1.heap.size 43 (rowOf ns) := Hr7.out.same (hC3.block _ Hr7.out.lt (fun hm => (Hlim.out _ hm).1 rfl))
        have hr43 : Blk W3 w.heap.size 43 (rowOf []) := Hr4.out.same (hC3.block _ Hr4.out.lt (fun hm => (Hlim.out _ hm).2 rfl))
        have hCC : Chg S w W3 := HC.out.trans hC3 (fun x hx => by
          rcases HS'.out x hx with h | h
          · exact .inl h
          · right; (have q1 := Hs1.out; omega))
        have hsz3 : w2.heap.size ≤ W3.heap.size := Nat.le_trans hsz hC3.size
        by_cases hcode : code = 0
        · subst hcode
          have z0 : W3.cell? ⟨w1.heap.size, j, none⟩ = some (.int .i32 0) := by rw [hr73.cell, ← hnl]; exact rowOf_at ns (by (have q1 := Hs1.out; omega))
          have z1 : W3.frozen? ⟨w1.heap.size, j, none⟩ = false := hr73.frozen j
          have hr74 : Blk (W3.setCell ⟨w1.heap.size, j, none⟩ (.int .i32 (num : Int))) w1.heap.size 43 (rowOf (ns ++ [num])) := by
            rw [← rowOf_set ns num (by (have q1 := Hs1.out; omega)), hnl]; exact hr73.set_ j _
          have hT4 : RTab (W3.setCell ⟨w1.heap.size, j, none⟩ (.int .i32 (num : Int))) rb most vs2 S3 := hT3.same fun k hk => Below.heap_setCell _ _ _ _ (hlim3 k hk).1
          have hC4 : Chg S w (W3.setCell ⟨w1.heap.size, j, none⟩ (.int .i32 (num : Int))) := hCC.setCell (.inr (by simp; (have q1 := Hs1.out; omega))) _
          have hr44 := hr43.far (p := ⟨w1.heap.size, j, none⟩) (by simp; (have q1 := Hs1.out; omega)) (.int .i32 (num : Int))
          have Hr74 := Lib.hid hr74
          have HT4 := Lib.hid hT4
          have HC4 := Lib.hid hC4
          have Hr44 := Lib.hid hr44
          have Hlim3 := Lib.hid hlim3
          have Hnl := Lib.hid hnl
          have j24 : j < 24 := by (have q1 := Hs1.out; omega)
          clear hr74 hT4 hC4 hr44 hlim3 hnl hT3 hC3 hS3 hr73 hr43 hCC
          go_wp2
          go_roundg (n - (j + 1))
          case measure => (have q1 := Hs1.out; omega)
          case rel => exact ⟨j + 1, vs2, ns ++ [num], S3, by (have q1 := Hs1.out; omega), rfl, by go_num, by rw [List.length_append, Hnl.out]; rfl, by rw [Hgo.out]; rfl, Hpre.out.trans Hpre2.out, HT4.out, Hr74.out, Hr44.out, HC4.out, fun k hk => (Hlim3.out k hk).2.2, by simpa [World.setCell] using hsz3⟩
        · have hsm := Hsame.out hcode
          subst hsm
          have hd2 : (code != 0) = true := by simpa using hcode
          obtain ⟨A3, cap3, ht3, rfl⟩ := hT3
          have hzl : z ≤ vs2.length := by rw [← Hz.out]; exact Hpre.out.length_le
          have hsl := slice_vals ht3.row z hzl
          have c2 : W3.cell? ⟨rb, 2, none⟩ = some (.slice A3 vs2.length cap3) := ht3.blk.cell 2
          have f2 : W3.frozen? ⟨rb, 2, none⟩ = false := ht3.blk.frozen 2
          have hne4 : w.heap.size ≠ rb := fun e => (hlim3 rb (by simp [footR])).2.1 e.symm
          have hne7 : w1.heap.size ≠ rb := fun e => (hlim3 rb (by simp [footR])).1 e.symm
          have b4 : Blk (W3.setCell ⟨rb, 2, none⟩ (.slice A3 z cap3)) w.heap.size 43 (rowOf []) := hr43.far (by simpa using hne4) _
          have hsf : (W3.setCell ⟨rb, 2, none⟩ (.slice A3 z cap3)).setRow w.heap.size (rowOf []) = W3.setCell ⟨rb, 2, none⟩ (.slice A3 z cap3) := setRow_self _ _ _ _ _ b4
          have hl : (vs2.take z).length = z := by rw [List.length_take]; (have q1 := Hs1.out; omega)
          have hte : vs2.take z = vs := by have := List.prefix_iff_eq_take.1 Hpre.out; rw [Hz.out] at this; exact this.symm
          have hfin : RTab (W3.setCell ⟨rb, 2, none⟩ (.slice A3 z cap3)) rb most vs (footR rb A3) := by
            refine ⟨A3, cap3, ⟨?_, ?_, fun v hv => ht3.wf v (by rw [← hte] at hv; exact List.mem_of_mem_take hv), by have := ht3.le; rw [Hz.out]; (have q1 := Hs1.out; omega), ht3.most⟩, rfl⟩
            · rw [Hz.out]; exact ht3.blk.set_ 2 _
            · rw [← hte]; exact (ht3.row.take z hzl).same fun g hg => Below.heap_setCell _ _ _ _ (ht3.row_ne g hg)
          have hCf : Chg S w (W3.setCell ⟨rb, 2, none⟩ (.slice A3 z cap3)) := hCC.setCell (by
            rcases (hlim3 rb (by simp [footR])).2.2 with h | h
            · exact .inl h
            · right; simp; (have q1 := Hs1.out; omega)) _
          have Hfin := Lib.hid hfin
          have HCf := Lib.hid hCf
          have Hlim3 := Lib.hid hlim3
          have Hcode := Lib.hid hcode
          clear hfin hCf hlim3 ht3 hC3 hS3 hr73 hr43 hCC hte hl hcode
          generalize vs2.length = y at c2 hsl hzl
          go_wp2_with (refine at_store 43 _ _ rfl ?_; refine wpList_store_row rfl 43 _ _ rfl w.heap.size (rowOf []) rfl rfl 43 (rowOf []) b4 (rowOf_info [] (by simp)) rfl (rowOf_one []) ?_; rw [hsf])
          refine bodyPost_ret (ref_row_results _ _ _ _ code rfl rfl b4 (rowOf_info [] (by simp))) rfl ?_
          have e0 : addGo most us vs [] = (vs2, ns, code) := by rw [Hgo.out, if_neg Hcode.out]
          have e := HR.out
          rw [e0] at e
          have e2 := e.trans (if_neg Hcode.out)
          simp only [Prod.mk.injEq] at e2
          obtain ⟨rfl, rfl, rfl⟩ := e2
          exact ⟨rfl, _, Hfin.out, HCf.out, fun k hk => by
            rcases (Hlim3.out k hk).2.2 with h | h
            · exact .inl h
            · right; (have q1 := Hs1.out; omega)⟩
      · obtain rfl : j = n := by (have q1 := Hs1.out; omega)
        rw [List.drop_of_length_le (by rw [Hn.out]; (have q1 := Hs1.out; omega))] at hgo
        have Hend := Lib.hid (show addGo most us vs [] = (vs', ns, 0) by rw [hgo]; rfl)
        have hn24 : ns.length ≤ 24 := by (have q1 := Hs1.out; omega)
        have HT' := Lib.hid hT
        have HC := Lib.hid hC
        have HS' := Lib.hid hS'
        have Hlim := Lib.hid hlim
        have b4f : Blk (wo.setRow w.heap.size (rowOf ns)) w.heap.size 43 (rowOf ns) := setRow_blk hr4
        clear hT hC hS' hlim hgo hpre
        go_wp2_with (first
          | (refine at_load 43 _ rfl ?_; refine wpList_load_row_g 43 _ rfl rfl w1.heap.size rfl 43 (rowOf ns) (0, 0) _ hr7 Try.underlying43 rfl (rowOf_info ns hn24) ?_)
          | (refine at_store 43 _ _ rfl ?_; refine wpList_store_row rfl 43 _ _ rfl w.heap.size (rowOf ns) rfl rfl 43 (rowOf []) hr4 (rowOf_info ns hn24) (by rw [rowOf_size ns hn24]; rfl) (rowOf_one ns) ?_))
        refine bodyPost_ret (ref_row_results _ _ _ _ 0 rfl rfl b4f (rowOf_info ns hn24)) rfl ?_
        have e := HR.out
        rw [Hend.out] at e
        have e2 := e.trans (if_pos rfl)
        simp only [Prod.mk.injEq] at e2
        obtain ⟨rfl, rfl, rfl⟩ := e2
        exact ⟨S', rfl, HT'.out.same fun k hk => setRow_other _ _ _ _ (fun e => (Hlim.out k hk).2 e), HC.out.setRow (.inr (Nat.le_refl _)) _, fun k hk => by
          rcases HS'.out k hk with h | h
          · exact .inl h
          · right; (have q1 := Hs1.out; omega)⟩

end Go.Proofs.Ythdpaakkamccbaa

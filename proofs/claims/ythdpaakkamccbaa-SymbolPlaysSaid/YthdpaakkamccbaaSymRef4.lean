/-
  Walks of the document's table: Seek, Tuple.
-/
import Derived.Test.YthdpaakkamccbaaSymRef3
namespace Go.Proofs.Ythdpaakkamccbaa
open Go.RowKit Go.Maps

set_option maxHeartbeats 2000000 in
theorem ref_seek {w : World} {rb most : Nat} {vs : List Val} {S : List Nat} (h : RTab w rb most vs S) (us : List Val) (A : Option Addr) (cap : Nat) (hrd : RdV w A us) :
    Calls Try.prog 50 #[.pointer (some ⟨rb, 0, none⟩), .slice A us.length cap] w fun e w' =>
      e = .returned (.tuple #[.agg (rowOf (seekRes vs us).1), .bool (seekRes vs us).2]) ∧ Below w.heap.size w w' := by
  have HT := Lib.hid h
  have Hrd := Lib.hid hrd
  have Hth := Lib.hid (fun W (hb : Below w.heap.size w W) => ref_there (h.below hb))
  clear h hrd
  obtain ⟨⟨rn, rb0⟩, hR⟩ : ∃ R, seekRes vs us = R := ⟨_, rfl⟩
  rw [hR]
  have HR := Lib.hid hR
  clear hR
  simp only
  by_cases h24 : 24 < us.length
  · have hd : decide ((24 : Int) < (us.length : Int)) = true := by simp; omega
    have hro : seekRes vs us = ([], false) := by unfold seekRes; rw [if_pos h24]
    have e := HR.out.symm.trans hro
    simp only [Prod.mk.injEq] at e
    obtain ⟨rfl, rfl⟩ := e
    clear hro HR
    go_enter Try.func50, Try.ntmps50
    go_wp2_with (first
      | (go_at_call 40; refine (Hth.out _ (row_one w).1).mono ?_; rintro e w1 ⟨rfl, hw1⟩
         have h3 : Below w.heap.size w w1 ∧ Blk w1 w.heap.size 43 (rowOf []) ∧ w1.heap.size = w.heap.size + 1 := by rw [hw1]; exact row_one w
         clear hw1
         obtain ⟨hB1, b4, hs1⟩ := h3
         have hsf : w1.setRow w.heap.size (rowOf []) = w1 := setRow_self _ _ _ _ _ b4)
      | (refine at_store 43 _ _ rfl ?_; refine wpList_store_row rfl 43 _ _ rfl w.heap.size (rowOf []) rfl rfl 43 (rowOf []) b4 (rowOf_info [] (by simp)) rfl (rowOf_one []) ?_; rw [hsf]))
    refine bodyPost_ret (ref_seek_results _ _ _ _ false rfl rfl b4 (rowOf_info [] (by simp))) rfl ⟨rfl, hB1⟩
  · have hd : decide ((24 : Int) < (us.length : Int)) = false := by simp; omega
    have hro : seekRes vs us = if (seekGo vs us []).2 = 0 then ((seekGo vs us []).1, true) else ([], false) := by unfold seekRes; rw [if_neg h24]
    have Hro := Lib.hid (HR.out.symm.trans hro)
    clear hro HR
    obtain ⟨n, hn⟩ : ∃ n, us.length = n := ⟨_, rfl⟩
    rw [hn] at h24 hd ⊢
    have Hn := Lib.hid hn
    clear hn
    go_enter Try.func50, Try.ntmps50
    go_upto_block 0 with (go_at_call 40; refine (Hth.out _ (row_one w).1).mono ?_; rintro e w1 ⟨rfl, hw1⟩
                          have h3 : Below w.heap.size w w1 ∧ Blk w1 w.heap.size 43 (rowOf []) ∧ w1.heap.size = w.heap.size + 1 := by rw [hw1]; exact row_one w
                          clear hw1
                          obtain ⟨hB1, b4, hs1⟩ := h3
                          have Hs1 := Lib.hid hs1
                          clear hs1)
    have h2 : Below w1.heap.size w1 (w1.alloc (.cells (rowOf []) 43)) ∧ Blk (w1.alloc (.cells (rowOf []) 43)) w1.heap.size 43 (rowOf []) ∧ (w1.alloc (.cells (rowOf []) 43)).heap.size = w1.heap.size + 1 := row_one w1
    have hro0 : (rowOf []) = #[.int .i32 0, .int .i32 0, .int .i32 0, .int .i32 0, .int .i32 0, .int .i32 0, .int .i32 0, .int .i32 0, .int .i32 0, .int .i32 0, .int .i32 0, .int .i32 0, .int .i32 0, .int .i32 0, .int .i32 0, .int .i32 0, .int .i32 0, .int .i32 0, .int .i32 0, .int .i32 0, .int .i32 0, .int .i32 0, .int .i32 0, .int .i32 0] := rfl
    rw [← hro0]
    generalize w1.alloc (.cells (rowOf []) 43) = w2 at h2 ⊢
    obtain ⟨hB2, b7, hs2⟩ := h2
    have hBw2 : Below w.heap.size w w2 := hB1.trans (hB2.mono (by have q1 := Hs1.out; omega))
    have b4' : Blk w2 w.heap.size 43 (rowOf []) := b4.same (hB2.block _ b4.lt)
    have Hs2 := Lib.hid hs2
    have Hb7 := Lib.hid b7
    have Hb4 := Lib.hid b4'
    have HBw2 := Lib.hid hBw2
    clear hro0 b7 b4' b4 hB2 hB1 hBw2 hs2
    go_wp2_with fail
    go_loopg [7, 8, 9] n (fun gk i _ _ wx => ∃ (j : Nat) (ns : List Nat), j ≤ n ∧ gk = n - j ∧ i = .int .i64 j ∧ ns.length = j ∧ seekGo vs us [] = seekGo vs (us.drop j) ns ∧ Blk wx w1.heap.size 43 (rowOf ns) ∧ Blk wx w.heap.size 43 (rowOf []) ∧ Below w.heap.size w wx)
    case atStart => exact ⟨0, [], Nat.zero_le _, rfl, rfl, rfl, rfl, Hb7.out, Hb4.out, HBw2.out⟩
    case round =>
      obtain ⟨j, ns, hj, rfl, rfl, hnl, hgo, hr7, hr4, hB⟩ := hrel
      obtain ⟨wo, rfl⟩ : ∃ wo : World, wo = wr := ⟨_, rfl⟩
      by_cases hlt : j < n
      · have hul : j < us.length := by rw [Hn.out]; exact hlt
        obtain ⟨b, off, rfl, hb, hc⟩ := (Hrd.out.below hB) (by intro h; rw [h] at hul; simp at hul)
        obtain ⟨d0, d1, d2⟩ := hc j hul
        have hfd := ref_find (HT.out.below hB) (us[j])
        rw [List.drop_eq_getElem_cons hul, seekGo_cons] at hgo
        have Hr7 := Lib.hid hr7
        have Hr4 := Lib.hid hr4
        clear hc hr7 hr4
        by_cases hm : us[j] ∈ vs
        · rw [decide_eq_true hm, show numOf vs us[j] = vs.idxOf us[j] from by unfold numOf; rw [if_pos hm]] at hfd
          rw [if_pos hm] at hgo
          have Hgo := Lib.hid hgo
          have Hfd := Lib.hid hfd
          clear hgo hfd hm
          generalize us[j] = v at Hfd Hgo d0 d1 d2
          generalize vs.idxOf v = num at Hfd Hgo
          obtain ⟨vk, vn, s⟩ := v
          simp only [Val.agg] at Hfd d0 d1 d2
          have j24 : j < 24 := by omega
          go_upto_region 10 with (go_at_call 36; refine Hfd.out.mono ?_; rintro e W3 ⟨rfl, hb3⟩)
          have hr73 : Blk W3 w1.heap.size 43 (rowOf ns) := Hr7.out.same (hb3.block _ Hr7.out.lt)
          have hr43 : Blk W3 w.heap.size 43 (rowOf []) := Hr4.out.same (hb3.block _ Hr4.out.lt)
          have z0 : W3.cell? ⟨w1.heap.size, j, none⟩ = some (.int .i32 0) := by rw [hr73.cell, ← hnl]; exact rowOf_at ns (by omega)
          have z1 : W3.frozen? ⟨w1.heap.size, j, none⟩ = false := hr73.frozen j
          have hr74 : Blk (W3.setCell ⟨w1.heap.size, j, none⟩ (.int .i32 (num : Int))) w1.heap.size 43 (rowOf (ns ++ [num])) := by
            rw [← rowOf_set ns num (by omega), hnl]; exact hr73.set_ j _
          have hr44 := hr43.far (p := ⟨w1.heap.size, j, none⟩) (by have q1 := Hs1.out; simp; omega) (.int .i32 (num : Int))
          have hB4 : Below w.heap.size w (W3.setCell ⟨w1.heap.size, j, none⟩ (.int .i32 (num : Int))) := (hB.trans (hb3.mono hB.size)).setCell (by have q1 := Hs1.out; simp; omega) _
          have Hr74 := Lib.hid hr74
          have Hr44 := Lib.hid hr44
          have HB4 := Lib.hid hB4
          have Hnl := Lib.hid hnl
          clear hr74 hr44 hB4 hr73 hr43 hb3 hnl
          go_wp2
          go_roundg (n - (j + 1))
          case measure => omega
          case rel => exact ⟨j + 1, ns ++ [num], by omega, rfl, by go_num, by rw [List.length_append, Hnl.out]; rfl, Hgo.out, Hr74.out, Hr44.out, HB4.out⟩
        · rw [decide_eq_false hm] at hfd
          rw [if_neg hm] at hgo
          have hend := Hro.out
          rw [hgo] at hend
          have e2 := hend.trans (if_neg (show ¬ (21 : Int) = 0 by decide))
          simp only [Prod.mk.injEq] at e2
          obtain ⟨rfl, rfl⟩ := e2
          have Hfd := Lib.hid hfd
          clear hgo hfd hm hend
          generalize us[j] = v at Hfd d0 d1 d2
          generalize (numOf vs v : Int) = num at Hfd
          obtain ⟨vk, vn, s⟩ := v
          simp only [Val.agg] at Hfd d0 d1 d2
          go_upto_region 9 with (go_at_call 36; refine Hfd.out.mono ?_; rintro e W3 ⟨rfl, hb3⟩)
          have b4 : Blk W3 w.heap.size 43 (rowOf []) := Hr4.out.same (hb3.block _ Hr4.out.lt)
          have hsf : W3.setRow w.heap.size (rowOf []) = W3 := setRow_self _ _ _ _ _ b4
          go_wp2_with (refine at_store 43 _ _ rfl ?_; refine wpList_store_row rfl 43 _ _ rfl w.heap.size (rowOf []) rfl rfl 43 (rowOf []) b4 (rowOf_info [] (by simp)) rfl (rowOf_one []) ?_; rw [hsf])
          refine bodyPost_ret (ref_seek_results _ _ _ _ false rfl rfl b4 (rowOf_info [] (by simp))) rfl ⟨rfl, hB.trans (hb3.mono hB.size)⟩
      · obtain rfl : j = n := by omega
        rw [List.drop_of_length_le (by rw [Hn.out]; omega)] at hgo
        have hend := Hro.out
        rw [hgo] at hend
        have e2 := hend.trans (if_pos rfl)
        simp only [Prod.mk.injEq, seekGo] at e2
        obtain ⟨rfl, rfl⟩ := e2
        have hn24 : rn.length ≤ 24 := by omega
        have b4f : Blk (wo.setRow w.heap.size (rowOf rn)) w.heap.size 43 (rowOf rn) := setRow_blk hr4
        have HB := Lib.hid hB
        clear hgo hend hB
        go_wp2_with (first
          | (refine at_load 43 _ rfl ?_; refine wpList_load_row_g 43 _ rfl rfl w1.heap.size rfl 43 (rowOf rn) (0, 0) _ hr7 Try.underlying43 rfl (rowOf_info rn hn24) ?_)
          | (refine at_store 43 _ _ rfl ?_; refine wpList_store_row rfl 43 _ _ rfl w.heap.size (rowOf rn) rfl rfl 43 (rowOf []) hr4 (rowOf_info rn hn24) (by rw [rowOf_size rn hn24]; rfl) (rowOf_one rn) ?_))
        refine bodyPost_ret (ref_seek_results _ _ _ _ true rfl rfl b4f (rowOf_info rn hn24)) rfl ⟨rfl, ?_⟩
        exact ((Chg.of_below [] HB.out).setRow (.inr (Nat.le_refl _)) _).of_none

/-! ### Tuple -/
theorem tupGo_len (vs : List Val) : ∀ (rs : List Int) (out : List Val), (tupGo vs rs out).2 = 0 ∨ (tupGo vs rs out).2 = 21
  | [], out => .inl rfl
  | r :: rs, out => by
    rw [tupGo_cons]
    split
    · exact tupGo_len vs rs _
    · exact .inr rfl

/-- what Tuple tells: the values, the error's number. -/
def tupRes (vs : List Val) (rs : List Int) (n : Int) : List Val × Int :=
  if n < 0 ∨ 24 < n then ([], 1) else if (tupGo vs (rs.take n.toNat) []).2 = 0 then ((tupGo vs (rs.take n.toNat) []).1, 0) else ([], 21)

theorem ref_tuple_bad {w : World} {rb most : Nat} {vs : List Val} {S : List Nat} (h : RTab w rb most vs S) (rs : List Int) (n : Int) (hn : n < 0 ∨ 24 < n) :
    Calls Try.prog 43 #[.pointer (some ⟨rb, 0, none⟩), .agg (rowI rs), .int .i64 n] w fun e w' => e = .returned (.tuple #[.slice none 0 0, .int .i64 1]) ∧ Below w.heap.size w w' := by
  have Hth := Lib.hid (fun W (hb : Below w.heap.size w W) => ref_there (h.below hb))
  clear h
  by_cases h0 : n < 0
  · have hd : decide (n < 0) = true := by simp [h0]
    clear hn
    go_enter Try.func43, Try.ntmps43
    go_wp2_with (go_at_call 40; refine (Hth.out _ (tup_new w _ _).1).mono ?_; rintro e w1 ⟨rfl, hw1⟩; have hB1 : Below w.heap.size w w1 := by rw [hw1]; exact (tup_new w _ _).1
                 clear hw1)
    go_ret2
    exact ⟨rfl, hB1⟩
  · have hd : decide (n < 0) = false := by simp; omega
    have hd2 : decide (24 < n) = true := by simp; omega
    clear hn
    go_enter Try.func43, Try.ntmps43
    go_wp2_with (go_at_call 40; refine (Hth.out _ (tup_new w _ _).1).mono ?_; rintro e w1 ⟨rfl, hw1⟩; have hB1 : Below w.heap.size w w1 := by rw [hw1]; exact (tup_new w _ _).1
                 clear hw1)
    go_ret2
    exact ⟨rfl, hB1⟩

set_option maxHeartbeats 2000000 in
theorem ref_tuple_ok {w : World} {rb most : Nat} {vs : List Val} {S : List Nat} (h : RTab w rb most vs S) (rs : List Int) (hl : rs.length = 24) (hrs : ∀ r ∈ rs, r ≤ 2147483647) (n : Nat) (hn24 : n ≤ 24) :
    Calls Try.prog 43 #[.pointer (some ⟨rb, 0, none⟩), .agg (rowI rs), .int .i64 (n : Int)] w fun e w' =>
      ∃ A' cap', e = .returned (.tuple #[.slice A' (tupRes vs rs n).1.length cap', .int .i64 (tupRes vs rs n).2]) ∧ RdV w' A' (tupRes vs rs n).1 ∧ Below w.heap.size w w' := by
  have Hth := Lib.hid (fun W (hb : Below w.heap.size w W) => ref_there (h.below hb))
  have HT := Lib.hid h
  have Hrs := Lib.hid hrs
  have Hl := Lib.hid hl
  have hd1 : decide ((n : Int) < 0) = false := by simp
  have hd2 : decide ((24 : Int) < (n : Int)) = false := by simp; omega
  obtain ⟨⟨rl, rc⟩, hR⟩ : ∃ R, tupRes vs rs n = R := ⟨_, rfl⟩
  rw [hR]
  have HR := Lib.hid (show (if (tupGo vs (rs.take n) []).2 = 0 then ((tupGo vs (rs.take n) []).1, (0 : Int)) else ([], 21)) = (rl, rc) from
    Eq.trans (show _ = tupRes vs rs n from by unfold tupRes; rw [if_neg (show ¬ ((n : Int) < 0 ∨ 24 < (n : Int)) by omega), Int.toNat_natCast]) hR)
  clear h hrs hl hR
  simp only
  obtain ⟨i0, hi, hz0, hz1, hz2⟩ := info_parts Try.infoV
  go_enter Try.func43, Try.ntmps43
  go_wp2_with (go_at_call 40; refine (Hth.out _ (tup_new w _ _).1).mono ?_; rintro e w1 ⟨rfl, hw1⟩
               have h3 : Below w.heap.size w w1 ∧ Blk w1 w.heap.size 43 (rowI rs) ∧ w1.heap.size = w.heap.size + 1 := by rw [hw1]; exact tup_new w _ _
               clear hw1
               obtain ⟨hB1, hbox, hs1⟩ := h3
               have Hbox := Lib.hid hbox
               have Hs1 := Lib.hid hs1
               clear hbox hs1)
  go_loopg [8, 9, 10, 11] n (fun gk l i _ _ wx => ∃ (j : Nat) (out : List Val) (A' : Option Addr) (cap' : Nat), j ≤ n ∧ gk = n - j ∧ i = .int .i64 j ∧ out.length = j ∧ l = .slice A' j cap' ∧ tupGo vs (rs.take n) [] = tupGo vs ((rs.take n).drop j) out ∧ RowV wx A' cap' out ∧ (∀ g ∈ blkOf A', w1.heap.size ≤ g) ∧ Below w1.heap.size w1 wx)
  case atStart => exact ⟨0, [], none, 0, Nat.zero_le _, rfl, rfl, rfl, rfl, rfl, RowV.nil_ _, by simp [blkOf], Below.refl _ _⟩
  case round =>
    obtain ⟨j, out, A', cap', hj, rfl, rfl, hol, rfl, hgo, hrow, hfr, hB⟩ := hrel
    obtain ⟨wo, rfl⟩ : ∃ wo : World, wo = wr := ⟨_, rfl⟩
    have hBw : Below w.heap.size w wo := hB1.trans (hB.mono hB1.size)
    by_cases hlt : j < n
    · have hjr : j < rs.length := by rw [Hl.out]; omega
      have hjt : j < (rs.take n).length := by rw [List.length_take]; omega
      have c0 : wo.cell? ⟨w.heap.size, j, none⟩ = some (.int .i32 rs[j]) := by
        rw [(Hbox.out.same (hB.block _ Hbox.out.lt)).cell]; simp [rowI, hjr]
      rw [List.drop_eq_getElem_cons hjt, tupGo_cons, List.getElem_take] at hgo
      have hb31 := Hrs.out rs[j] (List.getElem_mem hjr)
      have j24 : j < 24 := by omega
      have Hrow := Lib.hid hrow
      have Hfr := Lib.hid hfr
      have Hol := Lib.hid hol
      clear hrow hfr hol
      by_cases hm : 0 ≤ rs[j] ∧ rs[j] < vs.length
      · simp only [if_pos hm] at hgo
        obtain ⟨r, hr⟩ : ∃ r : Nat, rs[j] = r := ⟨rs[j].toNat, by omega⟩
        rw [hr] at hgo c0 hm
        have hrl2 : r < vs.length := by omega
        rw [Int.toNat_natCast, show vs.getD r Val.zero = vs[r] from by rw [List.getD_eq_getElem?_getD, List.getElem?_eq_getElem hrl2]; rfl] at hgo
        have hval := ref_value_yes (HT.out.below hBw) r hrl2
        have Hval := Lib.hid hval
        have Hgo := Lib.hid hgo
        clear hval hgo hm hr
        generalize vs[r] = v at Hval Hgo
        have Hcells := Lib.hid (show v.cells = [.int .i8 v.k, .int .i64 v.n, .string v.s] from rfl)
        have Hva := Lib.hid (show v.agg = .agg #[.int .i8 v.k, .int .i64 v.n, .string v.s] from rfl)
        obtain ⟨vk, hvk⟩ : ∃ x, v.k = x := ⟨_, rfl⟩
        obtain ⟨vn, hvn⟩ : ∃ x, v.n = x := ⟨_, rfl⟩
        obtain ⟨s, hvs⟩ : ∃ x, v.s = x := ⟨_, rfl⟩
        rw [Hva.out] at Hval
        rw [hvk, hvn, hvs] at Hval Hcells
        clear hvk hvn hvs Hva
        have h63 : j + 1 ≤ maxLen := by unfold maxLen; omega
        have h32 : (j + 1) * 32 ≤ 140737488355328 := by omega
        go_upto_region 12 with (go_at_call 37; refine Hval.out.mono ?_; rintro e W2 ⟨rfl, hb2⟩)
        have h3 := box_new W2 vk vn s
        generalize W2.alloc (.cells #[.int .i8 vk, .int .i64 vn, .string s] 36) = W3 at h3 ⊢
        obtain ⟨hb3, hbx⟩ := h3
        have x0 : W3.cell? ⟨W2.heap.size, 0, none⟩ = some (.int .i8 vk) := hbx.cell 0
        have x1 : W3.cell? ⟨W2.heap.size, 1, none⟩ = some (.int .i64 vn) := hbx.cell 1
        have x2 : W3.cell? ⟨W2.heap.size, 2, none⟩ = some (.string s) := hbx.cell 2
        have hB3 : Below w1.heap.size w1 W3 := hB.trans ((hb2.trans (hb3.mono hb2.size)).mono hB.size)
        have hrow3 : RowV W3 A' cap' out := Hrow.out.below_ (hb2.trans (hb3.mono hb2.size))
        have hown : W3.ownsRow 0 36 3 (.slice A' j cap') j (vcells out) := by unfold RowV at hrow3; rw [Hol.out] at hrow3; exact hrow3
        have Hown := Lib.hid hown
        have HB3 := Lib.hid hB3
        have Hc1 := Lib.hid (cells3_new' W3 (.int .i8 vk) (.int .i64 vn) (.string s) 36)
        have Hc2 := Lib.hid (three_one vk vn s)
        clear hown hrow3 hB3 hb2 hb3
        go_wp2_with (at_builtin; refine wpList_append_own_at _ rfl _ _ 22 rfl 0 36 i0 _ 3 32 Try.underlying22 hi hz0 hz1 hz2 rfl (by decide) _ j _ rfl (Hown.out.alloc _) ⟨W3.heap.size, 0, none⟩ 1 1 [.int .i8 vk, .int .i64 vn, .string s] rfl rfl Hc1.out Hc2.out h63 h32 (Nat.zero_le _) ?_)
        intro v' W4 hown4 hgrow4 hnil4 hloc4
        obtain ⟨g4, cap4, rfl⟩ : ∃ g cap', v' = .slice (some ⟨g, 0, none⟩) (j + 1) cap' := by
          obtain ⟨g, cap', hv, _⟩ := hown4.form (Nat.succ_pos j)
          exact ⟨g, cap', hv⟩
        have hrow4 : RowV W4 (some ⟨g4, 0, none⟩) cap4 (out ++ [v]) := by
          unfold RowV
          rw [List.length_append, Hol.out, vcells_append, show vcells [v] = v.cells from by simp [vcells], Hcells.out]
          exact hown4
        have hob : ∀ g, (Value.slice A' j cap').ownBlock = some g → w1.heap.size ≤ g := fun g hg => Hfr.out g (own_blk _ _ _ _ hg)
        have hbel4 : Below w1.heap.size w1 W4 := (HB3.out.alloc HB3.out.size _).grown hgrow4 (by have := HB3.out.size; simp; omega) hob
        have hfresh4 : ∀ g ∈ blkOf (some (⟨g4, 0, none⟩ : Addr)), w1.heap.size ≤ g := by
          intro g hg
          simp [blkOf] at hg
          subst hg
          rcases hloc4 with h | h
          · exact hob _ (by rw [← h]; rfl)
          · have : g = (W3.alloc (.cells #[.int .i8 vk, .int .i64 vn, .string s] 36)).heap.size := by simpa [Value.ownBlock] using h
            have h2 := HB3.out.size
            rw [this]; simp; omega
        have Hrow4 := Lib.hid hrow4
        have Hbel4 := Lib.hid hbel4
        have Hfresh4 := Lib.hid hfresh4
        clear hown4 hgrow4 hnil4 hloc4 hrow4 hbel4 hfresh4 hob
        go_wp2
        go_roundg (n - (j + 1))
        case measure => omega
        case rel => exact ⟨j + 1, out ++ [v], some ⟨g4, 0, none⟩, cap4, by omega, rfl, by go_num, by rw [List.length_append, Hol.out]; rfl, rfl, Hgo.out, Hrow4.out, Hfresh4.out, Hbel4.out⟩
      · simp only [if_neg hm] at hgo
        have hval := ref_value_no (HT.out.below hBw) rs[j] (by omega) hb31
        have Hval := Lib.hid hval
        have e := HR.out
        rw [hgo] at e
        have e2 := e.symm.trans (if_neg (show ¬ (21 : Int) = 0 by decide))
        simp only [Prod.mk.injEq] at e2
        obtain ⟨rfl, rfl⟩ := e2
        clear hval hgo hm e HR
        simp only [Val.zero, Val.agg] at Hval
        generalize rs[j] = r at Hval c0
        go_wp2_with (go_at_call 37; refine Hval.out.mono ?_; rintro e W2 ⟨rfl, hb2⟩)
        go_ret2
        refine ⟨none, 0, rfl, fun h => absurd rfl h, ?_⟩
        have hb := hBw.trans (hb2.mono hBw.size)
        repeat (first | exact hb | refine Below.setCell ?_ hb.size _ | refine Below.alloc ?_ hb.size _)
    · obtain rfl : j = n := by omega
      rw [List.drop_of_length_le (by rw [List.length_take]; omega)] at hgo
      have e := HR.out
      rw [hgo] at e
      have e2 := e.symm.trans (if_pos rfl)
      simp only [Prod.mk.injEq, tupGo] at e2
      obtain ⟨rfl, rfl⟩ := e2
      have Hrow := Lib.hid hrow
      have Hol := Lib.hid hol
      clear hgo e HR hrow hol
      go_wp2
      go_ret2
      rw [Hol.out]
      exact ⟨A', cap', rfl, Hrow.out.rd, hBw⟩

end Go.Proofs.Ythdpaakkamccbaa

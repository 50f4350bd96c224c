/-
  SymbolFresh's walk.
-/
import Derived.Test.YthdpaakkamccbaaSymFreshL
import Derived.Deep.CutBlock
import Derived.Deep.DeepCutAuto
namespace Go.Proofs.Ythdpaakkamccbaa
open Go.RowKit Go.Maps

set_option maxRecDepth 100000 in
set_option maxHeartbeats 8000000 in
theorem fresh_any (A : Option Addr) (cap : Nat) (vs0 : List Val) (n0 : Int) (w : World) (hrd : RdV w A vs0) (hwf : ∀ v ∈ vs0, v.wf) (hreach : vs0.length * 32 ≤ 140737488351232) (hn0 : -9223372036854775808 ≤ n0) (hn0' : n0 ≤ 9223372036854775807) :
    Calls Try.prog 5 #[.slice A vs0.length cap, .int .i64 n0] w fun e w' => e = .returned (.bool true) ∧ Below w.heap.size w w' := by
  have hlives := Lib.hid (lives_any w)
  have hgood0 := goodL_good 24 vs0 hwf
  have hgood := Lib.hid (fun W h => good_any A cap 24 vs0 W h hreach (by omega))
  obtain ⟨l, hl⟩ : ∃ l, vs0.length = l := ⟨_, rfl⟩
  rw [hl] at hreach hgood ⊢
  have Hrd := Lib.hid hrd
  clear hwf hl hrd
  generalize goodL 24 vs0 = vs at hgood0 hgood
  have Hok := Lib.hid hgood0.ok
  have Hwf := Lib.hid hgood0.wf
  have hm24 := hgood0.le
  have Hgood0 := Lib.hid (show GoodL vs.length vs from ⟨hgood0.wf, hgood0.ok, hgood0.nodup, Nat.le_refl _⟩)
  clear hgood0
  obtain ⟨m, hm⟩ : ∃ m, vs.length = m := ⟨_, rfl⟩
  rw [hm] at hgood hm24
  have Hm := Lib.hid hm
  clear hm
  go_enter Try.func5, Try.ntmps5
  go_wp2_with (go_at_call 9; refine hlives.out.mono ?_; rintro e W1 ⟨rfl, hb1⟩)
  refine (hgood.out W1 (Hrd.out.below hb1)).mono ?_
  rintro e W2 ⟨A2, cap2, rfl, hrow2, hfr2, hb2⟩
  have hbW2 : Below w.heap.size w W2 := hb1.trans (hb2.mono hb1.size)
  have hfill := filled_any A2 cap2 vs.length vs W2 hrow2.rd Hgood0.out (by rw [Hm.out]; omega)
  rw [Hm.out] at hfill
  have Hfill := Lib.hid hfill
  have Hrow2 := Lib.hid hrow2
  clear hfill hrow2 hfr2 hb1 hb2 hgood hlives
  have hgo := rowGo_there m vs Hok.out (by rw [Hm.out]; exact hm24)
  have hof := Of.self vs
  have hns : (vs.map vs.idxOf).length = m := by rw [List.length_map, Hm.out]
  generalize vs.map vs.idxOf = ns at hgo hof hns
  have Hof := Lib.hid hof
  have Hns := Lib.hid (show ns.length ≤ 24 by omega)
  have Hgo := Lib.hid hgo
  clear hgo hof hns
  go_upto_if 48 with (first
    | (go_at_call 11; refine Hfill.out.mono ?_; rintro e W3 ⟨tb, S, rfl, hT3, hS3, hb3⟩
       have hd3 : ∀ g ∈ blkOf A2, g ∉ S := fun g hg hs => by have := Hrow2.out.lt g hg; have := hS3 g hs; omega
       have hrow3 := Hrow2.out.below_ hb3
       have hrw := row_any hT3 vs A2 cap2 hrow3.rd (fun a ha => ⟨hd3 _ (by rw [ha]; simp [blkOf]), hrow3.lt _ (by rw [ha]; simp [blkOf])⟩) Hwf.out
       rw [Hgo.out, Hm.out] at hrw
       simp only at hrw
       have Hrw := Lib.hid hrw
       have Hrow3 := Lib.hid hrow3
       have Hd3 := Lib.hid hd3
       clear hrw hrow3 hd3 hT3)
    | (go_at_call 17; refine Hrw.out.mono ?_; rintro e W4 ⟨S4, rfl, hT4, hC4, hS4⟩)
    | (refine at_store 43 _ _ rfl ?_; refine wpList_store_new 43 _ _ rfl rfl W4.heap.size (rowOf ns) rfl rfl 43 (rowOf []) (Blk.new W4 _ (rowOf [])) (rowOf_info ns Hns.out) (by rw [rowOf_size ns Hns.out]; rfl) (rowOf_one ns) (fun W => Below W4.heap.size W4 W ∧ Blk W W4.heap.size 43 (rowOf ns)) (row_new W4 ns []) ?_
       rintro W5 ⟨hb5, hr5⟩))
  have hbW3 : Below w.heap.size w W3 := hbW2.trans (hb3.mono hbW2.size)
  have hbW4 : Below w.heap.size w W4 := hbW3.trans (hC4.below hbW3.size (fun x hx => Nat.le_trans hbW2.size (hS3 x hx)))
  have hbW5 : Below w.heap.size w W5 := hbW4.trans (hb5.mono hbW4.size)
  have HT5 := Lib.hid (hT4.below hb5)
  have Hv5 := Lib.hid ((Hrow3.out.same fun g hg => hC4.block g (Hrow3.out.lt g hg) (Hd3.out g hg)).below_ hb5)
  have Hr5 := Lib.hid hr5
  clear hbW3 hbW4 hbW2 hT4 hC4 hS4 hb5 hS3 hb3 hr5 Hrow2 Hrow3 Hd3 Hrw Hgo Hfill Hrd
  obtain ⟨k, hk⟩ : ∃ k : Nat, n0 % ((m : Int) + 1) = k := ⟨(n0 % ((m : Int) + 1)).toNat, by have := Int.emod_nonneg n0 (show ((m : Int) + 1) ≠ 0 by omega); omega⟩
  have hkm : k ≤ m := by have := Int.emod_lt_of_pos n0 (show 0 < ((m : Int) + 1) by omega); omega
  go_cut [9] (fun v wx => W5 = wx ∧ v = .int .i64 (k : Int))
  case first =>
    by_cases h0 : 0 ≤ n0
    · have ht : n0.tmod ((m : Int) + 1) = k := by rw [Int.tmod_eq_emod_of_nonneg h0, hk]
      have ht2 : n0 % ((m : Int) + 1) = k := hk
      clear hk
      go_wp2
      all_goals (go_meet; exact ⟨rfl, by rw [ht]⟩)
    · have ht := tmod_neg n0 ((m : Int) + 1) (by omega) (by omega)
      rw [hk] at ht
      clear hk
      obtain ⟨t, htt⟩ : ∃ t, n0.tmod ((m : Int) + 1) = t := ⟨_, rfl⟩
      rw [htt] at ht
      by_cases hneg : t < 0
      · have e := Lib.hid (ht.1 hneg)
        have hb : -((m : Int) + 1) ≤ t := by have := ht.1 hneg; omega
        clear ht
        go_wp2
        all_goals (go_meet; exact ⟨rfl, by rw [← e.out, Int.add_assoc]⟩)
      · have e := Lib.hid (ht.2 hneg)
        clear ht
        go_wp2
        all_goals (go_meet; exact ⟨rfl, by rw [e.out]⟩)
  case rest =>
    obtain ⟨rfl, rfl⟩ := hcut
    clear hk
    go_upto_block 0 with fail
    have h2 : Below W5.heap.size W5 ((W5.alloc (.cells #[.int .i64 (m : Int), .int .i64 (k : Int), .int .i64 (m : Int), .int .i64 (k : Int)] 47)).alloc (.cells #[.slice none 0 0, .slice none 0 0, .slice none 0 0, .slice none 0 0] 48)) ∧
        Blk ((W5.alloc (.cells #[.int .i64 (m : Int), .int .i64 (k : Int), .int .i64 (m : Int), .int .i64 (k : Int)] 47)).alloc (.cells #[.slice none 0 0, .slice none 0 0, .slice none 0 0, .slice none 0 0] 48)) W5.heap.size 47 (szs m k) ∧
        Blk ((W5.alloc (.cells #[.int .i64 (m : Int), .int .i64 (k : Int), .int .i64 (m : Int), .int .i64 (k : Int)] 47)).alloc (.cells #[.slice none 0 0, .slice none 0 0, .slice none 0 0, .slice none 0 0] 48)) (W5.heap.size + 1) 48 (slots4 []) ∧ _ := two_new W5 _ _ _ _
    generalize ((W5.alloc (.cells #[.int .i64 (m : Int), .int .i64 (k : Int), .int .i64 (m : Int), .int .i64 (k : Int)] 47)).alloc (.cells #[.slice none 0 0, .slice none 0 0, .slice none 0 0, .slice none 0 0] 48)) = W6 at h2 ⊢
    obtain ⟨hb6, hs6, hl6, hz6⟩ := h2
    have hbW6 : Below w.heap.size w W6 := hbW5.trans (hb6.mono hbW5.size)
    have HT6 := Lib.hid (HT5.out.below hb6)
    have Hv6 := Lib.hid (Hv5.out.below_ hb6)
    have Hr6 := Lib.hid (Hr5.out.same (hb6.block _ Hr5.out.lt))
    have Hs6 := Lib.hid hs6
    have Hl6 := Lib.hid hl6
    have hne7 : W4.heap.size < W5.heap.size := Hr5.out.lt
    have hSlt : ∀ x ∈ S4, x < W5.heap.size := HT5.out.lt
    have hVlt : ∀ x ∈ blkOf A2, x < W5.heap.size := Hv5.out.lt
    have HSlt := Lib.hid hSlt
    have HW5 := Lib.hid hbW5.size
    have HVlt := Lib.hid hVlt
    clear hs6 hl6 hb6 HT5 Hv5 Hr5 hbW5 hSlt hVlt
    go_wp2_with fail
    go_loopg [12, 13, 14] 4 (fun gk i _ _ wx => ∃ (j : Nat) (bs : List Nat), j ≤ 4 ∧ gk = 4 - j ∧ i = .int .i64 j ∧ bs.length = j ∧ Lists wx bs (fun a => vs.take (sz m k a)) ∧ (∀ b ∈ bs, W6.heap.size ≤ b) ∧ Blk wx (W5.heap.size + 1) 48 (slots4 (lsV m k bs)) ∧ Chg [W5.heap.size + 1] W6 wx)
    case atStart => exact ⟨0, [], by omega, rfl, rfl, rfl, Lists.nil _ _, by simp, Hl6.out, Chg.refl _ _⟩
    case round =>
      obtain ⟨j, bs, hj, rfl, rfl, hbl, hls, hbf, hl, hC⟩ := hrel
      obtain ⟨wo, rfl⟩ : ∃ wo : World, wo = wr := ⟨_, rfl⟩
      by_cases hlt : j < 4
      · have hT : Tab wo tb m vs S4 := HT6.out.chg hC (fun x hx hm => by have := HSlt.out x hx; simp at hm; omega)
        have hr : Blk wo W4.heap.size 43 (rowOf ns) := Hr6.out.same (hC.block _ Hr6.out.lt (by simp; omega))
        have hs : Blk wo W5.heap.size 47 (szs m k) := Hs6.out.same (hC.block _ Hs6.out.lt (by simp))
        obtain ⟨n, hn⟩ : ∃ n, sz m k j = n := ⟨_, rfl⟩
        have hnm : n ≤ m := hn ▸ sz_le hkm j
        have hc : wo.cell? ⟨W5.heap.size, j, none⟩ = some (.int .i64 (n : Int)) := (hs.cell j).trans (hn ▸ szs_at m k j hlt)
        have htup := tuple_blk (show Tab wo.drew tb m vs S4 from hT.same fun x _ => rfl) Hof.out (by rw [Hm.out]; exact hm24) n (by rw [Hm.out]; exact hnm)
        have Htup := Lib.hid htup
        rw [rowL_eq] at Htup
        have hu7 := Try.underlying43
        have hi7 := rowL_info ns Hns.out
        have hl7 := rowL_length ns Hns.out
        have hS0 : wo.drew.rangeAt W4.heap.size 0 (rowL ns) ∧ wo.drew.cell? ⟨W5.heap.size, j, none⟩ = some (.int .i64 (n : Int)) := ⟨(show Blk wo.drew _ _ _ from hr).range, hc⟩
        have Hr := Lib.hid hr
        have Hls := Lib.hid hls
        have Hl := Lib.hid hl
        have HC := Lib.hid hC
        have Hbf := Lib.hid hbf
        have Hn := Lib.hid hn
        have Hbl := Lib.hid hbl
        have Hslt := Lib.hid hs.lt
        have Hrlt := Lib.hid hr.lt
        clear htup hls hl hC hbf hn hT hr hs hc hbl
        go_upto_region 16 with fail
        go_cut [13, 14] from 61 to 78 (fun x e wx => ∃ lb, x = .slice (some ⟨lb, 0, none⟩) n n ∧ e = .int .i64 0 ∧ wo.heap.size ≤ lb ∧ Blk wx lb 36 (vcells (vs.take n)).toArray ∧ Below wo.heap.size wo wx)
        case first =>
          go_region_held3 (fun W' : World => W'.rangeAt W4.heap.size 0 (rowL ns) ∧ W'.cell? ⟨W5.heap.size, j, none⟩ = some (.int .i64 (n : Int))) (first | exact hS0 | exact hS1) (first
            | (go_at_call 18; refine Htup.out.mono ?_; rintro e Wt ⟨lb, rfl, hlb, hbk, hbt⟩
               have hS1 : Wt.rangeAt W4.heap.size 0 (rowL ns) ∧ Wt.cell? ⟨W5.heap.size, j, none⟩ = some (.int .i64 (n : Int)) := ⟨(Hr.out.same (hbt.block _ Hrlt.out)).range, (hbt.cell Hslt.out).trans hS0.2⟩))
          all_goals (go_wp2_with fail; go_meet; exact ⟨lb, rfl, rfl, hlb, hbk, (show Below wo.heap.size wo wo.drew from ⟨rfl, rfl, rfl, Nat.le_refl _, fun _ _ => rfl⟩).trans hbt⟩)
        case rest =>
          obtain ⟨lb, rfl, rfl, hlb, hbk, hbt⟩ := hcut
          obtain ⟨Wt, rfl⟩ : ∃ Wt : World, Wt = wc := ⟨_, rfl⟩
          have hl' : Blk Wt (W5.heap.size + 1) 48 (slots4 (lsV m k bs)) := Hl.out.same (hbt.block _ Hl.out.lt)
          have hll : (lsV m k bs).length = j := by rw [lsV_length, Hbl.out]
          have d0 : Wt.cell? ⟨W5.heap.size + 1, j, none⟩ = some (.slice none 0 0) := (hl'.cell j).trans (by have := slots4_none (lsV m k bs) (by omega); rw [hll] at this; exact this)
          have f0 : Wt.frozen? ⟨W5.heap.size + 1, j, none⟩ = false := hl'.frozen j
          have Hl' := Lib.hid hl'
          have Hll := Lib.hid hll
          have Hz6 := Lib.hid hz6
          clear hl' hll hz6 hS0 hu7 hi7 hl7
          go_wp2
          go_roundg (4 - (j + 1))
          case measure => omega
          case rel =>
            have hg6 : ∀ b ∈ bs ++ [lb], W6.heap.size ≤ b := fun b hb => by
              rcases List.mem_append.1 hb with hb | hb
              · exact Hbf.out b hb
              · rw [List.mem_singleton.1 hb]; exact Nat.le_trans HC.out.size hlb
            refine ⟨j + 1, bs ++ [lb], by omega, rfl, by go_num, by rw [List.length_append, Hbl.out]; rfl, ?_, hg6, ?_, ?_⟩
            · refine ((Hls.out.below hbt).snoc (b := lb) ?_ (fun hm => by have := Hls.out.lt lb hm; omega)).same fun b hb => Below.heap_setCell _ _ _ _ (by have := hg6 b hb; have := Hz6.out; simp; omega)
              show Blk Wt lb 36 (vcells (vs.take (sz m k bs.length))).toArray
              rw [Hbl.out, Hn.out]
              exact hbk
            · have h1 := Hl'.out.set_ j (.slice (some ⟨lb, 0, none⟩) n n)
              have h2 := slots4_set (lsV m k bs) (.slice (some ⟨lb, 0, none⟩) n n) (by rw [Hll.out]; omega)
              rw [Hll.out] at h2
              rw [h2] at h1
              rw [lsV_snoc, Hbl.out, Hn.out]
              exact h1
            · exact (HC.out.trans (Chg.of_below [] hbt) (fun x hx => by cases hx)).setCell (.inl (by simp)) _
      · have hj4 : j = 4 := by omega
        have hd4 : decide (j < 4) = false := by simp; omega
        have hd4' : decide ((j : Int) < 4) = false := by simp; omega
        have hbl := hbl.trans hj4
        clear hj hj4
        have hT7 : Tab wo tb m vs S4 := HT6.out.chg hC (fun x hx hm => by have := HSlt.out x hx; simp at hm; omega)
        have hr7 : Blk wo W4.heap.size 43 (rowOf ns) := Hr6.out.same (hC.block _ Hr6.out.lt (by simp; omega))
        have hs7 : Blk wo W5.heap.size 47 (szs m k) := Hs6.out.same (hC.block _ Hs6.out.lt (by simp))
        have hv7 : RowV wo A2 cap2 vs := Hv6.out.same fun g hg => hC.block g (Hv6.out.lt g hg) (fun hm => by have := HVlt.out g hg; simp at hm; omega)
        have hbW7 : Below w.heap.size w wo := hbW6.trans (hC.below hbW6.size (fun x hx => by have := HW5.out; simp at hx; omega))
        have HT7 := Lib.hid hT7
        have Hr7 := Lib.hid hr7
        have Hs7 := Lib.hid hs7
        have Hv7 := Lib.hid hv7
        have Hl7 := Lib.hid hl
        have Hls7 := Lib.hid hls
        have Hbf := Lib.hid hbf
        have Hbl := Lib.hid hbl
        have Hz6 := Lib.hid hz6
        have HW67 := Lib.hid hC.size
        clear hT7 hr7 hs7 hv7 hl hls hbf hbl hC hz6 hbW6 HT6 Hv6 Hr6 Hs6 Hl6
        obtain ⟨W7, rfl⟩ : ∃ W7 : World, W7 = wo := ⟨_, rfl⟩
        go_wp2_with fail
        go_loopg [15] 4 (fun gk i wx => ∃ j : Nat, j ≤ 4 ∧ gk = 4 - j ∧ i = .int .i64 j ∧ Below W7.heap.size W7 wx)
        case atStart => exact ⟨0, by omega, rfl, rfl, Below.refl _ _⟩
        case round =>
          obtain ⟨j, hj, rfl, rfl, hbr⟩ := hrel
          obtain ⟨wo, rfl⟩ : ∃ wo : World, wo = wr := ⟨_, rfl⟩
          by_cases hlt : j < 4
          · have hjb : j < bs.length := by rw [Hbl.out]; exact hlt
            obtain ⟨n, hn⟩ : ∃ n, sz m k j = n := ⟨_, rfl⟩
            have hnm : n ≤ m := hn ▸ sz_le hkm j
            have c1 : wo.cell? ⟨W5.heap.size + 1, j, none⟩ = some (.slice (some ⟨bs[j], 0, none⟩) n n) := ((Hl7.out.same (hbr.block _ Hl7.out.lt)).cell j).trans (hn ▸ lsV_at m k bs j hjb)
            have c2 : wo.cell? ⟨W5.heap.size, j, none⟩ = some (.int .i64 (n : Int)) := ((Hs7.out.same (hbr.block _ Hs7.out.lt)).cell j).trans (hn ▸ szs_at m k j hlt)
            have hsl := slice_vals Hv7.out n (by rw [Hm.out]; exact hnm)
            rw [Hm.out] at hsl
            have htl : (vs.take n).length = n := by rw [List.length_take, Hm.out]; omega
            have hsame := same_yes (some ⟨bs[j], 0, none⟩) A2 n cap2 (vs.take n) wo.drew ((show Blk wo.drew bs[j] 36 (vcells (vs.take n)).toArray from hn ▸ (Hls7.out.below hbr).blk j hjb).rdv) (((Hv7.out.below_ hbr).take n (by rw [Hm.out]; exact hnm)).rd.keep (w' := wo.drew) (Nat.le_refl _) (fun _ _ => rfl)) (by rw [htl]; omega)
            rw [htl] at hsame
            have Hsame := Lib.hid hsame
            clear hsame htl hn
            generalize bs[j] = b at c1 Hsame
            go_upto_region 23 with fail
            refine still_tail 8 (by kernel_rfl) (by kernel_rfl) ?_
            simp only [List.take_succ_cons, List.take_zero, List.drop_succ_cons, List.drop_zero]
            repeat still_step
            refine wpStill_nil ?_
            go_wp2_with (go_at_call 19; refine Hsame.out.mono ?_; rintro e Wt ⟨rfl, hbt⟩)
            go_roundg (4 - (j + 1))
            case measure => omega
            case rel => exact ⟨j + 1, by omega, rfl, by go_num, hbr.trans ((show Below wo.heap.size wo wo.drew from ⟨rfl, rfl, rfl, Nat.le_refl _, fun _ _ => rfl⟩).trans hbt |>.mono hbr.size)⟩
          · have hd4 : decide (j < 4) = false := by simp; omega
            have hd4' : decide ((j : Int) < 4) = false := by simp; omega
            clear hj
            have hb8 : Below w.heap.size w wo := hbW7.trans (hbr.mono hbW7.size)
            have HT8 := Lib.hid (HT7.out.below hbr)
            have Hr8 := Lib.hid (Hr7.out.same (hbr.block _ Hr7.out.lt))
            have Hv8 := Lib.hid (Hv7.out.below_ hbr)
            have Hl8 := Lib.hid (Hl7.out.same (hbr.block _ Hl7.out.lt))
            have Hls8 := Lib.hid (Hls7.out.below hbr)
            have hgb : W5.heap.size + 1 ∉ bs := fun hm => by have := Hbf.out _ hm; have := Hz6.out; omega
            have Hgb := Lib.hid hgb
            clear hbr hbW7 HT7 Hr7 Hs7 Hv7 Hl7 Hls7 hgb
            obtain ⟨W8, rfl⟩ : ∃ W8 : World, W8 = wo := ⟨_, rfl⟩
            go_wp2_with fail
            go_loopg [16, 17] 4 (fun gk i _ wx => ∃ (j : Nat) (c : Nat → List Val), j ≤ 4 ∧ gk = 4 - j ∧ i = .int .i64 j ∧ Lists wx bs c ∧ (∀ a, a < 4 → (c a).length = sz m k a) ∧ (∀ a, a < j → c a = List.replicate (sz m k a) (mark 5 a)) ∧ Chg bs W8 wx)
            case atStart => exact ⟨0, _, by omega, rfl, rfl, Hls8.out, fun a _ => by have := sz_le hkm a; show (vs.take (sz m k a)).length = _; rw [List.length_take, Hm.out]; omega, fun a ha => by omega, Chg.refl _ _⟩
            case round =>
              obtain ⟨j, c, hj, rfl, rfl, hls, hcl, hcm, hC⟩ := hrel
              by_cases hlt : j < 4
              · have hjb : j < bs.length := by rw [Hbl.out]; exact hlt
                obtain ⟨n, hn⟩ : ∃ n, sz m k j = n := ⟨_, rfl⟩
                have hnm : n ≤ m := hn ▸ sz_le hkm j
                have Hn := Lib.hid hn
                have Hls := Lib.hid hls
                have Hcl := Lib.hid hcl
                have Hcm := Lib.hid hcm
                have HC := Lib.hid hC
                clear hn hls hcl hcm hC
                go_wp2_with fail
                go_loopg [17] n (fun gk i wx => ∃ (t : Nat) (c : Nat → List Val), t ≤ n ∧ gk = n - t ∧ i = .int .i64 t ∧ Lists wx bs c ∧ (∀ a, a < 4 → (c a).length = sz m k a) ∧ (∀ a, a < j → c a = List.replicate (sz m k a) (mark 5 a)) ∧ (∀ s, s < t → (c j)[s]? = some (mark 5 j)) ∧ Chg bs W8 wx)
                case atStart => exact ⟨0, c, by omega, rfl, rfl, Hls.out, Hcl.out, Hcm.out, fun s hs => by omega, HC.out⟩
                case round =>
                  clear Hls Hcl Hcm HC
                  obtain ⟨t, c, ht, rfl, rfl, hls, hcl, hcm, hct, hC⟩ := hrel
                  obtain ⟨wi, rfl⟩ : ∃ wi : World, wi = wr := ⟨_, rfl⟩
                  have c1 : wi.cell? ⟨W5.heap.size + 1, j, none⟩ = some (.slice (some ⟨bs[j], 0, none⟩) n n) := ((Hl8.out.same (hC.block _ Hl8.out.lt Hgb.out)).cell j).trans (Hn.out ▸ lsV_at m k bs j hjb)
                  by_cases htn : t < n
                  · have hbk := hls.blk j hjb
                    have hcj : (c j).length = n := (hcl j hlt).trans Hn.out
                    have htc : t < (c j).length := by rw [hcj]; exact htn
                    obtain ⟨e0, e1, e2⟩ := vcells_at (c j) t htc
                    have Hls := Lib.hid hls
                    have Hcl := Lib.hid hcl
                    have Hcm := Lib.hid hcm
                    have Hct := Lib.hid hct
                    have HC := Lib.hid hC
                    have Hbk := Lib.hid hbk
                    have Hcj := Lib.hid hcj
                    obtain ⟨b, hb⟩ : ∃ b, bs[j] = b := ⟨_, rfl⟩
                    rw [hb] at c1 hbk
                    have Hb := Lib.hid hb
                    have d0 : wi.cell? ⟨b, t * 3, none⟩ = some (.int .i8 ((c j)[t]).k) := (hbk.cell _).trans (by simpa using e0)
                    have f0 : wi.frozen? ⟨b, t * 3, none⟩ = false := hbk.frozen _
                    have d1 : ∀ u, (wi.setCell ⟨b, t * 3, none⟩ u).cell? ⟨b, t * 3 + 1, none⟩ = some (.int .i64 ((c j)[t]).n) := fun u => ((hbk.set_ _ u).cell _).trans (by rw [Array.getElem?_setIfInBounds_ne (by omega)]; simpa using e1)
                    have f1 : ∀ u, (wi.setCell ⟨b, t * 3, none⟩ u).frozen? ⟨b, t * 3 + 1, none⟩ = false := fun u => (hbk.set_ _ u).frozen _
                    have d2 : ∀ u u', ((wi.setCell ⟨b, t * 3, none⟩ u).setCell ⟨b, t * 3 + 1, none⟩ u').cell? ⟨b, t * 3 + 2, none⟩ = some (.string ((c j)[t]).s) := fun u u' => (((hbk.set_ _ u).set_ _ u').cell _).trans (by rw [Array.getElem?_setIfInBounds_ne (by omega), Array.getElem?_setIfInBounds_ne (by omega)]; simpa using e2)
                    have f2 : ∀ u u', ((wi.setCell ⟨b, t * 3, none⟩ u).setCell ⟨b, t * 3 + 1, none⟩ u').frozen? ⟨b, t * 3 + 2, none⟩ = false := fun u u' => ((hbk.set_ _ u).set_ _ u').frozen _
                    generalize ((c j)[t]).k = x0 at d0
                    generalize ((c j)[t]).n = x1 at d1
                    generalize ((c j)[t]).s = x2 at d2
                    clear e0 e1 e2 hbk hls hcl hcm hct hC hcj hb htc
                    go_wp2
                    go_roundg (n - (t + 1))
                    case measure => omega
                    case rel =>
                      have hset := vcells_set (c j) t (mark 5 j) (by rw [Hcj.out]; exact htn)
                      have hnew := (((Hbk.out.set_ (t * 3) (.int .i8 5)).set_ (t * 3 + 1) (.int .i64 (j : Int))).set_ (t * 3 + 2) (.string ⟨#[]⟩))
                      have hset2 : (((vcells (c j)).toArray.setIfInBounds (t * 3) (.int .i8 5)).setIfInBounds (t * 3 + 1) (.int .i64 (j : Int))).setIfInBounds (t * 3 + 2) (.string ⟨#[]⟩) = (vcells ((c j).set t (mark 5 j))).toArray := hset
                      rw [hset2] at hnew
                      rw [← Hb.out]
                      refine ⟨t + 1, fun a => if a = j then (c j).set t (mark 5 j) else c a, by omega, rfl, by go_num, Hls.out.turn j hjb _ hnew (fun x hx hne => ?_), fun a ha => ?_, fun a ha => ?_, fun s hs => ?_, ?_⟩
                      · exact (Below.heap_setCell _ _ _ _ hne).trans ((Below.heap_setCell _ _ _ _ hne).trans (Below.heap_setCell _ _ _ _ hne))
                      · show (if a = j then _ else _ : List Val).length = _
                        by_cases e : a = j
                        · rw [if_pos e, List.length_set, e]; exact Hcl.out j hlt
                        · rw [if_neg e]; exact Hcl.out a ha
                      · show (if a = j then _ else _ : List Val) = _
                        rw [if_neg (by omega)]; exact Hcm.out a ha
                      · show (if j = j then _ else _ : List Val)[s]? = _
                        rw [if_pos rfl]
                        by_cases e : s = t
                        · subst e
                          rw [List.getElem?_set_self (by rw [Hcj.out]; exact htn)]
                        · rw [List.getElem?_set_ne (by omega)]; exact Hct.out s (by omega)
                      · exact ((HC.out.setCell (.inl (List.getElem_mem hjb)) _).setCell (.inl (List.getElem_mem hjb)) _).setCell (.inl (List.getElem_mem hjb)) _
                  · obtain rfl : t = n := by omega
                    have hfin : c j = List.replicate t (mark 5 j) := rep_of ((hcl j hlt).trans Hn.out) hct
                    have Hfin := Lib.hid hfin
                    have Hls := Lib.hid hls
                    have Hcl := Lib.hid hcl
                    have Hcm := Lib.hid hcm
                    have HC := Lib.hid hC
                    clear hfin hls hcl hcm hct hC
                    generalize bs[j] = b at c1
                    go_wp2
                    go_roundg (4 - (j + 1))
                    case measure => omega
                    case rel =>
                      refine ⟨j + 1, c, by omega, rfl, by go_num, Hls.out, Hcl.out, fun a ha => ?_, HC.out⟩
                      by_cases e : a = j
                      · rw [e, Hn.out]; exact Hfin.out
                      · exact Hcm.out a (by omega)
              · have Hj4 := Lib.hid (show j = 4 by omega)
                have hd4 : decide (j < 4) = false := by simp; omega
                have hd4' : decide ((j : Int) < 4) = false := by simp; omega
                clear hj
                have hls9 : Lists wr bs (fun a => List.replicate (sz m k a) (mark 5 a)) := hls.congr fun a ha => hcm a (by rw [Hbl.out] at ha; have := Hj4.out; omega)
                have hb9 : Below w.heap.size w wr := hb8.trans (hC.below hb8.size (fun x hx => by have := Hbf.out x hx; have := Hz6.out; have := HW5.out; omega))
                have HT9 := Lib.hid (HT8.out.chg hC (fun x hx hm => by have := HSlt.out x hx; have := Hbf.out x hm; have := Hz6.out; omega))
                have Hr9 := Lib.hid (Hr8.out.same (hC.block _ Hr8.out.lt (fun hm => by have := Hbf.out _ hm; have := Hz6.out; omega)))
                have Hv9 := Lib.hid (Hv8.out.same fun g hg => hC.block g (Hv8.out.lt g hg) (fun hm => by have := HVlt.out g hg; have := Hbf.out _ hm; have := Hz6.out; omega))
                have Hl9 := Lib.hid (Hl8.out.same (hC.block _ Hl8.out.lt Hgb.out))
                have Hls9 := Lib.hid hls9
                clear hls hcl hcm hC hls9 hb8 HT8 Hr8 Hv8 Hl8 Hls8
                obtain ⟨W9, rfl⟩ : ∃ W9 : World, W9 = wr := ⟨_, rfl⟩
                go_upto_block 8 with fail
                have h3 : Below W9.heap.size W9 (W9.alloc (.cells #[.slice none 0 0, .slice none 0 0, .slice none 0 0, .slice none 0 0] 48)) ∧ Blk (W9.alloc (.cells #[.slice none 0 0, .slice none 0 0, .slice none 0 0, .slice none 0 0] 48)) W9.heap.size 48 (slots4 []) ∧ _ := tup_new W9 _ _
                generalize (W9.alloc (.cells #[.slice none 0 0, .slice none 0 0, .slice none 0 0, .slice none 0 0] 48)) = W10 at h3 ⊢
                obtain ⟨hb910, hg10, hsz10⟩ := h3
                have hb10 : Below w.heap.size w W10 := hb9.trans (hb910.mono hb9.size)
                have HT10 := Lib.hid (HT9.out.below hb910)
                have Hr10 := Lib.hid (Hr9.out.same (hb910.block _ Hr9.out.lt))
                have Hv10 := Lib.hid (Hv9.out.below_ hb910)
                have Hl10 := Lib.hid (Hl9.out.same (hb910.block _ Hl9.out.lt))
                have Hls10 := Lib.hid (Hls9.out.below hb910)
                have HT9lt := Lib.hid HT9.out.lt
                have HV9lt := Lib.hid Hv9.out.lt
                have HL9lt := Lib.hid Hl9.out.lt
                have HR9lt := Lib.hid Hr9.out.lt
                have HB9lt := Lib.hid Hls9.out.lt
                have Hg10 := Lib.hid hg10
                have Hsz10 := Lib.hid hsz10
                have HB9 := Lib.hid hb9.size
                clear hb910 hg10 hsz10 HT9 Hr9 Hv9 Hl9 Hls9
                obtain ⟨i0, hi, hz0, hz1, hz2⟩ := info_parts Try.infoV
                go_wp2_with fail
                go_loopg [19, 20] 4 (fun gk i _ wx => ∃ (j : Nat) (gs : List (Nat × Nat)), j ≤ 4 ∧ gk = 4 - j ∧ i = .int .i64 j ∧ gs.length = j ∧ Blk wx W9.heap.size 48 (slots4 (lgV m k gs)) ∧ (∀ a (ha : a < gs.length), RowV wx (some ⟨(gs[a]).1, 0, none⟩) (gs[a]).2 (fullL (sz m k a) a)) ∧ (∀ p ∈ gs, W10.heap.size ≤ p.1) ∧ Chg [W9.heap.size] W10 wx)
                case atStart => exact ⟨0, [], by omega, rfl, rfl, rfl, Hg10.out, fun a ha => by simp at ha, by simp, Chg.refl _ _⟩
                case round =>
                  obtain ⟨j, gs, hj, rfl, rfl, hgl, hg18, hoth, hgf, hC⟩ := hrel
                  obtain ⟨wo, rfl⟩ : ∃ wo : World, wo = wr := ⟨_, rfl⟩
                  by_cases hlt : j < 4
                  · have hjb : j < bs.length := by rw [Hbl.out]; exact hlt
                    have hd4t : decide (j < 4) = true := by simp [hlt]
                    have hd4t' : decide ((j : Int) < 4) = true := by simp; omega
                    obtain ⟨n, hn⟩ : ∃ n, sz m k j = n := ⟨_, rfl⟩
                    have hnm : n ≤ m := hn ▸ sz_le hkm j
                    have hll : (lgV m k gs).length = j := by rw [lgV_length, hgl]
                    have c1 : wo.cell? ⟨W5.heap.size + 1, j, none⟩ = some (.slice (some ⟨bs[j], 0, none⟩) n n) := ((Hl10.out.same (hC.block _ Hl10.out.lt (by have := HL9lt.out; simp; omega))).cell j).trans (hn ▸ lsV_at m k bs j hjb)
                    have d0 : wo.cell? ⟨W9.heap.size, j, none⟩ = some (.slice none 0 0) := (hg18.cell j).trans (by have := slots4_none (lgV m k gs) (by omega); rw [hll] at this; exact this)
                    have f0 : wo.frozen? ⟨W9.heap.size, j, none⟩ = false := hg18.frozen j
                    have hbk : Blk wo bs[j] 36 (vcells (List.replicate n (mark 5 j))).toArray := hn ▸ (Hls10.out.blk j hjb).same (hC.block _ (Hls10.out.blk j hjb).lt (by have := HB9lt.out _ (List.getElem_mem hjb); simp; omega))
                    have hbj : bs[j] < W9.heap.size := HB9lt.out _ (List.getElem_mem hjb)
                    have Hn := Lib.hid hn
                    have Hgl := Lib.hid hgl
                    have Hll := Lib.hid hll
                    have Hg18o := Lib.hid hg18
                    have Hotho := Lib.hid hoth
                    have Hgf := Lib.hid hgf
                    have HCo := Lib.hid hC
                    have Hbk := Lib.hid hbk
                    clear hn hgl hll hg18 hoth hgf hC hbk
                    generalize bs[j] = b0 at c1 Hbk hbj
                    go_wp2_with fail
                    go_loopg [20] 70 (fun gk i wx => ∃ (t g cap : Nat), t ≤ 70 ∧ gk = 70 - t ∧ i = .int .i64 t ∧ Blk wx W9.heap.size 48 (slots4 (lgV m k gs ++ [.slice (some ⟨g, 0, none⟩) (n + t) cap])) ∧ RowV wx (some ⟨g, 0, none⟩) cap (List.replicate n (mark 5 j) ++ List.replicate t (mark 6 j)) ∧ ((t = 0 ∧ cap = n) ∨ (W10.heap.size ≤ g ∧ ∀ p ∈ gs, p.1 ≠ g)) ∧ (∀ a (ha : a < gs.length), RowV wx (some ⟨(gs[a]).1, 0, none⟩) (gs[a]).2 (fullL (sz m k a) a)) ∧ Chg [W9.heap.size] W10 wx)
                    case atStart =>
                      refine ⟨0, b0, n, by omega, rfl, rfl, ?_, ?_, .inl ⟨rfl, rfl⟩, fun a ha => (Hotho.out a ha).same fun x hx => Below.heap_setCell _ _ _ _ (by simp [blkOf] at hx; subst hx; have := Hgf.out _ (List.getElem_mem ha); have := Hsz10.out; simp; omega), HCo.out.setCell (.inl (by simp)) _⟩
                      · have h1 := Hg18o.out.set_ j (.slice (some ⟨b0, 0, none⟩) n n)
                        have h2 := slots4_set (lgV m k gs) (.slice (some ⟨b0, 0, none⟩) n n) (by rw [Hll.out]; omega)
                        rw [Hll.out] at h2
                        rw [h2] at h1
                        exact h1
                      · have h1 := (Hbk.out.far (p := ⟨W9.heap.size, j, none⟩) (by simp; omega) (.slice (some ⟨b0, 0, none⟩) n n)).rowV (by unfold maxLen; simp; omega)
                        simp only [List.length_replicate] at h1
                        simpa using h1
                    case round =>
                      clear c1 d0 f0 Hg18o Hotho HCo Hbk
                      obtain ⟨t, g, cap, ht, rfl, rfl, hg18, hrow, hdis, hoth, hC⟩ := hrel
                      obtain ⟨wi, rfl⟩ : ∃ wi : World, wi = wr := ⟨_, rfl⟩
                      by_cases htn : t < 70
                      · have hxl : (List.replicate n (mark 5 j) ++ List.replicate t (mark 6 j)).length = n + t := by simp
                        have Hxl := Lib.hid hxl
                        have hown : wi.ownsRow 0 36 3 (.slice (some ⟨g, 0, none⟩) (n + t) cap) (n + t) (vcells (List.replicate n (mark 5 j) ++ List.replicate t (mark 6 j))) := by
                          unfold RowV at hrow; rw [hxl] at hrow; exact hrow
                        have c1 : wi.cell? ⟨W9.heap.size, j, none⟩ = some (.slice (some ⟨g, 0, none⟩) (n + t) cap) := (hg18.cell j).trans (by have := slots4_at (lgV m k gs ++ [.slice (some ⟨g, 0, none⟩) (n + t) cap]) j (by rw [List.length_append, lgV_length, Hgl.out]; simp); rw [this]; simp [lgV_length, Hgl.out])
                        have Hown := Lib.hid hown
                        have Hg18 := Lib.hid hg18
                        have Hoth := Lib.hid hoth
                        have HC := Lib.hid hC
                        have Hdis := Lib.hid hdis
                        have Hc1 := Lib.hid (cells3_new' wi (.int .i8 6) (.int .i64 (j : Int)) (.string ⟨#[]⟩) 36)
                        have Hc2 := Lib.hid (three_one 6 (j : Int) ⟨#[]⟩)
                        have h63 : n + t + 1 ≤ maxLen := by unfold maxLen; omega
                        have h32 : (n + t + 1) * 32 ≤ 140737488355328 := by omega
                        clear hown hg18 hoth hC hrow hdis hxl
                        generalize hxs : List.replicate n (mark 5 j) ++ List.replicate t (mark 6 j) = xs at Hown Hxl
                        have Hxs := Lib.hid hxs
                        clear hxs
                        by_cases hroom : n + t + 1 ≤ cap
                        · have hgd : W10.heap.size ≤ g ∧ ∀ p ∈ gs, p.1 ≠ g := by
                            rcases Hdis.out with ⟨h1, h2⟩ | h
                            · omega
                            · exact h
                          go_wp2_with (at_builtin; refine wpList_append_fits _ rfl _ _ 22 rfl 0 36 i0 3 Try.underlying22 hi hz1 g (n + t) cap _ rfl (Hown.out.alloc _) ⟨wi.heap.size, 0, none⟩ 1 1 [.int .i8 6, .int .i64 (j : Int), .string ⟨#[]⟩] rfl rfl Hc1.out Hc2.out hroom ?_)
                          intro W4' hown4 hgrow4
                          have hown' := hown4
                          have hg18 := (Hg18.out.alloc (.cells #[.int .i8 6, .int .i64 (j : Int), .string ⟨#[]⟩] 36)).same (hgrow4.block _ (by have := Hg18.out.lt; simp; omega) (by intro e; injection e with e; have := Hsz10.out; omega))
                          have hoth : ∀ a (ha : a < gs.length), RowV W4' (some ⟨(gs[a]).1, 0, none⟩) (gs[a]).2 (fullL (sz m k a) a) := fun a ha => (Hoth.out a ha).same fun x hx => by
                            have hlx := (Hoth.out a ha).lt x hx
                            refine (hgrow4.block _ (by simp; omega) (fun e => ?_)).trans (Below.heap_alloc _ _ _ hlx)
                            injection e with e
                            simp [blkOf] at hx
                            exact hgd.2 _ (List.getElem_mem ha) (hx.symm.trans e)
                          have hC4 : Chg [W9.heap.size] W10 W4' := (HC.out.alloc _).grown hgrow4 (fun x hx => by injection hx with hx; right; omega)
                          have hg' := hgd

                          have hgs18 : W9.heap.size ≠ g := by have := Hsz10.out; have := hg'.1; omega
                          have c2 : W4'.cell? ⟨W9.heap.size, j, none⟩ = some (.slice (some ⟨g, 0, none⟩) (n + t) cap) := (hg18.cell j).trans (by have := slots4_at (lgV m k gs ++ [.slice (some ⟨g, 0, none⟩) (n + t) cap]) j (by rw [List.length_append, lgV_length, Hgl.out]; simp); rw [this]; simp [lgV_length, Hgl.out])
                          have f2 : W4'.frozen? ⟨W9.heap.size, j, none⟩ = false := hg18.frozen j
                          have Hown' := Lib.hid hown'
                          have Hg18' := Lib.hid hg18
                          have Hoth' := Lib.hid hoth
                          have HC4 := Lib.hid hC4
                          have Hg' := Lib.hid hg'
                          clear hown' hg18 hoth hC4 hg'
                          go_wp2
                          go_roundg (70 - (t + 1))
                          case measure => omega
                          case rel =>
                            refine ⟨t + 1, g, cap, by omega, rfl, by go_num, ?_, ?_, .inr Hg'.out, fun a ha => ?_, ?_⟩
                            · have h1 := Hg18'.out.set_ j (.slice (some ⟨g, 0, none⟩) (n + t + 1) cap)
                              have h3 := slots4_reset (lgV m k gs) (.slice (some ⟨g, 0, none⟩) (n + t) cap) (.slice (some ⟨g, 0, none⟩) (n + t + 1) cap)
                              rw [lgV_length, Hgl.out] at h3
                              rw [h3] at h1
                              exact h1
                            · refine RowV.same (w := W4') ?_ (fun x hx => Below.heap_setCell _ _ _ _ (by simp [blkOf] at hx; subst hx; exact fun e => hgs18 e.symm))
                              unfold RowV
                              rw [List.replicate_succ', ← List.append_assoc, Hxs.out, List.length_append, vcells_append, Hxl.out]
                              exact Hown'.out
                            · exact (Hoth'.out a ha).same (fun x hx => Below.heap_setCell _ _ _ _ (by simp [blkOf] at hx; subst hx; have := Hgf.out _ (List.getElem_mem ha); have := Hsz10.out; simp; omega))
                            · exact HC4.out.setCell (.inl (by simp)) _
                        · have hfull : cap < n + t + 1 := by omega
                          go_wp2_with (at_builtin; refine wpList_append_grows _ rfl _ _ 22 rfl 36 i0 _ 3 32 Try.underlying22 hi hz0 hz1 hz2 rfl (by decide) (some ⟨g, 0, none⟩) (n + t) cap _ rfl (fun h => by cases h) Hown.out.1 (fun b hb => by injection hb with hb; subst hb; exact (Hown.out.alloc _).cells rfl) ⟨wi.heap.size, 0, none⟩ 1 1 [.int .i8 6, .int .i64 (j : Int), .string ⟨#[]⟩] rfl rfl Hc1.out Hc2.out hfull h63 h32 ?_)
                          intro v' W4' hown4 hgrow4
                          obtain ⟨g', cap', rfl, hbase, _⟩ := hown4.form (Nat.succ_pos (n + t))
                          have hown' : W4'.ownsRow 0 36 3 (.slice (some ⟨g', 0, none⟩) (n + t + 1) cap') (n + t + 1) (vcells xs ++ [.int .i8 6, .int .i64 (j : Int), .string ⟨#[]⟩]) := by
                            refine ⟨hown4.1, ?_⟩
                            rcases hown4.2 with h | ⟨a1, a2, a3, h1, _, h3⟩
                            · exact .inl h
                            · exact .inr ⟨a1, a2, a3, h1, Nat.zero_le _, h3⟩
                          have hbase' : wi.heap.size < g' := by have h0 := (tup_new wi #[.int .i8 6, .int .i64 (j : Int), .string ⟨#[]⟩] 36).2.2; omega
                          have hg18 := (Hg18.out.alloc (.cells #[.int .i8 6, .int .i64 (j : Int), .string ⟨#[]⟩] 36)).same (hgrow4.block _ (by have := Hg18.out.lt; simp; omega) (by simp))
                          have hoth : ∀ a (ha : a < gs.length), RowV W4' (some ⟨(gs[a]).1, 0, none⟩) (gs[a]).2 (fullL (sz m k a) a) := fun a ha => (Hoth.out a ha).same fun x hx => by
                            have hlx := (Hoth.out a ha).lt x hx
                            exact (hgrow4.block _ (by simp; omega) (by simp)).trans (Below.heap_alloc _ _ _ hlx)
                          have hC4 : Chg [W9.heap.size] W10 W4' := (HC.out.alloc _).grown hgrow4 (fun x hx => by simp at hx)
                          have hg' : W10.heap.size ≤ g' ∧ ∀ p ∈ gs, p.1 ≠ g' := ⟨by have := HC.out.size; omega, fun p hp => by
                            obtain ⟨a, ha, rfl⟩ := List.mem_iff_getElem.1 hp
                            have := (Hoth.out a ha).lt (gs[a]).1 (by simp [blkOf])
                            omega⟩

                          have hgs18 : W9.heap.size ≠ g' := by have := Hsz10.out; have := hg'.1; omega
                          have c2 : W4'.cell? ⟨W9.heap.size, j, none⟩ = some (.slice (some ⟨g, 0, none⟩) (n + t) cap) := (hg18.cell j).trans (by have := slots4_at (lgV m k gs ++ [.slice (some ⟨g, 0, none⟩) (n + t) cap]) j (by rw [List.length_append, lgV_length, Hgl.out]; simp); rw [this]; simp [lgV_length, Hgl.out])
                          have f2 : W4'.frozen? ⟨W9.heap.size, j, none⟩ = false := hg18.frozen j
                          have Hown' := Lib.hid hown'
                          have Hg18' := Lib.hid hg18
                          have Hoth' := Lib.hid hoth
                          have HC4 := Lib.hid hC4
                          have Hg' := Lib.hid hg'
                          clear hown' hg18 hoth hC4 hg'
                          go_wp2
                          go_roundg (70 - (t + 1))
                          case measure => omega
                          case rel =>
                            refine ⟨t + 1, g', cap', by omega, rfl, by go_num, ?_, ?_, .inr Hg'.out, fun a ha => ?_, ?_⟩
                            · have h1 := Hg18'.out.set_ j (.slice (some ⟨g', 0, none⟩) (n + t + 1) cap')
                              have h3 := slots4_reset (lgV m k gs) (.slice (some ⟨g, 0, none⟩) (n + t) cap) (.slice (some ⟨g', 0, none⟩) (n + t + 1) cap')
                              rw [lgV_length, Hgl.out] at h3
                              rw [h3] at h1
                              exact h1
                            · refine RowV.same (w := W4') ?_ (fun x hx => Below.heap_setCell _ _ _ _ (by simp [blkOf] at hx; subst hx; exact fun e => hgs18 e.symm))
                              unfold RowV
                              rw [List.replicate_succ', ← List.append_assoc, Hxs.out, List.length_append, vcells_append, Hxl.out]
                              exact Hown'.out
                            · exact (Hoth'.out a ha).same (fun x hx => Below.heap_setCell _ _ _ _ (by simp [blkOf] at hx; subst hx; have := Hgf.out _ (List.getElem_mem ha); have := Hsz10.out; simp; omega))
                            · exact HC4.out.setCell (.inl (by simp)) _
                      · obtain rfl : t = 70 := by omega
                        have hgd : W10.heap.size ≤ g ∧ ∀ p ∈ gs, p.1 ≠ g := by
                          rcases hdis with ⟨h1, h2⟩ | h
                          · omega
                          · exact h
                        have Hgd := Lib.hid hgd
                        have Hg18 := Lib.hid hg18
                        have Hoth := Lib.hid hoth
                        have HC := Lib.hid hC
                        have Hrow := Lib.hid hrow
                        clear hgd hg18 hoth hC hrow hdis
                        go_wp2
                        go_roundg (4 - (j + 1))
                        case measure => omega
                        case rel =>
                          refine ⟨j + 1, gs ++ [(g, cap)], by omega, rfl, by go_num, by rw [List.length_append, Hgl.out]; rfl, ?_, fun a ha => ?_, fun p hp => ?_, HC.out⟩
                          · rw [lgV_snoc, Hgl.out, Hn.out]; exact Hg18.out
                          · by_cases e : a < gs.length
                            · rw [List.getElem_append_left e]; exact Hoth.out a e
                            · obtain rfl : a = gs.length := by simp at ha; omega
                              have e2 : fullL (sz m k gs.length) gs.length = List.replicate n (mark 5 j) ++ List.replicate 70 (mark 6 j) := by rw [Hgl.out, Hn.out]; rfl
                              rw [e2]
                              simpa using Hrow.out
                          · rcases List.mem_append.1 hp with hp | hp
                            · exact Hgf.out p hp
                            · rw [List.mem_singleton.1 hp]; exact Hgd.out.1
                  · have Hj4 := Lib.hid (show j = 4 by omega)
                    have hd4 : decide (j < 4) = false := by simp; omega
                    have hd4' : decide ((j : Int) < 4) = false := by simp; omega
                    clear hj
                    have Hgl := Lib.hid (hgl.trans Hj4.out)
                    have hb11 : Below w.heap.size w wo := hb10.trans (hC.below hb10.size (fun x hx => by have := HB9.out; simp at hx; omega))
                    have HT11 := Lib.hid (HT10.out.chg hC (fun x hx hm => by have := HT9lt.out x hx; simp at hm; omega))
                    have Hr11 := Lib.hid (Hr10.out.same (hC.block _ Hr10.out.lt (by have := HR9lt.out; simp; omega)))
                    have Hv11 := Lib.hid (Hv10.out.same fun g hg => hC.block g (Hv10.out.lt g hg) (by have := HV9lt.out g hg; simp; omega))
                    have Hl11 := Lib.hid (Hl10.out.same (hC.block _ Hl10.out.lt (by have := HL9lt.out; simp; omega)))
                    have Hls11 := Lib.hid (Hls10.out.same fun b hb => hC.block b (Hls10.out.lt b hb) (by have := HB9lt.out b hb; simp; omega))
                    have Hg11 := Lib.hid hg18
                    have Hoth := Lib.hid hoth
                    clear hgl hg18 hoth hgf hC HT10 Hr10 Hv10 Hl10 Hls10 Hg10 hb10
                    obtain ⟨W11, rfl⟩ : ∃ W11 : World, W11 = wo := ⟨_, rfl⟩
                    go_wp2_with fail
                    go_loopg [21, 22, 23] 4 (fun gk i _ _ wx => ∃ j : Nat, j ≤ 4 ∧ gk = 4 - j ∧ i = .int .i64 j ∧ Below W11.heap.size W11 wx)
                    case atStart => exact ⟨0, by omega, rfl, rfl, Below.refl _ _⟩
                    case round =>
                      obtain ⟨j, hj, rfl, rfl, hbr⟩ := hrel
                      obtain ⟨wo, rfl⟩ : ∃ wo : World, wo = wr := ⟨_, rfl⟩
                      by_cases hlt : j < 4
                      · have hjb : j < bs.length := by rw [Hbl.out]; exact hlt
                        have hjg : j < gs.length := by rw [Hgl.out]; exact hlt
                        have hd5t : decide (j < 4) = true := by simp [hlt]
                        have hd5t' : decide ((j : Int) < 4) = true := by simp; omega
                        obtain ⟨n, hn⟩ : ∃ n, sz m k j = n := ⟨_, rfl⟩
                        have hnm : n ≤ m := hn ▸ sz_le hkm j
                        obtain ⟨N, hN⟩ : ∃ N, n + 70 = N := ⟨_, rfl⟩
                        have hNb : N ≤ 94 := by omega
                        have hcl : W11.cell? ⟨W5.heap.size + 1, j, none⟩ = some (.slice (some ⟨bs[j], 0, none⟩) n n) := (Hl11.out.cell j).trans (hn ▸ lsV_at m k bs j hjb)
                        have hcg : W11.cell? ⟨W9.heap.size, j, none⟩ = some (.slice (some ⟨(gs[j]).1, 0, none⟩) N (gs[j]).2) := (Hg11.out.cell j).trans (by have := lgV_at m k gs j hjg; rw [hn, hN] at this; exact this)
                        have hrow := Hoth.out j hjg
                        rw [hn] at hrow
                        have hbk := Hls11.out.blk j hjb
                        rw [hn] at hbk
                        have hlW : W5.heap.size + 1 < W11.heap.size := Hl11.out.lt
                        have hgW : W9.heap.size < W11.heap.size := Hg11.out.lt
                        have Hrow := Lib.hid hrow
                        have Hbk := Lib.hid hbk
                        have HN := Lib.hid hN
                        clear hn hrow hbk hN
                        generalize bs[j] = b at hcl Hbk
                        generalize gs[j] = p at hcg Hrow
                        obtain ⟨g, gc⟩ := p
                        simp only at hcg Hrow
                        have hgr : g < W11.heap.size := Hrow.out.lt g (by simp [blkOf])
                        have hbkl : b < W11.heap.size := Hbk.out.lt
                        have Hcl := Lib.hid hcl
                        have Hcg := Lib.hid hcg
                        clear hcl hcg
                        go_wp2_with fail
                        go_loopg [22, 23] N (fun gk i _ wx => ∃ t : Nat, t ≤ N ∧ gk = N - t ∧ i = .int .i64 t ∧ Below W11.heap.size W11 wx)
                        case atStart => exact ⟨0, by omega, rfl, rfl, hbr⟩
                        case round =>
                          obtain ⟨t, ht, rfl, rfl, hbi⟩ := hrel
                          obtain ⟨wi, rfl⟩ : ∃ wi : World, wi = wr := ⟨_, rfl⟩
                          have c1 : wi.cell? ⟨W9.heap.size, j, none⟩ = some (.slice (some ⟨g, 0, none⟩) N gc) := (hbi.cell hgW).trans Hcg.out
                          by_cases htN : t < N
                          · have hin : ∀ o : Obj, Below W11.heap.size W11 (wi.alloc o) := fun o => hbi.alloc hbi.size o
                            have C1 : ∀ o : Obj, (wi.alloc o).cell? ⟨W9.heap.size, j, none⟩ = some (.slice (some ⟨g, 0, none⟩) N gc) := fun o => ((hin o).cell hgW).trans Hcg.out
                            have C2 : ∀ o : Obj, (wi.alloc o).cell? ⟨W5.heap.size + 1, j, none⟩ = some (.slice (some ⟨b, 0, none⟩) n n) := fun o => ((hin o).cell hlW).trans Hcl.out
                            have htf : t < (fullL n j).length := by rw [fullL_length]; have := HN.out; omega
                            obtain ⟨r0, r1, r2⟩ := Hrow.out.three t htf
                            have hv5 : veq ⟨5, (j : Int), ⟨#[]⟩⟩ ⟨5, (j : Int), ⟨#[]⟩⟩ = true := by unfold veq; simp
                            have hv6 : veq ⟨6, (j : Int), ⟨#[]⟩⟩ ⟨6, (j : Int), ⟨#[]⟩⟩ = true := by unfold veq; simp
                            by_cases htn : t < n
                            · have e5 : (fullL n j)[t] = mark 5 j := fullL_lo n j t htn
                              rw [e5] at r0 r1 r2
                              have d0 : ∀ o : Obj, (wi.alloc o).cell? ⟨g, t * 3, none⟩ = some (.int .i8 5) := fun o => ((hin o).cell hgr).trans r0
                              have d1 : ∀ o : Obj, (wi.alloc o).cell? ⟨g, t * 3 + 1, none⟩ = some (.int .i64 (j : Int)) := fun o => ((hin o).cell hgr).trans r1
                              have d2 : ∀ o : Obj, (wi.alloc o).cell? ⟨g, t * 3 + 2, none⟩ = some (.string ⟨#[]⟩) := fun o => ((hin o).cell hgr).trans r2
                              have htr : t < (List.replicate n (mark 5 j)).length := by simpa using htn
                              obtain ⟨s0, s1, s2⟩ := vcells_at (List.replicate n (mark 5 j)) t htr
                              rw [List.getElem_replicate] at s0 s1 s2
                              have e0 : ∀ o : Obj, (wi.alloc o).cell? ⟨b, t * 3, none⟩ = some (.int .i8 5) := fun o => ((hin o).cell hbkl).trans ((Hbk.out.cell _).trans (by rw [List.getElem?_toArray]; exact s0))
                              have e1 : ∀ o : Obj, (wi.alloc o).cell? ⟨b, t * 3 + 1, none⟩ = some (.int .i64 (j : Int)) := fun o => ((hin o).cell hbkl).trans ((Hbk.out.cell _).trans (by rw [List.getElem?_toArray]; exact s1))
                              have e2 : ∀ o : Obj, (wi.alloc o).cell? ⟨b, t * 3 + 2, none⟩ = some (.string ⟨#[]⟩) := fun o => ((hin o).cell hbkl).trans ((Hbk.out.cell _).trans (by rw [List.getElem?_toArray]; exact s2))
                              clear r0 r1 r2 s0 s1 s2 e5 htr htf hin
                              have hd6 : decide (t < n) = true := by simp [htn]
                              go_wp2
                              go_quiet (fail)
                              go_wp2
                              go_roundg (N - (t + 1))
                              case measure => omega
                              case rel => exact ⟨t + 1, by omega, rfl, by go_num, by repeat (first | exact hbi | refine below_drewN ?_ _ | refine Below.setCell ?_ hbi.size _ | refine Below.alloc ?_ hbi.size _)⟩
                            · have e5 : (fullL n j)[t] = mark 6 j := fullL_hi n j t (by omega) (by have := HN.out; omega)
                              rw [e5] at r0 r1 r2
                              have d0 : ∀ o : Obj, (wi.alloc o).cell? ⟨g, t * 3, none⟩ = some (.int .i8 6) := fun o => ((hin o).cell hgr).trans r0
                              have d1 : ∀ o : Obj, (wi.alloc o).cell? ⟨g, t * 3 + 1, none⟩ = some (.int .i64 (j : Int)) := fun o => ((hin o).cell hgr).trans r1
                              have d2 : ∀ o : Obj, (wi.alloc o).cell? ⟨g, t * 3 + 2, none⟩ = some (.string ⟨#[]⟩) := fun o => ((hin o).cell hgr).trans r2
                              clear r0 r1 r2 e5 htf hin
                              have hd6 : decide (t < n) = false := by simp; omega
                              go_wp2
                              go_quiet (fail)
                              go_wp2
                              go_roundg (N - (t + 1))
                              case measure => omega
                              case rel => exact ⟨t + 1, by omega, rfl, by go_num, by repeat (first | exact hbi | refine below_drewN ?_ _ | refine Below.setCell ?_ hbi.size _ | refine Below.alloc ?_ hbi.size _)⟩
                          · have hdN : decide (t < N) = false := by simp; omega
                            go_wp2
                            go_roundg (4 - (j + 1))
                            case measure => omega
                            case rel => exact ⟨j + 1, by omega, rfl, by go_num, hbi⟩
                      · have hd4 : decide (j < 4) = false := by simp; omega
                        have hd4' : decide ((j : Int) < 4) = false := by simp; omega
                        clear hj
                        have hbW12 : Below w.heap.size w wo := hb11.trans (hbr.mono hb11.size)
                        have hrow12 : Blk wo W4.heap.size 43 (rowOf ns) := Hr11.out.same (hbr.block _ Hr11.out.lt)
                        have htup := tuple_row (HT11.out.below hbr) Hof.out (by rw [Hm.out]; exact hm24)
                        have hsame := fun (W : World) (hb : Below wo.heap.size wo W) (lb : Nat) (h : RdV W (some ⟨lb, 0, none⟩) vs) => same_yes (some ⟨lb, 0, none⟩) A2 m cap2 vs W h ((Hv11.out.below_ hbr).below_ hb).rd (by rw [Hm.out]; omega)
                        rw [Hm.out] at htup hsame
                        have Htup := Lib.hid htup
                        have Hsame := Lib.hid hsame
                        clear htup hsame hbr
                        go_wp2_with (first
                          | (refine at_load 43 _ rfl ?_; refine wpList_load_row_g 43 _ rfl rfl W4.heap.size rfl 43 (rowOf ns) (0, 0) _ hrow12 Try.underlying43 rfl (rowOf_info ns Hns.out) ?_)
                          | (go_at_call 18; refine Htup.out.mono ?_; rintro e W13 ⟨lb, rfl, hlb, hy, hb13⟩)
                          | (go_at_call 19; refine (Hsame.out W13 hb13 lb hy).mono ?_; rintro e W14 ⟨rfl, hb14⟩))
                        go_ret
                        exact ⟨rfl, (hbW12.trans (hb13.mono hbW12.size)).trans (hb14.mono (by have := hbW12.size; have := hb13.size; omega))⟩

end Go.Proofs.Ythdpaakkamccbaa

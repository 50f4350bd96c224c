/-
  SymbolBack's walk.
-/
import Derived.Test.YthdpaakkamccbaaSymBackL
import Derived.Test.YthdpaakkamccbaaSymFull
import Derived.Deep.CutBlock
import Derived.Deep.DeepCutAuto
namespace Go.Proofs.Ythdpaakkamccbaa
open Go.RowKit Go.Maps

theorem Blk.rdv {w : World} {lb : Nat} {us : List Val} (h : Blk w lb 36 (vcells us).toArray) : RdV w (some ⟨lb, 0, none⟩) us := fun _ => ⟨lb, 0, rfl, h.lt, fun i hi => by
  obtain ⟨h1, h2, h3⟩ := vcells_at us i hi
  rw [Nat.zero_add]
  exact ⟨(h.cell _).trans (by simpa using h1), (h.cell _).trans (by simpa using h2), (h.cell _).trans (by simpa using h3)⟩⟩

theorem Tab.facts {w : World} {tb most : Nat} {vs : List Val} {S : List Nat} (h : Tab w tb most vs S) : (∀ v ∈ vs, v.wf) ∧ vs.Nodup ∧ vs.length ≤ 2147483647 := by
  obtain ⟨mb, A, cap, D, ht, rfl⟩ := h
  exact ⟨ht.wf, ht.nodup, Nat.le_trans ht.le ht.most⟩

/-- a row's values, told as a list of their own. -/
theorem tuple_row {w : World} {tb most : Nat} {vs : List Val} {S : List Nat} (h : Tab w tb most vs S) {ns : List Nat} {us : List Val} (hof : Of vs ns us) (hl : us.length ≤ 24) :
    Calls Try.prog 18 #[.pointer (some ⟨tb, 0, none⟩), .agg (rowOf ns), .int .i64 (us.length : Int)] w fun e w' =>
      ∃ lb, e = .returned (.tuple #[.slice (some ⟨lb, 0, none⟩) us.length us.length, .int .i64 0]) ∧ w.heap.size ≤ lb ∧ RdV w' (some ⟨lb, 0, none⟩) us ∧ Below w.heap.size w w' := by
  have hle := hof.length
  have hbig := h.facts.2.2
  have hg := tupGo_of ns [] hof.lt
  rw [← hof.eq, List.nil_append, ← rsOf_take] at hg
  have hd := tuple_ok h (rsOf ns) (rsOf_length ns (by omega)) (rsOf_le ns (fun n hn => by have := hof.lt n hn; omega)) us.length hl (by rw [← hle, hg])
  rw [← rowOf_rowI] at hd
  refine hd.mono ?_
  rintro e w' ⟨lb, he, hlb, hblk, hbel⟩
  rw [← hle, hg, hle] at hblk
  simp only [destOf_full] at hblk
  exact ⟨lb, he, hlb, hblk.rdv, hbel⟩

set_option maxRecDepth 100000 in
set_option maxHeartbeats 4000000 in
theorem back_any (A : Option Addr) (cap : Nat) (vs0 : List Val) (B : Option Addr) (capB : Nat) (ls : List Val) (w : World) (hrd : RdV w A vs0) (hwf : ∀ v ∈ vs0, v.wf) (hsmall : vs0.length ≤ 1048576) (hrdB : RdV w B ls) (hwfB : ∀ v ∈ ls, v.wf) (hsmallB : ls.length ≤ 1048576) :
    Calls Try.prog 6 #[.slice A vs0.length cap, .slice B ls.length capB] w fun e w' => e = .returned (.bool true) ∧ Below w.heap.size w w' := by
  have hlives := Lib.hid (lives_any w)
  have hle0 := goodL_le vs0.length vs0
  have hgood0 := goodL_good vs0.length vs0 hwf
  have hgood := Lib.hid (fun W h => good_any A cap vs0.length vs0 W h (by omega) (by omega))
  obtain ⟨l, hl⟩ : ∃ l, vs0.length = l := ⟨_, rfl⟩
  rw [hl] at hsmall hle0 hgood0 hgood ⊢
  have Hrd := Lib.hid hrd
  clear hwf hl hrd
  generalize goodL l vs0 = vs at hle0 hgood0 hgood
  have Hgood0 := Lib.hid (show GoodL 2147483647 vs from ⟨hgood0.wf, hgood0.ok, hgood0.nodup, by omega⟩)
  clear hgood0
  obtain ⟨m, hm⟩ : ∃ m, vs.length = m := ⟨_, rfl⟩
  rw [hm] at hle0 hgood
  have Hm := Lib.hid hm
  clear hm
  obtain ⟨n, hn⟩ : ∃ n, ls.length = n := ⟨_, rfl⟩
  rw [hn] at hsmallB ⊢
  have Hn := Lib.hid hn
  have HrdB := Lib.hid hrdB
  have HwfB := Lib.hid hwfB
  clear hn hrdB hwfB
  go_enter Try.func6, Try.ntmps6
  go_wp2_with (go_at_call 9; refine hlives.out.mono ?_; rintro e W1 ⟨rfl, hb1⟩)
  refine (hgood.out W1 (Hrd.out.below hb1)).mono ?_
  rintro e W2 ⟨A2, cap2, rfl, hrow2, hfr2, hb2⟩
  have hbW2 : Below w.heap.size w W2 := hb1.trans (hb2.mono hb1.size)
  have hfill := filled_any A2 cap2 2147483647 vs W2 hrow2.rd Hgood0.out (by omega)
  rw [Hm.out] at hfill
  have Hfill := Lib.hid hfill
  have Hrow2 := Lib.hid hrow2
  have Hfr2 := Lib.hid (fun g hg => Nat.le_trans hb1.size (hfr2 g hg))
  clear hfill hrow2 hfr2 hb1 hb2 hgood hlives
  go_upto_block 0 with (go_at_call 11; refine Hfill.out.mono ?_; rintro e W3 ⟨tb, S, rfl, hT3, hS3, hb3⟩)
  have hbW3 : Below w.heap.size w W3 := hbW2.trans (hb3.mono hbW2.size)
  have hrow3 := Hrow2.out.below_ hb3
  have hd3 : ∀ g ∈ blkOf A2, g ∉ S := fun g hg hs => by have := Hrow2.out.lt g hg; have := hS3 g hs; omega
  have hS3w : ∀ x ∈ S, w.heap.size ≤ x := fun x hx => Nat.le_trans hbW2.size (hS3 x hx)
  have HT3 := Lib.hid hT3
  have Hrow3 := Lib.hid hrow3
  have Hd3 := Lib.hid hd3
  have HS3w := Lib.hid hS3w
  clear hT3 hrow3 hd3 hS3w hS3 hb3 Hrow2 Hfr2 hbW2 Hfill
  go_cut [7] (fun x wx => ∃ (A' : Option Addr) (cap' : Nat), x = .slice A' (pickL ls).length cap' ∧ RowV wx A' cap' (pickL ls) ∧ (∀ g ∈ blkOf A', W3.heap.size ≤ g) ∧ Below W3.heap.size W3 wx)
  case first =>
    obtain ⟨i0, hi, hz0, hz1, hz2⟩ := info_parts Try.infoV
    go_wp2_with fail
    go_loopg [7, 8] n (fun gk x i wx => ∃ (j : Nat) (A' : Option Addr) (cap' : Nat), j ≤ n ∧ gk = n - j ∧ i = .int .i64 j ∧ x = .slice A' (pickL (ls.take j)).length cap' ∧ RowV wx A' cap' (pickL (ls.take j)) ∧ (∀ g ∈ blkOf A', W3.heap.size ≤ g) ∧ Below W3.heap.size W3 wx)
    case atStart => exact ⟨0, none, 0, Nat.zero_le _, rfl, rfl, rfl, RowV.nil_ _, by simp [blkOf], Below.refl _ _⟩
    case round =>
      obtain ⟨j, A', cap', hj, rfl, rfl, rfl, hrow, hfresh, hbel⟩ := hrel
      obtain ⟨wo, rfl⟩ : ∃ wo : World, wo = wr := ⟨_, rfl⟩
      have hlen24 := pickL_len (ls.take j)
      by_cases hlt : j < n
      · by_cases hfull : (pickL (ls.take j)).length < 24
        · have hvl : j < ls.length := by rw [Hn.out]; exact hlt
          obtain ⟨v, hv⟩ : ∃ v, ls[j] = v := ⟨_, rfl⟩
          have hstep : pickL (ls.take (j + 1)) = pickStep (pickL (ls.take j)) v := by
            rw [List.take_succ_eq_append_getElem hvl, pickL_snoc, hv]
          obtain ⟨b, off, rfl, hb, hc⟩ := (HrdB.out.below (hbW3.trans (hbel.mono hbW3.size))) (by intro h; rw [h] at hvl; simp at hvl)
          obtain ⟨d0, d1, d2⟩ := hc j hvl
          rw [hv] at d0 d1 d2
          clear hc hv
          obtain ⟨out, hout⟩ : ∃ o, pickL (ls.take j) = o := ⟨_, rfl⟩
          rw [hout] at hstep hrow hfull hlen24 ⊢
          clear hout
          obtain ⟨k, hk⟩ : ∃ k, out.length = k := ⟨_, rfl⟩
          rw [hk] at hfull hlen24 ⊢
          have Hk := Lib.hid hk
          clear hk
          have hd : decide (k < 24) = true := by simp [hfull]
          have hck := rcheck_any v wo
          cases hok : v.ok
          · rw [show v.code = 10 from by unfold Val.code; rw [hok]; rfl] at hck
            rw [show pickStep out v = out from by unfold pickStep; rw [if_neg (by rw [hok]; simp)]] at hstep
            have Hck := Lib.hid hck
            have Hstep := Lib.hid hstep
            have Hrow := Lib.hid hrow
            clear hck hstep hrow hok
            obtain ⟨vk, vn, s⟩ := v
            simp only [Val.agg] at Hck d0 d1 d2
            go_wp2_with (go_at_call 20; refine Hck.out.mono ?_; rintro e W5 ⟨rfl, hb5⟩)
            go_roundg (n - (j + 1))
            case measure => omega
            case rel => exact ⟨j + 1, A', cap', by omega, rfl, by go_num, by rw [Hstep.out, Hk.out], by rw [Hstep.out]; exact Hrow.out.below_ hb5, hfresh, hbel.trans (hb5.mono hbel.size)⟩
          · rw [show v.code = 0 from by unfold Val.code; rw [hok]; rfl] at hck
            rw [show pickStep out v = out ++ [v] from by unfold pickStep; rw [if_pos ⟨by rw [Hk.out]; exact hfull, hok⟩]] at hstep
            have Hck := Lib.hid hck
            have Hstep := Lib.hid hstep
            have Hrow := Lib.hid hrow
            clear hck hstep hrow hok
            have Hcells := Lib.hid (show v.cells = [.int .i8 v.k, .int .i64 v.n, .string v.s] from rfl)
            have Hva := Lib.hid (show v.agg = .agg #[.int .i8 v.k, .int .i64 v.n, .string v.s] from rfl)
            obtain ⟨vk, hvk⟩ : ∃ x, v.k = x := ⟨_, rfl⟩
            obtain ⟨vn, hvn⟩ : ∃ x, v.n = x := ⟨_, rfl⟩
            obtain ⟨s, hvs⟩ : ∃ x, v.s = x := ⟨_, rfl⟩
            rw [Hva.out] at Hck
            rw [hvk, hvn, hvs] at Hck Hcells
            rw [hvk] at d0; rw [hvn] at d1; rw [hvs] at d2
            clear hvk hvn hvs Hva
            have h63 : k + 1 ≤ maxLen := by unfold maxLen; omega
            have h32 : (k + 1) * 32 ≤ 140737488355328 := by omega
            go_wp2_with (first
              | (go_at_call 20; refine Hck.out.mono ?_; rintro e W5 ⟨rfl, hb5⟩
                 have d0' := (hb5.cell (p := ⟨b, off + j * 3, none⟩) hb).trans d0
                 have d1' := (hb5.cell (p := ⟨b, off + j * 3 + 1, none⟩) hb).trans d1
                 have d2' := (hb5.cell (p := ⟨b, off + j * 3 + 2, none⟩) hb).trans d2
                 have hrow5 := Hrow.out.below_ hb5
                 have hown : W5.ownsRow 0 36 3 (.slice A' k cap') k (vcells out) := by
                   unfold RowV at hrow5; rw [Hk.out] at hrow5; exact hrow5
                 have hbel5 := hbel.trans (hb5.mono hbel.size)
                 have Hown := Lib.hid hown
                 have Hbel5 := Lib.hid hbel5
                 have Hc1 := Lib.hid (cells3_new' W5 (.int .i8 vk) (.int .i64 vn) (.string s) 36)
                 have Hc2 := Lib.hid (three_one vk vn s)
                 clear hown hrow5 d0 d1 d2 hb5 hbel5)
              | (at_builtin; refine wpList_append_own_at _ rfl _ _ 22 rfl 0 36 i0 _ 3 32 Try.underlying22 hi hz0 hz1 hz2 rfl (by decide) _ k _ rfl (Hown.out.alloc _) ⟨W5.heap.size, 0, none⟩ 1 1 [.int .i8 vk, .int .i64 vn, .string s] rfl rfl Hc1.out Hc2.out h63 h32 (Nat.zero_le _) ?_))
            intro v' W4 hown4 hgrow4 hnil4 hloc4
            obtain ⟨g4, cap4, rfl⟩ : ∃ g cap', v' = .slice (some ⟨g, 0, none⟩) (k + 1) cap' := by
              obtain ⟨g, cap', hv, _⟩ := hown4.form (Nat.succ_pos k)
              exact ⟨g, cap', hv⟩
            have hrow4 : RowV W4 (some ⟨g4, 0, none⟩) cap4 (out ++ [v]) := by
              unfold RowV
              rw [List.length_append, Hk.out, vcells_append, show vcells [v] = v.cells from by simp [vcells], Hcells.out]
              exact hown4
            have hob : ∀ g, (Value.slice A' k cap').ownBlock = some g → W3.heap.size ≤ g := fun g hg => hfresh g (own_blk _ _ _ _ hg)
            have hbel4 : Below W3.heap.size W3 W4 := (Hbel5.out.alloc Hbel5.out.size _).grown hgrow4 (by have := Hbel5.out.size; simp; omega) hob
            have hfresh4 : ∀ g ∈ blkOf (some (⟨g4, 0, none⟩ : Addr)), W3.heap.size ≤ g := by
              intro g hg
              simp [blkOf] at hg
              subst hg
              rcases hloc4 with h | h
              · exact hob _ (by rw [← h]; rfl)
              · have : g = (W5.alloc (.cells #[.int .i8 vk, .int .i64 vn, .string s] 36)).heap.size := by simpa [Value.ownBlock] using h
                have h2 := Hbel5.out.size
                rw [this]; simp; omega
            have Hrow4 := Lib.hid hrow4
            have Hbel4 := Lib.hid hbel4
            have Hfresh4 := Lib.hid hfresh4
            clear hown4 hgrow4 hnil4 hloc4 hrow4 hbel4 hfresh4 hob
            go_wp2
            go_roundg (n - (j + 1))
            case measure => omega
            case rel => exact ⟨j + 1, some ⟨g4, 0, none⟩, cap4, by omega, rfl, by go_num, by rw [Hstep.out, List.length_append, Hk.out]; rfl, by rw [Hstep.out]; exact Hrow4.out, Hfresh4.out, Hbel4.out⟩
        · have hall : pickL ls = pickL (ls.take j) := by
            have := pickL_full (ls.take j) (ls.drop j) (by omega)
            rw [List.take_append_drop] at this
            exact this
          rw [← hall] at hrow hlen24 hfull ⊢
          clear hall
          have Hrow := Lib.hid hrow
          clear hrow
          have hd : decide ((pickL ls).length < 24) = false := by simp; omega
          go_wp2
          go_meet
          exact ⟨A', cap', rfl, Hrow.out, hfresh, hbel⟩
      · obtain rfl : j = n := by omega
        have hall : ls.take j = ls := List.take_of_length_le (by rw [Hn.out]; omega)
        rw [hall] at hrow ⊢
        have Hrow := Lib.hid hrow
        clear hrow hall
        go_wp2
        go_meet
        exact ⟨A', cap', rfl, Hrow.out, hfresh, hbel⟩
  case rest =>
    obtain ⟨A3, cap3, rfl, hx, hxf, hbc⟩ := hcut
    obtain ⟨W4, rfl⟩ : ∃ W4 : World, W4 = wc := ⟨_, rfl⟩
    have hbW4 : Below w.heap.size w W4 := hbW3.trans (hbc.mono hbW3.size)
    have hT4 := HT3.out.below hbc
    have hxl := pickL_len ls
    have hxm := pickL_mem ls
    generalize pickL ls = x at hx hxl hxm ⊢
    have hxwf : ∀ u ∈ x, u.wf := fun u hu => HwfB.out u (hxm u hu).1
    obtain ⟨vs', ns, hgo, hpre, hof⟩ := rowGo_all 2147483647 x vs hxl (fun u hu => (hxm u hu).2) (by rw [Hm.out]; omega)
    have hd4 : ∀ g ∈ blkOf A3, g ∉ S := fun g hg hs => by have := HT3.out.lt g hs; have := hxf g hg; omega
    have hrw := row_any hT4 x A3 cap3 hx.rd (fun _ a ha => ⟨hd4 _ (by rw [ha]; simp [blkOf]), hx.lt _ (by rw [ha]; simp [blkOf])⟩) hxwf
    rw [hgo] at hrw
    simp only at hrw
    have hns : ns.length ≤ 24 := by rw [hof.length]; exact hxl
    obtain ⟨q, hq⟩ : ∃ q, x.length = q := ⟨_, rfl⟩
    rw [hq] at hxl hrw ⊢
    have Hq := Lib.hid hq
    have Hrw := Lib.hid hrw
    have Hns := Lib.hid hns
    have Hof := Lib.hid hof
    have Hpre := Lib.hid hpre
    have Hx := Lib.hid hx
    have Hd4 := Lib.hid hd4
    have Hxwf := Lib.hid hxwf
    have hrow4 := Lib.hid (Hrow3.out.below_ hbc)
    clear hgo hpre hof hrw hx hxf hxm hT4 hns hd4 hq hxwf hbc HrdB HwfB Hrd
    go_upto_region 14 with (first
      | (go_at_call 17; refine Hrw.out.mono ?_; rintro e W5 ⟨S5, rfl, hT5, hC5, hS5⟩)
      | (refine at_store 43 _ _ rfl ?_; refine wpList_store_new 43 _ _ rfl rfl W5.heap.size (rowOf ns) rfl rfl 43 (rowOf []) (Blk.new W5 _ (rowOf [])) (rowOf_info ns Hns.out) (by rw [rowOf_size ns Hns.out]; rfl) (rowOf_one ns) (fun W => Below W5.heap.size W5 W ∧ Blk W W5.heap.size 43 (rowOf ns)) (row_new W5 ns []) ?_
         rintro W6 ⟨hb6, hr6⟩))
    have hT6 := hT5.below hb6
    have hbW5 : Below w.heap.size w W5 := hbW4.trans (hC5.below hbW4.size HS3w.out)
    have hbW6 : Below w.heap.size w W6 := hbW5.trans (hb6.mono hbW5.size)
    have hv6 : RowV W6 A2 cap2 vs := (hrow4.out.same fun g hg => hC5.block g (hrow4.out.lt g hg) (Hd3.out g hg)).below_ hb6
    have hx6 : RowV W6 A3 cap3 x := (Hx.out.same fun g hg => hC5.block g (Hx.out.lt g hg) (Hd4.out g hg)).below_ hb6
    have htup := tuple_row hT6 Hof.out (by rw [Hq.out]; exact hxl)
    have hlen := fun (W : World) (hb : Below W6.heap.size W6 W) => len_any (hT6.below hb)
    have hseek := fun (W : World) (hb : Below W6.heap.size W6 W) => seek_any (hT6.below hb) x A3 cap3 ((hx6.below_ hb).rd) (fun _ a ha => (hx6.below_ hb).lt _ (by rw [ha]; simp [blkOf])) Hxwf.out
    rw [seekRes_of hT6.facts.2.1 Hof.out (by rw [Hq.out]; exact hxl)] at hseek
    rw [Hq.out] at htup hseek
    simp only at hseek
    have Htup := Lib.hid htup
    have Hlen := Lib.hid hlen
    have Hseek := Lib.hid hseek
    have HT6 := Lib.hid hT6
    have Hv6 := Lib.hid hv6
    have Hx6 := Lib.hid hx6
    clear htup hlen hseek hT6 hv6 hx6 hT5 hC5 hS5 hb6 Hrw Hx hrow4 Hd3 Hd4 hbW5 hbW4 HT3 Hrow3 HS3w hbW3
    go_upto_region 17 with (first
      | (refine at_load 43 _ rfl ?_; refine wpList_load_row_g 43 _ rfl rfl W5.heap.size rfl 43 (rowOf ns) (0, 0) _ hr6 Try.underlying43 rfl (rowOf_info ns Hns.out) ?_)
      | (go_at_call 18; refine Htup.out.mono ?_; rintro e W7 ⟨lb, rfl, hlb, hy, hb7⟩)
      | (go_at_call 13; refine (Hlen.out W7 hb7).mono ?_; rintro e w1 ⟨rfl, hw1⟩; obtain rfl : W7 = w1 := hw1.symm)
      | (go_at_call 21; refine (Hseek.out W7 hb7).mono ?_; rintro e W8 ⟨rfl, hb8⟩)
      | (refine at_store 43 _ _ rfl ?_; refine wpList_store_new 43 _ _ rfl rfl W8.heap.size (rowOf ns) rfl rfl 43 (rowOf []) (Blk.new W8 _ (rowOf [])) (rowOf_info ns Hns.out) (by rw [rowOf_size ns Hns.out]; rfl) (rowOf_one ns) (fun W => Below W8.heap.size W8 W ∧ Blk W W8.heap.size 43 (rowOf ns)) (row_new W8 ns []) ?_
         rintro W9 ⟨hb9, hr9⟩))
    have hb68 : Below W6.heap.size W6 W8 := hb7.trans (hb8.mono hb7.size)
    have hb69 : Below W6.heap.size W6 W9 := hb68.trans (hb9.mono hb68.size)
    have hr69 : Blk W9 W5.heap.size 43 (rowOf ns) := hr6.same (hb69.block _ hr6.lt)
    have hsame := same_yes A3 (some ⟨lb, 0, none⟩) cap3 q x W9 (Hx6.out.below_ hb69).rd ((hy.below hb8).below hb9) (by rw [Hq.out]; omega)
    rw [Hq.out] at hsame
    have Hsame := Lib.hid hsame
    have hneq := row_neq_self ns Hns.out
    clear hsame hb7 hb8 hb9 hb68 hr6 hy hlb
    go_upto_region 19 with (first
      | (refine at_load 43 _ rfl ?_; first
          | refine wpList_load_row_g 43 _ rfl rfl W8.heap.size rfl 43 (rowOf ns) (0, 0) _ hr9 Try.underlying43 rfl (rowOf_info ns Hns.out) ?_
          | refine wpList_load_row_g 43 _ rfl rfl W5.heap.size rfl 43 (rowOf ns) (0, 0) _ hr69 Try.underlying43 rfl (rowOf_info ns Hns.out) ?_)
      | (go_at_call 19; refine Hsame.out.mono ?_; rintro e W10 ⟨rfl, hb10⟩)
      | (go_at_call 13; refine (Hlen.out W10 (hb69.trans (hb10.mono hb69.size))).mono ?_; rintro e w1 ⟨rfl, hw1⟩; obtain rfl : W10 = w1 := hw1.symm))
    have hb610 : Below W6.heap.size W6 W10 := hb69.trans (hb10.mono hb69.size)
    have hbW10 : Below w.heap.size w W10 := hbW6.trans (hb610.mono hbW6.size)
    have HT10 := Lib.hid (HT6.out.below hb610)
    have Hv10 := Lib.hid (Hv6.out.below_ hb610)
    have Hx10 := Lib.hid (Hx6.out.below_ hb610)
    have Hr10 := Lib.hid (hr69.same (hb10.block _ hr69.lt))
    clear hr69 hr9 hb69 hb10 hneq Hsame Hlen Hseek Htup HT6 Hv6 Hx6 hb610 hbW6
    go_wp2_with fail
    go_loopg [16, 17] 24 (fun gk i _ wx => ∃ j : Nat, j ≤ 24 ∧ gk = 24 - j ∧ i = .int .i64 j ∧ Below W10.heap.size W10 wx)
    case atStart => exact ⟨0, by omega, rfl, rfl, Below.refl _ _⟩
    case round =>
      obtain ⟨j, hj, rfl, rfl, hbr⟩ := hrel
      obtain ⟨wo, rfl⟩ : ∃ wo : World, wo = wr := ⟨_, rfl⟩
      by_cases hlt : j < 24
      · have hblk : Blk wo W5.heap.size 43 (rowOf ns) := Hr10.out.same (hbr.block _ Hr10.out.lt)
        by_cases hjq : j < q
        · have hd1 : decide (q ≤ j) = false := by simp; omega
          have hd2 : decide (j < q) = true := by simp; omega
          clear hblk
          go_wp2
          go_loopg [17] j (fun gk i wx => ∃ k : Nat, k ≤ j ∧ gk = j - k ∧ i = .int .i64 k ∧ Below W10.heap.size W10 wx)
          case atStart => exact ⟨0, by omega, rfl, rfl, hbr⟩
          case round =>
            obtain ⟨k, hk, rfl, rfl, hbi⟩ := hrel
            obtain ⟨wi, rfl⟩ : ∃ wi : World, wi = wr := ⟨_, rfl⟩
            by_cases hkj : k < j
            · have hblk : Blk wi W5.heap.size 43 (rowOf ns) := Hr10.out.same (hbi.block _ Hr10.out.lt)
              have hnl := Hof.out.length
              have hjx : j < x.length := by rw [Hq.out]; exact hjq
              have hkx : k < x.length := by rw [Hq.out]; omega
              have hjn : j < ns.length := by rw [hnl]; exact hjx
              have hkn : k < ns.length := by rw [hnl]; exact hkx
              have cj : wi.cell? ⟨W5.heap.size, j, none⟩ = some (.int .i32 (ns[j] : Int)) := (hblk.cell j).trans (rowOf_in ns j hjn)
              have ck : wi.cell? ⟨W5.heap.size, k, none⟩ = some (.int .i32 (ns[k] : Int)) := (hblk.cell k).trans (rowOf_in ns k hkn)
              have hbeq := Hof.out.beq HT10.out.facts.2.1 j k hjx hkx
              obtain ⟨b, off, rfl, hb, hc⟩ := ((Hx10.out.below_ hbi).rd) (by intro h; rw [h] at hjx; simp at hjx)
              obtain ⟨d0, d1, d2⟩ := hc j hjx
              obtain ⟨e0, e1, e2⟩ := hc k hkx
              obtain ⟨nj, hnj⟩ : ∃ a : Int, (ns[j] : Int) = a := ⟨_, rfl⟩
              obtain ⟨nk, hnk⟩ : ∃ a : Int, (ns[k] : Int) = a := ⟨_, rfl⟩
              rw [hnj, hnk] at hbeq
              rw [hnj] at cj
              rw [hnk] at ck
              clear hc hblk hnj hnk
              generalize x[j] = vj at d0 d1 d2 hbeq
              generalize x[k] = vk at e0 e1 e2 hbeq
              obtain ⟨a0, a1, a2⟩ := vj
              obtain ⟨b0, b1, b2⟩ := vk
              simp only at d0 d1 d2 e0 e1 e2
              have hk24 : k < 24 := by omega
              clear hnl hjx hkx hjn hkn
              go_wp2
              go_quiet (fail)
              go_wp2
              go_roundg (j - (k + 1))
              case measure => omega
              case rel => exact ⟨k + 1, by omega, rfl, by go_num, below_drewN hbi _⟩
            · obtain rfl : k = j := by omega
              go_wp2
              go_roundg (24 - (k + 1))
              case measure => omega
              case rel => exact ⟨k + 1, by omega, rfl, by go_num, hbi⟩
        · have hd1 : decide (q ≤ j) = true := by simp; omega
          have hd2 : decide (j < q) = false := by simp; omega
          have cj : wo.cell? ⟨W5.heap.size, j, none⟩ = some (.int .i32 0) := (hblk.cell j).trans (rowOf_out ns j (by rw [Hof.out.length, Hq.out]; omega) hlt)
          clear hblk
          go_wp2
          go_loopg [17] 0 (fun gk i wx => gk = 0 ∧ i = .int .i64 0 ∧ wx = wo)
          case atStart => exact ⟨rfl, rfl, rfl⟩
          case round =>
            obtain ⟨rfl, rfl, rfl⟩ := hrel
            by_cases h0 : 0 < j
            · go_wp2
              go_roundg (24 - (j + 1))
              case measure => omega
              case rel => exact ⟨j + 1, by omega, rfl, by go_num, hbr⟩
            · have hd3 : decide (0 < j) = false := by simp; omega
              go_wp2
              go_roundg (24 - (j + 1))
              case measure => omega
              case rel => exact ⟨j + 1, by omega, rfl, by go_num, hbr⟩
      · obtain rfl : j = 24 := by omega
        have hb11 : Below w.heap.size w wo := hbW10.trans (hbr.mono hbW10.size)
        have HT11 := Lib.hid (HT10.out.below hbr)
        have Hv11 := Lib.hid (Hv10.out.below_ hbr)
        clear hbr hbW10
        go_wp2
        go_loopg [18, 19, 20] m (fun gk i _ _ wx => ∃ j : Nat, j ≤ m ∧ gk = m - j ∧ i = .int .i64 j ∧ Below wo.heap.size wo wx)
        case atStart => exact ⟨0, by omega, rfl, rfl, Below.refl _ _⟩
        case round =>
          obtain ⟨j, hj, rfl, rfl, hbi⟩ := hrel
          by_cases hlt : j < m
          · have hvl : j < vs.length := by rw [Hm.out]; exact hlt
            obtain ⟨p1, p2⟩ := prefix_num Hpre.out HT11.out.facts.2.1 j hvl
            have hfind := find_any (HT11.out.below hbi) (vs[j]) (Hgood0.out.wf _ (List.getElem_mem hvl))
            rw [p1, p2] at hfind
            obtain ⟨b, off, rfl, hb, hc⟩ := ((Hv11.out.below_ hbi).rd) (by intro h; rw [h] at hvl; simp at hvl)
            obtain ⟨d0, d1, d2⟩ := hc j hvl
            have Hfind := Lib.hid hfind
            clear hfind hc p1 p2
            generalize vs[j] = v at Hfind d0 d1 d2
            obtain ⟨vk, vn, s⟩ := v
            simp only [Val.agg] at Hfind d0 d1 d2
            have hw := IntWalk.i64_in (j : Int) ⟨by omega, by omega⟩
            go_wp2_with (go_at_call 14; refine Hfind.out.mono ?_; rintro e W12 ⟨rfl, hb12⟩)
            go_roundg (m - (j + 1))
            case measure => omega
            case rel => exact ⟨j + 1, by omega, rfl, by go_num, hbi.trans (hb12.mono hbi.size)⟩
          · obtain rfl : j = m := by omega
            go_wp2
            go_ret
            exact ⟨rfl, hb11.trans (hbi.mono hb11.size)⟩

end Go.Proofs.Ythdpaakkamccbaa

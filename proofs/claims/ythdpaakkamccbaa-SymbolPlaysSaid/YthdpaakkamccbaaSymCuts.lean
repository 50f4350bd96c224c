/-
  The walk of SymbolCuts.
-/
import Derived.Test.YthdpaakkamccbaaSymFilled
namespace Go.Proofs.Ythdpaakkamccbaa
open Go.RowKit Go.Maps

theorem tmod_neg (k n : Int) (hk : k < 0) (hn : 1 ≤ n) : (k.tmod n < 0 → k.tmod n + n = k % n) ∧ (¬ k.tmod n < 0 → k.tmod n = k % n) := by
  have h1 := Int.tmod_eq_emod (a := k) (b := n)
  have h2 := Int.emod_nonneg k (show n ≠ 0 by omega)
  have h3 := Int.emod_lt_of_pos k (show 0 < n by omega)
  have h5 : ¬ 0 ≤ k := by omega
  by_cases hd : n ∣ k
  · have : k % n = 0 := Int.emod_eq_zero_of_dvd hd
    simp only [h5, hd, false_or, if_true] at h1
    omega
  · simp only [h5, hd, false_or, if_false] at h1
    omega

/-- a value among the first k of a list without repeats. -/
theorem take_mem {vs : List Val} (hn : vs.Nodup) {i k : Nat} (hi : i < vs.length) : vs[i] ∈ vs.take k ↔ i < k := by
  constructor
  · intro hm
    obtain ⟨j, hj, he⟩ := List.mem_iff_getElem.1 hm
    rw [List.length_take] at hj
    rw [List.getElem_take] at he
    have := (List.getElem_inj hn).1 he
    omega
  · intro h
    exact List.mem_iff_getElem.2 ⟨i, by rw [List.length_take]; omega, by rw [List.getElem_take]⟩
theorem take_num {vs : List Val} (hn : vs.Nodup) {i k : Nat} (hi : i < vs.length) (hik : i < k) : numOf (vs.take k) vs[i] = i := by
  have hm := (take_mem (k := k) hn hi).2 hik
  unfold numOf
  rw [if_pos hm]
  have h1 := idx_lt hm
  have h2 := idx_at hm
  rw [List.length_take] at h1
  rw [List.getElem_take] at h2
  exact (List.getElem_inj hn).1 h2

theorem below_drewN {B : Nat} {a w : World} (h : Below B a w) (n : Nat) : Below B a (w.drewN n) := h.trans ⟨rfl, rfl, rfl, Nat.le_refl _, fun _ _ => rfl⟩

set_option maxRecDepth 100000 in
set_option maxHeartbeats 2000000 in
theorem cuts_any (A : Option Addr) (cap : Nat) (vs0 : List Val) (n0 : Int) (w : World) (hrd : RdV w A vs0) (hwf : ∀ v ∈ vs0, v.wf) (hsmall : vs0.length ≤ 1048576) (hn0 : -9223372036854775808 ≤ n0) (hn1 : n0 ≤ 9223372036854775807) :
    Calls Try.prog 3 #[.slice A vs0.length cap, .int .i64 n0] w fun e w' => e = .returned (.bool true) ∧ Below w.heap.size w w' := by
  have hlives := Lib.hid (lives_any w)
  have hle0 := goodL_le vs0.length vs0
  have hgood0 := goodL_good vs0.length vs0 hwf
  have hgood := Lib.hid (fun W h => good_any A cap vs0.length vs0 W h (by omega) (by omega))
  obtain ⟨l, hl⟩ : ∃ l, vs0.length = l := ⟨_, rfl⟩
  rw [hl] at hsmall hle0 hgood0 hgood ⊢
  have Hrd := Lib.hid hrd
  clear hwf hl hrd
  generalize goodL l vs0 = vs at hle0 hgood0 hgood
  have Hgood0 := Lib.hid (show GoodL vs.length vs from ⟨hgood0.wf, hgood0.ok, hgood0.nodup, Nat.le_refl _⟩)
  clear hgood0
  obtain ⟨m, hm⟩ : ∃ m, vs.length = m := ⟨_, rfl⟩
  rw [hm] at hle0 hgood
  have Hm := Lib.hid hm
  clear hm
  go_enter Try.func3, Try.ntmps3
  go_wp2_with (go_at_call 9; refine hlives.out.mono ?_; rintro e W1 ⟨rfl, hb1⟩)
  refine (hgood.out W1 (Hrd.out.below hb1)).mono ?_
  rintro e W2 ⟨A2, cap2, rfl, hrow2, hfr2, hb2⟩
  have hbW2 : Below w.heap.size w W2 := hb1.trans (hb2.mono hb1.size)
  have hfr2' : ∀ g ∈ blkOf A2, w.heap.size ≤ g := fun g hg => Nat.le_trans hb1.size (hfr2 g hg)
  have hfill := filled_any A2 cap2 vs.length vs W2 hrow2.rd Hgood0.out (by rw [Hm.out]; omega)
  rw [Hm.out] at hfill
  have Hfill := Lib.hid hfill
  have Hrow2 := Lib.hid hrow2
  have Hfr2 := Lib.hid hfr2'
  clear hfill hrow2 hfr2 hfr2' hb1 hb2 hgood
  go_upto_if 34 with (go_at_call 11; refine Hfill.out.mono ?_; rintro e W3 ⟨tb, S, rfl, hT3, hS3, hb3⟩)
  obtain ⟨k, hk⟩ : ∃ k : Nat, n0 % ((m : Int) + 1) = k := ⟨(n0 % ((m : Int) + 1)).toNat, by have := Int.emod_nonneg n0 (show ((m : Int) + 1) ≠ 0 by omega); omega⟩
  have hkm : k ≤ m := by have := Int.emod_lt_of_pos n0 (show 0 < ((m : Int) + 1) by omega); omega
  have HT3 := Lib.hid hT3
  have HS3 := Lib.hid hS3
  clear hT3 hS3
  go_cut [7] (fun v wx => W3 = wx ∧ v = .int .i64 (k : Int))
  case first =>
    by_cases h0 : 0 ≤ n0
    · have ht : n0.tmod ((m : Int) + 1) = k := by rw [Int.tmod_eq_emod_of_nonneg h0, hk]
      have ht2 : n0 % ((m : Int) + 1) = k := hk
      clear hk
      go_wp2
      all_goals (go_meet; exact ⟨rfl, by rw [ht]⟩)
    · have ht := tmod_neg n0 ((m : Int) + 1) (by omega) (by omega)
      rw [hk] at ht
      clear hk
      obtain ⟨t, htt⟩ : ∃ t, n0.tmod ((m : Int) + 1) = t := ⟨_, rfl⟩
      rw [htt] at ht
      by_cases hneg : t < 0
      · have e := Lib.hid (ht.1 hneg)
        have hb : -((m : Int) + 1) ≤ t := by have := ht.1 hneg; omega
        clear ht
        go_wp2
        all_goals (go_meet; exact ⟨rfl, by rw [← e.out, Int.add_assoc]⟩)
      · have e := Lib.hid (ht.2 hneg)
        clear ht
        go_wp2
        all_goals (go_meet; exact ⟨rfl, by rw [e.out]⟩)
  case rest =>
    obtain ⟨rfl, rfl⟩ := hcut
    clear hk
    have hbW3 : Below w.heap.size w W3 := hbW2.trans (hb3.mono hbW2.size)
    have hrow3 := Hrow2.out.below_ hb3
    have hdis : ∀ g ∈ blkOf A2, g ∉ S := fun g hg hs => by have := Hrow2.out.lt g hg; have := HS3.out g hs; omega
    have hS3w : ∀ g ∈ S, w.heap.size ≤ g := fun g hg => Nat.le_trans hbW2.size (HS3.out g hg)
    have c1 := Lib.hid (cut_bad HT3.out ((m : Int) + 1) (.inr (by rw [Hm.out]; omega)))
    have c2 := Lib.hid (cut_bad HT3.out (-1) (.inl (by omega)))
    have c3 := len_any HT3.out
    rw [Hm.out] at c3
    have C3 := Lib.hid c3
    have c4 := Lib.hid (cut_ok HT3.out k (by rw [Hm.out]; exact hkm))
    have Hrow3 := Lib.hid hrow3
    have Hdis := Lib.hid hdis
    have HS3w := Lib.hid hS3w
    clear c3 hrow3 hdis hS3w hb3
    go_wp2_with fail
    refine c1.out.mono ?_
    rintro e w1 ⟨rfl, hw1⟩
    obtain rfl : W3 = w1 := hw1.symm
    go_wp2_with fail
    refine c2.out.mono ?_
    rintro e w1 ⟨rfl, hw1⟩
    obtain rfl : W3 = w1 := hw1.symm
    go_wp2_with fail
    refine C3.out.mono ?_
    rintro e w1 ⟨rfl, hw1⟩
    obtain rfl : W3 = w1 := hw1.symm
    go_wp2_with fail
    refine c4.out.mono ?_
    rintro e W4 ⟨rfl, hT4, hC4⟩
    have hbW4 : Below w.heap.size w W4 := hbW3.trans (hC4.below hbW3.size HS3w.out)
    have hrow4 : RowV W4 A2 cap2 vs := Hrow3.out.same fun g hg => hC4.block g (Hrow3.out.lt g hg) (Hdis.out g hg)
    have c5 := len_any hT4
    rw [show (vs.take k).length = k from by rw [List.length_take, Hm.out]; omega] at c5
    have C5 := Lib.hid c5
    have HT4 := Lib.hid hT4
    have Hrow4 := Lib.hid hrow4
    clear c5 hT4 hC4 hrow4
    go_wp2_with fail
    refine C5.out.mono ?_
    rintro e w1 ⟨rfl, hw1⟩
    obtain rfl : W4 = w1 := hw1.symm
    go_wp2
    go_loopg [8] m (fun gk i wx => ∃ j : Nat, j ≤ m ∧ gk = m - j ∧ i = .int .i64 j ∧ Below W4.heap.size W4 wx)
    case atStart => exact ⟨0, Nat.zero_le _, rfl, rfl, Below.refl _ _⟩
    case round =>
      obtain ⟨j, hj, rfl, rfl, hbr⟩ := hrel
      by_cases hlt : j < m
      · have hvl : j < vs.length := by rw [Hm.out]; exact hlt
        have hrowr := Hrow4.out.below_ hbr
        obtain ⟨g, rfl⟩ : ∃ g, A2 = some ⟨g, 0, none⟩ := by
          rcases hrowr.form with ⟨_, _, h⟩ | ⟨g, h, _⟩
          · rw [h] at hvl; simp at hvl
          · exact ⟨g, h⟩
        obtain ⟨d0, d1, d2⟩ := hrowr.three j hvl
        have hfind := find_any (HT4.out.below hbr) (vs[j]) (Hgood0.out.wf _ (List.getElem_mem hvl))
        have hw32 : IntKind.i32.wrap (j : Int) = j := IntWalk.i32_in _ ⟨by omega, by omega⟩
        have hTr := HT4.out.below hbr
        have hlk : (vs.take k).length = k := by rw [List.length_take, Hm.out]; omega
        by_cases hjk : j < k
        · rw [take_num Hgood0.out.nodup hvl hjk, decide_eq_true ((take_mem Hgood0.out.nodup hvl).2 hjk)] at hfind
          have hval : ∀ W, Below wr.heap.size wr W → Calls Try.prog 15 #[.pointer (some ⟨tb, 0, none⟩), .int .i32 (j : Int)] W fun e w' => e = .returned (.tuple #[(vs[j]'hvl).agg, .int .i64 0]) ∧ Below W.heap.size W w' := fun W hb => by
            have := value_yes (hTr.below (w' := W) hb) j (by rw [hlk]; exact hjk)
            simp only [List.getElem_take] at this
            exact this
          have Hval := Lib.hid hval
          have Hfind := Lib.hid hfind
          have Hrowr := Lib.hid hrowr
          clear hfind hval hTr hlk hrowr
          have hv : Hid (∀ a b c, veq ⟨a, b, c⟩ ⟨a, b, c⟩ = true) := Lib.hid (fun a b c => by unfold veq; simp)
          generalize vs[j] = v at Hfind Hval d0 d1 d2
          obtain ⟨vk, vn, s⟩ := v
          simp only [Val.agg] at Hfind Hval d0 d1 d2
          go_wp2_with (go_at_call 14; refine Hfind.out.mono ?_; rintro e W5 ⟨rfl, hb5⟩)
          refine (Hval.out W5 hb5).mono ?_
          rintro e W6 ⟨rfl, hb6⟩
          have hb56 : Below wr.heap.size wr W6 := hb5.trans (hb6.mono hb5.size)
          have hg := Hrowr.out.lt g (by simp [blkOf])
          have e0 := (hb56.cell (p := ⟨g, j * 3, none⟩) hg).trans d0
          have e1 := (hb56.cell (p := ⟨g, j * 3 + 1, none⟩) hg).trans d1
          have e2 := (hb56.cell (p := ⟨g, j * 3 + 2, none⟩) hg).trans d2
          have hg6 : g < W6.heap.size := Nat.lt_of_lt_of_le hg hb56.size
          have hveq := hv.out vk vn s
          have hdd : decide (j < k) = true := by simp [hjk]
          clear d0 d1 d2 hb5 hb6
          go_wp2
          go_quiet (fail)
          go_wp2
          have hb4 : Below W4.heap.size W4 W6 := hbr.trans (hb56.mono hbr.size)
          go_roundg (m - (j + 1))
          case measure => omega
          case rel => exact ⟨j + 1, by omega, rfl, by go_num, by repeat (first | exact hb4 | refine below_drewN ?_ _ | refine Below.setCell ?_ hb4.size _ | refine Below.alloc ?_ hb4.size _)⟩
        · have hnm : vs[j] ∉ vs.take k := fun h => hjk ((take_mem Hgood0.out.nodup hvl).1 h)
          have hnum : numOf (vs.take k) vs[j] = 0 := by unfold numOf; rw [if_neg hnm]
          rw [hnum, decide_eq_false hnm] at hfind
          have hval : ∀ W, Below wr.heap.size wr W → Calls Try.prog 15 #[.pointer (some ⟨tb, 0, none⟩), .int .i32 (j : Int)] W fun e w' => e = .returned (.tuple #[.agg #[.int .i8 0, .int .i64 0, .string ⟨#[]⟩], .int .i64 21]) ∧ Below W.heap.size W w' := fun W hb =>
            value_no (hTr.below (w' := W) hb) j (.inr (by rw [hlk]; omega)) (by omega)
          have Hval := Lib.hid hval
          have Hfind := Lib.hid hfind
          have Hrowr := Lib.hid hrowr
          clear hfind hval hTr hlk hrowr hnm hnum
          generalize vs[j] = v at Hfind d0 d1 d2
          obtain ⟨vk, vn, s⟩ := v
          simp only [Val.agg] at Hfind d0 d1 d2
          go_wp2_with (go_at_call 14; refine Hfind.out.mono ?_; rintro e W5 ⟨rfl, hb5⟩)
          refine (Hval.out W5 hb5).mono ?_
          rintro e W6 ⟨rfl, hb6⟩
          have hb56 : Below wr.heap.size wr W6 := hb5.trans (hb6.mono hb5.size)
          have hdd : decide (j < k) = false := by simp; omega
          clear d0 d1 d2 hb5 hb6
          go_wp2
          go_quiet (fail)
          go_wp2
          have hb4 : Below W4.heap.size W4 W6 := hbr.trans (hb56.mono hbr.size)
          go_roundg (m - (j + 1))
          case measure => omega
          case rel => exact ⟨j + 1, by omega, rfl, by go_num, by repeat (first | exact hb4 | refine below_drewN ?_ _ | refine Below.setCell ?_ hb4.size _ | refine Below.alloc ?_ hb4.size _)⟩
      · obtain rfl : j = m := by omega
        have HT5 := Lib.hid (HT4.out.below hbr)
        have Hrow5 := Lib.hid (Hrow4.out.below_ hbr)
        have hdis5 : ∀ g ∈ blkOf A2, g ∉ S := Hdis.out
        have hb5 : Below w.heap.size w wr := hbW4.trans (hbr.mono hbW4.size)
        have Hdis5 := Lib.hid hdis5
        clear hdis5 hbr
        obtain ⟨W5, rfl⟩ : ∃ W5 : World, W5 = wr := ⟨_, rfl⟩
        go_wp2
        go_loopg [13] (j - k) (fun gk i wx => ∃ (q : Nat) (S' : List Nat), k ≤ q ∧ q ≤ j ∧ gk = j - q ∧ i = .int .i64 q ∧ Tab wx tb j (vs.take q) S' ∧ (∀ x ∈ S', w.heap.size ≤ x) ∧ (∀ x ∈ blkOf A2, x ∉ S') ∧ RowV wx A2 cap2 vs ∧ Below w.heap.size w wx)
        case atStart => exact ⟨k, S, Nat.le_refl _, hkm, rfl, rfl, HT5.out, HS3w.out, Hdis5.out, Hrow5.out, hb5⟩
        case round =>
          obtain ⟨q, S', hkq, hq, rfl, rfl, hT, hS', hd', hrowr, hbr⟩ := hrel
          by_cases hlt : q < j
          · have hvl : q < vs.length := by rw [Hm.out]; exact hlt
            obtain ⟨g, rfl⟩ : ∃ g, A2 = some ⟨g, 0, none⟩ := by
              rcases hrowr.form with ⟨_, _, h⟩ | ⟨g, h, _⟩
              · rw [h] at hvl; simp at hvl
              · exact ⟨g, h⟩
            obtain ⟨d0, d1, d2⟩ := hrowr.three q hvl
            have hadd := add_new hT (vs[q]) (Hgood0.out.wf _ (List.getElem_mem hvl)) (Hgood0.out.ok _ (List.getElem_mem hvl)) (fun h => by have := (take_mem Hgood0.out.nodup hvl).1 h; omega) (by rw [List.length_take]; omega)
            rw [← List.take_succ_eq_append_getElem hvl, show (vs.take q).length = q from by rw [List.length_take]; omega] at hadd
            have Hadd := Lib.hid hadd
            have HS' := Lib.hid hS'
            have Hd' := Lib.hid hd'
            have Hrowr := Lib.hid hrowr
            clear hadd hT hS' hd' hrowr
            generalize vs[q] = v at Hadd d0 d1 d2
            obtain ⟨vk, vn, s⟩ := v
            simp only [Val.agg] at Hadd d0 d1 d2
            have hw := IntWalk.i64_in (q : Int) ⟨by omega, by omega⟩
            go_wp2_with (go_at_call 16; refine Hadd.out.mono ?_; rintro e W2 ⟨S2, rfl, hT2, hC2, hS2⟩)
            have hS3 : ∀ x ∈ S2, w.heap.size ≤ x := fun x hx => by
              rcases hS2 x hx with h | h
              · exact HS'.out x h
              · have := hbr.size; omega
            have hbel2 : Below w.heap.size w W2 := hbr.trans (hC2.below hbr.size HS'.out)
            have hd2 : ∀ x ∈ blkOf (some (⟨g, 0, none⟩ : Addr)), x ∉ S2 := fun x hx hs => by
              rcases hS2 x hs with h | h
              · exact Hd'.out x hx h
              · have := Hrowr.out.lt x hx; omega
            have hrow2 : RowV W2 (some ⟨g, 0, none⟩) cap2 vs := Hrowr.out.same fun x hx => hC2.block x (Hrowr.out.lt x hx) (Hd'.out x hx)
            have HT2 := Lib.hid hT2
            have HS3 := Lib.hid hS3
            have Hbel2 := Lib.hid hbel2
            have Hd2 := Lib.hid hd2
            have HR2 := Lib.hid hrow2
            clear hT2 hS3 hbel2 hC2 hS2 hd2 hrow2
            go_wp2
            go_roundg (j - (q + 1))
            case measure => omega
            case rel => exact ⟨q + 1, S2, by omega, by omega, rfl, by go_num, HT2.out, HS3.out, Hd2.out, HR2.out, Hbel2.out⟩
          · obtain rfl : q = j := by omega
            have hlen := len_any hT
            rw [show (vs.take q).length = q from by rw [List.length_take, Hm.out]; omega] at hlen
            have Hlen := Lib.hid hlen
            clear hlen hT hS' hd' hrowr
            go_wp2_with (go_at_call 13; refine Hlen.out.mono ?_; rintro e w1 ⟨rfl, hw1⟩; obtain rfl : wr = w1 := hw1.symm)
            go_ret
            exact ⟨by simp, hbr⟩

end Go.Proofs.Ythdpaakkamccbaa

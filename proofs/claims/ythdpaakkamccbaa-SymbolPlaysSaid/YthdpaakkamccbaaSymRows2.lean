/-
  Walks: rows of a Row, of a Seek.
-/
import Derived.Test.YthdpaakkamccbaaSymRows
namespace Go.Proofs.Ythdpaakkamccbaa
open Go.RowKit Go.Maps

/-- the state behind lists. -/
def stL (kind : Int) (st : St) (l : List Val) : St := if kind = 4 then (rowA st l).2 else st

theorem lists_any {w : World} {bb bo : Nat} {bt : TypeId} {bc : Array Value} {tv rv : Value} {st : St} {S1 S2 : List Nat} (h : Pair w bb bo bt bc tv rv st S1 S2) (kind : Int) (l : List Val) (g capc : Nat) (hcv : RowV w (some ⟨g, 0, none⟩) capc (l ++ marks 70)) (B : Option Addr) (capB : Nat) (hl : RdV w B l)
    (hwf : ∀ u ∈ l, u.wf) (hreach : l.length * 32 ≤ 140737488351232) (hg1 : g ∉ S1) (hg2 : g ∉ S2) (hB : l ≠ [] → ∀ a, B = some a → a.block ∉ S1 ∧ a.block ∉ S2 ∧ a.block < w.heap.size) :
    Calls Try.prog 45 #[.pointer (some ⟨bb, bo, none⟩), .int .i64 kind, .slice (some ⟨g, 0, none⟩) l.length capc, .slice B l.length capB] w fun e w' =>
      e = .returned (.bool true) ∧ ∃ S1' S2', Pair w' bb bo bt bc tv rv (stL kind st l) S1' S2' ∧ Chg (S1 ++ S2) w w' ∧ Grew w.heap.size S1 S1' ∧ (∀ k ∈ S2', k ∈ S2 ∨ w.heap.size ≤ k) := by
  unfold stL
  by_cases hk : kind = 4
  · subst hk
    simp only [if_true]
    exact lists_row h l g capc hcv B capB hl hwf hreach hg1 hg2 hB
  · simp only [if_neg hk]
    exact (lists_seek h kind hk l g capc hcv B capB hl hwf hreach).mono fun e w' ⟨he, hb⟩ => ⟨he, S1, S2, h.below hb, Chg.of_below _ hb, Grew.refl _ _, fun k hk => .inl hk⟩

theorem Pair.chg {w w' : World} {bb bo : Nat} {bt : TypeId} {bc : Array Value} {tv rv : Value} {st : St} {S1 S2 S : List Nat} (h : Pair w bb bo bt bc tv rv st S1 S2) (hc : Chg S w w') (h1 : ∀ k ∈ S1, k ∉ S) (h2 : ∀ k ∈ S2, k ∉ S) (h3 : bb ∉ S) : Pair w' bb bo bt bc tv rv st S1 S2 :=
  ⟨h.blk.same (hc.block _ h.blk.lt h3), h.at0, h.at1, h.pt.same fun k hk => hc.block k (h.pt.lt k hk) (h1 k hk), h.rt.same fun k hk => hc.block k (h.rt.lt k hk) (h2 k hk), h.dis, h.b1, h.b2⟩

/-- one value of a row written. -/
theorem RowV.set3 {w : World} {g cap : Nat} {us : List Val} (h : RowV w (some ⟨g, 0, none⟩) cap us) (j : Nat) (v : Val) (hj : j < us.length) :
    RowV (((w.setCell ⟨g, j * 3, none⟩ (.int .i8 v.k)).setCell ⟨g, j * 3 + 1, none⟩ (.int .i64 v.n)).setCell ⟨g, j * 3 + 2, none⟩ (.string v.s)) (some ⟨g, 0, none⟩) cap (us.set j v) := by
  have h1 := World.ownsRow.stored h (j * 3) (.int .i8 v.k)
  have h2 := World.ownsRow.stored h1.1 (j * 3 + 1) (.int .i64 v.n)
  have h3 := World.ownsRow.stored h2.1 (j * 3 + 2) (.string v.s)
  unfold RowV
  rw [List.length_set]
  have e := congrArg Array.toList (vcells_set us j v hj)
  simp only [Array.toList_setIfInBounds] at e
  rw [← e]
  exact h3.1

/-- its block, known whole. -/
theorem RowV.blk {w : World} {g cap : Nat} {us : List Val} (h : RowV w (some ⟨g, 0, none⟩) cap us) : ∃ cur, Blk w g 36 cur ∧ ∀ j, j < us.length * 3 → cur[j]? = (vcells us)[j]? := by
  rcases h.2 with ⟨hv, _⟩ | ⟨g0, c0, cur, hv, _, hh, _, _, _, ht⟩
  · cases hv
  · injection hv with e1 e2 e3
    injection e1 with e1
    injection e1 with e1 _ _
    subst e1
    refine ⟨cur, hh, fun j hj => ?_⟩
    rw [← ht, List.getElem?_take, if_pos hj, Array.getElem?_toList]

theorem set_mid (a b c : List Val) (t : Nat) (u : Val) (ha : a.length = t) (hb : 0 < b.length) : (a ++ b ++ c).set t u = a ++ [u] ++ b.drop 1 ++ c := by
  subst ha
  cases b with
  | nil => simp at hb
  | cons x b => simp

theorem rev_at (l : List Val) (j : Nat) (h : j < l.length) : l.reverse.take (j + 1) = l.reverse.take j ++ [l[l.length - 1 - j]'(by omega)] := by
  rw [List.take_succ_eq_append_getElem (by simpa using h), List.getElem_reverse]

set_option maxRecDepth 100000 in
set_option maxHeartbeats 4000000 in
theorem rows_lists {w : World} {bb bo : Nat} {bt : TypeId} {bc : Array Value} {tv rv : Value} {st : St} {S1 S2 : List Nat} (h : Pair w bb bo bt bc tv rv st S1 S2) (on kind n0 m : Int) (hk6 : kind ≠ 6) (v : Val) (l : List Val) (A : Option Addr) (cap : Nat) (rs : List Int)
    (hA : A = none → cap = 0) (hl : RdV w A l) (hwf : ∀ u ∈ l, u.wf) (hreach : l.length * 32 ≤ 140737488351232) (hB : l ≠ [] → ∀ a, A = some a → a.block ∉ S1 ∧ a.block ∉ S2 ∧ a.block < w.heap.size) :
    Calls Try.prog 38 #[.pointer (some ⟨bb, bo, none⟩), .agg (opC on kind n0 m v (.slice A l.length cap) rs)] w fun e w' =>
      e = .returned (.bool true) ∧ ∃ S1' S2', Pair w' bb bo bt bc tv rv (stL kind (stL kind st l) l.reverse) S1' S2' ∧ Chg (S1 ++ S2) w w' ∧ Grew w.heap.size S1 S1' ∧ (∀ k ∈ S2', k ∈ S2 ∨ w.heap.size ≤ k) := by
  have hkd : (kind == 6) = false := by simpa using hk6
  have H := Lib.hid h
  have Hl := Lib.hid hl
  have Hwf := Lib.hid hwf
  have HB := Lib.hid hB
  have HA := Lib.hid hA
  have Hreach := Lib.hid hreach
  have HS1 := Lib.hid h.pt.lt
  have HS2 := Lib.hid h.rt.lt
  obtain ⟨o0, o1, o2, o3, o4, o5, o6, o7⟩ := opC_at on kind n0 m v (.slice A l.length cap) rs
  obtain ⟨O, hO⟩ : ∃ O, opC on kind n0 m v (.slice A l.length cap) rs = O := ⟨_, rfl⟩
  rw [hO] at o0 o1 o2 o3 o4 o5 o6 o7 ⊢
  obtain ⟨n, hn⟩ : ∃ n, l.length = n := ⟨_, rfl⟩
  rw [hn] at hreach o7
  have Hn := Lib.hid hn
  obtain ⟨st1, hst1⟩ : ∃ s, stL kind st l = s := ⟨_, rfl⟩
  rw [hst1]
  have Hst1 := Lib.hid hst1
  have Ho1 := Lib.hid o1
  have Ho7 := Lib.hid o7
  have hnb : n ≤ 4398046510976 := by omega
  clear h hl hwf hB hA hO hn hst1 o0 o1 o2 o3 o4 o5 o6 o7 hk6 hreach
  obtain ⟨i0, hi, hz0, hz1, hz2⟩ := info_parts Try.infoV
  go_enter Try.func38, Try.ntmps38
  go_upto_region 1 with fail
  have h3 := tup_new w O 68
  generalize w.alloc (.cells O 68) = W1 at h3 ⊢
  obtain ⟨hb1, hop, hs1⟩ := h3
  have c1 : W1.cell? ⟨w.heap.size, 1, none⟩ = some (.int .i64 kind) := (hop.cell 1).trans Ho1.out
  have c7 : W1.cell? ⟨w.heap.size, 7, none⟩ = some (.slice A n cap) := (hop.cell 7).trans Ho7.out
  have Hop := Lib.hid hop
  have Hs1 := Lib.hid hs1
  have Hlent := Lib.hid (show Calls Try.prog 44 #[.slice A n cap] W1 _ from Hn.out ▸ lent_any A cap l W1 HA.out (Hl.out.below hb1) Hreach.out)
  clear hop hs1
  go_upto_region 6 with (go_at_call 44; refine Hlent.out.mono ?_; rintro e W2 ⟨g, capc, rfl, hg, hc2, hb2⟩)
  have hg1 : W1.heap.size ≤ g := hg
  have hbw2 : Below w.heap.size w W2 := hb1.trans (hb2.mono hb1.size)
  have hP2 := H.out.below hbw2
  have hgn1 : g ∉ S1 := fun hm => by have := HS1.out g hm; have := hb1.size; omega
  have hgn2 : g ∉ S2 := fun hm => by have := HS2.out g hm; have := hb1.size; omega
  have hli := lists_any hP2 kind l g capc hc2 A cap (Hl.out.below hbw2) Hwf.out Hreach.out hgn1 hgn2 (fun hne a ha => ⟨(HB.out hne a ha).1, (HB.out hne a ha).2.1, Nat.lt_of_lt_of_le (HB.out hne a ha).2.2 hbw2.size⟩)
  rw [Hn.out, Hst1.out] at hli
  have Hli := Lib.hid hli
  have c1' : W2.cell? ⟨w.heap.size, 1, none⟩ = some (.int .i64 kind) := (hb2.cell (p := ⟨w.heap.size, 1, none⟩) Hop.out.lt).trans c1
  have c7' : W2.cell? ⟨w.heap.size, 7, none⟩ = some (.slice A n cap) := (hb2.cell (p := ⟨w.heap.size, 7, none⟩) Hop.out.lt).trans c7
  have Hc2 := Lib.hid hc2
  have Hop2 := Lib.hid (Hop.out.same (hb2.block _ Hop.out.lt))
  have Hg2 := Lib.hid (hc2.lt g (by simp [blkOf]))
  clear hli c1 c7 hP2 hg Hlent hc2 hb2
  go_upto_region 8 with (go_at_call 45; refine Hli.out.mono ?_; rintro e W3 ⟨rfl, S1', S2', hP3, hC3, hS1', hS2'⟩)
  have hopn : w.heap.size ∉ S1 ++ S2 := fun hm => by
    rcases List.mem_append.1 hm with h | h
    · have := HS1.out _ h; omega
    · have := HS2.out _ h; omega
  have hgn : g ∉ S1 ++ S2 := fun hm => by
    rcases List.mem_append.1 hm with h | h
    · exact hgn1 h
    · exact hgn2 h
  have hop3 : Blk W3 w.heap.size 68 O := Hop2.out.same (hC3.block _ Hop2.out.lt hopn)
  have hc3 : RowV W3 (some ⟨g, 0, none⟩) capc (l ++ marks 70) := Hc2.out.same fun x hx => hC3.block x (Hc2.out.lt x hx) (by simp only [blkOf, Option.map_some, Option.toList_some, List.mem_singleton] at hx; subst hx; exact hgn)
  have hl3 : RdV W3 A l := (Hl.out.below hbw2).chg hC3 (fun hne a ha => by rw [List.mem_append]; rintro (h | h); exact (HB.out hne a ha).1 h; exact (HB.out hne a ha).2.1 h)
  have hCw3 : Chg (S1 ++ S2) w W3 := (Chg.of_below _ hbw2).trans hC3 (fun x hx => .inl hx)
  have hg1' : g ∉ S1' := fun hm => by
    rcases hS1' g hm with h | h
    · exact hgn1 h
    · have := Hg2.out; omega
  have hg2' : g ∉ S2' := fun hm => by
    rcases hS2' g hm with h | h
    · exact hgn2 h
    · have := Hg2.out; omega
  have HS1' := Lib.hid (show Grew w.heap.size S1 S1' from ⟨fun k hk => by
    rcases hS1' k hk with h | h
    · exact .inl h
    · right; have := hbw2.size; omega, hS1'.map⟩)
  have HS2' := Lib.hid (show ∀ k ∈ S2', k ∈ S2 ∨ w.heap.size ≤ k from fun k hk => by
    rcases hS2' k hk with h | h
    · exact .inl h
    · right; have := hbw2.size; omega)
  have c73 : W3.cell? ⟨w.heap.size, 7, none⟩ = some (.slice A n cap) := (hop3.cell 7).trans Ho7.out
  have HP3 := Lib.hid hP3
  have Hop3 := Lib.hid hop3
  have Hc3 := Lib.hid hc3
  have Hl3 := Lib.hid hl3
  have HC3 := Lib.hid hCw3
  have Hsz := Lib.hid hC3.size
  clear hP3 hop3 hc3 hl3 hCw3 hC3 hS1' hS2' Hli c1' c7' Hop2 Hc2 hbw2
  go_upto_block 0 with fail
  go_wp2_with fail
  have hw0 := IntWalk.i64_in ((n : Int) - 1) ⟨by omega, by omega⟩
  go_loopg [10, 11] n (fun gk b i wx => ∃ (j : Nat) (z : Int) (A4 : Option Addr) (cap4 : Nat), j ≤ n ∧ gk = n - j ∧ z = (n : Int) - 1 - j ∧ i = .int .i64 z ∧ b = .slice A4 j cap4 ∧ RowV wx A4 cap4 (l.reverse.take j) ∧ (∀ x ∈ blkOf A4, W3.heap.size ≤ x) ∧ Below W3.heap.size W3 wx)
  case atStart => exact ⟨0, (n : Int) - 1, none, 0, Nat.zero_le _, rfl, by omega, by first | rfl | rw [hw0], rfl, RowV.nil_ _, by simp [blkOf], Below.refl _ _⟩
  case round =>
    obtain ⟨j, z, A4, cap4, hj, rfl, hz, rfl, rfl, hrow, hfr, hb⟩ := hrel
    obtain ⟨wo, rfl⟩ : ∃ wo : World, wo = wr := ⟨_, rfl⟩
    have c74 : wo.cell? ⟨w.heap.size, 7, none⟩ = some (.slice A n cap) := (hb.cell (p := ⟨w.heap.size, 7, none⟩) Hop3.out.lt).trans c73
    by_cases hlt : j < n
    · obtain ⟨p, rfl⟩ : ∃ p : Nat, z = p := ⟨z.toNat, by omega⟩
      have hp : p = n - 1 - j := by omega
      have hpl : p < l.length := by rw [Hn.out]; omega
      have hrev := rev_at l j (by rw [Hn.out]; exact hlt)
      obtain ⟨b, off, rfl, hbl, hc⟩ := (Hl3.out.below hb) (by intro h; rw [h] at hpl; simp at hpl)
      obtain ⟨d0, d1, d2⟩ := hc p hpl
      have hpe : l[l.length - 1 - j]'(by rw [Hn.out]; omega) = l[p] := by congr 1; rw [Hn.out]; exact hp.symm
      rw [hpe] at hrev
      clear hpe hc
      obtain ⟨u, hu⟩ : ∃ u, l[p] = u := ⟨_, rfl⟩
      rw [hu] at d0 d1 d2 hrev
      clear hu
      have hrl : (l.reverse.take j).length = j := by rw [List.length_take, List.length_reverse, Hn.out]; omega
      have hown : wo.ownsRow 0 36 3 (.slice A4 j cap4) j (vcells (l.reverse.take j)) := by unfold RowV at hrow; rw [hrl] at hrow; exact hrow
      have Hown := Lib.hid hown
      have Hrev := Lib.hid hrev
      have Hrl := Lib.hid hrl
      have Hfr := Lib.hid hfr
      have Hb := Lib.hid hb
      have Hp := Lib.hid hp
      have hpn : p < n := by omega
      have h63 : j + 1 ≤ maxLen := by unfold maxLen; omega
      have h32 : (j + 1) * 32 ≤ 140737488355328 := by omega
      have hd1 : decide ((0 : Int) ≤ (p : Int)) = true := by simp
      have hwp := IntWalk.i64_in ((p : Int) - 1) ⟨by omega, by omega⟩
      clear hown hrow hfr hrev hrl hz hp hpl
      obtain ⟨vk, vn, s⟩ := u
      simp only at d0 d1 d2
      have Hc1 := Lib.hid (cells3_new' wo (.int .i8 vk) (.int .i64 vn) (.string s) 36)
      have Hc2' := Lib.hid (three_one vk vn s)
      go_wp2_with (at_builtin; refine wpList_append_own_at _ rfl _ _ 22 rfl 0 36 i0 _ 3 32 Try.underlying22 hi hz0 hz1 hz2 rfl (by decide) _ j _ rfl (Hown.out.alloc _) ⟨wo.heap.size, 0, none⟩ 1 1 [.int .i8 vk, .int .i64 vn, .string s] rfl rfl Hc1.out Hc2'.out h63 h32 (Nat.zero_le _) ?_)
      intro v' W4 hown4 hgrow4 hnil4 hloc4
      have hxs : vcells (l.reverse.take j) ++ [.int .i8 vk, .int .i64 vn, .string s] = vcells (l.reverse.take (j + 1)) := by
        rw [Hrev.out, vcells_append]; rfl
      rw [hxs] at hown4
      obtain ⟨A5, cap5, rfl, hrow5, hob5⟩ := RowV.of_own (us := l.reverse.take (j + 1)) (by rw [Hrev.out, List.length_append, Hrl.out]; rfl) hown4
      have hob : ∀ x, (Value.slice A4 j cap4).ownBlock = some x → W3.heap.size ≤ x := fun x hx => Hfr.out x (own_blk _ _ _ _ hx)
      have hbel : Below W3.heap.size W3 W4 := (hb.alloc hb.size _).grown hgrow4 (by have := hb.size; simp; omega) hob
      have hfr5 : ∀ x ∈ blkOf A5, W3.heap.size ≤ x := fun x hx => by
        have hx2 : (Value.slice A5 (j + 1) cap5).ownBlock = some x := by
          cases A5 with
          | none => simp [blkOf] at hx
          | some a => simp [blkOf] at hx; simp [Value.ownBlock, hx]
        rcases hloc4 with h | h
        · exact hob x (by rw [← h]; exact hx2)
        · have h2 := hx2.symm.trans h
          injection h2 with h2
          have h3 := hb.size
          have h4 : (wo.alloc (.cells #[.int .i8 vk, .int .i64 vn, .string s] 36)).heap.size = wo.heap.size + 1 := (tup_new wo _ _).2.2
          omega
      have Hrow5 := Lib.hid hrow5
      have Hbel := Lib.hid hbel
      have Hfr5 := Lib.hid hfr5
      clear hown4 hgrow4 hnil4 hloc4 hrow5 hbel hfr5 hob hob5 hxs
      go_wp2
      go_roundg (n - (j + 1))
      case measure => omega
      case rel => exact ⟨j + 1, (p : Int) - 1, A5, cap5, by omega, rfl, by have := Hp.out; omega, by first | rfl | rw [hwp], rfl, Hrow5.out, Hfr5.out, Hbel.out⟩
    · obtain rfl : j = n := by omega
      have hd1 : decide ((0 : Int) ≤ z) = false := by simp; omega
      have hre : l.reverse.take j = l.reverse := List.take_of_length_le (by rw [List.length_reverse, Hn.out]; exact Nat.le_refl _)
      rw [hre] at hrow
      have Hrow := Lib.hid hrow
      have Hfr := Lib.hid hfr
      have Hc4 := Lib.hid (Hc3.out.below_ hb)
      have HP4 := Lib.hid (HP3.out.below hb)
      have HC4 := Lib.hid (HC3.out.trans (Chg.of_below [] hb) (fun x hx => by cases hx))
      have Hop4 := Lib.hid (Hop3.out.same (hb.block _ Hop3.out.lt))
      have Hsz4 := Lib.hid (Nat.le_trans Hsz.out hb.size)
      have Hb := Lib.hid hb
      clear hrow hfr hre hb c74 c73 hz
      obtain ⟨W4, rfl⟩ : ∃ W4 : World, W4 = wo := ⟨_, rfl⟩
      have hgl4 : g < W4.heap.size := Nat.lt_of_lt_of_le Hg2.out Hsz4.out
      have hA4 : ∀ x ∈ blkOf A4, x ≠ g := fun x hx e => by have := Hfr.out x hx; have := Hg2.out; have := Hsz.out; omega
      go_wp2_with fail
      go_loopg [12] j (fun gk i wx => ∃ t : Nat, t ≤ j ∧ gk = j - t ∧ i = .int .i64 t ∧ RowV wx (some ⟨g, 0, none⟩) capc (l.reverse.take t ++ l.drop t ++ marks 70) ∧ Chg [g] W4 wx)
      case atStart => exact ⟨0, Nat.zero_le _, rfl, rfl, by simpa using Hc4.out, Chg.refl _ _⟩
      case round =>
        obtain ⟨t, ht, rfl, rfl, hrow, hC⟩ := hrel
        obtain ⟨wi, rfl⟩ : ∃ wi : World, wi = wr := ⟨_, rfl⟩
        have hback : RowV wi A4 cap4 l.reverse := Hrow.out.same fun x hx => hC.block x (Hrow.out.lt x hx) (by rw [List.mem_singleton]; exact hA4 x hx)
        by_cases hlt2 : t < j
        · have htl : t < l.reverse.length := by rw [List.length_reverse, Hn.out]; exact hlt2
          obtain ⟨g4, rfl⟩ : ∃ g, A4 = some ⟨g, 0, none⟩ := by
            rcases hback.form with ⟨_, _, h⟩ | ⟨g, h, _⟩
            · rw [h] at htl; simp at htl
            · exact ⟨g, h⟩
          obtain ⟨e0, e1, e2⟩ := hback.three t htl
          have htk : (l.reverse.take t).length = t := by rw [List.length_take]; omega
          have hdl : 0 < (l.drop t).length := by rw [List.length_drop, Hn.out]; omega
          obtain ⟨u, hu⟩ : ∃ u, l.reverse[t] = u := ⟨_, rfl⟩
          rw [hu] at e0 e1 e2
          have hset : (l.reverse.take t ++ l.drop t ++ marks 70).set t u = l.reverse.take (t + 1) ++ l.drop (t + 1) ++ marks 70 := by
            rw [set_mid _ _ _ t u htk hdl, List.take_succ_eq_append_getElem htl, hu, List.drop_drop]
          have hlen : t < (l.reverse.take t ++ l.drop t ++ marks 70).length := by rw [List.length_append, List.length_append, htk]; omega
          have hrow2 := hrow.set3 t u hlen
          rw [hset] at hrow2
          obtain ⟨cur, hbk, hcur⟩ := hrow.blk
          obtain ⟨q0, q1, q2⟩ := vcells_at _ t hlen
          have p0 := (hcur (t * 3) (by omega)).trans q0
          have p1 := (hcur (t * 3 + 1) (by omega)).trans q1
          have p2 := (hcur (t * 3 + 2) (by omega)).trans q2
          generalize (l.reverse.take t ++ l.drop t ++ marks 70)[t] = y at p0 p1 p2
          have d0 : wi.cell? ⟨g, t * 3, none⟩ = some (.int .i8 y.k) := (hbk.cell _).trans p0
          have f0 : wi.frozen? ⟨g, t * 3, none⟩ = false := hbk.frozen _
          have d1 : ∀ u, (wi.setCell ⟨g, t * 3, none⟩ u).cell? ⟨g, t * 3 + 1, none⟩ = some (.int .i64 y.n) := fun u => ((hbk.set_ _ u).cell _).trans (by rw [Array.getElem?_setIfInBounds_ne (by omega)]; exact p1)
          have f1 : ∀ u, (wi.setCell ⟨g, t * 3, none⟩ u).frozen? ⟨g, t * 3 + 1, none⟩ = false := fun u => (hbk.set_ _ u).frozen _
          have d2 : ∀ u u', ((wi.setCell ⟨g, t * 3, none⟩ u).setCell ⟨g, t * 3 + 1, none⟩ u').cell? ⟨g, t * 3 + 2, none⟩ = some (.string y.s) := fun u u' => (((hbk.set_ _ u).set_ _ u').cell _).trans (by rw [Array.getElem?_setIfInBounds_ne (by omega), Array.getElem?_setIfInBounds_ne (by omega)]; exact p2)
          have f2 : ∀ u u', ((wi.setCell ⟨g, t * 3, none⟩ u).setCell ⟨g, t * 3 + 1, none⟩ u').frozen? ⟨g, t * 3 + 2, none⟩ = false := fun u u' => ((hbk.set_ _ u).set_ _ u').frozen _
          have Hrow2 := Lib.hid hrow2
          have HC := Lib.hid hC
          obtain ⟨uk, un, us⟩ := u
          simp only at e0 e1 e2
          clear hbk hcur q0 q1 q2 p0 p1 p2 hrow hrow2 hset hlen htl hback hC hu htk hdl
          go_wp2
          go_roundg (j - (t + 1))
          case measure => omega
          case rel => exact ⟨t + 1, by omega, rfl, by go_num, Hrow2.out, ((HC.out.setCell (.inl (by simp)) _).setCell (.inl (by simp)) _).setCell (.inl (by simp)) _⟩
        · obtain rfl : t = j := by omega
          have hta : l.reverse.take t = l.reverse := List.take_of_length_le (by rw [List.length_reverse, Hn.out]; exact Nat.le_refl _)
          have htd : l.drop t = [] := List.drop_eq_nil_of_le (by rw [Hn.out]; exact Nat.le_refl _)
          rw [hta, htd, List.append_nil] at hrow
          have hP5 : Pair wi bb bo bt bc tv rv st1 S1' S2' := HP4.out.chg hC (fun x hx hm => hg1' (by rw [← List.mem_singleton.1 hm]; exact hx)) (fun x hx hm => hg2' (by rw [← List.mem_singleton.1 hm]; exact hx)) (fun hm => by
            have h1 := H.out.blk.lt
            have h2 := List.mem_singleton.1 hm
            have h3 := hb1.size
            omega)
          have hli := lists_any hP5 kind l.reverse g capc hrow A4 cap4 hback.rd (fun u hu => Hwf.out u (List.mem_reverse.1 hu)) (by rw [List.length_reverse]; exact Hreach.out) hg1' hg2' (fun _ a ha => by
            have h1 := Hfr.out a.block (by rw [ha]; simp [blkOf])
            have h2 := Hrow.out.lt a.block (by rw [ha]; simp [blkOf])
            exact ⟨fun hm => by have := HP3.out.pt.lt _ hm; omega, fun hm => by have := HP3.out.rt.lt _ hm; omega, Nat.lt_of_lt_of_le h2 hC.size⟩)
          rw [List.length_reverse, Hn.out] at hli
          have Hli := Lib.hid hli
          have ck : wi.cell? ⟨w.heap.size, 1, none⟩ = some (.int .i64 kind) := ((Hop4.out.same (hC.block _ Hop4.out.lt (by have := Hs1.out; rw [List.mem_singleton]; omega))).cell 1).trans Ho1.out
          have HC5 := Lib.hid (HC4.out.trans hC (fun x hx => by rw [List.mem_singleton.1 hx]; right; have := hb1.size; omega))
          have Hsz5 := Lib.hid (Nat.le_trans HC4.out.size hC.size)
          clear hli hP5 hrow hta htd hback hC
          go_wp2_with (go_at_call 45; refine Hli.out.mono ?_; rintro e W6 ⟨rfl, S1'', S2'', hP6, hC6, hS1'', hS2''⟩)
          go_ret
          refine ⟨rfl, S1'', S2'', hP6, HC5.out.trans hC6 (fun x hx => ?_), ⟨fun k hk => ?_, hS1''.map.trans HS1'.out.map⟩, fun k hk => ?_⟩
          · rcases List.mem_append.1 hx with h | h
            · rcases HS1'.out x h with h | h
              · exact .inl (List.mem_append_left _ h)
              · exact .inr h
            · rcases HS2'.out x h with h | h
              · exact .inl (List.mem_append_right _ h)
              · exact .inr h
          · rcases hS1'' k hk with h | h
            · exact HS1'.out k h
            · right; have := Hsz5.out; omega
          · rcases hS2'' k hk with h | h
            · exact HS2'.out k h
            · right; have := Hsz5.out; omega

end Go.Proofs.Ythdpaakkamccbaa

/-
  Walks of the document's table: there, Len, Value, Find, Cut.
-/
import Derived.Test.YthdpaakkamccbaaSymSame
import Derived.Test.YthdpaakkamccbaaSymFreshL
namespace Go.Proofs.Ythdpaakkamccbaa
open Go.RowKit Go.Maps

/-- the document's table at block rb, made for so many values, with these. -/
structure RAt (w : World) (rb most : Nat) (vs : List Val) (A : Option Addr) (cap : Nat) : Prop where
  blk : Blk w rb 82 #[.bool true, .int .i64 (most : Int), .slice A vs.length cap]
  row : RowV w A cap vs
  wf : ∀ v ∈ vs, v.wf
  le : vs.length ≤ most
  most : most ≤ 2147483647

def footR (rb : Nat) (A : Option Addr) : List Nat := rb :: blkOf A
def RTab (w : World) (rb most : Nat) (vs : List Val) (S : List Nat) : Prop := ∃ A cap, RAt w rb most vs A cap ∧ S = footR rb A

theorem RAt.same {w w' : World} {rb most : Nat} {vs : List Val} {A : Option Addr} {cap : Nat} (h : RAt w rb most vs A cap) (hb : ∀ k ∈ footR rb A, w'.heap[k]? = w.heap[k]?) : RAt w' rb most vs A cap :=
  ⟨h.blk.same (hb _ (by simp [footR])), h.row.same (fun g hg => hb g (by simp [footR, hg])), h.wf, h.le, h.most⟩
theorem RAt.lt {w : World} {rb most : Nat} {vs : List Val} {A : Option Addr} {cap : Nat} (h : RAt w rb most vs A cap) : ∀ k ∈ footR rb A, k < w.heap.size := by
  intro k hk
  simp only [footR, List.mem_cons] at hk
  rcases hk with rfl | hk
  · exact h.blk.lt
  · exact h.row.lt k hk
theorem RAt.row_ne {w : World} {rb most : Nat} {vs : List Val} {A : Option Addr} {cap : Nat} (h : RAt w rb most vs A cap) : ∀ g ∈ blkOf A, g ≠ rb := by
  intro g hg e
  subst e
  rcases h.row.2 with ⟨hv, _⟩ | ⟨g0, c0, cur, hv, _, hh, _⟩
  · injection hv with hA; subst hA; simp [blkOf] at hg
  · injection hv with hA; subst hA
    have h2 := h.blk
    simp [blkOf] at hg
    subst hg
    unfold Blk at h2
    rw [hh] at h2
    injection h2 with h2
    injection h2 with _ h3
    cases h3
theorem RTab.same {w w' : World} {rb most : Nat} {vs : List Val} {S : List Nat} (h : RTab w rb most vs S) (hb : ∀ k ∈ S, w'.heap[k]? = w.heap[k]?) : RTab w' rb most vs S := by
  obtain ⟨A, cap, ht, rfl⟩ := h
  exact ⟨A, cap, ht.same hb, rfl⟩
theorem RTab.lt {w : World} {rb most : Nat} {vs : List Val} {S : List Nat} (h : RTab w rb most vs S) : ∀ k ∈ S, k < w.heap.size := by
  obtain ⟨A, cap, ht, rfl⟩ := h
  exact ht.lt
theorem RTab.chg {w w' : World} {rb most : Nat} {vs : List Val} {S S' : List Nat} (h : RTab w rb most vs S) (hc : Chg S' w w') (hd : ∀ k ∈ S, k ∉ S') : RTab w' rb most vs S :=
  h.same fun k hk => hc.block k (h.lt k hk) (hd k hk)
theorem RTab.below {w w' : World} {rb most : Nat} {vs : List Val} {S : List Nat} (h : RTab w rb most vs S) (hc : Below w.heap.size w w') : RTab w' rb most vs S :=
  h.same fun k hk => hc.block k (h.lt k hk)

theorem ref_there_at {w : World} {rb most : Nat} {vs : List Val} {A : Option Addr} {cap : Nat} (h : RAt w rb most vs A cap) :
    Calls Try.prog 40 #[.pointer (some ⟨rb, 0, none⟩)] w fun e w' => e = .returned (.bool true) ∧ w' = w := by
  have h1 : w.cell? ⟨rb, 0, none⟩ = some (.bool true) := h.blk.cell 0
  clear h
  go_enter Try.func40, Try.ntmps40
  go_wp2
  go_ret
  exact ⟨rfl, rfl⟩
theorem ref_there {w : World} {rb most : Nat} {vs : List Val} {S : List Nat} (h : RTab w rb most vs S) :
    Calls Try.prog 40 #[.pointer (some ⟨rb, 0, none⟩)] w fun e w' => e = .returned (.bool true) ∧ w' = w := by
  obtain ⟨A, cap, ht, _⟩ := h
  exact ref_there_at ht
theorem ref_there_nil (w : World) :
    Calls Try.prog 40 #[.pointer none] w fun e w' => e = .returned (.bool false) ∧ w' = w := by
  go_enter Try.func40, Try.ntmps40
  go_wp2
  go_ret
  exact ⟨rfl, rfl⟩

theorem ref_len {w : World} {rb most : Nat} {vs : List Val} {S : List Nat} (h : RTab w rb most vs S) :
    Calls Try.prog 25 #[.pointer (some ⟨rb, 0, none⟩)] w fun e w' => e = .returned (.int .i64 (vs.length : Int)) ∧ w' = w := by
  have hth := Lib.hid (ref_there h)
  obtain ⟨A, cap, ht, rfl⟩ := h
  have c2 : w.cell? ⟨rb, 2, none⟩ = some (.slice A vs.length cap) := ht.blk.cell 2
  clear ht
  go_enter Try.func25, Try.ntmps25
  go_wp2_with (go_at_call 40; refine hth.out.mono ?_; rintro e w' ⟨rfl, rfl⟩)
  go_ret
  exact ⟨rfl, rfl⟩

set_option maxHeartbeats 400000 in
theorem ref_value_yes {w : World} {rb most : Nat} {vs : List Val} {S : List Nat} (h : RTab w rb most vs S) (i : Nat) (hi : i < vs.length) :
    Calls Try.prog 37 #[.pointer (some ⟨rb, 0, none⟩), .int .i32 (i : Int)] w fun e w' => e = .returned (.tuple #[(vs[i]).agg, .int .i64 0]) ∧ Below w.heap.size w w' := by
  obtain ⟨A, cap, ht, rfl⟩ := h
  obtain ⟨g, rfl⟩ : ∃ g, A = some ⟨g, 0, none⟩ := by
    rcases ht.row.form with ⟨_, _, h⟩ | ⟨g, h, _⟩
    · rw [h] at hi; simp at hi
    · exact ⟨g, h⟩
  have ho : ∀ o, Calls Try.prog 40 #[.pointer (some ⟨rb, 0, none⟩)] (w.alloc o) fun e w' => e = .returned (.bool true) ∧ w' = w.alloc o := fun o => ref_there_at (ht.same fun k hk => Below.heap_alloc w o k (ht.lt k hk))
  have Ho := Lib.hid ho
  have hin : ∀ o, Below w.heap.size w (w.alloc o) := fun o => (Below.refl _ _).alloc (Nat.le_refl _) o
  have c2 : ∀ o, (w.alloc o).cell? ⟨rb, 2, none⟩ = some (.slice (some ⟨g, 0, none⟩) vs.length cap) := fun o => ((hin o).cell ht.blk.lt).trans (ht.blk.cell 2)
  obtain ⟨d0, d1, d2⟩ := ht.row.three i hi
  have hgl := ht.row.lt g (by simp [blkOf])
  have d0 : ∀ o, (w.alloc o).cell? ⟨g, i * 3, none⟩ = some (.int .i8 (vs[i]).k) := fun o => ((hin o).cell hgl).trans d0
  have d1 : ∀ o, (w.alloc o).cell? ⟨g, i * 3 + 1, none⟩ = some (.int .i64 (vs[i]).n) := fun o => ((hin o).cell hgl).trans d1
  have d2 : ∀ o, (w.alloc o).cell? ⟨g, i * 3 + 2, none⟩ = some (.string (vs[i]).s) := fun o => ((hin o).cell hgl).trans d2
  have hmost : vs.length ≤ 2147483647 := Nat.le_trans ht.le ht.most
  have hd : decide ((i : Int) < 0) = false := by simp
  clear ho ht hin
  obtain ⟨n, hn⟩ : ∃ n, vs.length = n := ⟨_, rfl⟩
  rw [hn] at c2 hi hmost
  obtain ⟨v, hv⟩ : ∃ v, vs[i]'(by omega) = v := ⟨_, rfl⟩
  simp only [hv] at d0 d1 d2 ⊢
  clear hn hv
  obtain ⟨vk, vn, s⟩ := v
  simp only [Val.agg] at d0 d1 d2 ⊢
  go_enter Try.func37, Try.ntmps37
  go_wp2_with (go_at_call 40; refine (Ho.out _).mono ?_; rintro e w' ⟨rfl, rfl⟩)
  refine bodyPost_ret (v := .tuple #[.agg #[.int .i8 vk, .int .i64 vn, .string s], .int .i64 0]) (by simp [results, Try.results37, go_sem]) rfl ⟨rfl, ?_⟩
  repeat (first | exact Below.refl _ _ | refine Below.setCell ?_ (by simp) _ | refine Below.alloc ?_ (by simp) _)

set_option maxHeartbeats 400000 in
theorem ref_value_no {w : World} {rb most : Nat} {vs : List Val} {S : List Nat} (h : RTab w rb most vs S) (i : Int) (hi : i < 0 ∨ vs.length ≤ i) (hi2 : i ≤ 2147483647) :
    Calls Try.prog 37 #[.pointer (some ⟨rb, 0, none⟩), .int .i32 i] w fun e w' => e = .returned (.tuple #[Val.zero.agg, .int .i64 21]) ∧ Below w.heap.size w w' := by
  obtain ⟨A, cap, ht, rfl⟩ := h
  have ho : ∀ o, Calls Try.prog 40 #[.pointer (some ⟨rb, 0, none⟩)] (w.alloc o) fun e w' => e = .returned (.bool true) ∧ w' = w.alloc o := fun o => ref_there_at (ht.same fun k hk => Below.heap_alloc w o k (ht.lt k hk))
  have Ho := Lib.hid ho
  have hin : ∀ o, Below w.heap.size w (w.alloc o) := fun o => (Below.refl _ _).alloc (Nat.le_refl _) o
  have c2 : ∀ o, (w.alloc o).cell? ⟨rb, 2, none⟩ = some (.slice A vs.length cap) := fun o => ((hin o).cell ht.blk.lt).trans (ht.blk.cell 2)
  have hmost : vs.length ≤ 2147483647 := Nat.le_trans ht.le ht.most
  clear ho ht hin
  simp only [Val.zero, Val.agg]
  generalize vs.length = n at c2 hi hmost
  rcases hi with hi | hi
  · have hd : decide (i < 0) = true := by simp [hi]
    go_enter Try.func37, Try.ntmps37
    go_wp2_with (go_at_call 40; refine (Ho.out _).mono ?_; rintro e w' ⟨rfl, rfl⟩)
    refine bodyPost_ret (v := .tuple #[.agg #[.int .i8 0, .int .i64 0, .string ⟨#[]⟩], .int .i64 21]) (by simp [results, Try.results37, go_sem]) rfl ⟨rfl, ?_⟩
    repeat (first | exact Below.refl _ _ | refine Below.setCell ?_ (by simp) _ | refine Below.alloc ?_ (by simp) _)
  · have hd : decide (i < 0) = false := by simp; omega
    have hw := IntWalk.i64_in i ⟨by omega, by omega⟩
    go_enter Try.func37, Try.ntmps37
    go_wp2_with (go_at_call 40; refine (Ho.out _).mono ?_; rintro e w' ⟨rfl, rfl⟩)
    refine bodyPost_ret (v := .tuple #[.agg #[.int .i8 0, .int .i64 0, .string ⟨#[]⟩], .int .i64 21]) (by simp [results, Try.results37, go_sem]) rfl ⟨rfl, ?_⟩
    repeat (first | exact Below.refl _ _ | refine Below.setCell ?_ (by simp) _ | refine Below.alloc ?_ (by simp) _)

theorem idxOf_le {v : Val} : ∀ {vs : List Val} {j : Nat} (hj : j < vs.length), vs[j] = v → vs.idxOf v ≤ j
  | [], j, hj, _ => by simp at hj
  | a :: vs, 0, _, he => by
    have : a = v := he
    simp [this]
  | a :: vs, j + 1, hj, he => by
    have h := idxOf_le (vs := vs) (j := j) (by simpa using hj) (by simpa using he)
    rw [List.idxOf_cons]
    cases a == v
    · simpa using h
    · simp

/-- the first place, or none. -/
theorem numOf_at {vs : List Val} {v : Val} {j : Nat} (hj : j < vs.length) (hn : v ∉ vs.take j) (he : vs[j] = v) : numOf vs v = j ∧ decide (v ∈ vs) = true := by
  have hm : v ∈ vs := he ▸ List.getElem_mem hj
  refine ⟨?_, decide_eq_true hm⟩
  unfold numOf
  rw [if_pos hm]
  have h1 := idx_lt hm
  have h2 := idx_at hm
  by_cases hlt : vs.idxOf v < j
  · exact absurd (List.mem_iff_getElem.2 ⟨vs.idxOf v, by rw [List.length_take]; omega, by rw [List.getElem_take]; exact h2⟩) hn
  · by_cases hgt : j < vs.idxOf v
    · have := idxOf_le hj he
      omega
    · omega

set_option maxHeartbeats 1000000 in
theorem ref_find {w : World} {rb most : Nat} {vs : List Val} {S : List Nat} (h : RTab w rb most vs S) (v : Val) :
    Calls Try.prog 36 #[.pointer (some ⟨rb, 0, none⟩), v.agg] w fun e w' => e = .returned (.tuple #[.int .i32 (numOf vs v : Int), .bool (decide (v ∈ vs))]) ∧ Below w.heap.size w w' := by
  obtain ⟨A, cap, ht, rfl⟩ := h
  have ho : ∀ o, Calls Try.prog 40 #[.pointer (some ⟨rb, 0, none⟩)] (w.alloc o) fun e w' => e = .returned (.bool true) ∧ w' = w.alloc o := fun o => ref_there_at (ht.same fun k hk => Below.heap_alloc w o k (ht.lt k hk))
  have Ho := Lib.hid ho
  have hmost : vs.length ≤ 2147483647 := Nat.le_trans ht.le ht.most
  obtain ⟨n, hn⟩ : ∃ n, vs.length = n := ⟨_, rfl⟩
  have hblk := ht.blk
  rw [hn] at hblk hmost
  have Hn := Lib.hid hn
  have Hblk := Lib.hid hblk
  have Hrow := Lib.hid ht.row
  clear ho hn hblk ht
  have hnum : ∃ q b, (numOf vs v : Int) = q ∧ decide (v ∈ vs) = b := ⟨_, _, rfl, rfl⟩
  obtain ⟨q, bq, hq, hbq⟩ := hnum
  rw [hq, hbq]
  have Hq := Lib.hid hq
  have Hbq := Lib.hid hbq
  clear hq hbq
  obtain ⟨vk, vn, s⟩ := v
  simp only [Val.agg]
  go_enter Try.func36, Try.ntmps36
  go_wp2_with (go_at_call 40; refine (Ho.out _).mono ?_; rintro e W1 ⟨rfl, hW1⟩
               have hb1 : Below w.heap.size w W1 ∧ Blk W1 w.heap.size 36 #[.int .i8 vk, .int .i64 vn, .string s] := by
                 rw [hW1]; exact ⟨(Below.refl _ _).alloc (Nat.le_refl _) _, Blk.new w _ _⟩
               clear hW1
               obtain ⟨hbW1, hbox⟩ := hb1)
  go_loopg [6] n (fun gk i wx => ∃ j : Nat, j ≤ n ∧ gk = n - j ∧ i = .int .i64 j ∧ (⟨vk, vn, s⟩ : Val) ∉ vs.take j ∧ Below W1.heap.size W1 wx)
  case atStart => exact ⟨0, Nat.zero_le _, rfl, rfl, by simp, Below.refl _ _⟩
  case round =>
    obtain ⟨j, hj, rfl, rfl, hnot, hbr⟩ := hrel
    obtain ⟨wo, rfl⟩ : ∃ wo : World, wo = wr := ⟨_, rfl⟩
    have hbw : Below w.heap.size w wo := hbW1.trans (hbr.mono hbW1.size)
    have c2 : wo.cell? ⟨rb, 2, none⟩ = some (.slice A n cap) := (hbw.cell Hblk.out.lt).trans (Hblk.out.cell 2)
    have hnb : Blk wo w.heap.size 36 #[.int .i8 vk, .int .i64 vn, .string s] := hbox.same (hbr.block _ hbox.lt)
    have b0 : wo.cell? ⟨w.heap.size, 0, none⟩ = some (.int .i8 vk) := hnb.cell 0
    have b1 : wo.cell? ⟨w.heap.size, 1, none⟩ = some (.int .i64 vn) := hnb.cell 1
    have b2 : wo.cell? ⟨w.heap.size, 2, none⟩ = some (.string s) := hnb.cell 2
    clear hnb
    by_cases hlt : j < n
    · have hvl : j < vs.length := by rw [Hn.out]; exact hlt
      obtain ⟨g, rfl⟩ : ∃ g, A = some ⟨g, 0, none⟩ := by
        rcases Hrow.out.form with ⟨_, _, h⟩ | ⟨g, h, _⟩
        · rw [h] at hvl; simp at hvl
        · exact ⟨g, h⟩
      obtain ⟨d0, d1, d2⟩ := (Hrow.out.below_ hbw).three j hvl
      by_cases he : vs[j] = ⟨vk, vn, s⟩
      · obtain ⟨p1, p2⟩ := numOf_at hvl hnot he
        rw [he] at d0 d1 d2
        simp only at d0 d1 d2
        have hveq : veq ⟨vk, vn, s⟩ ⟨vk, vn, s⟩ = true := by unfold veq; simp
        have Hp1 := Lib.hid (show q = (j : Int) by rw [← Hq.out, p1])
        have Hp2 := Lib.hid (show bq = true by rw [← Hbq.out, p2])
        have hw := IntWalk.i32_in (j : Int) ⟨by omega, by omega⟩
        clear he p1 p2 hnot
        go_wp2
        go_quiet (fail)
        go_wp2
        go_ret2
        rw [Hp1.out, Hp2.out]
        exact ⟨rfl, below_drewN hbw _⟩
      · have hne : (⟨vk, vn, s⟩ : Val) ∉ vs.take (j + 1) := by
          rw [List.take_succ_eq_append_getElem hvl, List.mem_append, List.mem_singleton]
          rintro (h | h)
          · exact hnot h
          · exact he h.symm
        have Hne := Lib.hid hne
        have hveq : veq vs[j] ⟨vk, vn, s⟩ = false := by unfold veq; exact decide_eq_false he
        clear hne he hnot
        generalize vs[j] = u at d0 d1 d2 hveq
        obtain ⟨u0, u1, u2⟩ := u
        simp only at d0 d1 d2
        go_wp2
        go_quiet (fail)
        go_wp2
        go_roundg (n - (j + 1))
        case measure => omega
        case rel => exact ⟨j + 1, by omega, rfl, by go_num, Hne.out, below_drewN hbr _⟩
    · obtain rfl : j = n := by omega
      have hm : (⟨vk, vn, s⟩ : Val) ∉ vs := by rwa [List.take_of_length_le (by rw [Hn.out]; exact Nat.le_refl _)] at hnot
      have Hp1 := Lib.hid (show q = 0 by rw [← Hq.out]; unfold numOf; rw [if_neg hm]; rfl)
      have Hp2 := Lib.hid (show bq = false by rw [← Hbq.out]; exact decide_eq_false hm)
      clear hnot hm
      go_wp2
      go_ret2
      rw [Hp1.out, Hp2.out]
      exact ⟨rfl, hbw⟩

/-! ### Cut -/
theorem ref_cut_ok {w : World} {rb most : Nat} {vs : List Val} {S : List Nat} (h : RTab w rb most vs S) (n : Nat) (hn : n ≤ vs.length) :
    Calls Try.prog 47 #[.pointer (some ⟨rb, 0, none⟩), .int .i64 (n : Int)] w fun e w' => e = .returned (.int .i64 0) ∧ RTab w' rb most (vs.take n) S ∧ Chg S w w' := by
  obtain ⟨A, cap, ht, rfl⟩ := h
  have hth := Lib.hid (ref_there_at ht)
  have hsl := slice_vals ht.row n hn
  have c2 : w.cell? ⟨rb, 2, none⟩ = some (.slice A vs.length cap) := ht.blk.cell 2
  have f2 : w.frozen? ⟨rb, 2, none⟩ = false := ht.blk.frozen 2
  have hd1 : decide ((n : Int) < 0) = false := by simp
  have hd2 : decide ((vs.length : Int) < (n : Int)) = false := by simp; omega
  have Ht := Lib.hid ht
  clear ht
  obtain ⟨m, hm⟩ : ∃ m, vs.length = m := ⟨_, rfl⟩
  rw [hm] at hsl c2 hd2 hn
  have Hm := Lib.hid hm
  clear hm
  go_enter Try.func47, Try.ntmps47
  go_wp2_with (go_at_call 40; refine hth.out.mono ?_; rintro e w1 ⟨rfl, hw1⟩; obtain rfl : w = w1 := hw1.symm)
  go_ret
  have hl : (vs.take n).length = n := by rw [List.length_take, Hm.out]; omega
  refine ⟨rfl, ⟨A, cap, ⟨?_, ?_, fun v hv => Ht.out.wf v (List.mem_of_mem_take hv), by rw [hl]; have := Ht.out.le; rw [Hm.out] at this; omega, Ht.out.most⟩, rfl⟩, (Chg.refl _ _).setCell (.inl (by simp [footR])) _⟩
  · rw [hl]; exact Ht.out.blk.set_ 2 _
  · exact (Ht.out.row.take n (by rw [Hm.out]; exact hn)).same fun g hg => Below.heap_setCell _ _ _ _ (Ht.out.row_ne g hg)

theorem ref_cut_bad {w : World} {rb most : Nat} {vs : List Val} {S : List Nat} (h : RTab w rb most vs S) (n : Int) (hn : n < 0 ∨ (vs.length : Int) < n) :
    Calls Try.prog 47 #[.pointer (some ⟨rb, 0, none⟩), .int .i64 n] w fun e w' => e = .returned (.int .i64 1) ∧ w' = w := by
  have hth := Lib.hid (ref_there h)
  obtain ⟨A, cap, ht, rfl⟩ := h
  have c2 : w.cell? ⟨rb, 2, none⟩ = some (.slice A vs.length cap) := ht.blk.cell 2
  clear ht
  generalize vs.length = m at c2 hn
  by_cases h0 : n < 0
  · have hd : decide (n < 0) = true := by simp [h0]
    clear hn
    go_enter Try.func47, Try.ntmps47
    go_wp2_with (go_at_call 40; refine hth.out.mono ?_; rintro e w1 ⟨rfl, hw1⟩; obtain rfl : w = w1 := hw1.symm)
    go_ret
    exact ⟨rfl, rfl⟩
  · have hd : decide (n < 0) = false := by simp; omega
    have hd2 : decide ((m : Int) < n) = true := by simp; omega
    clear hn
    go_enter Try.func47, Try.ntmps47
    go_wp2_with (go_at_call 40; refine hth.out.mono ?_; rintro e w1 ⟨rfl, hw1⟩; obtain rfl : w = w1 := hw1.symm)
    go_ret
    exact ⟨rfl, rfl⟩

end Go.Proofs.Ythdpaakkamccbaa

/-
  Walks: Tuple, Seek, same.
-/
import Derived.Test.YthdpaakkamccbaaSymRowF
namespace Go.Proofs.Ythdpaakkamccbaa
open Go.RowKit Go.Maps

theorem at_store {P : Program} {ops : Array Oper} {rest : List Oper} {o : Oper} {a : Act} {w : World} {Q : Exit → Act → World → Prop} (ty : TypeId) (x y : Operand) (_ : o.op = .store ty x y) (h : wpList P ops Q (o :: rest) a w) : wpList P ops Q (o :: rest) a w := h
theorem at_load {P : Program} {ops : Array Oper} {rest : List Oper} {o : Oper} {a : Act} {w : World} {Q : Exit → Act → World → Prop} (ty : TypeId) (x : Operand) (_ : o.op = .load ty x) (h : wpList P ops Q (o :: rest) a w) : wpList P ops Q (o :: rest) a w := h

/-! ### Tuple -/
theorem make_vals (n : Nat) (hn : n ≤ 24) (w : World) : (Instr.makeSlice 22 (.int .i64 (n : Int)) (.int .i64 (n : Int))).run Try.prog w = .ok (.slice (some ⟨w.heap.size, 0, none⟩) n n) (w.alloc (.cells (destOf [] n) 36)) := by
  obtain ⟨i0, hi, hz0, hz1, hz2⟩ := info_parts Try.infoV
  have hr := run_make (P := Try.prog) w 22 36 i0 _ Try.underlying22 hi hz0 .i64 .i64 n n (by omega) (Int.le_refl _) (by rw [hz2]; omega) (by omega)
  rw [hz1] at hr
  simp only [Int.toNat_natCast] at hr
  rw [destOf_none]
  exact hr

theorem slice_row (g n : Nat) (hn : n ≤ 24) (w : World) : (Instr.sliceAt 43 (.pointer (some ⟨g, 0, none⟩)) none (some (.int .i64 (n : Int))) none).run Try.prog w = .ok (.slice (some ⟨g, 0, none⟩) n 24) w := by
  have ha : Try.prog.arrayLen 43 = 24 := by kernel_rfl
  rw [run_sliceAt_array_h w 43 ⟨g, 0, none⟩ (by kernel_rfl) .i64 n (by omega) (by rw [ha]; omega)]
  have hs : (sizeOf (Try.prog.elem 43)).run Try.prog w = .ok 1 w := by kernel_rfl
  rw [hs, ha]
  simp [Result.andThen, slicedAt, Addr.add]

theorem rowI_size (rs : List Int) : (rowI rs).size = rs.length := by simp [rowI]

theorem tup_new (w : World) (cs : Array Value) (t : TypeId) : Below w.heap.size w (w.alloc (.cells cs t)) ∧ Blk (w.alloc (.cells cs t)) w.heap.size t cs ∧ (w.alloc (.cells cs t)).heap.size = w.heap.size + 1 :=
  ⟨(Below.refl _ _).alloc (Nat.le_refl _) _, Blk.new w t cs, by simp⟩

set_option maxHeartbeats 1000000 in
theorem tuple_ok {w : World} {tb most : Nat} {vs : List Val} {S : List Nat} (h : Tab w tb most vs S) (rs : List Int) (hl : rs.length = 24) (hrs : ∀ r ∈ rs, r ≤ 2147483647) (n : Nat) (hn : n ≤ 24) (hc : (tupGo vs (rs.take n) []).2 = 0) :
    Calls Try.prog 18 #[.pointer (some ⟨tb, 0, none⟩), .agg (rowI rs), .int .i64 (n : Int)] w fun e w' =>
      ∃ lb, e = .returned (.tuple #[.slice (some ⟨lb, 0, none⟩) n n, .int .i64 0]) ∧ w.heap.size ≤ lb ∧ Blk w' lb 36 (destOf (tupGo vs (rs.take n) []).1 n) ∧ Below w.heap.size w w' := by
  have hmk := make_vals n hn
  have hsl := slice_row w.heap.size n hn
  have hmf : ∀ (fn : Fn) (first cap : Array Value) (w : World), (Instr.makeFunc fn first cap).run Try.prog w = .ok (.func fn first cap) w := fun _ _ _ _ => rfl
  have hd1 : decide ((n : Int) < 0) = false := by simp
  have hd2 : decide ((24 : Int) < (n : Int)) = false := by simp; omega
  have HT := Lib.hid h
  have Hrs := Lib.hid hrs
  have Hl := Lib.hid hl
  have Hc := Lib.hid hc
  clear h hrs hl hc
  go_enter Try.func18, Try.ntmps18
  go_wp2_with (go_at_call 29; refine (there_tab (HT.out.below (tup_new w _ _).1)).mono ?_; rintro e w1 ⟨rfl, hw1⟩
               have h3 : Below w.heap.size w w1 ∧ Blk w1 w.heap.size 43 (rowI rs) ∧ w1.heap.size = w.heap.size + 1 := by rw [hw1]; exact tup_new w _ _
               clear hw1
               have H3 := Lib.hid h3
               clear h3)
  have hT2 := (HT.out.below H3.out.1).below (tup_new w1 (destOf [] n) 36).1
  have hval := each_value w1.heap.size w.heap.size tb most n 24 vs rs S _ hT2 (by rw [Hl.out]; exact hn) hn Hrs.out (H3.out.2.1.alloc _) (Blk.new w1 _ _) (fun hk => by have := HT.out.lt _ hk; have := H3.out.2.2; omega) (by have := H3.out.2.2; omega)
  rw [Hc.out] at hval
  refine hval.mono ?_
  rintro e W3 ⟨rfl, hb3, hC3⟩
  go_wp2
  go_ret2
  have h1 := H3.out.2.2
  refine ⟨w1.heap.size, rfl, by omega, hb3, ?_⟩
  exact (H3.out.1.trans ((tup_new w1 _ _).1.mono (by omega))).trans (hC3.below (by simp; omega) (fun x hx => by simp at hx; omega))

set_option maxHeartbeats 1000000 in
theorem tuple_no {w : World} {tb most : Nat} {vs : List Val} {S : List Nat} (h : Tab w tb most vs S) (rs : List Int) (hl : rs.length = 24) (hrs : ∀ r ∈ rs, r ≤ 2147483647) (n : Nat) (hn : n ≤ 24) (hc : (tupGo vs (rs.take n) []).2 ≠ 0) :
    Calls Try.prog 18 #[.pointer (some ⟨tb, 0, none⟩), .agg (rowI rs), .int .i64 (n : Int)] w fun e w' =>
      e = .returned (.tuple #[.slice none 0 0, .int .i64 (tupGo vs (rs.take n) []).2]) ∧ Below w.heap.size w w' := by
  have hmk := make_vals n hn
  have hsl := slice_row w.heap.size n hn
  have hmf : ∀ (fn : Fn) (first cap : Array Value) (w : World), (Instr.makeFunc fn first cap).run Try.prog w = .ok (.func fn first cap) w := fun _ _ _ _ => rfl
  have hd1 : decide ((n : Int) < 0) = false := by simp
  have hd2 : decide ((24 : Int) < (n : Int)) = false := by simp; omega
  obtain ⟨code, hcode⟩ : ∃ c, (tupGo vs (rs.take n) []).2 = c := ⟨_, rfl⟩
  rw [hcode] at hc ⊢
  have Hcode := Lib.hid hcode
  have HT := Lib.hid h
  have Hrs := Lib.hid hrs
  have Hl := Lib.hid hl
  clear h hrs hl hcode
  go_enter Try.func18, Try.ntmps18
  go_wp2_with (go_at_call 29; refine (there_tab (HT.out.below (tup_new w _ _).1)).mono ?_; rintro e w1 ⟨rfl, hw1⟩
               have h3 : Below w.heap.size w w1 ∧ Blk w1 w.heap.size 43 (rowI rs) ∧ w1.heap.size = w.heap.size + 1 := by rw [hw1]; exact tup_new w _ _
               clear hw1
               have H3 := Lib.hid h3
               clear h3)
  have hT2 := (HT.out.below H3.out.1).below (tup_new w1 (destOf [] n) 36).1
  have hval := each_value w1.heap.size w.heap.size tb most n 24 vs rs S _ hT2 (by rw [Hl.out]; exact hn) hn Hrs.out (H3.out.2.1.alloc _) (Blk.new w1 _ _) (fun hk => by have := HT.out.lt _ hk; have := H3.out.2.2; omega) (by have := H3.out.2.2; omega)
  rw [Hcode.out] at hval
  refine hval.mono ?_
  rintro e W3 ⟨rfl, hb3, hC3⟩
  go_wp2
  go_ret2
  have h1 := H3.out.2.2
  refine ⟨rfl, ?_⟩
  exact (H3.out.1.trans ((tup_new w1 _ _).1.mono (by omega))).trans (hC3.below (by simp; omega) (fun x hx => by simp at hx; omega))

/-! ### Seek -/
def seekRes (vs us : List Val) : List Nat × Bool :=
  if 24 < us.length then ([], false) else if (seekGo vs us []).2 = 0 then ((seekGo vs us []).1, true) else ([], false)

theorem seek_results (tmps : Array Value) (w : World) (g4 : Nat) (cs : Array Value) (b : Bool) (h4 : tmps.getD 4 undef = .pointer (some ⟨g4, 0, none⟩)) (h5 : tmps.getD 5 undef = .bool b)
    (b4 : Blk w g4 43 cs) (hi : (Try.prog.info? 43).map (·.size) = some cs.size) :
    (results Try.f21 tmps).run Try.prog w = .ok (.tuple #[.agg cs, .bool b]) w := by
  have h4' : tmps[4]?.getD undef = .pointer (some ⟨g4, 0, none⟩) := by simpa using h4
  have h5' : tmps[5]?.getD undef = .bool b := by simpa using h5
  have hl := run_loadVar_row (P := Try.prog) w g4 43 43 cs (0, 0) _ b4 Try.underlying43 rfl hi
  simp [results, Try.results21, h4', h5', asAddr, hl]

theorem two_new (w : World) (t1 t2 : TypeId) (c1 c2 : Array Value) : Below w.heap.size w ((w.alloc (.cells c1 t1)).alloc (.cells c2 t2)) ∧ Blk ((w.alloc (.cells c1 t1)).alloc (.cells c2 t2)) w.heap.size t1 c1 ∧
    Blk ((w.alloc (.cells c1 t1)).alloc (.cells c2 t2)) (w.heap.size + 1) t2 c2 ∧ ((w.alloc (.cells c1 t1)).alloc (.cells c2 t2)).heap.size = w.heap.size + 2 := by
  refine ⟨((Below.refl _ _).alloc (Nat.le_refl _) _).alloc (by simp) _, (Blk.new w _ _).alloc _, ?_, by simp⟩
  have := Blk.new (w.alloc (.cells c1 t1)) t2 c2
  simpa using this

theorem seekGo_len (vs : List Val) : ∀ (us : List Val) (ns : List Nat), (seekGo vs us ns).1.length ≤ ns.length + us.length
  | [], ns => by simp [seekGo]
  | u :: us, ns => by
    rw [seekGo_cons]
    split
    · have := seekGo_len vs us (ns ++ [vs.idxOf u])
      simp at this ⊢; omega
    · simp

set_option maxHeartbeats 1000000 in
theorem seek_any {w : World} {tb most : Nat} {vs : List Val} {S : List Nat} (h : Tab w tb most vs S) (us : List Val) (A : Option Addr) (cap : Nat) (hrd : RdV w A us) (hdis : us ≠ [] → ∀ a, A = some a → a.block < w.heap.size) (hwf : ∀ u ∈ us, u.wf) :
    Calls Try.prog 21 #[.pointer (some ⟨tb, 0, none⟩), .slice A us.length cap] w fun e w' =>
      e = .returned (.tuple #[.agg (rowOf (seekRes vs us).1), .bool (seekRes vs us).2]) ∧ Below w.heap.size w w' := by
  have hmf : ∀ (fn : Fn) (first cap : Array Value) (w : World), (Instr.makeFunc fn first cap).run Try.prog w = .ok (.func fn first cap) w := fun _ _ _ _ => rfl
  have HT := Lib.hid h
  have Hrd := Lib.hid hrd
  have Hdis := Lib.hid hdis
  have Hwf := Lib.hid hwf
  clear h hrd hdis hwf
  by_cases h24 : 24 < us.length
  · have hd : decide ((24 : Int) < (us.length : Int)) = true := by simp; omega
    have hro : seekRes vs us = ([], false) := by unfold seekRes; rw [if_pos h24]
    rw [hro]
    clear hro
    go_enter Try.func21, Try.ntmps21
    go_wp2_with (first
      | (go_at_call 29; refine (there_tab (HT.out.below (two_new w _ _ _ _).1)).mono ?_; rintro e w1 ⟨rfl, hw1⟩
         have h3 : Below w.heap.size w w1 ∧ Blk w1 w.heap.size 43 (rowOf []) ∧ Blk w1 (w.heap.size + 1) 43 (rowOf []) ∧ w1.heap.size = w.heap.size + 2 := by
           rw [hw1]; exact two_new w _ _ _ _
         clear hw1
         obtain ⟨hB1, b4, b6, hs1⟩ := h3
         have hsf : w1.setRow w.heap.size (rowOf []) = w1 := setRow_self _ _ _ _ _ b4)
      | (refine at_store 43 _ _ rfl ?_; refine wpList_store_row rfl 43 _ _ rfl w.heap.size (rowOf []) rfl rfl 43 (rowOf []) b4 (rowOf_info [] (by simp)) rfl (rowOf_one []) ?_; rw [hsf]))
    refine bodyPost_ret (seek_results _ _ _ _ false rfl rfl b4 (rowOf_info [] (by simp))) rfl ⟨rfl, hB1⟩
  · have hd : decide ((24 : Int) < (us.length : Int)) = false := by simp; omega
    have hgl := seekGo_len vs us []
    have hro : seekRes vs us = if (seekGo vs us []).2 = 0 then ((seekGo vs us []).1, true) else ([], false) := by unfold seekRes; rw [if_neg h24]
    rw [hro]
    clear hro
    obtain ⟨⟨ns, code⟩, hg⟩ : ∃ r, seekGo vs us [] = r := ⟨_, rfl⟩
    rw [hg] at hgl ⊢
    simp only at hgl ⊢
    have Hg := Lib.hid hg
    have hns : ns.length ≤ 24 := by simp at hgl; omega
    have Hns := Lib.hid hns
    clear hg hgl hns
    by_cases hz : code = 0
    · rw [if_pos hz]
      have hz' : (code != 0) = false := by simp [hz]
      clear hz
      go_enter Try.func21, Try.ntmps21
      go_wp2_with (first
        | (go_at_call 29; refine (there_tab (HT.out.below (two_new w _ _ _ _).1)).mono ?_; rintro e w1 ⟨rfl, hw1⟩
           have h3 : Below w.heap.size w w1 ∧ Blk w1 w.heap.size 43 (rowOf []) ∧ Blk w1 (w.heap.size + 1) 43 (rowOf []) ∧ w1.heap.size = w.heap.size + 2 := by
             rw [hw1]; exact two_new w _ _ _ _
           clear hw1
           obtain ⟨hB1, b4, b6, hs1⟩ := h3
           have hef := each_find (w.heap.size + 1) tb most vs us A cap S w1 (HT.out.below hB1) (Hrd.out.below hB1) (fun hne a ha => by have := Hdis.out hne a ha; omega) Hwf.out (by omega) b6 (fun hk => by have := HT.out.lt _ hk; omega)
           rw [Hg.out] at hef
           simp only at hef
           have Hef := Lib.hid hef
           have B4 := Lib.hid b4
           clear hef b4 b6)
        | (go_at_call 32; refine Hef.out.mono ?_; rintro e W2 ⟨rfl, hr2, hC2⟩
           have b4 : Blk W2 w.heap.size 43 (rowOf []) := B4.out.same (hC2.block _ B4.out.lt (by simp)))
        | (refine at_load 43 _ rfl ?_; refine wpList_load_row rfl 43 _ rfl (w.heap.size + 1) rfl 43 (rowOf ns) (0, 0) _ hr2 Try.underlying43 rfl (rowOf_info ns Hns.out) ?_)
        | (refine at_store 43 _ _ rfl ?_; refine wpList_store_row rfl 43 _ _ rfl w.heap.size (rowOf ns) rfl rfl 43 (rowOf []) b4 (rowOf_info ns Hns.out) (by rw [rowOf_size ns Hns.out]; rfl) (rowOf_one ns) ?_))
      refine bodyPost_ret (seek_results _ _ _ _ true rfl rfl (setRow_blk b4) (rowOf_info ns Hns.out)) rfl ⟨rfl, ?_⟩
      exact (((Chg.of_below [] hB1).trans hC2 (fun x hx => by simp at hx; subst hx; right; omega)).setRow (.inr (Nat.le_refl _)) _).of_none
    · rw [if_neg hz]
      have hz' : (code != 0) = true := by simp [hz]
      clear hz
      go_enter Try.func21, Try.ntmps21
      go_wp2_with (first
        | (go_at_call 29; refine (there_tab (HT.out.below (two_new w _ _ _ _).1)).mono ?_; rintro e w1 ⟨rfl, hw1⟩
           have h3 : Below w.heap.size w w1 ∧ Blk w1 w.heap.size 43 (rowOf []) ∧ Blk w1 (w.heap.size + 1) 43 (rowOf []) ∧ w1.heap.size = w.heap.size + 2 := by
             rw [hw1]; exact two_new w _ _ _ _
           clear hw1
           obtain ⟨hB1, b4, b6, hs1⟩ := h3
           have hef := each_find (w.heap.size + 1) tb most vs us A cap S w1 (HT.out.below hB1) (Hrd.out.below hB1) (fun hne a ha => by have := Hdis.out hne a ha; omega) Hwf.out (by omega) b6 (fun hk => by have := HT.out.lt _ hk; omega)
           rw [Hg.out] at hef
           simp only at hef
           have Hef := Lib.hid hef
           have B4 := Lib.hid b4
           clear hef b4 b6)
        | (go_at_call 32; refine Hef.out.mono ?_; rintro e W2 ⟨rfl, hr2, hC2⟩
           have b4 : Blk W2 w.heap.size 43 (rowOf []) := B4.out.same (hC2.block _ B4.out.lt (by simp))
           have hsf : W2.setRow w.heap.size (rowOf []) = W2 := setRow_self _ _ _ _ _ b4)
        | (refine at_store 43 _ _ rfl ?_; refine wpList_store_row rfl 43 _ _ rfl w.heap.size (rowOf []) rfl rfl 43 (rowOf []) b4 (rowOf_info [] (by simp)) rfl (rowOf_one []) ?_; rw [hsf]))
      refine bodyPost_ret (seek_results _ _ _ _ false rfl rfl b4 (rowOf_info [] (by simp))) rfl ⟨rfl, ?_⟩
      exact ((Chg.of_below [] hB1).trans hC2 (fun x hx => by simp at hx; subst hx; right; omega)).of_none

/-! ### same -/
set_option maxHeartbeats 1000000 in
theorem same_yes (A B : Option Addr) (ca cb : Nat) (us : List Val) (w : World) (ha : RdV w A us) (hb : RdV w B us) (hle : us.length ≤ 4611686018427387904) :
    Calls Try.prog 19 #[.slice A us.length ca, .slice B us.length cb] w fun e w' => e = .returned (.bool true) ∧ Below w.heap.size w w' := by
  obtain ⟨n, hn⟩ : ∃ n, us.length = n := ⟨_, rfl⟩
  rw [hn] at hle ⊢
  have Hn := Lib.hid hn
  have Ha := Lib.hid ha
  have Hb := Lib.hid hb
  clear hn ha hb
  go_enter Try.func19, Try.ntmps19
  go_wp2
  go_loopg [5] n (fun gk i wx => ∃ j : Nat, j ≤ n ∧ gk = n - j ∧ i = .int .i64 j ∧ Below w.heap.size w wx)
  case atStart => exact ⟨0, Nat.zero_le _, rfl, rfl, Below.refl _ _⟩
  case round =>
    obtain ⟨j, hj, rfl, rfl, hbr⟩ := hrel
    by_cases hlt : j < n
    · have hul : j < us.length := by rw [Hn.out]; exact hlt
      obtain ⟨b, off, rfl, hbl, hc⟩ := (Ha.out.below hbr) (by intro h; rw [h] at hul; simp at hul)
      obtain ⟨d0, d1, d2⟩ := hc j hul
      obtain ⟨b', off', rfl, hbl', hc'⟩ := (Hb.out.below hbr) (by intro h; rw [h] at hul; simp at hul)
      obtain ⟨e0, e1, e2⟩ := hc' j hul
      clear hc hc'
      generalize us[j] = v at d0 d1 d2 e0 e1 e2
      obtain ⟨vk, vn, s⟩ := v
      simp only at d0 d1 d2 e0 e1 e2
      have hveq : veq ⟨vk, vn, s⟩ ⟨vk, vn, s⟩ = true := by unfold veq; simp
      go_wp2
      go_quiet (fail)
      go_wp2
      go_roundg (n - (j + 1))
      case measure => omega
      case rel => exact ⟨j + 1, by omega, rfl, by go_num, below_drewN hbr _⟩
    · obtain rfl : j = n := by omega
      go_wp2
      go_ret
      exact ⟨rfl, hbr⟩

end Go.Proofs.Ythdpaakkamccbaa

/-
  Walk: good, the values that may be, each once.
-/
import Derived.Test.YthdpaakkamccbaaSymEq
namespace Go.Proofs.Ythdpaakkamccbaa
open Go.RowKit Go.Maps

/-- a list of values that is read: nothing is asked of an empty one. -/
def RdV (w : World) (A : Option Addr) (vs : List Val) : Prop := vs ≠ [] → ∃ b off, A = some ⟨b, off, none⟩ ∧ b < w.heap.size ∧
  ∀ i (h : i < vs.length), w.cell? ⟨b, off + i * 3, none⟩ = some (.int .i8 (vs[i]).k) ∧ w.cell? ⟨b, off + i * 3 + 1, none⟩ = some (.int .i64 (vs[i]).n) ∧ w.cell? ⟨b, off + i * 3 + 2, none⟩ = some (.string (vs[i]).s)

theorem RdV.keep {w w' : World} {A : Option Addr} {vs : List Val} (h : RdV w A vs) (hs : w.heap.size ≤ w'.heap.size) (hb : ∀ a, A = some a → w'.heap[a.block]? = w.heap[a.block]?) : RdV w' A vs := by
  intro hn
  obtain ⟨b, off, rfl, hlt, hc⟩ := h hn
  have e := hb _ rfl
  refine ⟨b, off, rfl, Nat.lt_of_lt_of_le hlt hs, fun i hi => ?_⟩
  obtain ⟨h1, h2, h3⟩ := hc i hi
  exact ⟨(World.cell?_of_block (a := ⟨b, off + i * 3, none⟩) e).trans h1, (World.cell?_of_block (a := ⟨b, off + i * 3 + 1, none⟩) e).trans h2, (World.cell?_of_block (a := ⟨b, off + i * 3 + 2, none⟩) e).trans h3⟩
theorem RdV.below {w w' : World} {A : Option Addr} {vs : List Val} (h : RdV w A vs) (hb : Below w.heap.size w w') : RdV w' A vs := by
  intro hn
  obtain ⟨b, off, rfl, hlt, hc⟩ := h hn
  have := RdV.keep (A := some ⟨b, off, none⟩) (vs := vs) (fun _ => ⟨b, off, rfl, hlt, hc⟩) hb.size (fun a ha => by cases ha; exact hb.block _ hlt)
  exact this hn
theorem RowV.rd {w : World} {A : Option Addr} {cap : Nat} {vs : List Val} (h : RowV w A cap vs) : RdV w A vs := by
  intro hn
  rcases h.form with ⟨_, _, rfl⟩ | ⟨g, rfl, hg, _⟩
  · exact absurd rfl hn
  · refine ⟨g, 0, rfl, hg, fun i hi => ?_⟩
    simpa using h.three i hi

theorem RowV.below_ {w w' : World} {A : Option Addr} {cap : Nat} {vs : List Val} (h : RowV w A cap vs) (hb : Below w.heap.size w w') : RowV w' A cap vs := h.same fun g hg => hb.block g (h.lt g hg)

theorem ret_slice {A : Option Addr} {a b c : Nat} (h : a = b) : Ending.returned (.slice A a c) = .returned (.slice A b c) := by rw [h]

theorem cells3_new' (w : World) (a b c : Value) (t : TypeId) : ∀ j u, [a, b, c][j]? = some u → (w.alloc (.cells #[a, b, c] t)).cell? ((⟨w.heap.size, 0, none⟩ : Addr).add j) = some u := by
  intro j u hj
  have hb := Blk.new w t #[a, b, c]
  match j, hj with
  | 0, hj => simp at hj; subst hj; exact hb.cell 0
  | 1, hj => simp at hj; subst hj; exact hb.cell 1
  | 2, hj => simp at hj; subst hj; exact hb.cell 2
theorem three_one (k n : Int) (s : ByteArray) : ∀ u ∈ [Value.int .i8 k, .int .i64 n, .string s], u.oneCell' = true := by
  intro u hu; simp at hu; rcases hu with rfl | rfl | rfl <;> rfl

/-- one value more, if it may be, is new and there is room. -/
def gstep (most : Nat) (out : List Val) (v : Val) : List Val := if v.ok && !decide (v ∈ out) && decide (out.length < most) then out ++ [v] else out
def goodL (most : Nat) (vs : List Val) : List Val := vs.foldl (gstep most) []

theorem goodL_snoc (most : Nat) (vs : List Val) (v : Val) : goodL most (vs ++ [v]) = gstep most (goodL most vs) v := by
  unfold goodL; rw [List.foldl_append]; rfl
theorem gstep_full {most : Nat} {out : List Val} (h : most ≤ out.length) (v : Val) : gstep most out v = out := by
  unfold gstep
  rw [if_neg]
  simp; omega
theorem goodL_full {most : Nat} (vs us : List Val) (h : most ≤ (goodL most vs).length) : goodL most (vs ++ us) = goodL most vs := by
  unfold goodL at *
  rw [List.foldl_append]
  induction us with
  | nil => rfl
  | cons u us ih => rw [List.foldl_cons, gstep_full h]; exact ih
theorem gstep_le (most : Nat) (out : List Val) (v : Val) : (gstep most out v).length ≤ out.length + 1 := by
  unfold gstep; split <;> simp
theorem goodL_le (most : Nat) (vs : List Val) : (goodL most vs).length ≤ vs.length := by
  suffices h : ∀ (us : List Val) (out : List Val), (us.foldl (gstep most) out).length ≤ out.length + us.length by simpa [goodL] using h vs []
  intro us
  induction us with
  | nil => intro out; simp
  | cons u us ih =>
    intro out
    have h1 := ih (gstep most out u)
    have h2 := gstep_le most out u
    simp only [List.foldl_cons, List.length_cons]
    omega
theorem gstep_keeps {most : Nat} {out : List Val} {v : Val} (P : Val → Prop) (ho : ∀ u ∈ out, P u) (hv : P v) : ∀ u ∈ gstep most out v, P u := by
  unfold gstep
  split
  · intro u hu
    rcases List.mem_append.1 hu with h | h
    · exact ho u h
    · rw [List.mem_singleton.1 h]; exact hv
  · exact ho
structure GoodL (most : Nat) (out : List Val) : Prop where
  wf : ∀ v ∈ out, v.wf
  ok : ∀ v ∈ out, v.ok = true
  nodup : out.Nodup
  le : out.length ≤ most
theorem gstep_good {most : Nat} {out : List Val} {v : Val} (h : GoodL most out) (hv : v.wf) : GoodL most (gstep most out v) := by
  unfold gstep
  split
  · rename_i hc
    simp only [Bool.and_eq_true, Bool.not_eq_true', decide_eq_false_iff_not, decide_eq_true_eq] at hc
    obtain ⟨⟨h1, h2⟩, h3⟩ := hc
    refine ⟨?_, ?_, ?_, by simp; omega⟩
    · intro u hu
      rcases List.mem_append.1 hu with hu | hu
      · exact h.wf u hu
      · rw [List.mem_singleton.1 hu]; exact hv
    · intro u hu
      rcases List.mem_append.1 hu with hu | hu
      · exact h.ok u hu
      · rw [List.mem_singleton.1 hu]; exact h1
    · exact List.nodup_append.2 ⟨h.nodup, by simp, fun a ha b hb e => by rw [List.mem_singleton] at hb; subst hb; subst e; exact h2 ha⟩
  · exact h
theorem goodL_good (most : Nat) (vs : List Val) (hw : ∀ v ∈ vs, v.wf) : GoodL most (goodL most vs) := by
  suffices h : ∀ (us : List Val) (out : List Val), (∀ v ∈ us, v.wf) → GoodL most out → GoodL most (us.foldl (gstep most) out) by
    exact h vs [] hw ⟨by simp, by simp, by simp, by simp⟩
  intro us
  induction us with
  | nil => intro out _ h; exact h
  | cons u us ih =>
    intro out hw h
    exact ih _ (fun v hv => hw v (List.mem_cons_of_mem _ hv)) (gstep_good h (hw u (by simp)))

theorem decide_mem_snoc (l : List Val) (u v : Val) : decide (v ∈ l ++ [u]) = (decide (v ∈ l) || veq u v) := by
  unfold veq
  rw [Bool.eq_iff_iff]
  simp only [decide_eq_true_eq, List.mem_append, List.mem_singleton, Bool.or_eq_true]
  constructor
  · rintro (h | rfl)
    · exact .inl h
    · exact .inr rfl
  · rintro (h | rfl)
    · exact .inl h
    · exact .inr rfl

set_option maxHeartbeats 1000000 in
theorem good_any (A : Option Addr) (cap most : Nat) (vs : List Val) (w : World) (hrd : RdV w A vs) (hreach : vs.length * 32 ≤ 140737488351232) (hmost : most ≤ 9223372036854775807) :
    Calls Try.prog 10 #[.slice A vs.length cap, .int .i64 (most : Int)] w fun e w' => ∃ A' cap', e = .returned (.slice A' (goodL most vs).length cap') ∧ RowV w' A' cap' (goodL most vs) ∧ (∀ g ∈ blkOf A', w.heap.size ≤ g) ∧ Below w.heap.size w w' := by
  obtain ⟨i0, hi, hz0, hz1, hz2⟩ := info_parts Try.infoV
  obtain ⟨n, hn⟩ : ∃ n, vs.length = n := ⟨_, rfl⟩
  rw [hn] at hreach ⊢
  have Hn := Lib.hid hn
  clear hn
  have Hrd := Lib.hid hrd
  clear hrd
  go_enter Try.func10, Try.ntmps10
  go_wp2
  go_loopg [5, 6, 7, 8] n (fun gk out i _ _ wx => ∃ (j : Nat) (A' : Option Addr) (cap' : Nat), j ≤ n ∧ gk = n - j ∧ i = .int .i64 j ∧ out = .slice A' (goodL most (vs.take j)).length cap' ∧ RowV wx A' cap' (goodL most (vs.take j)) ∧ (∀ g ∈ blkOf A', w.heap.size ≤ g) ∧ Below w.heap.size w wx)
  case atStart =>
    exact ⟨0, none, 0, Nat.zero_le _, rfl, rfl, rfl, RowV.nil_ _, by simp [blkOf], Below.refl _ _⟩
  case round =>
    obtain ⟨j, A', cap', hj, rfl, rfl, rfl, hrow, hfresh, hbel⟩ := hrel
    obtain ⟨wo, rfl⟩ : ∃ wo : World, wo = wr := ⟨_, rfl⟩
    have hgl : (goodL most (vs.take j)).length ≤ j := Nat.le_trans (goodL_le _ _) (by rw [List.length_take]; omega)
    by_cases hlt : j < n
    · by_cases hfull : (goodL most (vs.take j)).length < most
      · have hvl : j < vs.length := by rw [Hn.out]; exact hlt
        obtain ⟨v, hv⟩ : ∃ v, vs[j] = v := ⟨_, rfl⟩
        have hstep : goodL most (vs.take (j + 1)) = gstep most (goodL most (vs.take j)) v := by
          rw [List.take_succ_eq_append_getElem hvl, goodL_snoc, hv]
        have Hstep := Lib.hid hstep
        clear hstep
        generalize goodL most (vs.take j) = out at *
        obtain ⟨b, off, rfl, hb, hc⟩ := (Hrd.out.below hbel) (by intro h; rw [h] at hvl; simp at hvl)
        obtain ⟨d0, d1, d2⟩ := hc j hvl
        rw [hv] at d0 d1 d2
        clear hc hv
        have Hrow := Lib.hid hrow
        clear hrow
        obtain ⟨m, hm⟩ : ∃ m, out.length = m := ⟨_, rfl⟩
        rw [hm] at hgl hfull ⊢
        have Hm := Lib.hid hm
        clear hm
        have hck := Lib.hid (rcheck_any v wo)
        have hcode : (v.code != 0) = (!v.ok) := by unfold Val.code; cases v.ok <;> rfl
        obtain ⟨q, hq⟩ : ∃ q, v.code = q := ⟨_, rfl⟩
        rw [hq] at hck hcode
        clear hq
        obtain ⟨bad, hbad⟩ : ∃ bad, (!v.ok) = bad := ⟨_, rfl⟩
        rw [hbad] at hcode
        have Hbad := Lib.hid hbad
        clear hbad
        have Hv := Lib.hid (show ∀ u, veq u v = veq u ⟨v.k, v.n, v.s⟩ from fun u => rfl)
        have hva : v.agg = .agg #[.int .i8 v.k, .int .i64 v.n, .string v.s] := rfl
        rw [hva] at hck
        clear hva
        obtain ⟨vk, hvk⟩ : ∃ x, v.k = x := ⟨_, rfl⟩
        obtain ⟨vn, hvn⟩ : ∃ x, v.n = x := ⟨_, rfl⟩
        obtain ⟨s, hvs⟩ : ∃ x, v.s = x := ⟨_, rfl⟩
        rw [hvk, hvn, hvs] at hck Hv
        rw [hvk] at d0; rw [hvn] at d1; rw [hvs] at d2
        have Hcells := Lib.hid (show v.cells = [.int .i8 vk, .int .i64 vn, .string s] by unfold Val.cells; rw [hvk, hvn, hvs])
        clear hvk hvn hvs
        have hd : decide (m < most) = true := by simp [hfull]
        go_wp2_with (go_at_call 20; refine hck.out.mono ?_; rintro e W1 ⟨rfl, hb1⟩)
        go_loopg [7, 8] m (fun gk th k wx => ∃ kk : Nat, kk ≤ m ∧ gk = m - kk ∧ k = .int .i64 kk ∧ th = .bool (bad || decide (v ∈ out.take kk)) ∧ Below wo.heap.size wo wx)
        case atStart => exact ⟨0, Nat.zero_le _, rfl, rfl, by simp, hb1⟩
        case round =>
          obtain ⟨kk, hkk, rfl, rfl, rfl, hb2⟩ := hrel
          obtain ⟨b2, off2, e2, hb2lt, hc2⟩ := (Hrd.out.below (hbel.trans (hb2.mono hbel.size))) (by intro h; rw [h] at hvl; simp at hvl)
          injection e2 with e2
          injection e2 with e3 e4 _
          subst e3; subst e4
          by_cases hk : kk < m
          · cases hth : (bad || decide (v ∈ out.take kk))
            · have hout : kk < out.length := by rw [Hm.out]; exact hk
              have hrow2 := Hrow.out.below_ hb2
              obtain ⟨g, rfl⟩ : ∃ g, A' = some ⟨g, 0, none⟩ := by
                rcases hrow2.form with ⟨_, _, h⟩ | ⟨g, h, _⟩
                · rw [h] at hout; simp at hout
                · exact ⟨g, h⟩
              obtain ⟨c0, c1, c2⟩ := hrow2.three kk hout
              have d0' := (hb2.cell (p := ⟨b, off + j * 3, none⟩) hb).trans d0
              have d1' := (hb2.cell (p := ⟨b, off + j * 3 + 1, none⟩) hb).trans d1
              have d2' := (hb2.cell (p := ⟨b, off + j * 3 + 2, none⟩) hb).trans d2
              have hnext : Hid ((bad || decide (v ∈ out.take (kk + 1))) = veq ⟨(out[kk]).k, (out[kk]).n, (out[kk]).s⟩ ⟨vk, vn, s⟩) := Lib.hid (by
                rw [List.take_succ_eq_append_getElem hout, decide_mem_snoc, ← Bool.or_assoc, hth, Bool.false_or, Hv.out])
              clear hrow2 hc2 d0 d1 d2
              go_wp2
              go_quiet (fail)
              go_wp2
              go_roundg (m - (kk + 1))
              case measure => omega
              case rel => exact ⟨kk + 1, by omega, rfl, by go_num, by rw [hnext.out], hb2.trans ⟨rfl, rfl, rfl, Nat.le_refl _, fun _ _ => rfl⟩⟩
            · have hnext : Hid ((bad || decide (v ∈ out.take (kk + 1))) = true) := Lib.hid (by
                rw [List.take_succ_eq_append_getElem (by rw [Hm.out]; exact hk), decide_mem_snoc, ← Bool.or_assoc, hth, Bool.true_or])
              go_wp2
              go_quiet (fail)
              go_wp2
              go_roundg (m - (kk + 1))
              case measure => omega
              case rel => exact ⟨kk + 1, by omega, rfl, by go_num, by rw [hnext.out], hb2.trans ⟨rfl, rfl, rfl, Nat.le_refl _, fun _ _ => rfl⟩⟩
          · obtain rfl : kk = m := by omega
            rw [List.take_of_length_le (by rw [Hm.out]; omega)]
            clear hc2
            have hrow2 := Hrow.out.below_ hb2
            have hbelw := hbel.trans (hb2.mono hbel.size)
            cases hth : (bad || decide (v ∈ out))
            · have hg : Hid (gstep most out v = out ++ [v]) := Lib.hid (by
                unfold gstep
                rw [if_pos]
                rw [Bool.or_eq_false_iff] at hth
                have h1 := Hbad.out
                rw [hth.1] at h1
                rw [show v.ok = true from by cases h : v.ok; rw [h] at h1; cases h1; rfl, hth.2, Hm.out]
                simp [hfull])
              have d0' := (hb2.cell (p := ⟨b, off + j * 3, none⟩) hb).trans d0
              have d1' := (hb2.cell (p := ⟨b, off + j * 3 + 1, none⟩) hb).trans d1
              have d2' := (hb2.cell (p := ⟨b, off + j * 3 + 2, none⟩) hb).trans d2
              have hown : wr.ownsRow 0 36 3 (.slice A' kk cap') kk (vcells out) := by
                unfold RowV at hrow2; rw [Hm.out] at hrow2; exact hrow2
              have Hown := Lib.hid hown
              have Hc1 := Lib.hid (cells3_new' wr (.int .i8 vk) (.int .i64 vn) (.string s) 36)
              have Hc2 := Lib.hid (three_one vk vn s)
              have h63 : kk + 1 ≤ maxLen := by unfold maxLen; omega
              have h32 : (kk + 1) * 32 ≤ 140737488355328 := by omega
              clear d0 d1 d2 hown
              go_wp2_with (at_builtin; refine wpList_append_own_at _ rfl _ _ 22 rfl 0 36 i0 _ 3 32 Try.underlying22 hi hz0 hz1 hz2 rfl (by decide) _ kk _ rfl (Hown.out.alloc _) ⟨wr.heap.size, 0, none⟩ 1 1 [.int .i8 vk, .int .i64 vn, .string s] rfl rfl Hc1.out Hc2.out h63 h32 (Nat.zero_le _) ?_)
              intro v' W4 hown4 hgrow4 hnil4 hloc4
              obtain ⟨g4, cap4, rfl⟩ : ∃ g cap', v' = .slice (some ⟨g, 0, none⟩) (kk + 1) cap' := by
                obtain ⟨g, cap', hv, _⟩ := hown4.form (Nat.succ_pos kk)
                exact ⟨g, cap', hv⟩
              have hrow4 : RowV W4 (some ⟨g4, 0, none⟩) cap4 (out ++ [v]) := by
                unfold RowV
                rw [List.length_append, Hm.out, vcells_append, show vcells [v] = v.cells from by simp [vcells], Hcells.out]
                exact hown4
              have hfr : ∀ g ∈ blkOf A', (Value.slice A' kk cap').ownBlock = some g ∨ (Value.slice A' kk cap').ownBlock = none := by
                intro g hg
                cases A' <;> simp_all [blkOf, Value.ownBlock]
              have hob : ∀ g, (Value.slice A' kk cap').ownBlock = some g → w.heap.size ≤ g := by
                intro g hg
                exact hfresh g (by cases A' <;> simp_all [blkOf, Value.ownBlock])
              have hbel4 : Below w.heap.size w W4 := (hbelw.alloc hbelw.size _).grown hgrow4 (by have := hbelw.size; simp; omega) hob
              have hfresh4 : ∀ g ∈ blkOf (some (⟨g4, 0, none⟩ : Addr)), w.heap.size ≤ g := by
                intro g hg
                simp [blkOf] at hg
                subst hg
                rcases hloc4 with h | h
                · exact hob _ (by rw [← h]; rfl)
                · have : g = (wr.alloc (.cells #[.int .i8 vk, .int .i64 vn, .string s] 36)).heap.size := by simpa [Value.ownBlock] using h
                  have h2 := hbelw.size
                  rw [this]; simp; omega
              have Hrow4 := Lib.hid hrow4
              have Hbel4 := Lib.hid hbel4
              have Hfresh4 := Lib.hid hfresh4
              clear hown4 hgrow4 hnil4 hloc4 hrow4 hbel4 hfresh4 hfr hob hrow2 hbelw
              go_wp2
              go_roundg (n - (j + 1))
              case measure => omega
              case rel =>
                refine ⟨j + 1, some ⟨g4, 0, none⟩, cap4, by omega, rfl, by go_num, ?_, ?_, Hfresh4.out, Hbel4.out⟩
                · rw [Hstep.out, hg.out, List.length_append, Hm.out]; rfl
                · rw [Hstep.out, hg.out]; exact Hrow4.out
            · have hg : Hid (gstep most out v = out) := Lib.hid (by
                unfold gstep
                rw [if_neg]
                rw [Bool.or_eq_true] at hth
                rcases hth with h | h
                · have h1 := Hbad.out
                  rw [h] at h1
                  rw [show v.ok = false from by cases h : v.ok; rfl; rw [h] at h1; cases h1]
                  simp
                · rw [h]; simp)
              have Hrow2 := Lib.hid hrow2
              have Hbelw := Lib.hid hbelw
              clear hrow2 hbelw
              go_wp2
              go_roundg (n - (j + 1))
              case measure => omega
              case rel =>
                refine ⟨j + 1, A', cap', by omega, rfl, by go_num, ?_, ?_, hfresh, Hbelw.out⟩
                · rw [Hstep.out, hg.out, Hm.out]
                · rw [Hstep.out, hg.out]; exact Hrow2.out
      · have hall : goodL most vs = goodL most (vs.take j) := by
          have := goodL_full (most := most) (vs.take j) (vs.drop j) (by omega)
          rw [List.take_append_drop] at this
          exact this
        have Hall := Lib.hid hall
        have Hrow := Lib.hid hrow
        clear hrow hall
        generalize hm : (goodL most (vs.take j)).length = m at hgl hfull ⊢
        have Hm := Lib.hid hm
        clear hm
        have hd : decide (m < most) = false := by simp; omega
        go_wp2
        go_ret
        exact ⟨A', cap', ret_slice (by rw [Hall.out, Hm.out]), by rw [Hall.out]; exact Hrow.out, hfresh, hbel⟩
    · obtain rfl : j = n := by omega
      have hall : vs.take j = vs := List.take_of_length_le (by rw [Hn.out]; omega)
      rw [hall] at hrow hgl ⊢
      have Hrow := Lib.hid hrow
      clear hrow hall
      generalize hm : (goodL most vs).length = m at hgl ⊢
      have Hm := Lib.hid hm
      clear hm
      go_wp2
      go_ret
      exact ⟨A', cap', ret_slice (by rw [Hm.out]), Hrow.out, hfresh, hbel⟩

end Go.Proofs.Ythdpaakkamccbaa

/-
  Walk: the iterator of a table: it tells the values that were there when the ranging began.
-/
import Derived.Test.YthdpaakkamccbaaSymClone
import Derived.Test.YthdpaakkamccbaaSymTells
namespace Go.Proofs.Ythdpaakkamccbaa
open Go.RowKit Go.Maps

/-- what a round that goes on keeps: the cells that lie at or beyond block B. -/
structure Kc (B : Nat) (W W' : World) : Prop where
  size : W.heap.size ≤ W'.heap.size
  same : ∀ k o, B ≤ k → W.heap[k]? = some o → o.isCells = true → W'.heap[k]? = some o

theorem kc_t {B : Nat} {X Y Z : World} (h : Kc B X Y) (k : Kc B Y Z) : Kc B X Z := ⟨Nat.le_trans h.size k.size, fun i o hB hi ho => k.same i o hB (h.same i o hB hi ho) ho⟩
theorem kc_b {B : Nat} {w : World} (W : World) (l : Nat) (o o' : Obj) (_ : w.heap.size ≤ l) (h : W.heap[l]? = some o) (ho : o.isCells = false) (_ : o.isWalk = false) : Kc B W (W.putObj l o') :=
  ⟨(grownBy_putObj' W l o').size, fun k u _ hk hu => (World.putObj_heap_other (by rintro rfl; rw [h] at hk; injection hk with hk; subst hk; rw [ho] at hu; cases hu)).trans hk⟩
theorem Kc.of_chg {B : Nat} {S : List Nat} {W W' : World} (h : Chg S W W') (hS : ∀ k ∈ S, k < B) : Kc B W W' :=
  ⟨h.size, fun k o hB hk _ => (h.block k (Array.getElem?_eq_some_iff.1 hk).1 (fun hm => by have := hS k hm; omega)).trans hk⟩
theorem Kc.row {B : Nat} {W W' : World} {A : Option Addr} {cap : Nat} {vs : List Val} (h : Kc B W W') (hr : RowV W A cap vs) (hB : ∀ g ∈ blkOf A, B ≤ g) : RowV W' A cap vs :=
  hr.same fun g hg => by
    rcases hr.2 with ⟨hv, _⟩ | ⟨g0, c0, cur, hv, _, hh, _⟩
    · injection hv with hA; subst hA; simp [blkOf] at hg
    · injection hv with hA; subst hA
      simp [blkOf] at hg
      subst hg
      rw [hh]
      exact h.same _ _ (hB _ (by simp [blkOf])) hh rfl

/-- values with their numbers. -/
def numb (vs : List Val) : List (Nat × Val) := (List.range vs.length).map fun i => (i, vs.getD i Val.zero)
theorem numb_length (vs : List Val) : (numb vs).length = vs.length := by simp [numb]
theorem numb_at (vs : List Val) (i : Nat) (h : i < vs.length) : (numb vs)[i]'(by rw [numb_length]; exact h) = (i, vs[i]) := by
  simp [numb, h]
theorem numb_take (vs : List Val) (i : Nat) (h : i < vs.length) : (numb vs).take (i + 1) = (numb vs).take i ++ [(i, vs[i])] := by
  rw [List.take_succ_eq_append_getElem (by rw [numb_length]; exact h), numb_at vs i h]
def stN : St → List (Nat × Val)
  | none => []
  | some (_, vs) => numb vs

def encN (x : Nat × Val) : Array Value := #[.int .i32 (x.1 : Int), x.2.agg]

attribute [local go_sem] Oper.semAt_some

set_option maxRecDepth 100000 in
set_option maxHeartbeats 2000000 in
theorem all_stops {m kb : Nat} {tv : Value} {w0 : World} {st : St} {S : List Nat} (hm : 1 ≤ m) (hk : Blk w0 kb 25 #[tv]) (hp : PT w0 tv st S) :
    SeqStopsK Fence.wide m Try.prog 41 #[.pointer (some ⟨kb, 0, none⟩)] encN (Kc w0.heap.size) (fun xs => xs = stN st) (fun pre => pre <+: stN st) (stN st).length w0 := fun l J Jx W hW hJ hJx hY h0 => by
  have c1 : W.cell? ⟨kb, 0, none⟩ = some tv := (hk.same (hW.block _ hk.lt)).cell 0
  match st, hp with
  | none, hp =>
    refine callsIn_wide.2 ?_
    have hth := Lib.hid (no_there (hp.none_.below hW))
    have H0 := Lib.hid h0
    clear hk hW h0 hp
    show Calls _ _ #[.func (.yield l) #[] #[], .pointer (some ⟨kb, 0, none⟩)] _ _
    go_enter Try.func41, Try.ntmps41
    go_wp2_with (go_at_call 29; refine hth.out.mono ?_; rintro e w1 ⟨rfl, hw1⟩; obtain rfl : W = w1 := hw1.symm)
    refine bodyPost_ret (results_none rfl _ _ _) rfl ?_
    exact ⟨⟨_, rfl⟩, .inl ⟨[], rfl, H0.out⟩⟩
  | some (most, vs), ⟨tb, htv, ht⟩ =>
    subst htv
    have htW := ht.below hW
    obtain ⟨mb, A, cap, D, hta, _⟩ := id htW
    have hle : vs.length ≤ 2147483647 := Nat.le_trans hta.le hta.most
    have hth := Lib.hid (there_tab htW)
    have c2 : W.cell? ⟨tb, 2, none⟩ = some (.slice A vs.length cap) := hta.blk.cell 2
    have hcl := Lib.hid (clone_any A cap vs W hta.row hle)
    have hlenN : (stN (some (most, vs))).length = vs.length := numb_length vs
    rw [hlenN] at hY
    have hYN := Lib.hid hY
    have HJ := Lib.hid hJ
    have H0 := Lib.hid h0
    have HWs := Lib.hid hW.size
    obtain ⟨n, hn⟩ : ∃ n, vs.length = n := ⟨_, rfl⟩
    rw [hn] at hle c2 hcl
    have Hn := Lib.hid hn
    clear hY hJ hJx h0 hlenN htW hta ht hn hk
    refine callsIn_of_wp Try.func41 rfl trivial ?_ rfl
    show Code.wpIn _ _ _ _ _ { tmps := #[.func (.yield l) #[] #[], .pointer (some ⟨kb, 0, none⟩)] ++ _, defers := [] } _
    simp only [Try.ntmps41, List.size_toArray, List.length_cons, List.length_nil, Nat.reduceAdd, Nat.reduceSub, Array.replicate_succ, Array.replicate_zero, List.push_toArray, List.append_toArray, List.nil_append, List.cons_append]
    gi_wp2_with (first
      | (refine ⟨trivial, ?_⟩; gi_at_call 29; refine (callsIn_wide.2 hth.out).mono ?_; rintro e w1 ⟨rfl, hw1⟩; obtain rfl : W = w1 := hw1.symm)
      | (refine ⟨trivial, ?_⟩; gi_at_call 42; refine (callsIn_wide.2 hcl.out).mono ?_; rintro e w2 ⟨A', cap', rfl, hrow, hfr, hb2⟩))
    have hB2 := Lib.hid (fun g hg => Nat.le_trans HWs.out (hfr g hg))
    have hJ2 := HJ.out _ _ _ none H0.out (below_grown hb2) (fun r e => by cases e)
    gi_loopw [14] (fun i wr => ∃ k : Nat, k ≤ n ∧ i = .int .i64 k ∧ J ((numb vs).take k) wr ∧ RowV wr A' cap' vs)
      (fun i _ => n - (intOf i).toNat)
    case atStart => exact ⟨0, Nat.zero_le _, rfl, by simpa using hJ2, hrow⟩
    case round =>
      obtain ⟨k, hk, rfl, hJs, hrw⟩ := hrel
      by_cases hlt : k < n
      · have hkl : k < vs.length := by rw [Hn.out]; exact hlt
        obtain ⟨g', rfl⟩ : ∃ g, A' = some ⟨g, 0, none⟩ := by
          rcases hrw.form with ⟨_, _, h⟩ | ⟨g, h, _⟩
          · rw [h] at hkl; simp at hkl
          · exact ⟨g, h⟩
        obtain ⟨e0, e1, e2⟩ := hrw.three k hkl
        have hYk := hYN.out ((numb vs).take k) (k, vs[k])
        have htk := numb_take vs k hkl
        have hpk : (numb vs).take (k + 1) <+: numb vs := List.take_prefix _ _
        rw [htk] at hpk
        have hlk : ((numb vs).take k).length < vs.length := by rw [List.length_take, numb_length]; omega
        have hw32 : IntKind.i32.wrap (k : Int) = k := IntWalk.i32_in _ ⟨by omega, by omega⟩
        generalize vs[k] = v at e0 e1 e2 hYk htk hpk
        obtain ⟨vk, vn, s⟩ := v
        simp only at e0 e1 e2
        have hJa := HJ.out _ _ _ none hJs (World.grownBy_alloc wr (.cells #[.int .i8 vk, .int .i64 vn, .string s] 36) none) (fun r e => by cases e)
        obtain ⟨fn, tmps, assign, body, hy, hR⟩ := hYk _ hJa hlk
        have hra : RowV (wr.alloc (.cells #[.int .i8 vk, .int .i64 vn, .string s] 36)) (some ⟨g', 0, none⟩) cap' vs := hrw.same fun x hx => Below.heap_alloc _ _ x (hrw.lt x hx)
        simp only [encN, Val.agg] at hy
        have Hra := Lib.hid hra
        have Htk := Lib.hid htk
        have Hpk := Lib.hid hpk
        clear hra htk hpk hYk hJa hJs hrw hlk hkl hJ2 hrow
        gi_wp2
        refine hR.mono ?_
        rintro e W3 (⟨rfl, hJ3, hk3⟩ | ⟨rfl, hJx3⟩)
        · have hr3 := Lib.hid (hk3.row Hra.out hB2.out)
          have HJ3 := Lib.hid hJ3
          clear hJ3 hk3
          gi_wp2
          go_roundw
          case rel => exact ⟨k + 1, by omega, by go_num, by rw [Htk.out]; exact HJ3.out, hr3.out⟩
          case measure => simp [intOf]; omega
        · gi_wp2
          refine bodyPost_ret (results_none rfl _ _ _) rfl ?_
          exact ⟨⟨_, rfl⟩, .inr ⟨_, Hpk.out, hJx3⟩⟩
      · obtain rfl : k = n := by omega
        have hend : (numb vs).take k = numb vs := List.take_of_length_le (by rw [numb_length, Hn.out]; exact Nat.le_refl _)
        rw [hend] at hJs
        clear hend hrw
        gi_wp2
        go_end0
        exact ⟨⟨_, rfl⟩, .inl ⟨_, rfl, hJs⟩⟩

end Go.Proofs.Ythdpaakkamccbaa

/-
  SymbolFull's walk.
-/
import Derived.Test.YthdpaakkamccbaaSymSame
import Derived.Test.YthdpaakkamccbaaSymCuts
namespace Go.Proofs.Ythdpaakkamccbaa
open Go.RowKit Go.Maps

theorem addStep_old {vs : List Val} (hg : GoodL vs.length vs) (k most i : Nat) (hi : i < vs.length) (hik : i < k) : addStep most (vs.take k) vs[i] = (vs.take k, i, 0) := by
  have hok := hg.ok _ (List.getElem_mem hi)
  have hm := (take_mem (k := k) hg.nodup hi).2 hik
  have hn := take_num hg.nodup hi hik
  unfold numOf at hn
  rw [if_pos hm] at hn
  unfold addStep
  rw [if_neg (by rw [hok]; simp), if_pos hm, hn]
theorem addStep_new {vs : List Val} (hg : GoodL vs.length vs) (most i : Nat) (hi : i < vs.length) (him : i < most) : addStep most (vs.take i) vs[i] = (vs.take (i + 1), i, 0) := by
  have hok := hg.ok _ (List.getElem_mem hi)
  have hm : vs[i] ∉ vs.take i := fun h => by have := (take_mem (k := i) hg.nodup hi).1 h; omega
  have hl : (vs.take i).length = i := by rw [List.length_take]; omega
  unfold addStep
  rw [if_neg (by rw [hok]; simp), if_neg hm, hl, if_pos him, List.take_succ_eq_append_getElem hi]
theorem addStep_full {vs : List Val} (hg : GoodL vs.length vs) (k i : Nat) (hi : i < vs.length) (hik : k ≤ i) : addStep k (vs.take k) vs[i] = (vs.take k, 0, 20) := by
  have hok := hg.ok _ (List.getElem_mem hi)
  have hm : vs[i] ∉ vs.take k := fun h => by have := (take_mem (k := k) hg.nodup hi).1 h; omega
  have hl : (vs.take k).length = k := by rw [List.length_take]; omega
  unfold addStep
  rw [if_neg (by rw [hok]; simp), if_neg hm, hl, if_neg (by omega)]

/-- new ones, as many as fit. -/
theorem addGo_fits {vs : List Val} (hg : GoodL vs.length vs) (most : Nat) : ∀ (L n : Nat) (rest : List Val) (ns : List Nat), n + L ≤ vs.length → n + L ≤ most → addGo most ((vs.drop n).take L ++ rest) (vs.take n) ns = addGo most rest (vs.take (n + L)) (ns ++ List.range' n L)
  | 0, n, rest, ns, _, _ => by simp
  | L + 1, n, rest, ns, h1, h2 => by
    have hn : n < vs.length := by omega
    rw [List.drop_eq_getElem_cons hn, List.take_succ_cons, List.cons_append, addGo_cons, addStep_new hg most n hn (by omega)]
    simp only [if_true]
    rw [addGo_fits hg most L (n + 1) rest _ (by omega) (by omega), show n + 1 + L = n + (L + 1) from by omega, List.append_assoc]
    rfl

theorem rowGo_fits {vs : List Val} (hg : GoodL vs.length vs) (most L n : Nat) (hL : L ≤ 24) (h1 : n + L ≤ vs.length) (h2 : n + L ≤ most) : rowGo most ((vs.drop n).take L) (vs.take n) = (vs.take (n + L), List.range' n L, 0) := by
  have := addGo_fits hg most L n [] [] h1 h2
  rw [List.append_nil, List.nil_append] at this
  have hl : ((vs.drop n).take L).length = L := by simp; omega
  unfold rowGo
  rw [hl, if_neg (by omega), this]
  rfl

theorem rowGo_over {vs : List Val} (hg : GoodL vs.length vs) (k L n : Nat) (hL : L + 1 ≤ 24) (h1 : n + L < vs.length) (h2 : n + L = k) : rowGo k ((vs.drop n).take (L + 1)) (vs.take n) = (vs.take n, [], 20) := by
  subst h2
  have e : (vs.drop n).take (L + 1) = (vs.drop n).take L ++ [vs[n + L]] := by
    rw [List.take_succ_eq_append_getElem (by simp; omega)]
    simp
  have := addGo_fits hg (n + L) L n [vs[n + L]] [] (by omega) (by omega)
  rw [addGo_cons, addStep_full hg (n + L) (n + L) h1 (Nat.le_refl _)] at this
  have hl : ((vs.drop n).take (L + 1)).length = L + 1 := by simp; omega
  have h20 : (addGo (n + L) ((vs.drop n).take (L + 1)) (vs.take n) []).2.2 = 20 := by
    rw [e, this]; rfl
  unfold rowGo
  rw [hl, if_neg (by omega), h20, if_neg (by decide)]

theorem wpList_load_row_g {P : Program} {ops : Array Oper} {rest : List Oper} {o : Oper} {a : Act} {w : World} {Q : Exit → Act → World → Prop} (ty : TypeId) (x : Operand) (ho : o.op = .load ty x) (hw : Region.wanted o (yielded ops a.tmps) = true)
    (g : Nat) (hx : a.eval x = .pointer (some ⟨g, 0, none⟩)) (t : TypeId) (cs : Array Value) (fr : Nat × Nat) (d : TypeDesc) (hg : w.heap[g]? = some (.cells cs t fr))
    (hu : P.underlying ty = some d) (hd : (match d with | .struct _ | .array _ _ => true | _ => false) = true) (hi : (P.info? ty).map (·.size) = some cs.size)
    (h : wpList P ops Q rest (a.put o.dst (.agg cs)) w) : wpList P ops Q (o :: rest) a w :=
  wpList_step fun _ hK => by rw [if_pos hw]; exact wp_load_row ty x ho g hx t cs fr d hg hu hd hi (hK _ _ h)

theorem wpList_store_new {P : Program} {ops : Array Oper} {rest : List Oper} {o : Oper} {a : Act} {w : World} {Q : Exit → Act → World → Prop} (ty : TypeId) (x y : Operand) (ho : o.op = .store ty x y) (hgd : o.guard = none)
    (g : Nat) (cells : Array Value) (hx : a.eval x = .pointer (some ⟨g, 0, none⟩)) (hy : a.eval y = .agg cells)
    (t : TypeId) (old : Array Value) (hg : w.heap[g]? = some (.cells old t (0, 0))) (hi : (P.info? ty).map (·.size) = some cells.size)
    (hold : old.size = cells.size) (h1 : cells.all (·.oneCell') = true) (P0 : World → Prop) (hP : P0 (w.setRow g cells))
    (h : ∀ W, P0 W → wpList P ops Q rest (a.put o.dst undef) W) : wpList P ops Q (o :: rest) a w :=
  wpList_store_row hgd ty x y ho g cells hx hy t old hg hi hold h1 (h _ hP)

theorem own_blk (A : Option Addr) (q cap g : Nat) (h : (Value.slice A q cap).ownBlock = some g) : g ∈ blkOf A := by
  cases A <;> simp_all [blkOf, Value.ownBlock]

/-- a new row, written. -/
theorem row_new (w : World) (ns ns' : List Nat) : Below w.heap.size w ((w.alloc (.cells (rowOf ns') 43)).setRow w.heap.size (rowOf ns)) ∧ Blk ((w.alloc (.cells (rowOf ns') 43)).setRow w.heap.size (rowOf ns)) w.heap.size 43 (rowOf ns) :=
  ⟨((Chg.refl [] w).alloc _).setRow (.inr (Nat.le_refl _)) _ |>.of_none, setRow_blk (Blk.new w _ _)⟩

theorem row_zero_neq : ∀ W, (binOp BinOp.neq 43 (.agg (rowOf [])) (.agg #[.int .i32 0, .int .i32 0, .int .i32 0, .int .i32 0, .int .i32 0, .int .i32 0, .int .i32 0, .int .i32 0, .int .i32 0, .int .i32 0, .int .i32 0, .int .i32 0, .int .i32 0, .int .i32 0, .int .i32 0, .int .i32 0, .int .i32 0, .int .i32 0, .int .i32 0, .int .i32 0, .int .i32 0, .int .i32 0, .int .i32 0, .int .i32 0])).run Try.prog W = .ok (.bool false) W := fun _ => by kernel_rfl

set_option maxRecDepth 100000 in
set_option maxHeartbeats 4000000 in
theorem full_any (A : Option Addr) (cap : Nat) (vs0 : List Val) (n0 n1 : Int) (w : World) (hrd : RdV w A vs0) (hwf : ∀ v ∈ vs0, v.wf) (hsmall : vs0.length ≤ 1048576) (hn0 : -9223372036854775808 ≤ n0) (hn0' : n0 ≤ 9223372036854775807) (hn1 : -9223372036854775808 ≤ n1) (hn1' : n1 ≤ 9223372036854775807) :
    Calls Try.prog 4 #[.slice A vs0.length cap, .int .i64 n0, .int .i64 n1] w fun e w' => e = .returned (.bool true) ∧ Below w.heap.size w w' := by
  have hlives := Lib.hid (lives_any w)
  have hle0 := goodL_le vs0.length vs0
  have hgood0 := goodL_good vs0.length vs0 hwf
  have hgood := Lib.hid (fun W h => good_any A cap vs0.length vs0 W h (by omega) (by omega))
  obtain ⟨l, hl⟩ : ∃ l, vs0.length = l := ⟨_, rfl⟩
  rw [hl] at hsmall hle0 hgood0 hgood ⊢
  have Hrd := Lib.hid hrd
  clear hwf hl hrd
  generalize goodL l vs0 = vs at hle0 hgood0 hgood
  have Hgood0 := Lib.hid (show GoodL vs.length vs from ⟨hgood0.wf, hgood0.ok, hgood0.nodup, Nat.le_refl _⟩)
  clear hgood0
  obtain ⟨m, hm⟩ : ∃ m, vs.length = m := ⟨_, rfl⟩
  rw [hm] at hle0 hgood
  have Hm := Lib.hid hm
  clear hm
  by_cases hm0 : m = 0
  · subst hm0
    go_enter Try.func4, Try.ntmps4
    go_wp2_with (go_at_call 9; refine hlives.out.mono ?_; rintro e W1 ⟨rfl, hb1⟩)
    refine (hgood.out W1 (Hrd.out.below hb1)).mono ?_
    rintro e W2 ⟨A2, cap2, rfl, hrow2, hfr2, hb2⟩
    go_wp2
    go_ret
    exact ⟨rfl, hb1.trans (hb2.mono hb1.size)⟩
  · have hm1 : ¬ ((m : Int) = 0) := by omega
    go_enter Try.func4, Try.ntmps4
    go_wp2_with (go_at_call 9; refine hlives.out.mono ?_; rintro e W1 ⟨rfl, hb1⟩)
    refine (hgood.out W1 (Hrd.out.below hb1)).mono ?_
    rintro e W2 ⟨A2, cap2, rfl, hrow2, hfr2, hb2⟩
    have hbW2 : Below w.heap.size w W2 := hb1.trans (hb2.mono hb1.size)
    have hfr2' : ∀ g ∈ blkOf A2, w.heap.size ≤ g := fun g hg => Nat.le_trans hb1.size (hfr2 g hg)
    obtain ⟨g, rfl⟩ : ∃ g, A2 = some ⟨g, 0, none⟩ := by
      rcases hrow2.form with ⟨_, _, h⟩ | ⟨g, h, _⟩
      · have := Hm.out; rw [h] at this; simp at this; omega
      · exact ⟨g, h⟩
    have hmc : m ≤ cap2 := by
      rcases hrow2.form with ⟨h, _⟩ | ⟨_, _, _, h, _⟩
      · cases h
      · rw [Hm.out] at h; exact h
    have Hrow2 := Lib.hid hrow2
    have Hfr2 := Lib.hid hfr2'
    clear hrow2 hfr2 hfr2' hb1 hb2 hgood
    obtain ⟨k, hk⟩ : ∃ k : Nat, n0 % (m : Int) = k := ⟨(n0 % (m : Int)).toNat, by have := Int.emod_nonneg n0 (show (m : Int) ≠ 0 by omega); omega⟩
    have hkm : k < m := by have := Int.emod_lt_of_pos n0 (show 0 < (m : Int) by omega); omega
    go_upto_if 36 with fail
    go_cut [8] (fun v wx => W2 = wx ∧ v = .int .i64 (k : Int))
    case first =>
      by_cases h0 : 0 ≤ n0
      · have ht : n0.tmod (m : Int) = k := by rw [Int.tmod_eq_emod_of_nonneg h0, hk]
        have ht2 : n0 % (m : Int) = k := hk
        clear hk
        go_wp2
        all_goals (go_meet; exact ⟨rfl, by rw [ht]⟩)
      · have ht := tmod_neg n0 (m : Int) (by omega) (by omega)
        rw [hk] at ht
        clear hk
        obtain ⟨t, htt⟩ : ∃ t, n0.tmod (m : Int) = t := ⟨_, rfl⟩
        rw [htt] at ht
        by_cases hneg : t < 0
        · have e := Lib.hid (ht.1 hneg)
          have hb : -(m : Int) ≤ t := by have := ht.1 hneg; omega
          clear ht
          go_wp2
          all_goals (go_meet; exact ⟨rfl, by rw [← e.out]⟩)
        · have e := Lib.hid (ht.2 hneg)
          clear ht
          go_wp2
          all_goals (go_meet; exact ⟨rfl, by rw [e.out]⟩)
    case rest =>
      obtain ⟨rfl, rfl⟩ := hcut
      clear hk
      have hvl := Hm.out
      have htk : (vs.take k).length = k := by rw [List.length_take]; omega
      have hgk : GoodL k (vs.take k) := ⟨fun v hv => Hgood0.out.wf v (List.mem_of_mem_take hv), fun v hv => Hgood0.out.ok v (List.mem_of_mem_take hv), Hgood0.out.nodup.sublist (List.take_sublist _ _), by omega⟩
      have hfill := filled_any (some ⟨g, 0, none⟩) cap2 k (vs.take k) W2 (Hrow2.out.take k (by omega)).rd hgk (by omega)
      rw [htk] at hfill
      have Hfill := Lib.hid hfill
      clear hfill hgk htk hvl
      go_wp2_with (go_at_call 11; refine Hfill.out.mono ?_; rintro e W3 ⟨tb, S, rfl, hT3, hS3, hb3⟩
                   have HT3 := Lib.hid hT3
                   have HS3 := Lib.hid hS3
                   clear hT3 hS3)
      have hbW3 : Below w.heap.size w W3 := hbW2.trans (hb3.mono hbW2.size)
      have hrow3 := Hrow2.out.below_ hb3
      have hgS : g ∉ S := fun hs => by have := Hrow2.out.lt g (by simp [blkOf]); have := HS3.out g hs; omega
      have hS3w : ∀ x ∈ S, w.heap.size ≤ x := fun x hx => Nat.le_trans hbW2.size (HS3.out x hx)
      have Hrow3 := Lib.hid hrow3
      have HS3w := Lib.hid hS3w
      clear hrow3 hS3w hb3
      go_loopg [10] m (fun gk i wx => ∃ (j : Nat) (S' : List Nat), j ≤ m ∧ gk = m - j ∧ i = .int .i64 j ∧ Tab wx tb k (vs.take k) S' ∧ (∀ x ∈ S', w.heap.size ≤ x) ∧ g ∉ S' ∧ RowV wx (some ⟨g, 0, none⟩) cap2 vs ∧ Below w.heap.size w wx)
      case atStart => exact ⟨0, S, Nat.zero_le _, rfl, rfl, HT3.out, HS3w.out, hgS, Hrow3.out, hbW3⟩
      case round =>
        obtain ⟨j, S', hj, rfl, rfl, hT, hS', hgS', hrowr, hbr⟩ := hrel
        by_cases hlt : j < m
        · have hvl : j < vs.length := by rw [Hm.out]; exact hlt
          obtain ⟨d0, d1, d2⟩ := hrowr.three j hvl
          have hadd := add_any hT (vs[j]) (Hgood0.out.wf _ (List.getElem_mem hvl))
          have hst : addStep k (vs.take k) vs[j] = (vs.take k, (if j < k then j else 0), if j < k then 0 else 20) := by
            split
            · exact addStep_old Hgood0.out k k j hvl (by assumption)
            · exact addStep_full Hgood0.out k j hvl (by omega)
          rw [hst] at hadd
          simp only at hadd
          have Hadd := Lib.hid hadd
          have HS' := Lib.hid hS'
          have Hrowr := Lib.hid hrowr
          clear hadd hT hS' hrowr hst
          generalize vs[j] = v at Hadd d0 d1 d2
          obtain ⟨vk, vn, s⟩ := v
          simp only [Val.agg] at Hadd d0 d1 d2
          have hw := IntWalk.i64_in (j : Int) ⟨by omega, by omega⟩
          by_cases hjk : j < k
          · simp only [if_pos hjk] at Hadd
            have hd1 : decide (j < k) = true := by simp [hjk]
            have hd2 : decide (k ≤ j) = false := by simp; omega
            go_wp2_with (go_at_call 16; refine Hadd.out.mono ?_; rintro e Wn ⟨S2, rfl, hT2, hC2, hS2⟩
                         have hS3 : ∀ x ∈ S2, w.heap.size ≤ x := fun x hx => by
                           rcases hS2 x hx with h | h
                           · exact HS'.out x h
                           · have := hbr.size; omega
                         have hbel2 : Below w.heap.size w Wn := hbr.trans (hC2.below hbr.size HS'.out)
                         have hglt := Hrowr.out.lt g (by simp [blkOf])
                         have hd2 : g ∉ S2 := fun hs => by
                           rcases hS2 g hs with h | h
                           · exact hgS' h
                           · omega
                         have hrow2 : RowV Wn (some ⟨g, 0, none⟩) cap2 vs := Hrowr.out.same fun x hx => hC2.block x (Hrowr.out.lt x hx) (by simp [blkOf] at hx; subst hx; exact hgS')
                         have HT2 := Lib.hid hT2
                         have HS3 := Lib.hid hS3
                         have Hbel2 := Lib.hid hbel2
                         have HR2 := Lib.hid hrow2
                         clear hT2 hS3 hbel2 hC2 hS2 hrow2 hglt)
            go_roundg (m - (j + 1))
            case measure => omega
            case rel => exact ⟨j + 1, S2, by omega, rfl, by go_num, HT2.out, HS3.out, by assumption, HR2.out, Hbel2.out⟩
          · simp only [if_neg hjk] at Hadd
            have hd1 : decide (j < k) = false := by simp; omega
            have hd2 : decide (k ≤ j) = true := by simp; omega
            go_wp2_with (go_at_call 16; refine Hadd.out.mono ?_; rintro e Wn ⟨S2, rfl, hT2, hC2, hS2⟩
                         have hS3 : ∀ x ∈ S2, w.heap.size ≤ x := fun x hx => by
                           rcases hS2 x hx with h | h
                           · exact HS'.out x h
                           · have := hbr.size; omega
                         have hbel2 : Below w.heap.size w Wn := hbr.trans (hC2.below hbr.size HS'.out)
                         have hglt := Hrowr.out.lt g (by simp [blkOf])
                         have hd2 : g ∉ S2 := fun hs => by
                           rcases hS2 g hs with h | h
                           · exact hgS' h
                           · omega
                         have hrow2 : RowV Wn (some ⟨g, 0, none⟩) cap2 vs := Hrowr.out.same fun x hx => hC2.block x (Hrowr.out.lt x hx) (by simp [blkOf] at hx; subst hx; exact hgS')
                         have HT2 := Lib.hid hT2
                         have HS3 := Lib.hid hS3
                         have Hbel2 := Lib.hid hbel2
                         have HR2 := Lib.hid hrow2
                         clear hT2 hS3 hbel2 hC2 hS2 hrow2 hglt)
            go_roundg (m - (j + 1))
            case measure => omega
            case rel => exact ⟨j + 1, S2, by omega, rfl, by go_num, HT2.out, HS3.out, by assumption, HR2.out, Hbel2.out⟩
        · obtain rfl : j = m := by omega
          have hvl : k < vs.length := by rw [Hm.out]; exact hkm
          obtain ⟨d0, d1, d2⟩ := hrowr.three k hvl
          have hrd1 : ∀ (o : Array Value), o = #[.int .i8 (vs[k]).k, .int .i64 (vs[k]).n, .string (vs[k]).s] → RdV (wr.alloc (.cells o 36)) (some ⟨wr.heap.size, 0, none⟩) [vs[k]] := fun o ho _ => ⟨_, 0, rfl, by simp, fun i hi => by
            subst ho
            have hb := Blk.new wr 36 #[.int .i8 (vs[k]).k, .int .i64 (vs[k]).n, .string (vs[k]).s]
            have hi0 : i = 0 := by simp at hi; exact hi
            subst hi0
            exact ⟨hb.cell 0, hb.cell 1, hb.cell 2⟩⟩
          have hrw := fun o ho => row_any ((hT.below ((Below.refl _ _).alloc (Nat.le_refl _) (.cells o 36)))) [vs[k]] (some ⟨wr.heap.size, 0, none⟩) 1 (hrd1 o ho) (fun _ a ha => by injection ha with ha; subst ha; exact ⟨fun hs => by have := hT.lt _ hs; simp at this, by simp⟩) (fun u hu => by rw [List.mem_singleton.1 hu]; exact Hgood0.out.wf _ (List.getElem_mem hvl))
          have hgo := rowGo_over Hgood0.out k 0 k (by omega) hvl rfl
          rw [List.drop_eq_getElem_cons hvl, List.take_succ_cons, List.take_zero] at hgo
          rw [hgo] at hrw
          simp only [List.length_singleton] at hrw
          have Hrw := Lib.hid hrw
          have HS' := Lib.hid hS'
          have Hrowr := Lib.hid hrowr
          have HT' := Lib.hid hT
          clear hrw hT hS' hrowr hgo hrd1
          have hvk : ∃ v, vs[k] = v := ⟨_, rfl⟩
          generalize vs[k] = v at Hrw d0 d1 d2
          obtain ⟨vk, vn, s⟩ := v
          simp only at Hrw d0 d1 d2
          have hneq := row_zero_neq
          go_upto_if 117 with (first
            | (go_at_call 17; refine (Hrw.out _ rfl).mono ?_; rintro e W4 ⟨S4, rfl, hT4, hC4, hS4⟩)
            | (go_at_call 13; refine Hlen.out.mono ?_; rintro e w1 ⟨rfl, hw1⟩; obtain rfl : W5 = w1 := hw1.symm)
            | (refine at_store 43 _ _ rfl ?_; refine wpList_store_new 43 _ _ rfl rfl W4.heap.size (rowOf []) rfl rfl 43 (rowOf []) (Blk.new W4 _ (rowOf [])) (rowOf_info [] (by simp)) rfl (rowOf_one []) (fun W => Below W4.heap.size W4 W ∧ Blk W W4.heap.size 43 (rowOf [])) (row_new W4 [] []) ?_
               rintro W5 ⟨hb5, hr5⟩
               have hT5 := hT4.below hb5
               have htk : (vs.take k).length = k := by rw [List.length_take]; omega
               have hlen := len_any hT5
               rw [htk] at hlen
               have Hlen := Lib.hid hlen
               have HT5 := Lib.hid hT5
               clear hT4 hT5 htk hlen)
            | (refine at_load 43 _ rfl ?_; refine wpList_load_row_g 43 _ rfl rfl W4.heap.size rfl 43 (rowOf []) (0, 0) _ hr5 Try.underlying43 rfl (rowOf_info [] (by simp)) ?_))
          have hbA : Below w.heap.size w (wr.alloc (.cells #[.int .i8 vk, .int .i64 vn, .string s] 36)) := hbr.alloc hbr.size _
          have hbW4 : Below w.heap.size w W4 := hbA.trans (hC4.below hbA.size HS'.out)
          have hbW5 : Below w.heap.size w W5 := hbW4.trans (hb5.mono hbW4.size)
          have hglt := Hrowr.out.lt g (by simp [blkOf])
          have hrow5 : RowV W5 (some ⟨g, 0, none⟩) cap2 vs := (Hrowr.out.same fun x hx => by
            simp [blkOf] at hx
            subst hx
            exact (hC4.block x (by simp; omega) hgS').trans (Below.heap_alloc _ _ _ hglt)).below_ hb5
          have hS4w : ∀ x ∈ S4, w.heap.size ≤ x := fun x hx => by
            rcases hS4 x hx with h | h
            · exact HS'.out x h
            · have := hbA.size; omega
          have hg4 : g ∉ S4 := fun hs => by
            rcases hS4 g hs with h | h
            · exact hgS' h
            · simp at h; omega
          have Hrow5 := Lib.hid hrow5
          have HS4w := Lib.hid hS4w
          clear hbA hC4 hS4 hrow5 hS4w hb5 hbW4 hr5 Hrowr HS' hvk hneq d0 d1 d2 Hlen
          obtain ⟨n, hn⟩ : ∃ n : Nat, n1 % ((k : Int) + 1) = n := ⟨(n1 % ((k : Int) + 1)).toNat, by have := Int.emod_nonneg n1 (show ((k : Int) + 1) ≠ 0 by omega); omega⟩
          have hnk : n ≤ k := by have := Int.emod_lt_of_pos n1 (show 0 < ((k : Int) + 1) by omega); omega
          go_cut [15] (fun v wx => W5 = wx ∧ v = .int .i64 (n : Int))
          case first =>
            by_cases h0 : 0 ≤ n1
            · have ht : n1.tmod ((k : Int) + 1) = n := by rw [Int.tmod_eq_emod_of_nonneg h0, hn]
              have ht2 : n1 % ((k : Int) + 1) = n := hn
              clear hn
              go_wp2
              all_goals (go_meet; exact ⟨rfl, by rw [ht]⟩)
            · have ht := tmod_neg n1 ((k : Int) + 1) (by omega) (by omega)
              rw [hn] at ht
              clear hn
              obtain ⟨t, htt⟩ : ∃ t, n1.tmod ((k : Int) + 1) = t := ⟨_, rfl⟩
              rw [htt] at ht
              by_cases hneg : t < 0
              · have e := Lib.hid (ht.1 hneg)
                have hb : -((k : Int) + 1) ≤ t := by have := ht.1 hneg; omega
                clear ht
                go_wp2
                all_goals (go_meet; exact ⟨rfl, by rw [← e.out, Int.add_assoc]⟩)
              · have e := Lib.hid (ht.2 hneg)
                clear ht
                go_wp2
                all_goals (go_meet; exact ⟨rfl, by rw [e.out]⟩)
          case rest =>
            obtain ⟨rfl, rfl⟩ := hcut
            clear hn
            have hcut := Lib.hid (cut_ok HT5.out n (by rw [List.length_take, Hm.out]; omega))
            rw [List.take_take, Nat.min_eq_left hnk] at hcut
            by_cases hnk2 : n = k
            · have hd : ((n : Int) == (k : Int)) = true := by simp [hnk2]
              clear hnk2
              go_wp2_with (go_at_call 12; refine hcut.out.mono ?_; rintro e W6 ⟨rfl, hT6, hC6⟩)
              go_ret
              exact ⟨rfl, hbW5.trans (hC6.below hbW5.size HS4w.out)⟩
            · have hd : ((n : Int) == (k : Int)) = false := by simp; omega
              go_wp2_with (go_at_call 12; refine hcut.out.mono ?_; rintro e W6 ⟨rfl, hT6, hC6⟩)
              have hbW6 : Below w.heap.size w W6 := hbW5.trans (hC6.below hbW5.size HS4w.out)
              have hrow6 : RowV W6 (some ⟨g, 0, none⟩) cap2 vs := Hrow5.out.same fun x hx => by
                have := Hrow5.out.lt x hx
                simp [blkOf] at hx
                subst hx
                exact hC6.block x this hg4
              have HT6 := Lib.hid hT6
              have Hrow6 := Lib.hid hrow6
              clear hT6 hrow6 hC6 hbW5 HT5 Hrow5 hcut
              obtain ⟨L, hL⟩ : ∃ L, min (k + 1 - n) 24 = L := ⟨_, rfl⟩
              obtain ⟨i0, hi, hz0, hz1, hz2⟩ := info_parts Try.infoV
              go_loopg [16, 17] L (fun gk r i wx => ∃ (q p : Nat) (A3 : Option Addr) (cap3 : Nat), q ≤ L ∧ gk = L - q ∧ p = n + q ∧ i = .int .i64 (p : Int) ∧ r = .slice A3 q cap3 ∧ RowV wx A3 cap3 ((vs.drop n).take q) ∧ (∀ g ∈ blkOf A3, W6.heap.size ≤ g) ∧ Below W6.heap.size W6 wx)
              case atStart => exact ⟨0, n, none, 0, Nat.zero_le _, rfl, rfl, rfl, rfl, RowV.nil_ _, by simp [blkOf], Below.refl _ _⟩
              case round =>
                obtain ⟨q, p, A3, cap3, hq, rfl, hp, rfl, rfl, hrow3, hfresh3, hb7⟩ := hrel
                obtain ⟨wi, rfl⟩ : ∃ wi : World, wi = wr := ⟨_, rfl⟩
                have Hp := Lib.hid hp
                by_cases hlt : q < L
                · have hpk : p ≤ k := by omega
                  have hd1 : decide (p ≤ k) = true := by simp [hpk]
                  have hd2 : decide (q < 24) = true := by simp; omega
                  have hvp : p < vs.length := by rw [Hm.out]; omega
                  have hlq : ((vs.drop n).take q).length = q := by simp; rw [Hm.out]; omega
                  have hsnoc : (vs.drop n).take (q + 1) = (vs.drop n).take q ++ [vs[p]] := by
                    rw [List.take_succ_eq_append_getElem (by simp; omega)]
                    simp [Hp.out]
                  obtain ⟨d0, d1, d2⟩ := (Hrow6.out.below_ hb7).three p hvp
                  have Hsnoc := Lib.hid hsnoc
                  have Hlq := Lib.hid hlq
                  clear hsnoc hlq hp
                  obtain ⟨v, hv⟩ : ∃ v, vs[p] = v := ⟨_, rfl⟩
                  rw [hv] at d0 d1 d2 Hsnoc
                  clear hv
                  have hcs : v.cells = [.int .i8 v.k, .int .i64 v.n, .string v.s] := rfl
                  obtain ⟨vk, hvk⟩ : ∃ x, v.k = x := ⟨_, rfl⟩
                  obtain ⟨vn, hvn⟩ : ∃ x, v.n = x := ⟨_, rfl⟩
                  obtain ⟨s, hvs⟩ : ∃ x, v.s = x := ⟨_, rfl⟩
                  rw [hvk, hvn, hvs] at hcs
                  rw [hvk] at d0; rw [hvn] at d1; rw [hvs] at d2
                  have Hcells := Lib.hid hcs
                  clear hvk hvn hvs hcs
                  have hown : wi.ownsRow 0 36 3 (.slice A3 q cap3) q (vcells ((vs.drop n).take q)) := by
                    have h3 := hrow3
                    unfold RowV at h3; rw [Hlq.out] at h3; exact h3
                  have Hown := Lib.hid hown
                  have Hrow3 := Lib.hid hrow3
                  have Hfresh3 := Lib.hid hfresh3
                  have Hc1 := Lib.hid (cells3_new' wi (.int .i8 vk) (.int .i64 vn) (.string s) 36)
                  have Hc2 := Lib.hid (three_one vk vn s)
                  have h63 : q + 1 ≤ maxLen := by unfold maxLen; omega
                  have h32 : (q + 1) * 32 ≤ 140737488355328 := by omega
                  have hw := IntWalk.i64_in (p : Int) ⟨by omega, by omega⟩
                  have hpm : p < j := by omega
                  clear hown hrow3 hfresh3
                  go_wp2_with (at_builtin; refine wpList_append_own_at _ rfl _ _ 22 rfl 0 36 i0 _ 3 32 Try.underlying22 hi hz0 hz1 hz2 rfl (by decide) _ q _ rfl (Hown.out.alloc _) ⟨wi.heap.size, 0, none⟩ 1 1 [.int .i8 vk, .int .i64 vn, .string s] rfl rfl Hc1.out Hc2.out h63 h32 (Nat.zero_le _) ?_)
                  intro v' Wn hown4 hgrow4 hnil4 hloc4
                  obtain ⟨g4, cap4, rfl⟩ : ∃ g cap', v' = .slice (some ⟨g, 0, none⟩) (q + 1) cap' := by
                    obtain ⟨g, cap', hv, _⟩ := hown4.form (Nat.succ_pos q)
                    exact ⟨g, cap', hv⟩
                  have hrow4 : RowV Wn (some ⟨g4, 0, none⟩) cap4 ((vs.drop n).take (q + 1)) := by
                    unfold RowV
                    rw [Hsnoc.out, List.length_append, Hlq.out, vcells_append, show vcells [v] = v.cells from by simp [vcells], Hcells.out]
                    exact hown4
                  have hob : ∀ g, (Value.slice A3 q cap3).ownBlock = some g → W6.heap.size ≤ g := by
                    intro g hg
                    exact Hfresh3.out g (own_blk _ _ _ _ hg)
                  have hbel4 : Below W6.heap.size W6 Wn := (hb7.alloc hb7.size _).grown hgrow4 (by have := hb7.size; simp; omega) hob
                  have hfresh4 : ∀ g ∈ blkOf (some (⟨g4, 0, none⟩ : Addr)), W6.heap.size ≤ g := by
                    intro g hg
                    simp [blkOf] at hg
                    subst hg
                    rcases hloc4 with h | h
                    · exact hob _ (by rw [← h]; rfl)
                    · have : g = (wi.alloc (.cells #[.int .i8 vk, .int .i64 vn, .string s] 36)).heap.size := by simpa [Value.ownBlock] using h
                      have h2 := hb7.size
                      rw [this]; simp; omega
                  have Hrow4 := Lib.hid hrow4
                  have Hbel4 := Lib.hid hbel4
                  have Hfresh4 := Lib.hid hfresh4
                  clear hown4 hgrow4 hnil4 hloc4 hrow4 hbel4 hfresh4 hob
                  go_wp2
                  go_roundg (L - (q + 1))
                  case measure => omega
                  case rel => exact ⟨q + 1, p + 1, some ⟨g4, 0, none⟩, cap4, by omega, rfl, by rw [Hp.out]; omega, by go_num, rfl, Hrow4.out, Hfresh4.out, Hbel4.out⟩
                · obtain rfl : q = L := by omega
                  have hdl : ((vs.drop n).take q).length = q := by simp; rw [Hm.out]; omega
                  have hq1 : 1 ≤ q := by omega
                  obtain ⟨g3, rfl⟩ : ∃ g3, A3 = some ⟨g3, 0, none⟩ := by
                    rcases hrow3.form with ⟨_, _, h⟩ | ⟨g3, h, _⟩
                    · rw [h] at hdl; simp at hdl; omega
                    · exact ⟨g3, h⟩
                  have hT7 := HT6.out.below hb7
                  have hb7w : Below w.heap.size w wi := hbW6.trans (hb7.mono hbW6.size)
                  have hwfr : ∀ u ∈ (vs.drop n).take q, u.wf := fun u hu => Hgood0.out.wf u (List.mem_of_mem_drop (List.mem_of_mem_take hu))
                  have hrw := row_any hT7 ((vs.drop n).take q) (some ⟨g3, 0, none⟩) cap3 hrow3.rd (fun _ a ha => by
                    injection ha with ha
                    subst ha
                    exact ⟨fun hs => by have := HT6.out.lt g3 hs; have := hfresh3 g3 (by simp [blkOf]); omega, hrow3.lt g3 (by simp [blkOf])⟩) hwfr
                  rw [hdl] at hrw
                  have hrow7 := Hrow6.out.below_ hb7
                  by_cases hqk : n + q ≤ k
                  · have hgo := rowGo_fits Hgood0.out k q n (by omega) (by rw [Hm.out]; omega) hqk
                    rw [hgo] at hrw
                    simp only at hrw
                    have Hrw := Lib.hid hrw
                    have hd1 : decide (p ≤ k) = true := by simp; omega
                    have hd2 : decide (q < 24) = false := by simp; omega
                    have hd3 : decide (n + q ≤ k) = true := by simp [hqk]
                    clear hrw hT7 hwfr hrow3 hrow7 hgo hdl hp
                    go_wp2_with (first
                      | (go_at_call 17; refine Hrw.out.mono ?_; rintro e W8 ⟨S8, rfl, hT8, hC8, hS8⟩)
                      | (go_at_call 13; refine Hlen.out.mono ?_; rintro e w1 ⟨rfl, hw1⟩; obtain rfl : W9 = w1 := hw1.symm)
                      | (refine at_store 43 _ _ rfl ?_; refine wpList_store_new 43 _ _ rfl rfl W8.heap.size (rowOf (List.range' n q)) rfl rfl 43 (rowOf []) (Blk.new W8 _ (rowOf [])) (rowOf_info (List.range' n q) (by simp; try omega)) (by rw [rowOf_size (List.range' n q) (by simp; try omega)]; rfl) (rowOf_one (List.range' n q)) (fun W => Below W8.heap.size W8 W ∧ Blk W W8.heap.size 43 (rowOf (List.range' n q))) (row_new W8 (List.range' n q) []) ?_
                         rintro W9 ⟨hb9, hr9⟩
                         have hT9 := hT8.below hb9
                         have hlen := len_any hT9
                         rw [show (vs.take (n + q)).length = n + q from by rw [List.length_take, Hm.out]; omega] at hlen
                         have Hlen := Lib.hid hlen
                         have HT9 := Lib.hid hT9
                         clear hT8 hT9 hlen hr9))
                    have hbW8 : Below w.heap.size w W8 := hb7w.trans (hC8.below hb7w.size HS4w.out)
                    go_ret
                    exact ⟨rfl, hbW8.trans (hb9.mono hbW8.size)⟩
                  · have hqk1 : n + (q - 1) = k := by omega
                    have hgo := rowGo_over Hgood0.out k (q - 1) n (by omega) (by rw [Hm.out]; omega) hqk1
                    rw [show q - 1 + 1 = q from by omega] at hgo
                    rw [hgo] at hrw
                    simp only at hrw
                    have Hrw := Lib.hid hrw
                    have hnv : n < vs.length := by rw [Hm.out]; omega
                    have hnm : n < j := by omega
                    have hd1 : decide (p ≤ k) = false := by simp; omega
                    have hd3 : decide (n + q ≤ k) = false := by simp; omega
                    have Hwv := Lib.hid (Hgood0.out.wf _ (List.getElem_mem hnv))
                    have hnot : decide (vs[n] ∈ vs.take n) = false := decide_eq_false fun h => by have := (take_mem (k := n) Hgood0.out.nodup hnv).1 h; omega
                    have Hrow7 := Lib.hid hrow7
                    have hvn : ∃ v, vs[n] = v := ⟨_, rfl⟩
                    have hd0 : ∃ v : Val, v.wf ∧ decide (v ∈ vs.take n) = false ∧ ∀ W : World, RowV W (some ⟨g, 0, none⟩) cap2 vs → W.cell? ⟨g, n * 3, none⟩ = some (.int .i8 v.k) ∧ W.cell? ⟨g, n * 3 + 1, none⟩ = some (.int .i64 v.n) ∧ W.cell? ⟨g, n * 3 + 2, none⟩ = some (.string v.s) := ⟨vs[n], Hwv.out, hnot, fun W hW => hW.three n hnv⟩
                    have Htn := Lib.hid (show (vs.take n).length = n by rw [List.length_take]; omega)
                    clear hrw hT7 hwfr hrow3 hrow7 hgo hdl hp hqk1 Hwv hnot hvn hnv
                    obtain ⟨⟨vk, vn, s⟩, hwv, hnot, hcells⟩ := hd0
                    go_wp2_with (first
                      | (go_at_call 17; refine Hrw.out.mono ?_; rintro e W8 ⟨S8, rfl, hT8, hC8, hS8⟩)
                      | (refine at_store 43 _ _ rfl ?_; refine wpList_store_new 43 _ _ rfl rfl W8.heap.size (rowOf []) rfl rfl 43 (rowOf []) (Blk.new W8 _ (rowOf [])) (rowOf_info [] (by simp)) rfl (rowOf_one []) (fun W => Below W8.heap.size W8 W ∧ Blk W W8.heap.size 43 (rowOf [])) (row_new W8 [] []) ?_
                         rintro W9 ⟨hb9, hr9⟩
                         have HT9 := Lib.hid (hT8.below hb9)
                         clear hT8 hr9
                         have hfind := find_any HT9.out ⟨vk, vn, s⟩ hwv
                         rw [hnot] at hfind
                         simp only [Val.agg] at hfind
                         have hrow9 : RowV W9 (some ⟨g, 0, none⟩) cap2 vs := (Hrow7.out.same fun x hx => by
                           simp [blkOf] at hx
                           subst hx
                           exact hC8.block x (Hrow7.out.lt x (by simp [blkOf])) hg4).below_ hb9
                         obtain ⟨d0, d1, d2⟩ := hcells W9 hrow9
                         have Hfind := Lib.hid hfind
                         clear hfind hrow9)
                      | (go_at_call 14; refine Hfind.out.mono ?_; rintro e W10 ⟨rfl, hb10⟩
                         have hlen := len_any (HT9.out.below hb10)
                         rw [Htn.out] at hlen
                         have Hlen := Lib.hid hlen
                         clear hlen)
                      | (go_at_call 13; refine Hlen.out.mono ?_; rintro e w1 ⟨rfl, hw1⟩; obtain rfl : W10 = w1 := hw1.symm))
                    have hbW8 : Below w.heap.size w W8 := hb7w.trans (hC8.below hb7w.size HS4w.out)
                    have hbW9 : Below w.heap.size w W9 := hbW8.trans (hb9.mono hbW8.size)
                    go_ret
                    exact ⟨rfl, hbW9.trans (hb10.mono hbW9.size)⟩

end Go.Proofs.Ythdpaakkamccbaa

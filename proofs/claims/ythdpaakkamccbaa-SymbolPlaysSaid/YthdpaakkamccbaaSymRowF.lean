/-
  Walks: Row's deferred closure; Row.
-/
import Derived.Test.YthdpaakkamccbaaSymTuple
import Derived.Defers
import Derived.Laws.Rows
import Derived.Laws.Tables
import Derived.Laws.CopyRow
namespace Go.Proofs.Ythdpaakkamccbaa
open Go.RowKit Go.Maps

/-- the closure, where the error is none: nothing. -/
theorem undo_idle (b5 b2 b6 b4 : Nat) (w : World) (h5 : w.cell? ⟨b5, 0, none⟩ = some (.int .i64 0)) :
    CallsD Try.prog 31 #[.pointer (some ⟨b5, 0, none⟩), .pointer (some ⟨b2, 0, none⟩), .pointer (some ⟨b6, 0, none⟩), .pointer (some ⟨b4, 0, none⟩)] .returning w fun e u' w' => u' = .returning ∧ (e = .returned (.tuple #[]) ∧ w' = w) := by
  go_enter_d Try.func31, Try.ntmps31
  go_wp2
  go_end0
  exact ⟨rfl, rfl⟩

theorem rowOf_info (ns : List Nat) (h : ns.length ≤ 24) : (Try.prog.info? 43).map (·.size) = some (rowOf ns).size := by
  rw [rowOf_size ns h]; kernel_rfl
theorem rowOf_one (ns : List Nat) : (rowOf ns).all (·.oneCell') = true := by
  rw [Array.all_eq_true_iff_forall_mem]
  intro v hv
  simp only [rowOf, List.mem_toArray, List.mem_append, List.mem_map, List.mem_replicate] at hv
  rcases hv with ⟨n, _, rfl⟩ | ⟨_, rfl⟩ <;> rfl

theorem setRow_blk {w : World} {g : Nat} {t : TypeId} {cs cs' : Array Value} (h : Blk w g t cs) : Blk (w.setRow g cs') g t cs' :=
  setRow_heap w g cs cs' t (0, 0) h

theorem Chg.setRow {S : List Nat} {a w : World} (h : Chg S a w) {g : Nat} (hg : g ∈ S ∨ a.heap.size ≤ g) (cs : Array Value) : Chg S a (w.setRow g cs) :=
  ⟨h.os, h.tape, h.output, by rw [setRow_size]; exact h.size, fun k hk hn => by
    rw [setRow_other w g k cs (by rintro rfl; rcases hg with hg | hg; exact hn hg; omega)]; exact h.block k hk hn⟩

theorem undo_cut (b5 b2 b6 b4 tb most was : Nat) (vs : List Val) (S : List Nat) (cs : Array Value) (code : Int) (w : World) (hc : code ≠ 0) (h5 : w.cell? ⟨b5, 0, none⟩ = some (.int .i64 code)) (h2 : w.cell? ⟨b2, 0, none⟩ = some (.pointer (some ⟨tb, 0, none⟩)))
    (h6 : w.cell? ⟨b6, 0, none⟩ = some (.int .i64 (was : Int))) (h4 : Blk w b4 43 cs) (hcs : cs.size = 24) (hT : Tab w tb most vs S) (hw : was ≤ vs.length) (h4S : b4 ∉ S) :
    CallsD Try.prog 31 #[.pointer (some ⟨b5, 0, none⟩), .pointer (some ⟨b2, 0, none⟩), .pointer (some ⟨b6, 0, none⟩), .pointer (some ⟨b4, 0, none⟩)] .returning w fun e u' w' => u' = .returning ∧ (e = .returned (.tuple #[]) ∧ Tab w' tb most (vs.take was) S ∧ Blk w' b4 43 (rowOf []) ∧ Chg (b4 :: S) w w') := by
  have hne : (code != 0) = true := by simpa using hc
  have hcut := Lib.hid (cut_ok hT was hw)
  have H4 := Lib.hid h4
  have h4l := h4.lt
  clear hT h4
  go_enter_d Try.func31, Try.ntmps31
  go_wp2_with (first
    | (go_at_call 12; refine hcut.out.mono ?_; rintro e w1 ⟨rfl, hT1, hC1⟩; have HT1 := Lib.hid hT1; have HC1 := Lib.hid hC1; have H41 := H4.out.same (hC1.block b4 h4l h4S); clear hT1 hC1)
    | refine wpList_store_row rfl 43 _ _ rfl b4 (rowOf []) rfl rfl 43 cs H41 (rowOf_info [] (by simp)) (by rw [hcs, rowOf_size [] (by simp)]) (rowOf_one []) ?_)
  go_end0
  refine ⟨rfl, HT1.out.same fun k hk => setRow_other _ _ _ _ (by rintro rfl; exact h4S hk), setRow_blk H41, (HC1.out.mono fun x hx => .tail _ hx).setRow (.inl (.head _)) _⟩

/-- a load of a whole row, quiet. -/
theorem quiet_load_row {P : Program} {o : Oper} {a : Act} {K : Act → Prop} {w0 : World} (ty : TypeId) (x : Operand) (ho : o.op = .load ty x)
    (g : Nat) (hx : a.eval x = .pointer (some ⟨g, 0, none⟩)) (t : TypeId) (cs : Array Value) (fr : Nat × Nat) (d : TypeDesc) (hg : w0.heap[g]? = some (.cells cs t fr))
    (hu : P.underlying ty = some d) (hd : (match d with | .struct _ | .array _ _ => true | _ => false) = true) (hi : (P.info? ty).map (·.size) = some cs.size)
    (h : K (a.put o.dst (.agg cs))) : o.quiet P a (fun w' => ∃ n, w' = w0.drewN n) K := by
  refine ⟨_, ?_, h⟩
  rintro w' ⟨n, rfl⟩
  unfold Oper.quietAt execOp
  simp only [ho, hx, Instr.loadAt, Instr.sureAddr, Sem.run_bind, Sem.run_pure, Result.andThen_ok, run_loadVar_row (w0.drewN n) g t ty cs fr d hg hu hd hi]
  exact ⟨rfl, rfl⟩

/-- a row stored over itself, quiet. -/
theorem quiet_store_row {P : Program} {o : Oper} {a : Act} {K : Act → Prop} {w0 : World} (ty : TypeId) (x y : Operand) (ho : o.op = .store ty x y)
    (g : Nat) (cells : Array Value) (hx : a.eval x = .pointer (some ⟨g, 0, none⟩)) (hy : a.eval y = .agg cells)
    (t : TypeId) (hg : w0.heap[g]? = some (.cells cells t (0, 0))) (hi : (P.info? ty).map (·.size) = some cells.size) (h1 : cells.all (·.oneCell') = true)
    (h : K (a.put o.dst undef)) : o.quiet P a (fun w' => ∃ n, w' = w0.drewN n) K := by
  refine ⟨_, ?_, h⟩
  rintro w' ⟨n, rfl⟩
  have hs : (w0.drewN n).setRow g cells = w0.drewN n := setRow_self (w0.drewN n) g cells t (0, 0) hg
  unfold Oper.quietAt execOp
  simp only [ho, hx, hy, Instr.storeAt, Instr.sureAddr, Sem.run_bind, Sem.run_pure, Result.andThen_ok, run_storeVar_row (w0.drewN n) g t ty cells cells hg hi rfl h1, hs]
  exact ⟨rfl, rfl⟩

/-- one cell stored over itself. -/
theorem setCell_own {w : World} {g : Nat} {t : TypeId} {v : Value} (h : Blk w g t #[v]) : w.setCell ⟨g, 0, none⟩ v = w := by
  have := setCell_eq_setRow w g 0 #[v] t (0, 0) v h
  rw [this]
  exact setRow_self w g _ t (0, 0) h

theorem addStep_take (most : Nat) (vs : List Val) (u : Val) : vs <+: (addStep most vs u).1 := by
  unfold addStep
  split
  · exact List.prefix_refl _
  · split
    · exact List.prefix_refl _
    · split
      · exact List.prefix_append _ _
      · exact List.prefix_refl _

theorem addGo_take (most : Nat) : ∀ (us vs : List Val) (ns : List Nat), vs <+: (addGo most us vs ns).1
  | [], vs, ns => List.prefix_refl _
  | u :: us, vs, ns => by
    rw [addGo_cons]
    split
    · exact (addStep_take most vs u).trans (addGo_take most us _ _)
    · exact addStep_take most vs u

theorem addGo_len (most : Nat) : ∀ (us vs : List Val) (ns : List Nat), (addGo most us vs ns).2.1.length ≤ ns.length + us.length
  | [], vs, ns => by simp [addGo]
  | u :: us, vs, ns => by
    rw [addGo_cons]
    split
    · have := addGo_len most us (addStep most vs u).1 (ns ++ [(addStep most vs u).2.1])
      simp at this ⊢; omega
    · simp

/-- Row's answer: the table's values, the row's numbers, the code. -/
def rowGo (most : Nat) (us vs : List Val) : List Val × List Nat × Int :=
  if 24 < us.length then (vs, [], 1) else if (addGo most us vs []).2.2 = 0 then addGo most us vs [] else (vs, [], (addGo most us vs []).2.2)

theorem there_tab {w : World} {tb most : Nat} {vs : List Val} {S : List Nat} (h : Tab w tb most vs S) :
    Calls Try.prog 29 #[.pointer (some ⟨tb, 0, none⟩)] w fun e w' => e = .returned (.bool true) ∧ w' = w := by
  obtain ⟨mb, A, cap, D, ht, rfl⟩ := h
  exact there_any tb _ mb _ w ht.blk

theorem three_new (w : World) (t1 t2 t3 : TypeId) (c1 c2 c3 : Array Value) : Below w.heap.size w (((w.alloc (.cells c1 t1)).alloc (.cells c2 t2)).alloc (.cells c3 t3)) ∧ Blk (((w.alloc (.cells c1 t1)).alloc (.cells c2 t2)).alloc (.cells c3 t3)) w.heap.size t1 c1 ∧
    Blk (((w.alloc (.cells c1 t1)).alloc (.cells c2 t2)).alloc (.cells c3 t3)) (w.heap.size + 1) t2 c2 ∧ Blk (((w.alloc (.cells c1 t1)).alloc (.cells c2 t2)).alloc (.cells c3 t3)) (w.heap.size + 2) t3 c3 ∧ (((w.alloc (.cells c1 t1)).alloc (.cells c2 t2)).alloc (.cells c3 t3)).heap.size = w.heap.size + 3 := by
  refine ⟨(((Below.refl _ _).alloc (Nat.le_refl _) _).alloc (by simp) _).alloc (by simp; omega) _, ((Blk.new w _ _).alloc _).alloc _, ?_, ?_, by simp⟩
  · have := (Blk.new (w.alloc (.cells c1 t1)) t2 c2).alloc (.cells c3 t3)
    simpa using this
  · have := Blk.new ((w.alloc (.cells c1 t1)).alloc (.cells c2 t2)) t3 c3
    simpa using this

theorem row_results (tmps : Array Value) (w : World) (g4 g5 : Nat) (cs : Array Value) (code : Int) (h4 : tmps.getD 4 undef = .pointer (some ⟨g4, 0, none⟩)) (h5 : tmps.getD 5 undef = .pointer (some ⟨g5, 0, none⟩))
    (b4 : Blk w g4 43 cs) (hi : (Try.prog.info? 43).map (·.size) = some cs.size) (b5 : Blk w g5 27 #[.int .i64 code]) :
    (results Try.f17 tmps).run Try.prog w = .ok (.tuple #[.agg cs, .int .i64 code]) w := by
  have h4' : tmps[4]?.getD undef = .pointer (some ⟨g4, 0, none⟩) := by simpa using h4
  have h5' : tmps[5]?.getD undef = .pointer (some ⟨g5, 0, none⟩) := by simpa using h5
  have c5 : w.cell? ⟨g5, 0, none⟩ = some (.int .i64 code) := b5.cell 0
  have hl := run_loadVar_row (P := Try.prog) w g4 43 43 cs (0, 0) _ b4 Try.underlying43 rfl hi
  simp [results, Try.results17, h4', h5', asAddr, hl]
  simp [go_sem, c5]

set_option maxHeartbeats 2000000 in
theorem row_any {w : World} {tb most : Nat} {vs : List Val} {S : List Nat} (h : Tab w tb most vs S) (us : List Val) (A : Option Addr) (cap : Nat) (hrd : RdV w A us) (hdis : us ≠ [] → ∀ a, A = some a → a.block ∉ S ∧ a.block < w.heap.size) (hwf : ∀ u ∈ us, u.wf) :
    Calls Try.prog 17 #[.pointer (some ⟨tb, 0, none⟩), .slice A us.length cap] w fun e w' =>
      ∃ S', e = .returned (.tuple #[.agg (rowOf (rowGo most us vs).2.1), .int .i64 (rowGo most us vs).2.2]) ∧ Tab w' tb most (rowGo most us vs).1 S' ∧ Chg S w w' ∧ Grew w.heap.size S S' := by
  have hmf : ∀ (fn : Fn) (first cap : Array Value) (w : World), (Instr.makeFunc fn first cap).run Try.prog w = .ok (.func fn first cap) w := fun _ _ _ _ => rfl
  have HT := Lib.hid h
  have Hrd := Lib.hid hrd
  have Hdis := Lib.hid hdis
  have Hwf := Lib.hid hwf
  clear h hrd hdis hwf
  by_cases h24 : 24 < us.length
  · have hd : decide ((24 : Int) < (us.length : Int)) = true := by simp; omega
    have hro : rowGo most us vs = (vs, [], 1) := by unfold rowGo; rw [if_pos h24]
    rw [hro]
    clear hro
    go_enter_defers Try.func17, Try.ntmps17
    go_wp2_with (first
      | (go_at_call 29; refine (there_tab (HT.out.below (three_new w _ _ _ _ _ _).1)).mono ?_; rintro e w1 ⟨rfl, hw1⟩
         have h3 : Below w.heap.size w w1 ∧ Blk w1 w.heap.size 25 #[.pointer (some ⟨tb, 0, none⟩)] ∧ Blk w1 (w.heap.size + 1) 43 (rowOf []) ∧ Blk w1 (w.heap.size + 2) 27 #[.int .i64 0] ∧ w1.heap.size = w.heap.size + 3 := by
           rw [hw1]; exact three_new w _ _ _ _ _ _
         clear hw1
         obtain ⟨hB1, b2, b4, b5, hs1⟩ := h3
         have hsf : w1.setRow (w.heap.size + 1) (rowOf []) = w1 := setRow_self _ _ _ _ _ b4
         have c5 : w1.cell? ⟨w.heap.size + 1 + 1, 0, none⟩ = some (.int .i64 0) := b5.cell 0
         have f5 : w1.frozen? ⟨w.heap.size + 1 + 1, 0, none⟩ = false := b5.frozen 0)
      | refine wpList_load_row rfl 43 _ rfl (w.heap.size + 1) rfl 43 (rowOf []) (0, 0) _ b4 Try.underlying43 rfl (rowOf_info [] (by simp)) ?_
      | (refine wpList_store_row rfl 43 _ _ rfl (w.heap.size + 1) (rowOf []) rfl rfl 43 (rowOf []) b4 (rowOf_info [] (by simp)) rfl (rowOf_one []) ?_; rw [hsf]))
    have b5 := b5.set_ 0 (.int .i64 1)
    have b4 := b4.far (p := ⟨w.heap.size + 2, 0, none⟩) (by simp) (.int .i64 1)
    refine ⟨_, row_results _ _ _ _ _ 1 rfl rfl b4 (rowOf_info [] (by simp)) b5, S, rfl, (HT.out.below hB1).same fun k hk => Below.heap_setCell _ ⟨w.heap.size + 2, 0, none⟩ _ _ (by have := HT.out.lt k hk; simp; omega), (Chg.of_below _ hB1).setCell (.inr (by simp; omega)) _, Grew.refl _ _⟩
  · have hd : decide ((24 : Int) < (us.length : Int)) = false := by simp; omega
    have hgl := addGo_len most us vs []
    have hgt := addGo_take most us vs []
    have hro : rowGo most us vs = if (addGo most us vs []).2.2 = 0 then addGo most us vs [] else (vs, [], (addGo most us vs []).2.2) := by unfold rowGo; rw [if_neg h24]
    rw [hro]
    clear hro
    obtain ⟨⟨vs3, ns3, code⟩, hg⟩ : ∃ r, addGo most us vs [] = r := ⟨_, rfl⟩
    rw [hg] at hgl hgt ⊢
    simp only at hgl hgt ⊢
    have Hg := Lib.hid hg
    have Hgl := Lib.hid hgl
    have Hgt := Lib.hid hgt
    clear hg hgl hgt
    go_enter_defers Try.func17, Try.ntmps17
    go_wp2_with (go_at_call 29; refine (there_tab (HT.out.below (three_new w _ _ _ _ _ _).1)).mono ?_; rintro e w1 ⟨rfl, hw1⟩
                 have h3 : Below w.heap.size w w1 ∧ Blk w1 w.heap.size 25 #[.pointer (some ⟨tb, 0, none⟩)] ∧ Blk w1 (w.heap.size + 1) 43 (rowOf []) ∧ Blk w1 (w.heap.size + 2) 27 #[.int .i64 0] ∧ w1.heap.size = w.heap.size + 3 := by
                   rw [hw1]; exact three_new w _ _ _ _ _ _
                 clear hw1
                 obtain ⟨hB1, b2, b4, b5, hs1⟩ := h3
                 have hT1 := HT.out.below hB1
                 obtain ⟨Av, capv, cv⟩ : ∃ Av capv, w1.cell? ⟨tb, 2, none⟩ = some (.slice Av vs.length capv) := by obtain ⟨mb, A, cap, D, ht, rfl⟩ := hT1; exact ⟨_, _, ht.blk.cell 2⟩
                 have HT1 := Lib.hid hT1
                 have c2 : w1.cell? ⟨w.heap.size, 0, none⟩ = some (.pointer (some ⟨tb, 0, none⟩)) := b2.cell 0
                 have f2 : w1.frozen? ⟨w.heap.size, 0, none⟩ = false := b2.frozen 0
                 have c5 : w1.cell? ⟨w.heap.size + 1 + 1, 0, none⟩ = some (.int .i64 0) := b5.cell 0
                 have f5 : w1.frozen? ⟨w.heap.size + 1 + 1, 0, none⟩ = false := b5.frozen 0
                 have B2 := Lib.hid b2
                 have B4 := Lib.hid b4
                 have B5 := Lib.hid b5
                 have HS1 := Lib.hid hs1
                 clear hT1 b2 b4 b5 hs1)
    obtain ⟨w2, hw2⟩ : ∃ w2, w2 = w1.alloc (.cells #[.int .i64 (vs.length : Int)] 3) := ⟨_, rfl⟩
    rw [← hw2]
    have hB2 : Below w1.heap.size w1 w2 := by rw [hw2]; exact (Below.refl _ _).alloc (Nat.le_refl _) _
    have hl2 : w2.heap.size = w1.heap.size + 1 := by rw [hw2]; simp
    have HL2 := Lib.hid hl2
    clear hl2
    have b6 : Blk w2 w1.heap.size 3 #[.int .i64 (vs.length : Int)] := by rw [hw2]; exact Blk.new _ _ _
    clear hw2
    have c2' : w2.cell? ⟨w.heap.size, 0, none⟩ = some (.pointer (some ⟨tb, 0, none⟩)) := (B2.out.same (hB2.block _ B2.out.lt)).cell 0
    have c5' : w2.cell? ⟨w.heap.size + 1 + 1, 0, none⟩ = some (.int .i64 0) := (B5.out.same (hB2.block _ B5.out.lt)).cell 0
    refine still_tail 4 (by kernel_rfl) (by kernel_rfl) ?_
    simp only [List.take_succ_cons, List.take_zero, List.drop_succ_cons, List.drop_zero]
    repeat still_step
    refine wpStill_nil ?_
    have hT2 : Tab w2.drew tb most vs S := (HT1.out.below hB2).same fun k hk => rfl
    have hlt4 : w.heap.size + 1 < w1.heap.size := B4.out.lt
    have hrow2 : Blk w2.drew (w.heap.size + 1) 43 (rowOf []) := B4.out.same (hB2.block _ hlt4)
    have hrb : w.heap.size + 1 ∉ S := fun hk => by have := HT.out.lt _ hk; omega
    have hrd2 : RdV w2.drew A us := ((Hrd.out.below hB1).below hB2).keep (Nat.le_refl _) (fun a _ => rfl)
    have hea := Lib.hid (each_add (w.heap.size + 1) tb most vs us A cap S w2.drew hT2 hrd2 (fun hne a ha hm => by
      obtain ⟨h1, h2⟩ := Hdis.out hne a ha
      rcases List.mem_cons.1 hm with hm | hm
      · omega
      · exact h1 hm) Hwf.out (by omega) hrow2 hrb)
    rw [Hg.out] at hea
    simp only at hea
    clear hT2 hrow2 hrd2 c5 c2
    go_wp2_with (go_at_call 32; refine hea.out.mono ?_; rintro e W3 ⟨S3, rfl, hT3, hr3, hC3, hS3, hrb3⟩
                 have hnS : ∀ k, w.heap.size ≤ k → k ≠ w.heap.size + 1 → k ∉ (w.heap.size + 1) :: S := fun k hk hn hm => by
                   rcases List.mem_cons.1 hm with hm | hm
                   · exact hn hm
                   · have := HT.out.lt k hm; omega
                 have hl1 := HS1.out
                 have hl2 := HL2.out
                 have b5 : Blk W3 (w.heap.size + 1 + 1) 27 #[.int .i64 0] := (B5.out.same (hB2.block _ B5.out.lt)).same (hC3.block _ (show w.heap.size + 1 + 1 < w2.heap.size by omega) (hnS _ (by omega) (by omega)))
                 have b2 : Blk W3 w.heap.size 25 #[.pointer (some ⟨tb, 0, none⟩)] := (B2.out.same (hB2.block _ B2.out.lt)).same (hC3.block _ (show w.heap.size < w2.heap.size by omega) (hnS _ (by omega) (by omega)))
                 have b6 : Blk W3 w1.heap.size 3 #[.int .i64 (vs.length : Int)] := b6.same (hC3.block _ (show w1.heap.size < w2.heap.size by omega) (hnS _ (by omega) (by omega)))
                 have c5 : W3.cell? ⟨w.heap.size + 1 + 1, 0, none⟩ = some (.int .i64 0) := b5.cell 0
                 have f5 : W3.frozen? ⟨w.heap.size + 1 + 1, 0, none⟩ = false := b5.frozen 0
                 have HT3 := Lib.hid hT3
                 have HR3 := Lib.hid hr3
                 have HC3 := Lib.hid hC3
                 have HS3 := Lib.hid hS3
                 have HB5 := Lib.hid b5
                 have HB2 := Lib.hid b2
                 have HB6 := Lib.hid b6
                 clear hT3 hr3 hC3 hS3 b5 b2 b6 hl1 hl2 hnS)
    have hC0 : Chg S w w2.drew := (Chg.of_below _ (hB1.trans (hB2.mono (by have := HS1.out; omega)))).drew
    have hC3 : Chg S w W3 := hC0.trans HC3.out (fun x hx => by
      rcases List.mem_cons.1 hx with rfl | hx
      · right; omega
      · left; exact hx)
    have hC4 : Chg S w (W3.setCell ⟨w.heap.size + 1 + 1, 0, none⟩ (.int .i64 code)) := hC3.setCell (.inr (by simp; omega)) _
    have hS4 : ∀ k ∈ S3, k ≠ w.heap.size + 1 + 1 ∧ (k ∈ S ∨ w.heap.size ≤ k) := fun k hk => by
      have h1 := HS1.out
      have h2 := HL2.out
      rcases HS3.out k hk with hk | hk
      · exact ⟨by have := HT.out.lt k hk; omega, .inl hk⟩
      · have hk : w2.heap.size ≤ k := hk
        exact ⟨by omega, .inr (by omega)⟩
    have b5 := HB5.out.set_ 0 (.int .i64 code)
    have b4 := HR3.out.far (p := ⟨w.heap.size + 1 + 1, 0, none⟩) (by simp) (.int .i64 code)
    have b2 := HB2.out.far (p := ⟨w.heap.size + 1 + 1, 0, none⟩) (by simp; omega) (.int .i64 code)
    have b6 := HB6.out.far (p := ⟨w.heap.size + 1 + 1, 0, none⟩) (by have := HS1.out; simp; omega) (.int .i64 code)
    have hT4 : Tab (W3.setCell ⟨w.heap.size + 1 + 1, 0, none⟩ (.int .i64 code)) tb most vs3 S3 := HT3.out.same fun k hk => Below.heap_setCell _ _ _ _ (hS4 k hk).1
    generalize W3.setCell ⟨w.heap.size + 1 + 1, 0, none⟩ (.int .i64 code) = W4 at *
    clear c5 f5 hC3 HT3 HR3 HB2 HB5 HB6
    have b5 : Blk W4 (w.heap.size + 1 + 1) 27 #[.int .i64 code] := b5
    have hn24 : ns3.length ≤ 24 := by have := Hgl.out; simp at this; omega
    have c5 : W4.cell? ⟨w.heap.size + 1 + 1, 0, none⟩ = some (.int .i64 code) := b5.cell 0
    refine wp_region_quiet_lit (by kernel_rfl) (by kernel_rfl) ?_
    refine wpQuiet_step (fun K hK => ?_)
    rw [if_pos (by rfl)]
    refine quiet_load_row 43 _ rfl (w.heap.size + 1) rfl 43 (rowOf ns3) (0, 0) _ b4 Try.underlying43 rfl (rowOf_info ns3 hn24) (hK _ ?_)
    clear hK K
    go_simp
    quiet_step (fail)
    refine wpQuiet_step (fun K hK => ?_)
    rw [if_pos (by rfl)]
    refine quiet_store_row 43 _ _ rfl (w.heap.size + 1) (rowOf ns3) rfl rfl 43 b4 (rowOf_info ns3 hn24) (rowOf_one ns3) (hK _ ?_)
    clear hK K
    have f5 : W4.frozen? ⟨w.heap.size + 1 + 1, 0, none⟩ = false := b5.frozen 0
    have hself : ∀ n, (W4.drewN n).setCell ⟨w.heap.size + 1 + 1, 0, none⟩ (.int .i64 code) = W4.drewN n := fun n => setCell_own (b5.drewN n)
    quiet_step (fail)
    refine wpQuiet_nil ?_
    intro n
    have hT5 : Tab (W4.drewN n) tb most vs3 S3 := hT4.same fun k _ => rfl
    have hC5 : Chg S w (W4.drewN n) := hC4.trans ⟨rfl, rfl, rfl, Nat.le_refl _, fun _ _ _ => rfl⟩ (fun _ hx => .inl hx)
    have b5 : Blk (W4.drewN n) (w.heap.size + 1 + 1) 27 #[.int .i64 code] := b5
    have b4 : Blk (W4.drewN n) (w.heap.size + 1) 43 (rowOf ns3) := b4
    have b2 : Blk (W4.drewN n) w.heap.size 25 #[.pointer (some ⟨tb, 0, none⟩)] := b2
    have b6 : Blk (W4.drewN n) w1.heap.size 3 #[.int .i64 (vs.length : Int)] := b6
    clear hself
    generalize W4.drewN n = W5 at *
    go_wp2
    · -- none
      have hz : code = 0 := by assumption
      subst hz
      refine leaves_cons (f := 31) (args := #[.pointer (some ⟨w.heap.size + 1 + 1, 0, none⟩), .pointer (some ⟨w.heap.size, 0, none⟩), .pointer (some ⟨w1.heap.size, 0, none⟩), .pointer (some ⟨w.heap.size + 1, 0, none⟩)]) (by simp) (by simp [go_sem]) ?_
      refine (undo_idle _ _ _ _ W5 (b5.cell 0)).mono ?_
      rintro e u' W6 ⟨rfl, rfl, rfl⟩
      exact ⟨_, row_results _ _ _ _ _ 0 rfl rfl b4 (rowOf_info ns3 hn24) b5, rfl, S3, hT5, hC5, ⟨fun k hk => (hS4 k hk).2, HS3.out.map⟩⟩
    · -- an error: undone
      refine leaves_cons (f := 31) (args := #[.pointer (some ⟨w.heap.size + 1 + 1, 0, none⟩), .pointer (some ⟨w.heap.size, 0, none⟩), .pointer (some ⟨w1.heap.size, 0, none⟩), .pointer (some ⟨w.heap.size + 1, 0, none⟩)]) (by simp) (by simp [go_sem]) ?_
      have hl : vs.length ≤ vs3.length := Hgt.out.length_le
      refine (undo_cut _ _ _ _ tb most vs.length vs3 S3 (rowOf ns3) code W5 h (b5.cell 0) (b2.cell 0) (b6.cell 0) b4 (rowOf_size ns3 hn24) hT5 hl hrb3).mono ?_
      rintro e u' W6 ⟨rfl, rfl, hT6, hr6, hC6⟩
      have hH := HS1.out
      have b56 : Blk W6 (w.heap.size + 1 + 1) 27 #[.int .i64 code] := b5.same (hC6.block _ b5.lt (fun hm => by
        rcases List.mem_cons.1 hm with hm | hm
        · omega
        · exact (hS4 _ hm).1 rfl))
      refine ⟨_, row_results _ W6 _ _ _ code rfl rfl hr6 (rowOf_info [] (by simp)) b56, rfl, S3, ?_, hC5.trans hC6 (fun x hx => ?_), ⟨fun k hk => (hS4 k hk).2, HS3.out.map⟩⟩
      · rw [← List.prefix_iff_eq_take.1 Hgt.out] at hT6
        exact hT6
      · rcases List.mem_cons.1 hx with rfl | hx
        · right; omega
        · exact (hS4 x hx).2

end Go.Proofs.Ythdpaakkamccbaa

/-
  JoinNone's walk.
-/
import Derived.Test.YtgjdgincebchhaaGreatDoorDoes
import Derived.Test.YtgjdgincebchhaaGreatDoorOpen
namespace Go.Proofs.YtgjdgincebchhaaGreatDoor
open Go Go.RowKit

theorem ptr_inj {a b : Nat} {n m : Nat} (h : [Value.slice (some ⟨a, 0, none⟩) n m] = [Value.slice (some ⟨b, 0, none⟩) n m]) : a = b := by
  simp only [List.cons.injEq, Value.slice.injEq, Option.some.injEq, Addr.mk.injEq, and_true] at h
  exact h

set_option maxRecDepth 100000 in
theorem run_ov (w : World) (bb : Nat) (q : Option Addr) (h : Bo w bb q) (hp : Pow w) (on kind : Int) (p : ByteArray) (A : Option Addr) (n cap : Nat) (x : Pl) (hx : x.lies w) (B C : Option Addr) (capB capC : Nat) (xs ys : List Int)
    (hB : Rd w B (xs.map (Value.int .i64))) (hlB : xs.length * 8 ≤ 140737488351232) (hC : Rd w C (ys.map (Value.int .i64))) (hlC : ys.length * 8 ≤ 140737488351232) :
    Calls Tryz.prog 20 #[.pointer (some ⟨bb, 0, none⟩), .agg (([.int .i64 on, .int .i64 kind, .string p, .slice A n cap] : List Value) ++ (x.cells ++ ([.slice B xs.length capB, .slice C ys.length capC] : List Value))).toArray] w fun e w' => e = .returned (.bool true) ∧ Below w.heap.size w w' := by
  have ht := fun (W : World) (hW : Below w.heap.size w W) => twinPlan_any x W (hp.below hW (Nat.le_refl _)) (hx.below hW)
  have hl := fun (W : World) (hW : Below w.heap.size w W) (r : List Value) (lo : Nat) (hT : x.T lo W r) => leftPlan_any x r lo W (hp.below hW (Nat.le_refl _)) hT (hx.below hW)
  have hok := x.ok_
  obtain ⟨⟨pp, A0, cap0, head, A1, cap1, body⟩, A2, cap2, steps⟩ := x
  refine run_both w bb q h kind on p A n cap pp A0 A1 A2 B C head.length body.length steps.length xs.length ys.length cap0 cap1 cap2 capB capC
    (Pl.T ⟨⟨pp, A0, cap0, head, A1, cap1, body⟩, A2, cap2, steps⟩) hok ?_ ?_
    (FlatT (xs.map (Value.int .i64)) markIntL xs.length) (FlatT.ok _ _ _) ?_ ?_ (FlatT (ys.map (Value.int .i64)) markIntL ys.length) (FlatT.ok _ _ _) ?_ ?_
  · intro W hW
    refine (ht W hW).mono ?_
    rintro e w' ⟨r, rfl, hT, hb⟩
    have hT' := hT
    obtain ⟨a, b, c, g2, rfl, ⟨g0, g1, e1, _, _⟩, _⟩ := hT'
    simp only [List.cons.injEq, and_true] at e1
    obtain ⟨rfl, rfl, rfl⟩ := e1
    exact ⟨g0, g1, g2, rfl, hT, hb⟩
  · intro W hW g0 g1 g2 lo hT
    exact hl W hW _ lo hT
  · intro W hW
    refine (twinInts_any B capB xs W (hB.below hW (Nat.le_refl _)) hlB).mono ?_
    rintro e w' ⟨g, rfl, h1, h2, h3, h4, h5⟩
    exact ⟨g, rfl, ⟨g, rfl, h1, h2, h3, by rw [List.length_map]; exact h4⟩, h5⟩
  · rintro W hW g lo ⟨g', e, h1, h2, h3, _⟩
    obtain rfl := ptr_inj e
    exact leftInts_any g B capB xs W h2 h3 (hB.below hW (Nat.le_refl _)) (by omega)
  · intro W hW
    refine (twinInts_any C capC ys W (hC.below hW (Nat.le_refl _)) hlC).mono ?_
    rintro e w' ⟨g, rfl, h1, h2, h3, h4, h5⟩
    exact ⟨g, rfl, ⟨g, rfl, h1, h2, h3, by rw [List.length_map]; exact h4⟩, h5⟩
  · rintro W hW g lo ⟨g', e, h1, h2, h3, _⟩
    obtain rfl := ptr_inj e
    exact leftInts_any g C capC ys W h2 h3 (hC.below hW (Nat.le_refl _)) (by omega)

set_option maxRecDepth 100000 in
theorem does_any (w : World) (bb : Nat) (q : Option Addr) (h : Bo w bb q) (hp : Pow w) (o : Ov) (ho : o.lies w) :
    Calls Tryz.prog 4 #[.pointer (some ⟨bb, 0, none⟩), .agg o.cells.toArray] w fun e w' => e = .returned (.bool true) ∧ Below w.heap.size w w' := by
  obtain ⟨on, kind, p, A, cap, args, x, B, capB, xs, C, capC, ys⟩ := o
  obtain ⟨hrd, hok, hlen, hx, hB, hlB, hC, hlC⟩ := ho
  simp only at hrd hok hlen hx hB hlB hC hlC
  have hrun := fun (W : World) (hW : Below w.heap.size w W) => run_ov W bb q (h.below hW) (hp.below hW (Nat.le_refl _)) on 5 p A args.length cap x (hx.below hW) B C capB capC xs ys (hB.below hW (Nat.le_refl _)) hlB (hC.below hW (Nat.le_refl _)) hlC
  have hby := fun (W : World) (hW : Below w.heap.size w W) => beyondRule_any x.rule W (hx.rule.below hW)
  obtain ⟨⟨pp, A0, cap0, head, A1, cap1, body⟩, A2, cap2, steps⟩ := x
  have hF0 : ∀ {lo : Nat} {W : World} {r : List Value}, FlatT args.flatten markValueL args.length lo W r → ∃ g : Nat, r = [.slice (some ⟨g, 0, none⟩) args.length (args.length + 1)] ∧ lo ≤ g ∧ g < W.heap.size ∧ W.there g 0 ((args.length + 1) * 3) := by
    rintro lo W r ⟨g, h1, h2, h3, _, h5⟩
    rw [flat_length (c := 3) fun r hr => (hok r hr).len] at h5
    refine ⟨g, h1, h2, h3, ?_⟩
    have e : args.length * 3 + markValueL.length = (args.length + 1) * 3 := by rw [Nat.add_mul]; rfl
    rw [← e]
    exact h5
  have htw := fun (W : World) (hW : Below w.heap.size w W) => twinFact_any p A cap args W (hrd.below hW (Nat.le_refl _)) hok hlen
  have hlf := fun (W : World) (hW : Below w.heap.size w W) (g lo : Nat) (hT : FlatT args.flatten markValueL args.length lo W [.slice (some ⟨g, 0, none⟩) args.length (args.length + 1)]) => leftFact_any p g A cap lo args W hT (hrd.below hW (Nat.le_refl _)) hok hlen
  by_cases h1 : kind = 1
  · subst h1
    exact does_add w bb q h on p A args.length cap pp A0 A1 A2 B C head.length body.length steps.length xs.length ys.length cap0 cap1 cap2 capB capC _ (FlatT.ok _ _ _) hF0 htw hlf hlen
  by_cases h2 : kind = 2
  · subst h2
    exact does_has w bb q h on p A args.length cap pp A0 A1 A2 B C head.length body.length steps.length xs.length ys.length cap0 cap1 cap2 capB capC _ (FlatT.ok _ _ _) hF0 htw hlf hlen
  by_cases h3 : kind = 3
  · subst h3
    exact does_size w bb q h on p A args.length cap pp A0 A1 A2 B C head.length body.length steps.length xs.length ys.length cap0 cap1 cap2 capB capC
  by_cases h4 : kind = 4
  · subst h4
    exact does_facts w bb q h on p A args.length cap pp A0 A1 A2 B C head.length body.length steps.length xs.length ys.length cap0 cap1 cap2 capB capC
  by_cases h5 : kind = 5
  · subst h5
    exact does_run w bb q h on p A args.length cap pp A0 A1 A2 B C head.length body.length steps.length xs.length ys.length cap0 cap1 cap2 capB capC hby hrun
  · exact does_else w bb kind h1 h2 h3 h4 h5 on p A args.length cap pp A0 A1 A2 B C head.length body.length steps.length xs.length ys.length cap0 cap1 cap2 capB capC

theorem wpList_load_mid_g {P : Program} {ops : Array Oper} {rest : List Oper} {o : Oper} {a : Act} {w : World} {Q : Exit → Act → World → Prop} (ty : TypeId) (x : Operand) (ho : o.op = .load ty x) (hw : Region.wanted o (yielded ops a.tmps) = true)
    (b k : Nat) (hx : a.eval x = .pointer (some ⟨b, k, none⟩)) (cs : List Value) (d : TypeDesc) (hc : w.rangeAt b k cs)
    (hu : P.underlying ty = some d) (hd : d.isRow = true) (hi : (P.info? ty).map (·.size) = some cs.length)
    (h : wpList P ops Q rest (a.put o.dst (.agg cs.toArray)) w) : wpList P ops Q (o :: rest) a w :=
  wpList_step fun _ hK => by rw [if_pos hw]; exact wp_load_mid ty x ho b k hx cs d hc hu hd hi (hK _ _ h)

@[go_sem high] theorem build_both0 (w : World) : (Instr.build 38 #[]).run Tryz.prog w = .ok (.agg #[.pointer none, .pointer none]) w := run_build w 38 _ _ (by kernel_rfl)
@[go_sem high] theorem build_both1 (p : Option Addr) (w : World) : (Instr.build 38 #[(0, .pointer p)]).run Tryz.prog w = .ok (.agg #[.pointer p, .pointer none]) w := run_build w 38 _ _ (by kernel_rfl)
@[go_sem high] theorem build_world (w : World) : (Instr.build 42 #[]).run Tryz.prog w = .ok (.agg #[.pointer none, .map none]) w := run_build w 42 _ _ (by kernel_rfl)

theorem four_rows (w : World) (t1 t2 t3 t4 : TypeId) (l1 l2 l3 l4 : List Value) (W : World) (hW : (((w.alloc (.cells l1.toArray t1)).alloc (.cells l2.toArray t2)).alloc (.cells l3.toArray t3)).alloc (.cells l4.toArray t4) = W) :
    Below w.heap.size w W ∧ W.rangeAt w.heap.size 0 l1 ∧ W.rangeAt (w.heap.size + 1) 0 l2 ∧ W.rangeAt (w.heap.size + 1 + 1) 0 l3 ∧ W.rangeAt (w.heap.size + 1 + 1 + 1) 0 l4 ∧ W.heap.size = w.heap.size + 4 := by
  obtain ⟨w1, h1⟩ : ∃ w1, w.alloc (.cells l1.toArray t1) = w1 := ⟨_, rfl⟩
  have r1 : w1.rangeAt w.heap.size 0 l1 := h1 ▸ new_range w l1 t1
  have s1 : w1.heap.size = w.heap.size + 1 := by rw [← h1]; simp
  have b1 : Below w.heap.size w w1 := h1 ▸ new_below w _
  rw [h1] at hW
  obtain ⟨w2, h2⟩ : ∃ w2, w1.alloc (.cells l2.toArray t2) = w2 := ⟨_, rfl⟩
  have r2 : w2.rangeAt w1.heap.size 0 l2 := h2 ▸ new_range w1 l2 t2
  have s2 : w2.heap.size = w1.heap.size + 1 := by rw [← h2]; simp
  have b2 : Below w1.heap.size w1 w2 := h2 ▸ new_below w1 _
  rw [h2] at hW
  obtain ⟨w3, h3⟩ : ∃ w3, w2.alloc (.cells l3.toArray t3) = w3 := ⟨_, rfl⟩
  have r3 : w3.rangeAt w2.heap.size 0 l3 := h3 ▸ new_range w2 l3 t3
  have s3 : w3.heap.size = w2.heap.size + 1 := by rw [← h3]; simp
  have b3 : Below w2.heap.size w2 w3 := h3 ▸ new_below w2 _
  rw [h3] at hW
  have r4 : W.rangeAt w3.heap.size 0 l4 := hW ▸ new_range w3 l4 t4
  have s4 : W.heap.size = w3.heap.size + 1 := by rw [← hW]; simp
  have b4 : Below w3.heap.size w3 W := hW ▸ new_below w3 _
  have b24 : Below w2.heap.size w2 W := b3.trans (b4.mono (by omega))
  have b14 : Below w1.heap.size w1 W := b2.trans (b24.mono (by omega))
  have q2 := rangeAt_below r2 b24 (by omega)
  have q3 := rangeAt_below r3 b4 (by omega)
  rw [s1] at q2
  rw [s2, s1] at q3
  rw [s3, s2, s1] at r4
  exact ⟨b1.trans (b14.mono (by omega)), rangeAt_below r1 b14 (by omega), q2, q3, r4, by omega⟩

theorem Ov.cells_length (o : Ov) : o.cells.length = 10 := rfl

set_option maxRecDepth 100000 in
set_option maxHeartbeats 4000000 in
theorem none_any (w : World) (o : Ov) (ho : o.lies w) (hp : Pow w) : Calls Tryz.prog 3 #[.agg o.cells.toArray] w fun e w' => e = .returned (.bool true) ∧ Below w.heap.size w w' := by
  have hd := fun (W : World) (bb : Nat) (q : Option Addr) (hW : Below w.heap.size w W) (hB : Bo W bb q) => does_any W bb q hB (hp.below hW (Nat.le_refl _)) o (ho.below hW)
  have hi : (Tryz.prog.info? 34).map (·.size) = some o.cells.length := by rw [o.cells_length]; exact sizeOp
  obtain ⟨L, hL⟩ : ∃ L, o.cells = L := ⟨_, rfl⟩
  rw [hL] at hd hi ⊢
  have Hd := Lib.hid hd
  have hlives := Lib.hid lives_any
  clear hL hd ho hp
  go_enter Tryz.func3, Tryz.ntmps3
  go_upto_region 3 with fail
  obtain ⟨W0, hW0⟩ : ∃ W0, (((w.alloc (.cells L.toArray 34)).alloc (.cells #[.pointer none, .pointer none] 38)).alloc (.cells #[.pointer none, .map none] 42)).alloc (.cells #[.pointer (some ⟨w.heap.size + 1 + 1, 0, none⟩), .pointer none] 38) = W0 := ⟨_, rfl⟩
  rw [hW0]
  obtain ⟨hB, r1, ra, rz, rb, hs⟩ := four_rows w _ _ _ _ L [.pointer none, .pointer none] [.pointer none, .map none] [.pointer (some ⟨w.heap.size + 1 + 1, 0, none⟩), .pointer none] W0 hW0
  have hb1 : Bo W0 (w.heap.size + 1) none := ⟨by omega, ra 0 _ rfl, ra 1 _ rfl, .inl rfl⟩
  have hb2 : Bo W0 (w.heap.size + 1 + 1 + 1) (some ⟨w.heap.size + 1 + 1, 0, none⟩) := ⟨by omega, rb 0 _ rfl, rb 1 _ rfl, .inr ⟨_, rfl, by omega, rz 1 _ rfl⟩⟩
  have HB := Lib.hid hB
  have Hr1 := Lib.hid r1
  have Hb1 := Lib.hid hb1
  have Hb2 := Lib.hid hb2
  have Hlt := Lib.hid (show w.heap.size < W0.heap.size by omega)
  have Hd1 := Lib.hid (Hd.out W0 (w.heap.size + 1) none hB hb1)
  clear hW0 hB r1 ra rz rb hs hb1 hb2
  go_wp2_with (first
    | (refine tw_at_load 34 _ rfl ?_; first
        | refine wpList_load_mid_g 34 _ rfl rfl w.heap.size 0 rfl L _ (rangeAt_below Hr1.out HW1.out Hlt.out) Tryz.underlying34 rfl hi ?_
        | refine wpList_load_mid_g 34 _ rfl rfl w.heap.size 0 rfl L _ Hr1.out Tryz.underlying34 rfl hi ?_)
    | (go_at_call 4; refine (Hd.out W1 (w.heap.size + 1 + 1 + 1) _ (HB.out.trans (HW1.out.mono HB.out.size)) (Hb2.out.below HW1.out)).mono ?_; rintro e W2 ⟨rfl, hb2⟩
       have HW2 := Lib.hid (show Below W0.heap.size W0 W2 from HW1.out.trans (hb2.mono HW1.out.size))
       have ha2 := (Hb1.out.below HW2.out).c0)
    | (go_at_call 4; refine Hd1.out.mono ?_; clear Hd1; rintro e W1 ⟨rfl, hb1⟩
       have HW1 := Lib.hid hb1
       clear hb1)
    | (go_at_call 5; refine (facts_no W3 _ (Hb2.out.below HW3.out).no).mono ?_; rintro e W4 ⟨rfl, hb4⟩
       have HW4 := Lib.hid (show Below W0.heap.size W0 W4 from HW3.out.trans (hb4.mono HW3.out.size)))
    | (go_at_call 5; refine (facts_no W2 _ (Hb1.out.below HW2.out).no).mono ?_; rintro e W3 ⟨rfl, hb3⟩
       have HW3 := Lib.hid (show Below W0.heap.size W0 W3 from HW2.out.trans (hb3.mono HW2.out.size))
       have ha3 := (Hb2.out.below HW3.out).c0)
    | (go_at_call 6; refine (hlives.out W4).mono ?_; rintro e W5 ⟨rfl, hb5⟩))
  go_ret
  exact ⟨rfl, HB.out.trans ((HW4.out.trans (hb5.mono HW4.out.size)).mono HB.out.size)⟩

end Go.Proofs.YtgjdgincebchhaaGreatDoor

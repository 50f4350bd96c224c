/-
  Walks: records of several parts, copied; is the copy still what it was? By what is known of the parts.
-/
import Derived.Test.YtgjdgincebchhaaGreatDoorRecs
namespace Go.Proofs.YtgjdgincebchhaaGreatDoor
open Go Go.RowKit

theorem rangeAt_mid {w : World} {b o : Nat} {A B C vs : List Value} (h : w.rangeAt b o (A ++ (B ++ C))) (hl : vs.length = B.length) (ht : w.there b (o + A.length) vs.length) : (w.setCells b (o + A.length) vs).rangeAt b o (A ++ (vs ++ C)) := by
  refine rangeAt_append (World.rangeAt_setCells_apart (rangeAt_left h) _ _ _ (.inr (.inl (Nat.le_refl _)))) (rangeAt_append (World.rangeAt_setCells_same _ _ _ _ ht) ?_)
  have h2 := rangeAt_right (rangeAt_right h)
  rw [← hl] at h2
  exact World.rangeAt_setCells_apart h2 _ _ _ (.inr (.inr (Nat.le_refl _)))

set_option maxHeartbeats 4000000 in
set_option maxRecDepth 4000 in
theorem twinLiteral_of (k rl : Int) (p : ByteArray) (A0 : Option Addr) (n0 cap0 : Nat) (x1a x1b x1c x1d x1e x1f : Value) (x2a x2b x2c x2d x2e x2f : Value) (Tq0 Tq1 Tq2 : Tp) (w : World) (_ho1 : ∀ v ∈ [x1a, x1b, x1c, x1d, x1e, x1f], v.oneCell' = true) (_ho2 : ∀ v ∈ [x2a, x2b, x2c, x2d, x2e, x2f], v.oneCell' = true)
    (hT0 : TpOk Tq0) (hc0 : ∀ W : World, Below w.heap.size w W → Calls Tryz.prog 275 #[(.agg #[.string p, (.slice A0 n0 cap0)])] W fun e W' => ∃ g0 : Nat, e = .returned (.agg #[.string p, (.slice (some ⟨g0, 0, none⟩) n0 (n0 + 1))]) ∧ Tq0 W.heap.size W' [(.slice (some ⟨g0, 0, none⟩) n0 (n0 + 1))] ∧ Below W.heap.size W W')
    (hT1 : TpOk Tq1) (hc1 : ∀ W : World, Below w.heap.size w W → Calls Tryz.prog 276 #[(.agg #[x1a, x1b, x1c, x1d, x1e, x1f])] W fun e W' => ∃ y1a y1b y1c y1d y1e y1f : Value, e = .returned (.agg #[y1a, y1b, y1c, y1d, y1e, y1f]) ∧ (∀ v ∈ [y1a, y1b, y1c, y1d, y1e, y1f], v.oneCell' = true) ∧ Tq1 W.heap.size W' [y1a, y1b, y1c, y1d, y1e, y1f] ∧ Below W.heap.size W W')
    (hT2 : TpOk Tq2) (hc2 : ∀ W : World, Below w.heap.size w W → Calls Tryz.prog 276 #[(.agg #[x2a, x2b, x2c, x2d, x2e, x2f])] W fun e W' => ∃ y2a y2b y2c y2d y2e y2f : Value, e = .returned (.agg #[y2a, y2b, y2c, y2d, y2e, y2f]) ∧ (∀ v ∈ [y2a, y2b, y2c, y2d, y2e, y2f], v.oneCell' = true) ∧ Tq2 W.heap.size W' [y2a, y2b, y2c, y2d, y2e, y2f] ∧ Below W.heap.size W W') :
    Calls Tryz.prog 222 #[.agg #[.int .i8 k, .string p, (.slice A0 n0 cap0), .int .i8 rl, x1a, x1b, x1c, x1d, x1e, x1f, x2a, x2b, x2c, x2d, x2e, x2f]] w fun e w' => ∃ g0 : Nat, ∃ y1a y1b y1c y1d y1e y1f : Value, ∃ y2a y2b y2c y2d y2e y2f : Value, e = .returned (.agg #[.int .i8 k, .string p, (.slice (some ⟨g0, 0, none⟩) n0 (n0 + 1)), .int .i8 rl, y1a, y1b, y1c, y1d, y1e, y1f, y2a, y2b, y2c, y2d, y2e, y2f]) ∧ Tq0 w.heap.size w' [(.slice (some ⟨g0, 0, none⟩) n0 (n0 + 1))] ∧ (∀ v ∈ [y1a, y1b, y1c, y1d, y1e, y1f], v.oneCell' = true) ∧ Tq1 w.heap.size w' [y1a, y1b, y1c, y1d, y1e, y1f] ∧ (∀ v ∈ [y2a, y2b, y2c, y2d, y2e, y2f], v.oneCell' = true) ∧ Tq2 w.heap.size w' [y2a, y2b, y2c, y2d, y2e, y2f] ∧ Below w.heap.size w w' := by
  obtain ⟨W0, hW0⟩ : ∃ W0, (w.alloc (.cells #[.int .i8 k, .string p, (.slice A0 n0 cap0), .int .i8 rl, x1a, x1b, x1c, x1d, x1e, x1f, x2a, x2b, x2c, x2d, x2e, x2f] 93)).alloc (.cells #[.int .i8 0, .string ⟨#[]⟩, .slice none 0 0, .int .i8 0, .int .i8 0, .string ⟨#[]⟩, .int .i8 0, .int .i64 0, .string ⟨#[]⟩, .slice none 0 0, .int .i8 0, .string ⟨#[]⟩, .int .i8 0, .int .i64 0, .string ⟨#[]⟩, .slice none 0 0] 93) = W0 := ⟨_, rfl⟩
  have hB0 : Below w.heap.size w W0 := hW0 ▸ ((new_below w _).trans ((new_below _ _).mono (by simp)))
  have hs0 : w.heap.size + 2 ≤ W0.heap.size := by rw [← hW0]; simp
  have hr0 : W0.rangeAt w.heap.size 0 [.int .i8 k, .string p, (.slice A0 n0 cap0), .int .i8 rl, x1a, x1b, x1c, x1d, x1e, x1f, x2a, x2b, x2c, x2d, x2e, x2f] := hW0 ▸ rangeAt_below (new_range w [.int .i8 k, .string p, (.slice A0 n0 cap0), .int .i8 rl, x1a, x1b, x1c, x1d, x1e, x1f, x2a, x2b, x2c, x2d, x2e, x2f] 93) (new_below _ _) (by simp)
  have ht0 : W0.there w.heap.size 0 16 := hW0 ▸ there_below (new_there w #[.int .i8 k, .string p, (.slice A0 n0 cap0), .int .i8 rl, x1a, x1b, x1c, x1d, x1e, x1f, x2a, x2b, x2c, x2d, x2e, x2f] 93 16 rfl) (new_below _ _) (by simp)
  have hu0 : W0.there (w.heap.size + 1) 0 16 := by
    have := new_there (w.alloc (.cells #[.int .i8 k, .string p, (.slice A0 n0 cap0), .int .i8 rl, x1a, x1b, x1c, x1d, x1e, x1f, x2a, x2b, x2c, x2d, x2e, x2f] 93)) #[.int .i8 0, .string ⟨#[]⟩, .slice none 0 0, .int .i8 0, .int .i8 0, .string ⟨#[]⟩, .int .i8 0, .int .i64 0, .string ⟨#[]⟩, .slice none 0 0, .int .i8 0, .string ⟨#[]⟩, .int .i8 0, .int .i64 0, .string ⟨#[]⟩, .slice none 0 0] 93 16 rfl
    rw [hW0] at this
    simpa using this
  have HW0 := Lib.hid hW0
  have HT0 := Lib.hid hT0
  have Hc0 := Lib.hid hc0
  have HT1 := Lib.hid hT1
  have Hc1 := Lib.hid hc1
  have HT2 := Lib.hid hT2
  have Hc2 := Lib.hid hc2
  clear hW0 hT0 hc0 hT1 hc1 hT2 hc2
  have HB0 := Lib.hid hB0
  have Hs0 := Lib.hid hs0
  have Hr0 := Lib.hid hr0
  have Ht0 := Lib.hid ht0
  have Hu0 := Lib.hid hu0
  clear hB0 hs0 hr0 ht0 hu0
  go_enter Tryz.func222, Tryz.ntmps222
  go_wp2_with (refine tw_at_load 86 _ rfl ?_; refine Stopped.out ?_)
  refine ⟨?_⟩
  rw [HW0.out]
  have hcall0 := Hc0.out W0 HB0.out
  have Hcall0 := Lib.hid hcall0
  clear hcall0
  refine wpList_load_mid rfl 86 _ rfl w.heap.size 1 rfl [.string p, (.slice A0 n0 cap0)] _ (by have h := rangeAt_part Hr0.out 1 2; exact h) Tryz.underlying86 rfl sizeAtom ?_
  go_wp2_with (first
    | (go_at_call 275; refine Hcall0.out.mono ?_; rintro e W0x ⟨g0, rfl, hT0, hb0⟩
       have hsj := Hs0.out
       have Hrx := Lib.hid (rangeAt_below Hr0.out hb0 (by omega))
       have Htx := Lib.hid (there_below Ht0.out hb0 (by omega))
       have Hux := Lib.hid (there_below Hu0.out hb0 (by omega))
       have Hqx := Lib.hid hT0
       have Hbx := Lib.hid hb0
       clear hT0 hb0 hsj)
    | (refine tw_at_store 86 _ _ rfl ?_; refine Stopped.out ?_))
  refine ⟨?_⟩
  have hto := there_part Htx.out 1 2 (by omega)
  rw [Nat.zero_add] at hto
  refine wpList_store_mid (b := w.heap.size) (o := 1) rfl 86 _ _ rfl #[.string p, (.slice (some ⟨g0, 0, none⟩) n0 (n0 + 1))] rfl rfl hto sizeAtom (by simp [Value.oneCell']) ?_
  clear hto
  have hsj := Hs0.out
  have hsx := Hbx.out.size
  have hB1 : Below w.heap.size w (W0x.setCells w.heap.size 1 [.string p, (.slice (some ⟨g0, 0, none⟩) n0 (n0 + 1))]) := Below.setCells_ (o := 1) (Nat.le_refl _) [.string p, (.slice (some ⟨g0, 0, none⟩) n0 (n0 + 1))] (HB0.out.trans (Hbx.out.mono (by omega)))
  have hs1 : w.heap.size + 2 ≤ (W0x.setCells w.heap.size 1 [.string p, (.slice (some ⟨g0, 0, none⟩) n0 (n0 + 1))]).heap.size := by have h := setCells_size w.heap.size [.string p, (.slice (some ⟨g0, 0, none⟩) n0 (n0 + 1))] 1 W0x; have h2 : (W0x.setCells w.heap.size 1 [.string p, (.slice (some ⟨g0, 0, none⟩) n0 (n0 + 1))]).heap.size = W0x.heap.size := h; have h3 : (W0x.setCells w.heap.size 1 [.string p, (.slice (some ⟨g0, 0, none⟩) n0 (n0 + 1))]) = W0x.setCells w.heap.size 1 [.string p, (.slice (some ⟨g0, 0, none⟩) n0 (n0 + 1))] := rfl; rw [h3, h2]; omega
  have hr1 : (W0x.setCells w.heap.size 1 [.string p, (.slice (some ⟨g0, 0, none⟩) n0 (n0 + 1))]).rangeAt w.heap.size 0 [.int .i8 k, .string p, (.slice (some ⟨g0, 0, none⟩) n0 (n0 + 1)), .int .i8 rl, x1a, x1b, x1c, x1d, x1e, x1f, x2a, x2b, x2c, x2d, x2e, x2f] := rangeAt_mid (A := [.int .i8 k]) (B := [.string p, (.slice A0 n0 cap0)]) (C := [.int .i8 rl, x1a, x1b, x1c, x1d, x1e, x1f, x2a, x2b, x2c, x2d, x2e, x2f]) (vs := [.string p, (.slice (some ⟨g0, 0, none⟩) n0 (n0 + 1))]) Hrx.out rfl (by have h := there_part Htx.out 1 2 (by omega); exact h)
  have ht1 : (W0x.setCells w.heap.size 1 [.string p, (.slice (some ⟨g0, 0, none⟩) n0 (n0 + 1))]).there w.heap.size 0 16 := World.there_setCells Htx.out w.heap.size 1 [.string p, (.slice (some ⟨g0, 0, none⟩) n0 (n0 + 1))]
  have hu1 : (W0x.setCells w.heap.size 1 [.string p, (.slice (some ⟨g0, 0, none⟩) n0 (n0 + 1))]).there (w.heap.size + 1) 0 16 := World.there_setCells Hux.out w.heap.size 1 [.string p, (.slice (some ⟨g0, 0, none⟩) n0 (n0 + 1))]
  have hq0_1 : Tq0 (w.heap.size + 2) (W0x.setCells w.heap.size 1 [.string p, (.slice (some ⟨g0, 0, none⟩) n0 (n0 + 1))]) [(.slice (some ⟨g0, 0, none⟩) n0 (n0 + 1))] := HT0.out.low hsj (HT0.out.keep Hqx.out (fun k hk1 _ => setCells_far w.heap.size [.string p, (.slice (some ⟨g0, 0, none⟩) n0 (n0 + 1))] 1 W0x k (by omega)) (Nat.le_of_eq (setCells_size w.heap.size [.string p, (.slice (some ⟨g0, 0, none⟩) n0 (n0 + 1))] 1 W0x).symm))
  generalize (W0x.setCells w.heap.size 1 [.string p, (.slice (some ⟨g0, 0, none⟩) n0 (n0 + 1))]) = W1 at hB1 hs1 hr1 ht1 hu1 hq0_1 ⊢
  have Hq0_1 := Lib.hid hq0_1
  clear hq0_1 Hrx Htx Hux Hqx Hbx hsj hsx
  have HB1 := Lib.hid hB1
  have Hs1 := Lib.hid hs1
  have Hr1 := Lib.hid hr1
  have Ht1 := Lib.hid ht1
  have Hu1 := Lib.hid hu1
  clear hB1 hs1 hr1 ht1 hu1
  go_wp2_with (refine tw_at_load 91 _ rfl ?_; refine Stopped.out ?_)
  refine ⟨?_⟩
  have hcall1 := Hc1.out W1 HB1.out
  have Hcall1 := Lib.hid hcall1
  clear hcall1
  refine wpList_load_mid rfl 91 _ rfl w.heap.size 4 rfl [x1a, x1b, x1c, x1d, x1e, x1f] _ (by have h := rangeAt_part Hr1.out 4 6; exact h) Tryz.underlying91 rfl sizeExpr ?_
  go_wp2_with (first
    | (go_at_call 276; refine Hcall1.out.mono ?_; rintro e W1x ⟨y1a, y1b, y1c, y1d, y1e, y1f, rfl, ho1n, hT1, hb1⟩
       have hsj := Hs1.out
       have Hrx := Lib.hid (rangeAt_below Hr1.out hb1 (by omega))
       have Htx := Lib.hid (there_below Ht1.out hb1 (by omega))
       have Hux := Lib.hid (there_below Hu1.out hb1 (by omega))
       have Hqx := Lib.hid hT1
       have Hbx := Lib.hid hb1
       clear hT1 hb1 hsj)
    | (refine tw_at_store 91 _ _ rfl ?_; refine Stopped.out ?_))
  refine ⟨?_⟩
  have hto := there_part Htx.out 4 6 (by omega)
  rw [Nat.zero_add] at hto
  refine wpList_store_mid (b := w.heap.size) (o := 4) rfl 91 _ _ rfl #[y1a, y1b, y1c, y1d, y1e, y1f] rfl rfl hto sizeExpr (all_oneCell_toArray (cs := [y1a, y1b, y1c, y1d, y1e, y1f]) ho1n) ?_
  clear hto
  have hsj := Hs1.out
  have hsx := Hbx.out.size
  have hB2 : Below w.heap.size w (W1x.setCells w.heap.size 4 [y1a, y1b, y1c, y1d, y1e, y1f]) := Below.setCells_ (o := 4) (Nat.le_refl _) [y1a, y1b, y1c, y1d, y1e, y1f] (HB1.out.trans (Hbx.out.mono (by omega)))
  have hs2 : w.heap.size + 2 ≤ (W1x.setCells w.heap.size 4 [y1a, y1b, y1c, y1d, y1e, y1f]).heap.size := by have h := setCells_size w.heap.size [y1a, y1b, y1c, y1d, y1e, y1f] 4 W1x; have h2 : (W1x.setCells w.heap.size 4 [y1a, y1b, y1c, y1d, y1e, y1f]).heap.size = W1x.heap.size := h; have h3 : (W1x.setCells w.heap.size 4 [y1a, y1b, y1c, y1d, y1e, y1f]) = W1x.setCells w.heap.size 4 [y1a, y1b, y1c, y1d, y1e, y1f] := rfl; rw [h3, h2]; omega
  have hr2 : (W1x.setCells w.heap.size 4 [y1a, y1b, y1c, y1d, y1e, y1f]).rangeAt w.heap.size 0 [.int .i8 k, .string p, (.slice (some ⟨g0, 0, none⟩) n0 (n0 + 1)), .int .i8 rl, y1a, y1b, y1c, y1d, y1e, y1f, x2a, x2b, x2c, x2d, x2e, x2f] := rangeAt_mid (A := [.int .i8 k, .string p, (.slice (some ⟨g0, 0, none⟩) n0 (n0 + 1)), .int .i8 rl]) (B := [x1a, x1b, x1c, x1d, x1e, x1f]) (C := [x2a, x2b, x2c, x2d, x2e, x2f]) (vs := [y1a, y1b, y1c, y1d, y1e, y1f]) Hrx.out rfl (by have h := there_part Htx.out 4 6 (by omega); exact h)
  have ht2 : (W1x.setCells w.heap.size 4 [y1a, y1b, y1c, y1d, y1e, y1f]).there w.heap.size 0 16 := World.there_setCells Htx.out w.heap.size 4 [y1a, y1b, y1c, y1d, y1e, y1f]
  have hu2 : (W1x.setCells w.heap.size 4 [y1a, y1b, y1c, y1d, y1e, y1f]).there (w.heap.size + 1) 0 16 := World.there_setCells Hux.out w.heap.size 4 [y1a, y1b, y1c, y1d, y1e, y1f]
  have hq1_2 : Tq1 (w.heap.size + 2) (W1x.setCells w.heap.size 4 [y1a, y1b, y1c, y1d, y1e, y1f]) [y1a, y1b, y1c, y1d, y1e, y1f] := HT1.out.low hsj (HT1.out.keep Hqx.out (fun k hk1 _ => setCells_far w.heap.size [y1a, y1b, y1c, y1d, y1e, y1f] 4 W1x k (by omega)) (Nat.le_of_eq (setCells_size w.heap.size [y1a, y1b, y1c, y1d, y1e, y1f] 4 W1x).symm))
  have hq0_2 : Tq0 (w.heap.size + 2) (W1x.setCells w.heap.size 4 [y1a, y1b, y1c, y1d, y1e, y1f]) [(.slice (some ⟨g0, 0, none⟩) n0 (n0 + 1))] := HT0.out.keep (HT0.out.below Hq0_1.out Hbx.out) (fun k hk1 _ => setCells_far w.heap.size [y1a, y1b, y1c, y1d, y1e, y1f] 4 W1x k (by omega)) (Nat.le_of_eq (setCells_size w.heap.size [y1a, y1b, y1c, y1d, y1e, y1f] 4 W1x).symm)
  generalize (W1x.setCells w.heap.size 4 [y1a, y1b, y1c, y1d, y1e, y1f]) = W2 at hB2 hs2 hr2 ht2 hu2 hq0_2 hq1_2 ⊢
  have Hq0_2 := Lib.hid hq0_2
  have Hq1_2 := Lib.hid hq1_2
  clear hq0_2 hq1_2 Hrx Htx Hux Hqx Hbx hsj hsx
  have HB2 := Lib.hid hB2
  have Hs2 := Lib.hid hs2
  have Hr2 := Lib.hid hr2
  have Ht2 := Lib.hid ht2
  have Hu2 := Lib.hid hu2
  clear hB2 hs2 hr2 ht2 hu2
  go_wp2_with (refine tw_at_load 91 _ rfl ?_; refine Stopped.out ?_)
  refine ⟨?_⟩
  have hcall2 := Hc2.out W2 HB2.out
  have Hcall2 := Lib.hid hcall2
  clear hcall2
  refine wpList_load_mid rfl 91 _ rfl w.heap.size 10 rfl [x2a, x2b, x2c, x2d, x2e, x2f] _ (by have h := rangeAt_part Hr2.out 10 6; exact h) Tryz.underlying91 rfl sizeExpr ?_
  go_wp2_with (first
    | (go_at_call 276; refine Hcall2.out.mono ?_; rintro e W2x ⟨y2a, y2b, y2c, y2d, y2e, y2f, rfl, ho2n, hT2, hb2⟩
       have hsj := Hs2.out
       have Hrx := Lib.hid (rangeAt_below Hr2.out hb2 (by omega))
       have Htx := Lib.hid (there_below Ht2.out hb2 (by omega))
       have Hux := Lib.hid (there_below Hu2.out hb2 (by omega))
       have Hqx := Lib.hid hT2
       have Hbx := Lib.hid hb2
       clear hT2 hb2 hsj)
    | (refine tw_at_store 91 _ _ rfl ?_; refine Stopped.out ?_))
  refine ⟨?_⟩
  have hto := there_part Htx.out 10 6 (by omega)
  rw [Nat.zero_add] at hto
  refine wpList_store_mid (b := w.heap.size) (o := 10) rfl 91 _ _ rfl #[y2a, y2b, y2c, y2d, y2e, y2f] rfl rfl hto sizeExpr (all_oneCell_toArray (cs := [y2a, y2b, y2c, y2d, y2e, y2f]) ho2n) ?_
  clear hto
  have hsj := Hs2.out
  have hsx := Hbx.out.size
  have hB3 : Below w.heap.size w (W2x.setCells w.heap.size 10 [y2a, y2b, y2c, y2d, y2e, y2f]) := Below.setCells_ (o := 10) (Nat.le_refl _) [y2a, y2b, y2c, y2d, y2e, y2f] (HB2.out.trans (Hbx.out.mono (by omega)))
  have hs3 : w.heap.size + 2 ≤ (W2x.setCells w.heap.size 10 [y2a, y2b, y2c, y2d, y2e, y2f]).heap.size := by have h := setCells_size w.heap.size [y2a, y2b, y2c, y2d, y2e, y2f] 10 W2x; have h2 : (W2x.setCells w.heap.size 10 [y2a, y2b, y2c, y2d, y2e, y2f]).heap.size = W2x.heap.size := h; have h3 : (W2x.setCells w.heap.size 10 [y2a, y2b, y2c, y2d, y2e, y2f]) = W2x.setCells w.heap.size 10 [y2a, y2b, y2c, y2d, y2e, y2f] := rfl; rw [h3, h2]; omega
  have hr3 : (W2x.setCells w.heap.size 10 [y2a, y2b, y2c, y2d, y2e, y2f]).rangeAt w.heap.size 0 [.int .i8 k, .string p, (.slice (some ⟨g0, 0, none⟩) n0 (n0 + 1)), .int .i8 rl, y1a, y1b, y1c, y1d, y1e, y1f, y2a, y2b, y2c, y2d, y2e, y2f] := rangeAt_mid (A := [.int .i8 k, .string p, (.slice (some ⟨g0, 0, none⟩) n0 (n0 + 1)), .int .i8 rl, y1a, y1b, y1c, y1d, y1e, y1f]) (B := [x2a, x2b, x2c, x2d, x2e, x2f]) (C := []) (vs := [y2a, y2b, y2c, y2d, y2e, y2f]) Hrx.out rfl (by have h := there_part Htx.out 10 6 (by omega); exact h)
  have ht3 : (W2x.setCells w.heap.size 10 [y2a, y2b, y2c, y2d, y2e, y2f]).there w.heap.size 0 16 := World.there_setCells Htx.out w.heap.size 10 [y2a, y2b, y2c, y2d, y2e, y2f]
  have hu3 : (W2x.setCells w.heap.size 10 [y2a, y2b, y2c, y2d, y2e, y2f]).there (w.heap.size + 1) 0 16 := World.there_setCells Hux.out w.heap.size 10 [y2a, y2b, y2c, y2d, y2e, y2f]
  have hq2_3 : Tq2 (w.heap.size + 2) (W2x.setCells w.heap.size 10 [y2a, y2b, y2c, y2d, y2e, y2f]) [y2a, y2b, y2c, y2d, y2e, y2f] := HT2.out.low hsj (HT2.out.keep Hqx.out (fun k hk1 _ => setCells_far w.heap.size [y2a, y2b, y2c, y2d, y2e, y2f] 10 W2x k (by omega)) (Nat.le_of_eq (setCells_size w.heap.size [y2a, y2b, y2c, y2d, y2e, y2f] 10 W2x).symm))
  have hq0_3 : Tq0 (w.heap.size + 2) (W2x.setCells w.heap.size 10 [y2a, y2b, y2c, y2d, y2e, y2f]) [(.slice (some ⟨g0, 0, none⟩) n0 (n0 + 1))] := HT0.out.keep (HT0.out.below Hq0_2.out Hbx.out) (fun k hk1 _ => setCells_far w.heap.size [y2a, y2b, y2c, y2d, y2e, y2f] 10 W2x k (by omega)) (Nat.le_of_eq (setCells_size w.heap.size [y2a, y2b, y2c, y2d, y2e, y2f] 10 W2x).symm)
  have hq1_3 : Tq1 (w.heap.size + 2) (W2x.setCells w.heap.size 10 [y2a, y2b, y2c, y2d, y2e, y2f]) [y1a, y1b, y1c, y1d, y1e, y1f] := HT1.out.keep (HT1.out.below Hq1_2.out Hbx.out) (fun k hk1 _ => setCells_far w.heap.size [y2a, y2b, y2c, y2d, y2e, y2f] 10 W2x k (by omega)) (Nat.le_of_eq (setCells_size w.heap.size [y2a, y2b, y2c, y2d, y2e, y2f] 10 W2x).symm)
  generalize (W2x.setCells w.heap.size 10 [y2a, y2b, y2c, y2d, y2e, y2f]) = W3 at hB3 hs3 hr3 ht3 hu3 hq0_3 hq1_3 hq2_3 ⊢
  have Hq0_3 := Lib.hid hq0_3
  have Hq1_3 := Lib.hid hq1_3
  have Hq2_3 := Lib.hid hq2_3
  clear hq0_3 hq1_3 hq2_3 Hrx Htx Hux Hqx Hbx hsj hsx
  have HB3 := Lib.hid hB3
  have Hs3 := Lib.hid hs3
  have Hr3 := Lib.hid hr3
  have Ht3 := Lib.hid ht3
  have Hu3 := Lib.hid hu3
  clear hB3 hs3 hr3 ht3 hu3
  go_wp2_with (refine tw_at_load 93 _ rfl ?_; refine Stopped.out ?_)
  refine ⟨?_⟩
  refine wpList_load_mid rfl 93 _ rfl w.heap.size 0 rfl [.int .i8 k, .string p, (.slice (some ⟨g0, 0, none⟩) n0 (n0 + 1)), .int .i8 rl, y1a, y1b, y1c, y1d, y1e, y1f, y2a, y2b, y2c, y2d, y2e, y2f] _ Hr3.out Tryz.underlying93 rfl sizeLiteral ?_
  go_wp2_with (refine tw_at_store 93 _ _ rfl ?_; refine Stopped.out ?_)
  refine ⟨?_⟩
  refine wpList_store_mid (b := w.heap.size + 1) (o := 0) rfl 93 _ _ rfl #[.int .i8 k, .string p, (.slice (some ⟨g0, 0, none⟩) n0 (n0 + 1)), .int .i8 rl, y1a, y1b, y1c, y1d, y1e, y1f, y2a, y2b, y2c, y2d, y2e, y2f] rfl rfl Hu3.out sizeLiteral (by
    refine all_oneCell_toArray (cs := [.int .i8 k, .string p, (.slice (some ⟨g0, 0, none⟩) n0 (n0 + 1)), .int .i8 rl, y1a, y1b, y1c, y1d, y1e, y1f, y2a, y2b, y2c, y2d, y2e, y2f]) (fun v hv => ?_)
    simp only [List.mem_cons, List.not_mem_nil, or_false] at hv
    rcases hv with rfl | rfl | rfl | rfl | rfl | rfl | rfl | rfl | rfl | rfl | rfl | rfl | rfl | rfl | rfl | rfl
    · rfl
    · rfl
    · rfl
    · rfl
    · exact ho1n _ (by simp)
    · exact ho1n _ (by simp)
    · exact ho1n _ (by simp)
    · exact ho1n _ (by simp)
    · exact ho1n _ (by simp)
    · exact ho1n _ (by simp)
    · exact ho2n _ (by simp)
    · exact ho2n _ (by simp)
    · exact ho2n _ (by simp)
    · exact ho2n _ (by simp)
    · exact ho2n _ (by simp)
    · exact ho2n _ (by simp)) ?_
  have hl := run_loadVar_mid (P := Tryz.prog) (W3.setCells (w.heap.size + 1) 0 [.int .i8 k, .string p, (.slice (some ⟨g0, 0, none⟩) n0 (n0 + 1)), .int .i8 rl, y1a, y1b, y1c, y1d, y1e, y1f, y2a, y2b, y2c, y2d, y2e, y2f]) (w.heap.size + 1) 0 93 [.int .i8 k, .string p, (.slice (some ⟨g0, 0, none⟩) n0 (n0 + 1)), .int .i8 rl, y1a, y1b, y1c, y1d, y1e, y1f, y2a, y2b, y2c, y2d, y2e, y2f] _ (World.rangeAt_setCells_same _ _ _ _ Hu3.out) Tryz.underlying93 rfl sizeLiteral
  have hB := Below.setCells_ (B := w.heap.size) (b := w.heap.size + 1) (o := 0) (Nat.le_succ _) [.int .i8 k, .string p, (.slice (some ⟨g0, 0, none⟩) n0 (n0 + 1)), .int .i8 rl, y1a, y1b, y1c, y1d, y1e, y1f, y2a, y2b, y2c, y2d, y2e, y2f] HB3.out
  have hk0 := HT0.out.keep (W' := W3.setCells (w.heap.size + 1) 0 [.int .i8 k, .string p, (.slice (some ⟨g0, 0, none⟩) n0 (n0 + 1)), .int .i8 rl, y1a, y1b, y1c, y1d, y1e, y1f, y2a, y2b, y2c, y2d, y2e, y2f]) Hq0_3.out (fun k hk1 _ => setCells_far (w.heap.size + 1) _ 0 W3 k (Nat.ne_of_gt hk1)) (Nat.le_of_eq (setCells_size (w.heap.size + 1) _ 0 W3).symm)
  have hf0 := HT0.out.low (lo' := w.heap.size) (Nat.le_add_right w.heap.size 2) hk0
  clear hk0
  have hk1 := HT1.out.keep (W' := W3.setCells (w.heap.size + 1) 0 [.int .i8 k, .string p, (.slice (some ⟨g0, 0, none⟩) n0 (n0 + 1)), .int .i8 rl, y1a, y1b, y1c, y1d, y1e, y1f, y2a, y2b, y2c, y2d, y2e, y2f]) Hq1_3.out (fun k hk1 _ => setCells_far (w.heap.size + 1) _ 0 W3 k (Nat.ne_of_gt hk1)) (Nat.le_of_eq (setCells_size (w.heap.size + 1) _ 0 W3).symm)
  have hf1 := HT1.out.low (lo' := w.heap.size) (Nat.le_add_right w.heap.size 2) hk1
  clear hk1
  have hk2 := HT2.out.keep (W' := W3.setCells (w.heap.size + 1) 0 [.int .i8 k, .string p, (.slice (some ⟨g0, 0, none⟩) n0 (n0 + 1)), .int .i8 rl, y1a, y1b, y1c, y1d, y1e, y1f, y2a, y2b, y2c, y2d, y2e, y2f]) Hq2_3.out (fun k hk1 _ => setCells_far (w.heap.size + 1) _ 0 W3 k (Nat.ne_of_gt hk1)) (Nat.le_of_eq (setCells_size (w.heap.size + 1) _ 0 W3).symm)
  have hf2 := HT2.out.low (lo' := w.heap.size) (Nat.le_add_right w.heap.size 2) hk2
  clear hk2
  generalize (W3.setCells (w.heap.size + 1) 0 [.int .i8 k, .string p, (.slice (some ⟨g0, 0, none⟩) n0 (n0 + 1)), .int .i8 rl, y1a, y1b, y1c, y1d, y1e, y1f, y2a, y2b, y2c, y2d, y2e, y2f]) = W at hl hB hf0 hf1 hf2 ⊢
  go_wp2
  (try simp only [Exit.inBlock, Exit.then])
  refine bodyPost_ret (results_cell Tryz.results222 _ _ rfl hl) rfl ?_
  exact ⟨g0, y1a, y1b, y1c, y1d, y1e, y1f, y2a, y2b, y2c, y2d, y2e, y2f, rfl, hf0, ho1n, hf1, ho2n, hf2, hB⟩

set_option maxHeartbeats 4000000 in
set_option maxRecDepth 100000 in
theorem leftLiteral_of (k rl : Int) (p : ByteArray) (s0 t0 : Value) (x1a x1b x1c x1d x1e x1f y1a y1b y1c y1d y1e y1f : Value) (x2a x2b x2c x2d x2e x2f y2a y2b y2c y2d y2e y2f : Value) (w : World)
    (hc0 : ∀ W : World, Below w.heap.size w W → Calls Tryz.prog 278 #[(.agg #[.string p, t0]), (.agg #[.string p, s0])] W fun e W' => e = .returned (.bool true) ∧ Below W.heap.size W W')
    (hc1 : ∀ W : World, Below w.heap.size w W → Calls Tryz.prog 279 #[(.agg #[y1a, y1b, y1c, y1d, y1e, y1f]), (.agg #[x1a, x1b, x1c, x1d, x1e, x1f])] W fun e W' => e = .returned (.bool true) ∧ Below W.heap.size W W')
    (hc2 : ∀ W : World, Below w.heap.size w W → Calls Tryz.prog 279 #[(.agg #[y2a, y2b, y2c, y2d, y2e, y2f]), (.agg #[x2a, x2b, x2c, x2d, x2e, x2f])] W fun e W' => e = .returned (.bool true) ∧ Below W.heap.size W W') :
    Calls Tryz.prog 227 #[.agg #[.int .i8 k, .string p, t0, .int .i8 rl, y1a, y1b, y1c, y1d, y1e, y1f, y2a, y2b, y2c, y2d, y2e, y2f], .agg #[.int .i8 k, .string p, s0, .int .i8 rl, x1a, x1b, x1c, x1d, x1e, x1f, x2a, x2b, x2c, x2d, x2e, x2f]] w fun e w' => e = .returned (.bool true) ∧ Below w.heap.size w w' := by
  obtain ⟨W0, hW0⟩ : ∃ W0, (w.alloc (.cells #[.int .i8 k, .string p, t0, .int .i8 rl, y1a, y1b, y1c, y1d, y1e, y1f, y2a, y2b, y2c, y2d, y2e, y2f] 93)).alloc (.cells #[.int .i8 k, .string p, s0, .int .i8 rl, x1a, x1b, x1c, x1d, x1e, x1f, x2a, x2b, x2c, x2d, x2e, x2f] 93) = W0 := ⟨_, rfl⟩
  have hB0 : Below w.heap.size w W0 := hW0 ▸ ((new_below w _).trans ((new_below _ _).mono (by simp)))
  have hs0 : w.heap.size + 2 ≤ W0.heap.size := by rw [← hW0]; simp
  have hr0 : W0.rangeAt w.heap.size 0 [.int .i8 k, .string p, t0, .int .i8 rl, y1a, y1b, y1c, y1d, y1e, y1f, y2a, y2b, y2c, y2d, y2e, y2f] := hW0 ▸ rangeAt_below (new_range w [.int .i8 k, .string p, t0, .int .i8 rl, y1a, y1b, y1c, y1d, y1e, y1f, y2a, y2b, y2c, y2d, y2e, y2f] 93) (new_below _ _) (by simp)
  have hq0 : W0.rangeAt (w.heap.size + 1) 0 [.int .i8 k, .string p, s0, .int .i8 rl, x1a, x1b, x1c, x1d, x1e, x1f, x2a, x2b, x2c, x2d, x2e, x2f] := by
    have := new_range (w.alloc (.cells #[.int .i8 k, .string p, t0, .int .i8 rl, y1a, y1b, y1c, y1d, y1e, y1f, y2a, y2b, y2c, y2d, y2e, y2f] 93)) [.int .i8 k, .string p, s0, .int .i8 rl, x1a, x1b, x1c, x1d, x1e, x1f, x2a, x2b, x2c, x2d, x2e, x2f] 93
    rw [hW0] at this
    simpa using this
  have HW0 := Lib.hid hW0
  have Hc0 := Lib.hid hc0
  have Hc1 := Lib.hid hc1
  have Hc2 := Lib.hid hc2
  have HB0 := Lib.hid hB0
  have Hs0 := Lib.hid hs0
  have Hr0 := Lib.hid hr0
  have Hq0 := Lib.hid hq0
  clear hW0 hB0 hs0 hr0 hq0 hc0 hc1 hc2
  go_enter Tryz.func227, Tryz.ntmps227
  go_wp2_with (first
    | (go_at_call 279; refine (Hc2.out W2 HB2.out).mono ?_; rintro e W3 ⟨rfl, hb3⟩
       have hsj := Hs2.out
       have HB3 := Lib.hid (HB2.out.trans (hb3.mono (by omega)))
       have Hs3 := Lib.hid (show w.heap.size + 2 ≤ W3.heap.size from Nat.le_trans hsj hb3.size)
       have Hr3 := Lib.hid (rangeAt_below Hr2.out hb3 (by omega))
       have Hq3 := Lib.hid (rangeAt_below Hq2.out hb3 (by omega))
       clear hb3 hsj r10 q10 r11 q11 r12 q12 r13 q13 r14 q14 r15 q15)
    | (go_at_call 279; refine (Hc1.out W1 HB1.out).mono ?_; rintro e W2 ⟨rfl, hb2⟩
       have hsj := Hs1.out
       have HB2 := Lib.hid (HB1.out.trans (hb2.mono (by omega)))
       have Hs2 := Lib.hid (show w.heap.size + 2 ≤ W2.heap.size from Nat.le_trans hsj hb2.size)
       have Hr2 := Lib.hid (rangeAt_below Hr1.out hb2 (by omega))
       have Hq2 := Lib.hid (rangeAt_below Hq1.out hb2 (by omega))
       have r10 : W2.cell? ⟨w.heap.size, 10, none⟩ = some (y2a) := by have h := Hr2.out 10 _ rfl; rwa [Nat.zero_add] at h
       have q10 : W2.cell? ⟨w.heap.size + 1, 10, none⟩ = some (x2a) := by have h := Hq2.out 10 _ rfl; rwa [Nat.zero_add] at h
       have r11 : W2.cell? ⟨w.heap.size, 11, none⟩ = some (y2b) := by have h := Hr2.out 11 _ rfl; rwa [Nat.zero_add] at h
       have q11 : W2.cell? ⟨w.heap.size + 1, 11, none⟩ = some (x2b) := by have h := Hq2.out 11 _ rfl; rwa [Nat.zero_add] at h
       have r12 : W2.cell? ⟨w.heap.size, 12, none⟩ = some (y2c) := by have h := Hr2.out 12 _ rfl; rwa [Nat.zero_add] at h
       have q12 : W2.cell? ⟨w.heap.size + 1, 12, none⟩ = some (x2c) := by have h := Hq2.out 12 _ rfl; rwa [Nat.zero_add] at h
       have r13 : W2.cell? ⟨w.heap.size, 13, none⟩ = some (y2d) := by have h := Hr2.out 13 _ rfl; rwa [Nat.zero_add] at h
       have q13 : W2.cell? ⟨w.heap.size + 1, 13, none⟩ = some (x2d) := by have h := Hq2.out 13 _ rfl; rwa [Nat.zero_add] at h
       have r14 : W2.cell? ⟨w.heap.size, 14, none⟩ = some (y2e) := by have h := Hr2.out 14 _ rfl; rwa [Nat.zero_add] at h
       have q14 : W2.cell? ⟨w.heap.size + 1, 14, none⟩ = some (x2e) := by have h := Hq2.out 14 _ rfl; rwa [Nat.zero_add] at h
       have r15 : W2.cell? ⟨w.heap.size, 15, none⟩ = some (y2f) := by have h := Hr2.out 15 _ rfl; rwa [Nat.zero_add] at h
       have q15 : W2.cell? ⟨w.heap.size + 1, 15, none⟩ = some (x2f) := by have h := Hq2.out 15 _ rfl; rwa [Nat.zero_add] at h
       clear hb2 hsj r4 q4 r5 q5 r6 q6 r7 q7 r8 q8 r9 q9)
    | (go_at_call 278; rw [HW0.out]; refine (Hc0.out W0 HB0.out).mono ?_; rintro e W1 ⟨rfl, hb1⟩
       have hsj := Hs0.out
       have HB1 := Lib.hid (HB0.out.trans (hb1.mono (by omega)))
       have Hs1 := Lib.hid (show w.heap.size + 2 ≤ W1.heap.size from Nat.le_trans hsj hb1.size)
       have Hr1 := Lib.hid (rangeAt_below Hr0.out hb1 (by omega))
       have Hq1 := Lib.hid (rangeAt_below Hq0.out hb1 (by omega))
       have r4 : W1.cell? ⟨w.heap.size, 4, none⟩ = some (y1a) := by have h := Hr1.out 4 _ rfl; rwa [Nat.zero_add] at h
       have q4 : W1.cell? ⟨w.heap.size + 1, 4, none⟩ = some (x1a) := by have h := Hq1.out 4 _ rfl; rwa [Nat.zero_add] at h
       have r5 : W1.cell? ⟨w.heap.size, 5, none⟩ = some (y1b) := by have h := Hr1.out 5 _ rfl; rwa [Nat.zero_add] at h
       have q5 : W1.cell? ⟨w.heap.size + 1, 5, none⟩ = some (x1b) := by have h := Hq1.out 5 _ rfl; rwa [Nat.zero_add] at h
       have r6 : W1.cell? ⟨w.heap.size, 6, none⟩ = some (y1c) := by have h := Hr1.out 6 _ rfl; rwa [Nat.zero_add] at h
       have q6 : W1.cell? ⟨w.heap.size + 1, 6, none⟩ = some (x1c) := by have h := Hq1.out 6 _ rfl; rwa [Nat.zero_add] at h
       have r7 : W1.cell? ⟨w.heap.size, 7, none⟩ = some (y1d) := by have h := Hr1.out 7 _ rfl; rwa [Nat.zero_add] at h
       have q7 : W1.cell? ⟨w.heap.size + 1, 7, none⟩ = some (x1d) := by have h := Hq1.out 7 _ rfl; rwa [Nat.zero_add] at h
       have r8 : W1.cell? ⟨w.heap.size, 8, none⟩ = some (y1e) := by have h := Hr1.out 8 _ rfl; rwa [Nat.zero_add] at h
       have q8 : W1.cell? ⟨w.heap.size + 1, 8, none⟩ = some (x1e) := by have h := Hq1.out 8 _ rfl; rwa [Nat.zero_add] at h
       have r9 : W1.cell? ⟨w.heap.size, 9, none⟩ = some (y1f) := by have h := Hr1.out 9 _ rfl; rwa [Nat.zero_add] at h
       have q9 : W1.cell? ⟨w.heap.size + 1, 9, none⟩ = some (x1f) := by have h := Hq1.out 9 _ rfl; rwa [Nat.zero_add] at h
       clear hb1 hsj))
  go_returns
  exact ⟨rfl, HB3.out⟩

theorem infoRule : (Tryz.prog.info? 28).map (fun i => (i.zero, i.size, i.bytes)) = some (some (.agg #[.string ⟨#[]⟩, .slice none 0 0, .slice none 0 0]), 3, 64) := by kernel_rfl
theorem sizeRule : (Tryz.prog.info? 28).map (·.size) = some 3 := by kernel_rfl
set_option maxHeartbeats 4000000 in
set_option maxRecDepth 4000 in
theorem twinRule_of (p : ByteArray) (A0 : Option Addr) (n0 cap0 : Nat) (A1 : Option Addr) (n1 cap1 : Nat) (Tq0 Tq1 : Tp) (w : World) 
    (hT0 : TpOk Tq0) (hc0 : ∀ W : World, Below w.heap.size w W → Calls Tryz.prog 147 #[(.slice A0 n0 cap0)] W fun e W' => ∃ g0 : Nat, e = .returned (.slice (some ⟨g0, 0, none⟩) n0 (n0 + 1)) ∧ Tq0 W.heap.size W' [(.slice (some ⟨g0, 0, none⟩) n0 (n0 + 1))] ∧ Below W.heap.size W W')
    (hT1 : TpOk Tq1) (hc1 : ∀ W : World, Below w.heap.size w W → Calls Tryz.prog 148 #[(.slice A1 n1 cap1)] W fun e W' => ∃ g1 : Nat, e = .returned (.slice (some ⟨g1, 0, none⟩) n1 (n1 + 1)) ∧ Tq1 W.heap.size W' [(.slice (some ⟨g1, 0, none⟩) n1 (n1 + 1))] ∧ Below W.heap.size W W') :
    Calls Tryz.prog 92 #[.agg #[.string p, (.slice A0 n0 cap0), (.slice A1 n1 cap1)]] w fun e w' => ∃ g0 : Nat, ∃ g1 : Nat, e = .returned (.agg #[.string p, (.slice (some ⟨g0, 0, none⟩) n0 (n0 + 1)), (.slice (some ⟨g1, 0, none⟩) n1 (n1 + 1))]) ∧ Tq0 w.heap.size w' [(.slice (some ⟨g0, 0, none⟩) n0 (n0 + 1))] ∧ Tq1 w.heap.size w' [(.slice (some ⟨g1, 0, none⟩) n1 (n1 + 1))] ∧ Below w.heap.size w w' := by
  obtain ⟨W0, hW0⟩ : ∃ W0, (w.alloc (.cells #[.string p, (.slice A0 n0 cap0), (.slice A1 n1 cap1)] 28)).alloc (.cells #[.string ⟨#[]⟩, .slice none 0 0, .slice none 0 0] 28) = W0 := ⟨_, rfl⟩
  have hB0 : Below w.heap.size w W0 := hW0 ▸ ((new_below w _).trans ((new_below _ _).mono (by simp)))
  have hs0 : w.heap.size + 2 ≤ W0.heap.size := by rw [← hW0]; simp
  have hr0 : W0.rangeAt w.heap.size 0 [.string p, (.slice A0 n0 cap0), (.slice A1 n1 cap1)] := hW0 ▸ rangeAt_below (new_range w [.string p, (.slice A0 n0 cap0), (.slice A1 n1 cap1)] 28) (new_below _ _) (by simp)
  have ht0 : W0.there w.heap.size 0 3 := hW0 ▸ there_below (new_there w #[.string p, (.slice A0 n0 cap0), (.slice A1 n1 cap1)] 28 3 rfl) (new_below _ _) (by simp)
  have hu0 : W0.there (w.heap.size + 1) 0 3 := by
    have := new_there (w.alloc (.cells #[.string p, (.slice A0 n0 cap0), (.slice A1 n1 cap1)] 28)) #[.string ⟨#[]⟩, .slice none 0 0, .slice none 0 0] 28 3 rfl
    rw [hW0] at this
    simpa using this
  have HW0 := Lib.hid hW0
  have HT0 := Lib.hid hT0
  have Hc0 := Lib.hid hc0
  have HT1 := Lib.hid hT1
  have Hc1 := Lib.hid hc1
  clear hW0 hT0 hc0 hT1 hc1
  have HB0 := Lib.hid hB0
  have Hs0 := Lib.hid hs0
  have Hr0 := Lib.hid hr0
  have Ht0 := Lib.hid ht0
  have Hu0 := Lib.hid hu0
  clear hB0 hs0 hr0 ht0 hu0
  go_enter Tryz.func92, Tryz.ntmps92
  go_wp2_with (refine tw_at_load 25 _ rfl ?_; refine Stopped.out ?_)
  refine ⟨?_⟩
  rw [HW0.out]
  have hcall0 := Hc0.out W0 HB0.out
  have Hcall0 := Lib.hid hcall0
  clear hcall0
  have c0 : W0.cell? ⟨w.heap.size, 1, none⟩ = some (.slice A0 n0 cap0) := by have h := Hr0.out 1 (.slice A0 n0 cap0) rfl; rwa [Nat.zero_add] at h
  go_wp2_with (first
    | (go_at_call 147; refine Hcall0.out.mono ?_; rintro e W0x ⟨g0, rfl, hT0, hb0⟩
       have hsj := Hs0.out
       have hrx := rangeAt_below Hr0.out hb0 (by omega)
       have htx := there_below Ht0.out hb0 (by omega)
       have cx : W0x.cell? ⟨w.heap.size, 1, none⟩ = some (.slice A0 n0 cap0) := by have h := hrx 1 (.slice A0 n0 cap0) rfl; rwa [Nat.zero_add] at h
       have fx : W0x.frozen? ⟨w.heap.size, 1, none⟩ = false := by have h := (htx 1 (by omega)).2; rwa [Nat.zero_add] at h
       have Hrx := Lib.hid hrx
       have Htx := Lib.hid htx
       have Hux := Lib.hid (there_below Hu0.out hb0 (by omega))
       have Hqx := Lib.hid hT0
       have Hbx := Lib.hid hb0
       clear hrx htx hT0 hb0 hsj)
    | (refine tw_at_load 26 _ rfl ?_; refine Stopped.out ?_))
  refine ⟨?_⟩
  clear cx fx
  have hsj := Hs0.out
  have hsx := Hbx.out.size
  have hB1 : Below w.heap.size w (W0x.setCell ⟨w.heap.size, 1, none⟩ (.slice (some ⟨g0, 0, none⟩) n0 (n0 + 1))) := Below.setCells_ (o := 1) (Nat.le_refl _) [(.slice (some ⟨g0, 0, none⟩) n0 (n0 + 1))] (HB0.out.trans (Hbx.out.mono (by omega)))
  have hs1 : w.heap.size + 2 ≤ (W0x.setCell ⟨w.heap.size, 1, none⟩ (.slice (some ⟨g0, 0, none⟩) n0 (n0 + 1))).heap.size := by have h := setCells_size w.heap.size [(.slice (some ⟨g0, 0, none⟩) n0 (n0 + 1))] 1 W0x; have h2 : (W0x.setCells w.heap.size 1 [(.slice (some ⟨g0, 0, none⟩) n0 (n0 + 1))]).heap.size = W0x.heap.size := h; have h3 : (W0x.setCell ⟨w.heap.size, 1, none⟩ (.slice (some ⟨g0, 0, none⟩) n0 (n0 + 1))) = W0x.setCells w.heap.size 1 [(.slice (some ⟨g0, 0, none⟩) n0 (n0 + 1))] := rfl; rw [h3, h2]; omega
  have hr1 : (W0x.setCell ⟨w.heap.size, 1, none⟩ (.slice (some ⟨g0, 0, none⟩) n0 (n0 + 1))).rangeAt w.heap.size 0 [.string p, (.slice (some ⟨g0, 0, none⟩) n0 (n0 + 1)), (.slice A1 n1 cap1)] := rangeAt_mid (A := [.string p]) (B := [(.slice A0 n0 cap0)]) (C := [(.slice A1 n1 cap1)]) (vs := [(.slice (some ⟨g0, 0, none⟩) n0 (n0 + 1))]) Hrx.out rfl (by have h := there_part Htx.out 1 1 (by omega); exact h)
  have ht1 : (W0x.setCell ⟨w.heap.size, 1, none⟩ (.slice (some ⟨g0, 0, none⟩) n0 (n0 + 1))).there w.heap.size 0 3 := World.there_setCells Htx.out w.heap.size 1 [(.slice (some ⟨g0, 0, none⟩) n0 (n0 + 1))]
  have hu1 : (W0x.setCell ⟨w.heap.size, 1, none⟩ (.slice (some ⟨g0, 0, none⟩) n0 (n0 + 1))).there (w.heap.size + 1) 0 3 := World.there_setCells Hux.out w.heap.size 1 [(.slice (some ⟨g0, 0, none⟩) n0 (n0 + 1))]
  have hq0_1 : Tq0 (w.heap.size + 2) (W0x.setCell ⟨w.heap.size, 1, none⟩ (.slice (some ⟨g0, 0, none⟩) n0 (n0 + 1))) [(.slice (some ⟨g0, 0, none⟩) n0 (n0 + 1))] := HT0.out.low hsj (HT0.out.keep Hqx.out (fun k hk1 _ => setCells_far w.heap.size [(.slice (some ⟨g0, 0, none⟩) n0 (n0 + 1))] 1 W0x k (by omega)) (Nat.le_of_eq (setCells_size w.heap.size [(.slice (some ⟨g0, 0, none⟩) n0 (n0 + 1))] 1 W0x).symm))
  generalize (W0x.setCell ⟨w.heap.size, 1, none⟩ (.slice (some ⟨g0, 0, none⟩) n0 (n0 + 1))) = W1 at hB1 hs1 hr1 ht1 hu1 hq0_1 ⊢
  have Hq0_1 := Lib.hid hq0_1
  clear hq0_1 Hrx Htx Hux Hqx Hbx hsj hsx
  have HB1 := Lib.hid hB1
  have Hs1 := Lib.hid hs1
  have Hr1 := Lib.hid hr1
  have Ht1 := Lib.hid ht1
  have Hu1 := Lib.hid hu1
  clear hB1 hs1 hr1 ht1 hu1
  have hcall1 := Hc1.out W1 HB1.out
  have Hcall1 := Lib.hid hcall1
  clear hcall1
  have c1 : W1.cell? ⟨w.heap.size, 2, none⟩ = some (.slice A1 n1 cap1) := by have h := Hr1.out 2 (.slice A1 n1 cap1) rfl; rwa [Nat.zero_add] at h
  go_wp2_with (first
    | (go_at_call 148; refine Hcall1.out.mono ?_; rintro e W1x ⟨g1, rfl, hT1, hb1⟩
       have hsj := Hs1.out
       have hrx := rangeAt_below Hr1.out hb1 (by omega)
       have htx := there_below Ht1.out hb1 (by omega)
       have cx : W1x.cell? ⟨w.heap.size, 2, none⟩ = some (.slice A1 n1 cap1) := by have h := hrx 2 (.slice A1 n1 cap1) rfl; rwa [Nat.zero_add] at h
       have fx : W1x.frozen? ⟨w.heap.size, 2, none⟩ = false := by have h := (htx 2 (by omega)).2; rwa [Nat.zero_add] at h
       have Hrx := Lib.hid hrx
       have Htx := Lib.hid htx
       have Hux := Lib.hid (there_below Hu1.out hb1 (by omega))
       have Hqx := Lib.hid hT1
       have Hbx := Lib.hid hb1
       clear hrx htx hT1 hb1 hsj)
    | (refine tw_at_load 28 _ rfl ?_; refine Stopped.out ?_))
  refine ⟨?_⟩
  clear cx fx
  have hsj := Hs1.out
  have hsx := Hbx.out.size
  have hB2 : Below w.heap.size w (W1x.setCell ⟨w.heap.size, 2, none⟩ (.slice (some ⟨g1, 0, none⟩) n1 (n1 + 1))) := Below.setCells_ (o := 2) (Nat.le_refl _) [(.slice (some ⟨g1, 0, none⟩) n1 (n1 + 1))] (HB1.out.trans (Hbx.out.mono (by omega)))
  have hs2 : w.heap.size + 2 ≤ (W1x.setCell ⟨w.heap.size, 2, none⟩ (.slice (some ⟨g1, 0, none⟩) n1 (n1 + 1))).heap.size := by have h := setCells_size w.heap.size [(.slice (some ⟨g1, 0, none⟩) n1 (n1 + 1))] 2 W1x; have h2 : (W1x.setCells w.heap.size 2 [(.slice (some ⟨g1, 0, none⟩) n1 (n1 + 1))]).heap.size = W1x.heap.size := h; have h3 : (W1x.setCell ⟨w.heap.size, 2, none⟩ (.slice (some ⟨g1, 0, none⟩) n1 (n1 + 1))) = W1x.setCells w.heap.size 2 [(.slice (some ⟨g1, 0, none⟩) n1 (n1 + 1))] := rfl; rw [h3, h2]; omega
  have hr2 : (W1x.setCell ⟨w.heap.size, 2, none⟩ (.slice (some ⟨g1, 0, none⟩) n1 (n1 + 1))).rangeAt w.heap.size 0 [.string p, (.slice (some ⟨g0, 0, none⟩) n0 (n0 + 1)), (.slice (some ⟨g1, 0, none⟩) n1 (n1 + 1))] := rangeAt_mid (A := [.string p, (.slice (some ⟨g0, 0, none⟩) n0 (n0 + 1))]) (B := [(.slice A1 n1 cap1)]) (C := []) (vs := [(.slice (some ⟨g1, 0, none⟩) n1 (n1 + 1))]) Hrx.out rfl (by have h := there_part Htx.out 2 1 (by omega); exact h)
  have ht2 : (W1x.setCell ⟨w.heap.size, 2, none⟩ (.slice (some ⟨g1, 0, none⟩) n1 (n1 + 1))).there w.heap.size 0 3 := World.there_setCells Htx.out w.heap.size 2 [(.slice (some ⟨g1, 0, none⟩) n1 (n1 + 1))]
  have hu2 : (W1x.setCell ⟨w.heap.size, 2, none⟩ (.slice (some ⟨g1, 0, none⟩) n1 (n1 + 1))).there (w.heap.size + 1) 0 3 := World.there_setCells Hux.out w.heap.size 2 [(.slice (some ⟨g1, 0, none⟩) n1 (n1 + 1))]
  have hq1_2 : Tq1 (w.heap.size + 2) (W1x.setCell ⟨w.heap.size, 2, none⟩ (.slice (some ⟨g1, 0, none⟩) n1 (n1 + 1))) [(.slice (some ⟨g1, 0, none⟩) n1 (n1 + 1))] := HT1.out.low hsj (HT1.out.keep Hqx.out (fun k hk1 _ => setCells_far w.heap.size [(.slice (some ⟨g1, 0, none⟩) n1 (n1 + 1))] 2 W1x k (by omega)) (Nat.le_of_eq (setCells_size w.heap.size [(.slice (some ⟨g1, 0, none⟩) n1 (n1 + 1))] 2 W1x).symm))
  have hq0_2 : Tq0 (w.heap.size + 2) (W1x.setCell ⟨w.heap.size, 2, none⟩ (.slice (some ⟨g1, 0, none⟩) n1 (n1 + 1))) [(.slice (some ⟨g0, 0, none⟩) n0 (n0 + 1))] := HT0.out.keep (HT0.out.below Hq0_1.out Hbx.out) (fun k hk1 _ => setCells_far w.heap.size [(.slice (some ⟨g1, 0, none⟩) n1 (n1 + 1))] 2 W1x k (by omega)) (Nat.le_of_eq (setCells_size w.heap.size [(.slice (some ⟨g1, 0, none⟩) n1 (n1 + 1))] 2 W1x).symm)
  generalize (W1x.setCell ⟨w.heap.size, 2, none⟩ (.slice (some ⟨g1, 0, none⟩) n1 (n1 + 1))) = W2 at hB2 hs2 hr2 ht2 hu2 hq0_2 hq1_2 ⊢
  have Hq0_2 := Lib.hid hq0_2
  have Hq1_2 := Lib.hid hq1_2
  clear hq0_2 hq1_2 Hrx Htx Hux Hqx Hbx hsj hsx
  have HB2 := Lib.hid hB2
  have Hs2 := Lib.hid hs2
  have Hr2 := Lib.hid hr2
  have Ht2 := Lib.hid ht2
  have Hu2 := Lib.hid hu2
  clear hB2 hs2 hr2 ht2 hu2
  refine wpList_load_mid rfl 28 _ rfl w.heap.size 0 rfl [.string p, (.slice (some ⟨g0, 0, none⟩) n0 (n0 + 1)), (.slice (some ⟨g1, 0, none⟩) n1 (n1 + 1))] _ Hr2.out Tryz.underlying28 rfl sizeRule ?_
  go_wp2_with (refine tw_at_store 28 _ _ rfl ?_; refine Stopped.out ?_)
  refine ⟨?_⟩
  refine wpList_store_mid (b := w.heap.size + 1) (o := 0) rfl 28 _ _ rfl #[.string p, (.slice (some ⟨g0, 0, none⟩) n0 (n0 + 1)), (.slice (some ⟨g1, 0, none⟩) n1 (n1 + 1))] rfl rfl Hu2.out sizeRule (by
    refine all_oneCell_toArray (cs := [.string p, (.slice (some ⟨g0, 0, none⟩) n0 (n0 + 1)), (.slice (some ⟨g1, 0, none⟩) n1 (n1 + 1))]) (fun v hv => ?_)
    simp only [List.mem_cons, List.not_mem_nil, or_false] at hv
    rcases hv with rfl | rfl | rfl
    · rfl
    · rfl
    · rfl) ?_
  have hl := run_loadVar_mid (P := Tryz.prog) (W2.setCells (w.heap.size + 1) 0 [.string p, (.slice (some ⟨g0, 0, none⟩) n0 (n0 + 1)), (.slice (some ⟨g1, 0, none⟩) n1 (n1 + 1))]) (w.heap.size + 1) 0 28 [.string p, (.slice (some ⟨g0, 0, none⟩) n0 (n0 + 1)), (.slice (some ⟨g1, 0, none⟩) n1 (n1 + 1))] _ (World.rangeAt_setCells_same _ _ _ _ Hu2.out) Tryz.underlying28 rfl sizeRule
  have hB := Below.setCells_ (B := w.heap.size) (b := w.heap.size + 1) (o := 0) (Nat.le_succ _) [.string p, (.slice (some ⟨g0, 0, none⟩) n0 (n0 + 1)), (.slice (some ⟨g1, 0, none⟩) n1 (n1 + 1))] HB2.out
  have hk0 := HT0.out.keep (W' := W2.setCells (w.heap.size + 1) 0 [.string p, (.slice (some ⟨g0, 0, none⟩) n0 (n0 + 1)), (.slice (some ⟨g1, 0, none⟩) n1 (n1 + 1))]) Hq0_2.out (fun k hk1 _ => setCells_far (w.heap.size + 1) _ 0 W2 k (Nat.ne_of_gt hk1)) (Nat.le_of_eq (setCells_size (w.heap.size + 1) _ 0 W2).symm)
  have hf0 := HT0.out.low (lo' := w.heap.size) (Nat.le_add_right w.heap.size 2) hk0
  clear hk0
  have hk1 := HT1.out.keep (W' := W2.setCells (w.heap.size + 1) 0 [.string p, (.slice (some ⟨g0, 0, none⟩) n0 (n0 + 1)), (.slice (some ⟨g1, 0, none⟩) n1 (n1 + 1))]) Hq1_2.out (fun k hk1 _ => setCells_far (w.heap.size + 1) _ 0 W2 k (Nat.ne_of_gt hk1)) (Nat.le_of_eq (setCells_size (w.heap.size + 1) _ 0 W2).symm)
  have hf1 := HT1.out.low (lo' := w.heap.size) (Nat.le_add_right w.heap.size 2) hk1
  clear hk1
  generalize (W2.setCells (w.heap.size + 1) 0 [.string p, (.slice (some ⟨g0, 0, none⟩) n0 (n0 + 1)), (.slice (some ⟨g1, 0, none⟩) n1 (n1 + 1))]) = W at hl hB hf0 hf1 ⊢
  go_wp2
  (try simp only [Exit.inBlock, Exit.then])
  refine bodyPost_ret (results_cell Tryz.results92 _ _ rfl hl) rfl ?_
  exact ⟨g0, g1, rfl, hf0, hf1, hB⟩

set_option maxHeartbeats 4000000 in
set_option maxRecDepth 100000 in
theorem leftRule_of (p : ByteArray) (s0 t0 : Value) (s1 t1 : Value) (w : World)
    (hc0 : ∀ W : World, Below w.heap.size w W → Calls Tryz.prog 151 #[t0, s0] W fun e W' => e = .returned (.bool true) ∧ Below W.heap.size W W')
    (hc1 : ∀ W : World, Below w.heap.size w W → Calls Tryz.prog 152 #[t1, s1] W fun e W' => e = .returned (.bool true) ∧ Below W.heap.size W W') :
    Calls Tryz.prog 95 #[.agg #[.string p, t0, t1], .agg #[.string p, s0, s1]] w fun e w' => e = .returned (.bool true) ∧ Below w.heap.size w w' := by
  obtain ⟨W0, hW0⟩ : ∃ W0, (w.alloc (.cells #[.string p, t0, t1] 28)).alloc (.cells #[.string p, s0, s1] 28) = W0 := ⟨_, rfl⟩
  have hB0 : Below w.heap.size w W0 := hW0 ▸ ((new_below w _).trans ((new_below _ _).mono (by simp)))
  have hs0 : w.heap.size + 2 ≤ W0.heap.size := by rw [← hW0]; simp
  have hr0 : W0.rangeAt w.heap.size 0 [.string p, t0, t1] := hW0 ▸ rangeAt_below (new_range w [.string p, t0, t1] 28) (new_below _ _) (by simp)
  have hq0 : W0.rangeAt (w.heap.size + 1) 0 [.string p, s0, s1] := by
    have := new_range (w.alloc (.cells #[.string p, t0, t1] 28)) [.string p, s0, s1] 28
    rw [hW0] at this
    simpa using this
  have HW0 := Lib.hid hW0
  have Hc0 := Lib.hid hc0
  have Hc1 := Lib.hid hc1
  have HB0 := Lib.hid hB0
  have Hs0 := Lib.hid hs0
  have Hr0 := Lib.hid hr0
  have Hq0 := Lib.hid hq0
  clear hW0 hB0 hs0 hr0 hq0 hc0 hc1
  go_enter Tryz.func95, Tryz.ntmps95
  go_wp2_with (first
    | (go_at_call 152; refine (Hc1.out W1 HB1.out).mono ?_; rintro e W2 ⟨rfl, hb2⟩
       have hsj := Hs1.out
       have HB2 := Lib.hid (HB1.out.trans (hb2.mono (by omega)))
       have Hs2 := Lib.hid (show w.heap.size + 2 ≤ W2.heap.size from Nat.le_trans hsj hb2.size)
       have Hr2 := Lib.hid (rangeAt_below Hr1.out hb2 (by omega))
       have Hq2 := Lib.hid (rangeAt_below Hq1.out hb2 (by omega))
       clear hb2 hsj r2 q2)
    | (go_at_call 151; rw [HW0.out]; refine (Hc0.out W0 HB0.out).mono ?_; rintro e W1 ⟨rfl, hb1⟩
       have hsj := Hs0.out
       have HB1 := Lib.hid (HB0.out.trans (hb1.mono (by omega)))
       have Hs1 := Lib.hid (show w.heap.size + 2 ≤ W1.heap.size from Nat.le_trans hsj hb1.size)
       have Hr1 := Lib.hid (rangeAt_below Hr0.out hb1 (by omega))
       have Hq1 := Lib.hid (rangeAt_below Hq0.out hb1 (by omega))
       have r2 : W1.cell? ⟨w.heap.size, 2, none⟩ = some (t1) := by have h := Hr1.out 2 _ rfl; rwa [Nat.zero_add] at h
       have q2 : W1.cell? ⟨w.heap.size + 1, 2, none⟩ = some (s1) := by have h := Hq1.out 2 _ rfl; rwa [Nat.zero_add] at h
       clear hb1 hsj))
  go_returns
  exact ⟨rfl, HB2.out⟩

theorem infoPlan : (Tryz.prog.info? 31).map (fun i => (i.zero, i.size, i.bytes)) = some (some (.agg #[.string ⟨#[]⟩, .slice none 0 0, .slice none 0 0, .slice none 0 0]), 4, 88) := by kernel_rfl
theorem sizePlan : (Tryz.prog.info? 31).map (·.size) = some 4 := by kernel_rfl
set_option maxHeartbeats 4000000 in
set_option maxRecDepth 4000 in
theorem twinPlan_of  (x0a x0b x0c : Value) (A1 : Option Addr) (n1 cap1 : Nat) (Tq0 Tq1 : Tp) (w : World) (_ho0 : ∀ v ∈ [x0a, x0b, x0c], v.oneCell' = true)
    (hT0 : TpOk Tq0) (hc0 : ∀ W : World, Below w.heap.size w W → Calls Tryz.prog 92 #[(.agg #[x0a, x0b, x0c])] W fun e W' => ∃ y0a y0b y0c : Value, e = .returned (.agg #[y0a, y0b, y0c]) ∧ (∀ v ∈ [y0a, y0b, y0c], v.oneCell' = true) ∧ Tq0 W.heap.size W' [y0a, y0b, y0c] ∧ Below W.heap.size W W')
    (hT1 : TpOk Tq1) (hc1 : ∀ W : World, Below w.heap.size w W → Calls Tryz.prog 93 #[(.slice A1 n1 cap1)] W fun e W' => ∃ g1 : Nat, e = .returned (.slice (some ⟨g1, 0, none⟩) n1 (n1 + 1)) ∧ Tq1 W.heap.size W' [(.slice (some ⟨g1, 0, none⟩) n1 (n1 + 1))] ∧ Below W.heap.size W W') :
    Calls Tryz.prog 45 #[.agg #[x0a, x0b, x0c, (.slice A1 n1 cap1)]] w fun e w' => ∃ y0a y0b y0c : Value, ∃ g1 : Nat, e = .returned (.agg #[y0a, y0b, y0c, (.slice (some ⟨g1, 0, none⟩) n1 (n1 + 1))]) ∧ (∀ v ∈ [y0a, y0b, y0c], v.oneCell' = true) ∧ Tq0 w.heap.size w' [y0a, y0b, y0c] ∧ Tq1 w.heap.size w' [(.slice (some ⟨g1, 0, none⟩) n1 (n1 + 1))] ∧ Below w.heap.size w w' := by
  obtain ⟨W0, hW0⟩ : ∃ W0, (w.alloc (.cells #[x0a, x0b, x0c, (.slice A1 n1 cap1)] 31)).alloc (.cells #[.string ⟨#[]⟩, .slice none 0 0, .slice none 0 0, .slice none 0 0] 31) = W0 := ⟨_, rfl⟩
  have hB0 : Below w.heap.size w W0 := hW0 ▸ ((new_below w _).trans ((new_below _ _).mono (by simp)))
  have hs0 : w.heap.size + 2 ≤ W0.heap.size := by rw [← hW0]; simp
  have hr0 : W0.rangeAt w.heap.size 0 [x0a, x0b, x0c, (.slice A1 n1 cap1)] := hW0 ▸ rangeAt_below (new_range w [x0a, x0b, x0c, (.slice A1 n1 cap1)] 31) (new_below _ _) (by simp)
  have ht0 : W0.there w.heap.size 0 4 := hW0 ▸ there_below (new_there w #[x0a, x0b, x0c, (.slice A1 n1 cap1)] 31 4 rfl) (new_below _ _) (by simp)
  have hu0 : W0.there (w.heap.size + 1) 0 4 := by
    have := new_there (w.alloc (.cells #[x0a, x0b, x0c, (.slice A1 n1 cap1)] 31)) #[.string ⟨#[]⟩, .slice none 0 0, .slice none 0 0, .slice none 0 0] 31 4 rfl
    rw [hW0] at this
    simpa using this
  have HW0 := Lib.hid hW0
  have HT0 := Lib.hid hT0
  have Hc0 := Lib.hid hc0
  have HT1 := Lib.hid hT1
  have Hc1 := Lib.hid hc1
  clear hW0 hT0 hc0 hT1 hc1
  have HB0 := Lib.hid hB0
  have Hs0 := Lib.hid hs0
  have Hr0 := Lib.hid hr0
  have Ht0 := Lib.hid ht0
  have Hu0 := Lib.hid hu0
  clear hB0 hs0 hr0 ht0 hu0
  go_enter Tryz.func45, Tryz.ntmps45
  go_wp2_with (refine tw_at_load 28 _ rfl ?_; refine Stopped.out ?_)
  refine ⟨?_⟩
  rw [HW0.out]
  have hcall0 := Hc0.out W0 HB0.out
  have Hcall0 := Lib.hid hcall0
  clear hcall0
  refine wpList_load_mid rfl 28 _ rfl w.heap.size 0 rfl [x0a, x0b, x0c] _ (by have h := rangeAt_part Hr0.out 0 3; exact h) Tryz.underlying28 rfl sizeRule ?_
  go_wp2_with (first
    | (go_at_call 92; refine Hcall0.out.mono ?_; rintro e W0x ⟨y0a, y0b, y0c, rfl, ho0n, hT0, hb0⟩
       have hsj := Hs0.out
       have Hrx := Lib.hid (rangeAt_below Hr0.out hb0 (by omega))
       have Htx := Lib.hid (there_below Ht0.out hb0 (by omega))
       have Hux := Lib.hid (there_below Hu0.out hb0 (by omega))
       have Hqx := Lib.hid hT0
       have Hbx := Lib.hid hb0
       clear hT0 hb0 hsj)
    | (refine tw_at_store 28 _ _ rfl ?_; refine Stopped.out ?_))
  refine ⟨?_⟩
  have hto := there_part Htx.out 0 3 (by omega)
  rw [Nat.zero_add] at hto
  refine wpList_store_mid (b := w.heap.size) (o := 0) rfl 28 _ _ rfl #[y0a, y0b, y0c] rfl rfl hto sizeRule (all_oneCell_toArray (cs := [y0a, y0b, y0c]) ho0n) ?_
  clear hto
  have hsj := Hs0.out
  have hsx := Hbx.out.size
  have hB1 : Below w.heap.size w (W0x.setCells w.heap.size 0 [y0a, y0b, y0c]) := Below.setCells_ (o := 0) (Nat.le_refl _) [y0a, y0b, y0c] (HB0.out.trans (Hbx.out.mono (by omega)))
  have hs1 : w.heap.size + 2 ≤ (W0x.setCells w.heap.size 0 [y0a, y0b, y0c]).heap.size := by have h := setCells_size w.heap.size [y0a, y0b, y0c] 0 W0x; have h2 : (W0x.setCells w.heap.size 0 [y0a, y0b, y0c]).heap.size = W0x.heap.size := h; have h3 : (W0x.setCells w.heap.size 0 [y0a, y0b, y0c]) = W0x.setCells w.heap.size 0 [y0a, y0b, y0c] := rfl; rw [h3, h2]; omega
  have hr1 : (W0x.setCells w.heap.size 0 [y0a, y0b, y0c]).rangeAt w.heap.size 0 [y0a, y0b, y0c, (.slice A1 n1 cap1)] := rangeAt_mid (A := []) (B := [x0a, x0b, x0c]) (C := [(.slice A1 n1 cap1)]) (vs := [y0a, y0b, y0c]) Hrx.out rfl (by have h := there_part Htx.out 0 3 (by omega); exact h)
  have ht1 : (W0x.setCells w.heap.size 0 [y0a, y0b, y0c]).there w.heap.size 0 4 := World.there_setCells Htx.out w.heap.size 0 [y0a, y0b, y0c]
  have hu1 : (W0x.setCells w.heap.size 0 [y0a, y0b, y0c]).there (w.heap.size + 1) 0 4 := World.there_setCells Hux.out w.heap.size 0 [y0a, y0b, y0c]
  have hq0_1 : Tq0 (w.heap.size + 2) (W0x.setCells w.heap.size 0 [y0a, y0b, y0c]) [y0a, y0b, y0c] := HT0.out.low hsj (HT0.out.keep Hqx.out (fun k hk1 _ => setCells_far w.heap.size [y0a, y0b, y0c] 0 W0x k (by omega)) (Nat.le_of_eq (setCells_size w.heap.size [y0a, y0b, y0c] 0 W0x).symm))
  generalize (W0x.setCells w.heap.size 0 [y0a, y0b, y0c]) = W1 at hB1 hs1 hr1 ht1 hu1 hq0_1 ⊢
  have Hq0_1 := Lib.hid hq0_1
  clear hq0_1 Hrx Htx Hux Hqx Hbx hsj hsx
  have HB1 := Lib.hid hB1
  have Hs1 := Lib.hid hs1
  have Hr1 := Lib.hid hr1
  have Ht1 := Lib.hid ht1
  have Hu1 := Lib.hid hu1
  clear hB1 hs1 hr1 ht1 hu1
  go_wp2_with (refine tw_at_load 29 _ rfl ?_; refine Stopped.out ?_)
  refine ⟨?_⟩
  have hcall1 := Hc1.out W1 HB1.out
  have Hcall1 := Lib.hid hcall1
  clear hcall1
  have c1 : W1.cell? ⟨w.heap.size, 3, none⟩ = some (.slice A1 n1 cap1) := by have h := Hr1.out 3 (.slice A1 n1 cap1) rfl; rwa [Nat.zero_add] at h
  go_wp2_with (first
    | (go_at_call 93; refine Hcall1.out.mono ?_; rintro e W1x ⟨g1, rfl, hT1, hb1⟩
       have hsj := Hs1.out
       have hrx := rangeAt_below Hr1.out hb1 (by omega)
       have htx := there_below Ht1.out hb1 (by omega)
       have cx : W1x.cell? ⟨w.heap.size, 3, none⟩ = some (.slice A1 n1 cap1) := by have h := hrx 3 (.slice A1 n1 cap1) rfl; rwa [Nat.zero_add] at h
       have fx : W1x.frozen? ⟨w.heap.size, 3, none⟩ = false := by have h := (htx 3 (by omega)).2; rwa [Nat.zero_add] at h
       have Hrx := Lib.hid hrx
       have Htx := Lib.hid htx
       have Hux := Lib.hid (there_below Hu1.out hb1 (by omega))
       have Hqx := Lib.hid hT1
       have Hbx := Lib.hid hb1
       clear hrx htx hT1 hb1 hsj)
    | (refine tw_at_load 31 _ rfl ?_; refine Stopped.out ?_))
  refine ⟨?_⟩
  clear cx fx
  have hsj := Hs1.out
  have hsx := Hbx.out.size
  have hB2 : Below w.heap.size w (W1x.setCell ⟨w.heap.size, 3, none⟩ (.slice (some ⟨g1, 0, none⟩) n1 (n1 + 1))) := Below.setCells_ (o := 3) (Nat.le_refl _) [(.slice (some ⟨g1, 0, none⟩) n1 (n1 + 1))] (HB1.out.trans (Hbx.out.mono (by omega)))
  have hs2 : w.heap.size + 2 ≤ (W1x.setCell ⟨w.heap.size, 3, none⟩ (.slice (some ⟨g1, 0, none⟩) n1 (n1 + 1))).heap.size := by have h := setCells_size w.heap.size [(.slice (some ⟨g1, 0, none⟩) n1 (n1 + 1))] 3 W1x; have h2 : (W1x.setCells w.heap.size 3 [(.slice (some ⟨g1, 0, none⟩) n1 (n1 + 1))]).heap.size = W1x.heap.size := h; have h3 : (W1x.setCell ⟨w.heap.size, 3, none⟩ (.slice (some ⟨g1, 0, none⟩) n1 (n1 + 1))) = W1x.setCells w.heap.size 3 [(.slice (some ⟨g1, 0, none⟩) n1 (n1 + 1))] := rfl; rw [h3, h2]; omega
  have hr2 : (W1x.setCell ⟨w.heap.size, 3, none⟩ (.slice (some ⟨g1, 0, none⟩) n1 (n1 + 1))).rangeAt w.heap.size 0 [y0a, y0b, y0c, (.slice (some ⟨g1, 0, none⟩) n1 (n1 + 1))] := rangeAt_mid (A := [y0a, y0b, y0c]) (B := [(.slice A1 n1 cap1)]) (C := []) (vs := [(.slice (some ⟨g1, 0, none⟩) n1 (n1 + 1))]) Hrx.out rfl (by have h := there_part Htx.out 3 1 (by omega); exact h)
  have ht2 : (W1x.setCell ⟨w.heap.size, 3, none⟩ (.slice (some ⟨g1, 0, none⟩) n1 (n1 + 1))).there w.heap.size 0 4 := World.there_setCells Htx.out w.heap.size 3 [(.slice (some ⟨g1, 0, none⟩) n1 (n1 + 1))]
  have hu2 : (W1x.setCell ⟨w.heap.size, 3, none⟩ (.slice (some ⟨g1, 0, none⟩) n1 (n1 + 1))).there (w.heap.size + 1) 0 4 := World.there_setCells Hux.out w.heap.size 3 [(.slice (some ⟨g1, 0, none⟩) n1 (n1 + 1))]
  have hq1_2 : Tq1 (w.heap.size + 2) (W1x.setCell ⟨w.heap.size, 3, none⟩ (.slice (some ⟨g1, 0, none⟩) n1 (n1 + 1))) [(.slice (some ⟨g1, 0, none⟩) n1 (n1 + 1))] := HT1.out.low hsj (HT1.out.keep Hqx.out (fun k hk1 _ => setCells_far w.heap.size [(.slice (some ⟨g1, 0, none⟩) n1 (n1 + 1))] 3 W1x k (by omega)) (Nat.le_of_eq (setCells_size w.heap.size [(.slice (some ⟨g1, 0, none⟩) n1 (n1 + 1))] 3 W1x).symm))
  have hq0_2 : Tq0 (w.heap.size + 2) (W1x.setCell ⟨w.heap.size, 3, none⟩ (.slice (some ⟨g1, 0, none⟩) n1 (n1 + 1))) [y0a, y0b, y0c] := HT0.out.keep (HT0.out.below Hq0_1.out Hbx.out) (fun k hk1 _ => setCells_far w.heap.size [(.slice (some ⟨g1, 0, none⟩) n1 (n1 + 1))] 3 W1x k (by omega)) (Nat.le_of_eq (setCells_size w.heap.size [(.slice (some ⟨g1, 0, none⟩) n1 (n1 + 1))] 3 W1x).symm)
  generalize (W1x.setCell ⟨w.heap.size, 3, none⟩ (.slice (some ⟨g1, 0, none⟩) n1 (n1 + 1))) = W2 at hB2 hs2 hr2 ht2 hu2 hq0_2 hq1_2 ⊢
  have Hq0_2 := Lib.hid hq0_2
  have Hq1_2 := Lib.hid hq1_2
  clear hq0_2 hq1_2 Hrx Htx Hux Hqx Hbx hsj hsx
  have HB2 := Lib.hid hB2
  have Hs2 := Lib.hid hs2
  have Hr2 := Lib.hid hr2
  have Ht2 := Lib.hid ht2
  have Hu2 := Lib.hid hu2
  clear hB2 hs2 hr2 ht2 hu2
  refine wpList_load_mid rfl 31 _ rfl w.heap.size 0 rfl [y0a, y0b, y0c, (.slice (some ⟨g1, 0, none⟩) n1 (n1 + 1))] _ Hr2.out Tryz.underlying31 rfl sizePlan ?_
  go_wp2_with (refine tw_at_store 31 _ _ rfl ?_; refine Stopped.out ?_)
  refine ⟨?_⟩
  refine wpList_store_mid (b := w.heap.size + 1) (o := 0) rfl 31 _ _ rfl #[y0a, y0b, y0c, (.slice (some ⟨g1, 0, none⟩) n1 (n1 + 1))] rfl rfl Hu2.out sizePlan (by
    refine all_oneCell_toArray (cs := [y0a, y0b, y0c, (.slice (some ⟨g1, 0, none⟩) n1 (n1 + 1))]) (fun v hv => ?_)
    simp only [List.mem_cons, List.not_mem_nil, or_false] at hv
    rcases hv with rfl | rfl | rfl | rfl
    · exact ho0n _ (by simp)
    · exact ho0n _ (by simp)
    · exact ho0n _ (by simp)
    · rfl) ?_
  have hl := run_loadVar_mid (P := Tryz.prog) (W2.setCells (w.heap.size + 1) 0 [y0a, y0b, y0c, (.slice (some ⟨g1, 0, none⟩) n1 (n1 + 1))]) (w.heap.size + 1) 0 31 [y0a, y0b, y0c, (.slice (some ⟨g1, 0, none⟩) n1 (n1 + 1))] _ (World.rangeAt_setCells_same _ _ _ _ Hu2.out) Tryz.underlying31 rfl sizePlan
  have hB := Below.setCells_ (B := w.heap.size) (b := w.heap.size + 1) (o := 0) (Nat.le_succ _) [y0a, y0b, y0c, (.slice (some ⟨g1, 0, none⟩) n1 (n1 + 1))] HB2.out
  have hk0 := HT0.out.keep (W' := W2.setCells (w.heap.size + 1) 0 [y0a, y0b, y0c, (.slice (some ⟨g1, 0, none⟩) n1 (n1 + 1))]) Hq0_2.out (fun k hk1 _ => setCells_far (w.heap.size + 1) _ 0 W2 k (Nat.ne_of_gt hk1)) (Nat.le_of_eq (setCells_size (w.heap.size + 1) _ 0 W2).symm)
  have hf0 := HT0.out.low (lo' := w.heap.size) (Nat.le_add_right w.heap.size 2) hk0
  clear hk0
  have hk1 := HT1.out.keep (W' := W2.setCells (w.heap.size + 1) 0 [y0a, y0b, y0c, (.slice (some ⟨g1, 0, none⟩) n1 (n1 + 1))]) Hq1_2.out (fun k hk1 _ => setCells_far (w.heap.size + 1) _ 0 W2 k (Nat.ne_of_gt hk1)) (Nat.le_of_eq (setCells_size (w.heap.size + 1) _ 0 W2).symm)
  have hf1 := HT1.out.low (lo' := w.heap.size) (Nat.le_add_right w.heap.size 2) hk1
  clear hk1
  generalize (W2.setCells (w.heap.size + 1) 0 [y0a, y0b, y0c, (.slice (some ⟨g1, 0, none⟩) n1 (n1 + 1))]) = W at hl hB hf0 hf1 ⊢
  go_wp2
  (try simp only [Exit.inBlock, Exit.then])
  refine bodyPost_ret (results_cell Tryz.results45 _ _ rfl hl) rfl ?_
  exact ⟨y0a, y0b, y0c, g1, rfl, ho0n, hf0, hf1, hB⟩

set_option maxHeartbeats 4000000 in
set_option maxRecDepth 100000 in
theorem leftPlan_of  (x0a x0b x0c y0a y0b y0c : Value) (s1 t1 : Value) (w : World)
    (hc0 : ∀ W : World, Below w.heap.size w W → Calls Tryz.prog 95 #[(.agg #[y0a, y0b, y0c]), (.agg #[x0a, x0b, x0c])] W fun e W' => e = .returned (.bool true) ∧ Below W.heap.size W W')
    (hc1 : ∀ W : World, Below w.heap.size w W → Calls Tryz.prog 96 #[t1, s1] W fun e W' => e = .returned (.bool true) ∧ Below W.heap.size W W') :
    Calls Tryz.prog 47 #[.agg #[y0a, y0b, y0c, t1], .agg #[x0a, x0b, x0c, s1]] w fun e w' => e = .returned (.bool true) ∧ Below w.heap.size w w' := by
  obtain ⟨W0, hW0⟩ : ∃ W0, (w.alloc (.cells #[y0a, y0b, y0c, t1] 31)).alloc (.cells #[x0a, x0b, x0c, s1] 31) = W0 := ⟨_, rfl⟩
  have hB0 : Below w.heap.size w W0 := hW0 ▸ ((new_below w _).trans ((new_below _ _).mono (by simp)))
  have hs0 : w.heap.size + 2 ≤ W0.heap.size := by rw [← hW0]; simp
  have hr0 : W0.rangeAt w.heap.size 0 [y0a, y0b, y0c, t1] := hW0 ▸ rangeAt_below (new_range w [y0a, y0b, y0c, t1] 31) (new_below _ _) (by simp)
  have hq0 : W0.rangeAt (w.heap.size + 1) 0 [x0a, x0b, x0c, s1] := by
    have := new_range (w.alloc (.cells #[y0a, y0b, y0c, t1] 31)) [x0a, x0b, x0c, s1] 31
    rw [hW0] at this
    simpa using this
  have HW0 := Lib.hid hW0
  have Hc0 := Lib.hid hc0
  have Hc1 := Lib.hid hc1
  have HB0 := Lib.hid hB0
  have Hs0 := Lib.hid hs0
  have Hr0 := Lib.hid hr0
  have Hq0 := Lib.hid hq0
  clear hW0 hB0 hs0 hr0 hq0 hc0 hc1
  go_enter Tryz.func47, Tryz.ntmps47
  go_wp2_with (first
    | (go_at_call 96; refine (Hc1.out W1 HB1.out).mono ?_; rintro e W2 ⟨rfl, hb2⟩
       have hsj := Hs1.out
       have HB2 := Lib.hid (HB1.out.trans (hb2.mono (by omega)))
       have Hs2 := Lib.hid (show w.heap.size + 2 ≤ W2.heap.size from Nat.le_trans hsj hb2.size)
       have Hr2 := Lib.hid (rangeAt_below Hr1.out hb2 (by omega))
       have Hq2 := Lib.hid (rangeAt_below Hq1.out hb2 (by omega))
       clear hb2 hsj r3 q3)
    | (go_at_call 95; rw [HW0.out]; refine (Hc0.out W0 HB0.out).mono ?_; rintro e W1 ⟨rfl, hb1⟩
       have hsj := Hs0.out
       have HB1 := Lib.hid (HB0.out.trans (hb1.mono (by omega)))
       have Hs1 := Lib.hid (show w.heap.size + 2 ≤ W1.heap.size from Nat.le_trans hsj hb1.size)
       have Hr1 := Lib.hid (rangeAt_below Hr0.out hb1 (by omega))
       have Hq1 := Lib.hid (rangeAt_below Hq0.out hb1 (by omega))
       have r3 : W1.cell? ⟨w.heap.size, 3, none⟩ = some (t1) := by have h := Hr1.out 3 _ rfl; rwa [Nat.zero_add] at h
       have q3 : W1.cell? ⟨w.heap.size + 1, 3, none⟩ = some (s1) := by have h := Hq1.out 3 _ rfl; rwa [Nat.zero_add] at h
       clear hb1 hsj))
  go_returns
  exact ⟨rfl, HB2.out⟩


end Go.Proofs.YtgjdgincebchhaaGreatDoor

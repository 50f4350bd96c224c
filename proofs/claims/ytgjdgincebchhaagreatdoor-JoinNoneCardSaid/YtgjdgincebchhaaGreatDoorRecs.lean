/-
  Walks: a record whose last part is a list, copied; is the copy still what it was? By what is known of the list.
-/
import Derived.Test.YtgjdgincebchhaaGreatDoorFlatValue
import Derived.Test.YtgjdgincebchhaaGreatDoorFlatTerm
namespace Go.Proofs.YtgjdgincebchhaaGreatDoor
open Go Go.RowKit

@[go_sem high] theorem eq_selfTerm (v : ByteArray) (k m : Int) (s : ByteArray) (w : World) : (binOp .eql 82 (.agg #[.string v, .int .i8 k, .int .i64 m, .string s]) (.agg #[.string v, .int .i8 k, .int .i64 m, .string s])).run Tryz.prog w = .ok (.bool true) w := by
  simp only [binOp]
  simp [Op.equal, Op.maxDepth, Tryz.underlying82, Tryz.underlying56, Tryz.underlying54, Tryz.underlying2, Tryz.underlying9, go_sem]

theorem infoFact : (Tryz.prog.info? 24).map (fun i => (i.zero, i.size, i.bytes)) = some (some (.agg #[.string ⟨#[]⟩, .slice none 0 0]), 2, 40) := by kernel_rfl
theorem sizeFact : (Tryz.prog.info? 24).map (·.size) = some 2 := by kernel_rfl

set_option maxHeartbeats 1000000 in
set_option maxRecDepth 4000 in
theorem twinFact_of (p : ByteArray) (A : Option Addr) (n cap : Nat) (Tq : Tp) (hT : TpOk Tq) (w : World)
    (hcall : ∀ W : World, Below w.heap.size w W → Calls Tryz.prog 31 #[(.slice A n cap)] W fun e W' => ∃ g : Nat, e = .returned (.slice (some ⟨g, 0, none⟩) n (n + 1)) ∧ Tq W.heap.size W' [(.slice (some ⟨g, 0, none⟩) n (n + 1))] ∧ Below W.heap.size W W') :
    Calls Tryz.prog 7 #[.agg #[.string p, (.slice A n cap)]] w fun e w' => ∃ g : Nat, e = .returned (.agg #[.string p, (.slice (some ⟨g, 0, none⟩) n (n + 1))]) ∧ Tq w.heap.size w' [(.slice (some ⟨g, 0, none⟩) n (n + 1))] ∧ Below w.heap.size w w' := by
  obtain ⟨W1, hW1⟩ : ∃ W1, (w.alloc (.cells #[.string p, (.slice A n cap)] 24)).alloc (.cells #[.string ⟨#[]⟩, .slice none 0 0] 24) = W1 := ⟨_, rfl⟩
  have hB1 : Below w.heap.size w W1 := hW1 ▸ ((new_below w _).trans ((new_below _ _).mono (by simp)))
  have hs1 : W1.heap.size = w.heap.size + 2 := by rw [← hW1]; simp
  have hr1 : W1.rangeAt w.heap.size 0 [.string p, (.slice A n cap)] := hW1 ▸ rangeAt_below (new_range w [.string p, (.slice A n cap)] 24) (new_below _ _) (by simp)
  have ht1 : W1.there w.heap.size 0 2 := hW1 ▸ there_below (new_there w #[.string p, (.slice A n cap)] 24 2 rfl) (new_below _ _) (by simp)
  have ht2 : W1.there (w.heap.size + 1) 0 2 := by
    have := new_there (w.alloc (.cells #[.string p, (.slice A n cap)] 24)) #[.string ⟨#[]⟩, .slice none 0 0] 24 2 rfl
    rw [hW1] at this
    simpa using this
  have Hcall := Lib.hid (hcall W1 hB1)
  have HT := Lib.hid hT
  have HW1 := Lib.hid hW1
  have HB1 := Lib.hid hB1
  have Hr1 := Lib.hid hr1
  have Ht1 := Lib.hid ht1
  have Ht2 := Lib.hid ht2
  have Hs1 := Lib.hid hs1
  clear hcall hT hW1 hB1 hr1 ht1 ht2 hs1
  go_enter Tryz.func7, Tryz.ntmps7
  go_wp2_with (first
    | (go_at_call 31; rw [HW1.out]; refine Hcall.out.mono ?_; rintro e W2 ⟨g, rfl, hTv, hb2⟩
       have h1 := Hs1.out
       have hr2 := rangeAt_below Hr1.out hb2 (by omega)
       have ht3 := there_below Ht1.out hb2 (by omega)
       have c0 : W2.cell? ⟨w.heap.size, 1, none⟩ = some (.slice A n cap) := by have := hr2 1 (.slice A n cap) rfl; rwa [Nat.zero_add] at this
       have f0 : W2.frozen? ⟨w.heap.size, 1, none⟩ = false := by have := (ht3 1 (by omega)).2; rwa [Nat.zero_add] at this
       have Hr2 := Lib.hid hr2
       have Ht3 := Lib.hid ht3
       have Ht4 := Lib.hid (there_below Ht2.out hb2 (by omega))
       have HTv := Lib.hid hTv
       clear hr2 ht3 hTv h1)
    | (refine tw_at_load 24 _ rfl ?_
       have hr5 : (W2.setCell ⟨w.heap.size, 1, none⟩ (.slice (some ⟨g, 0, none⟩) n (n + 1))).rangeAt w.heap.size 0 [.string p, (.slice (some ⟨g, 0, none⟩) n (n + 1))] := rangeAt_put (xs := [.string p]) (vs := [(.slice (some ⟨g, 0, none⟩) n (n + 1))]) (rangeAt_left (xs := [.string p]) (ys := [(.slice A n cap)]) Hr2.out) rfl (there_part Ht3.out 1 1 (by omega))
       refine wpList_load_mid rfl 24 _ rfl w.heap.size 0 rfl [.string p, (.slice (some ⟨g, 0, none⟩) n (n + 1))] _ hr5 Tryz.underlying24 rfl sizeFact ?_)
    | (refine tw_at_store 24 _ _ rfl ?_; refine Stopped.out ?_))
  refine ⟨?_⟩
  have ht5 : (W2.setCell ⟨w.heap.size, 1, none⟩ (.slice (some ⟨g, 0, none⟩) n (n + 1))).there (w.heap.size + 1) 0 2 := World.there_setCells Ht4.out w.heap.size 1 [(.slice (some ⟨g, 0, none⟩) n (n + 1))]
  refine wpList_store_mid (b := w.heap.size + 1) (o := 0) rfl 24 _ _ rfl #[.string p, (.slice (some ⟨g, 0, none⟩) n (n + 1))] rfl rfl ht5 sizeFact (by simp [Value.oneCell']) ?_
  have hl := run_loadVar_mid (P := Tryz.prog) ((W2.setCell ⟨w.heap.size, 1, none⟩ (.slice (some ⟨g, 0, none⟩) n (n + 1))).setCells (w.heap.size + 1) 0 [.string p, (.slice (some ⟨g, 0, none⟩) n (n + 1))]) (w.heap.size + 1) 0 24 [.string p, (.slice (some ⟨g, 0, none⟩) n (n + 1))] _ (World.rangeAt_setCells_same _ _ _ _ ht5) Tryz.underlying24 rfl sizeFact
  have hs2 := hb2.size
  have hs1 := Hs1.out
  have hB := Below.setCells_ (B := w.heap.size) (b := w.heap.size + 1) (o := 0) (by omega) [.string p, (.slice (some ⟨g, 0, none⟩) n (n + 1))] (Below.setCells_ (B := w.heap.size) (b := w.heap.size) (o := 1) (Nat.le_refl _) [(.slice (some ⟨g, 0, none⟩) n (n + 1))] (HB1.out.trans (hb2.mono (by omega))))
  have hTf : Tq w.heap.size ((W2.setCell ⟨w.heap.size, 1, none⟩ (.slice (some ⟨g, 0, none⟩) n (n + 1))).setCells (w.heap.size + 1) 0 [.string p, (.slice (some ⟨g, 0, none⟩) n (n + 1))]) [(.slice (some ⟨g, 0, none⟩) n (n + 1))] := HT.out.low (by omega) (HT.out.keep HTv.out (fun k hk1 hk2 => by
    rw [setCells_far _ _ _ _ _ (by omega)]
    exact setCells_far w.heap.size [(.slice (some ⟨g, 0, none⟩) n (n + 1))] 1 W2 k (by omega)) (by rw [setCells_size]; exact Nat.le_of_eq (setCells_size w.heap.size [(.slice (some ⟨g, 0, none⟩) n (n + 1))] 1 W2).symm))
  change Below w.heap.size w ((W2.setCell ⟨w.heap.size, 1, none⟩ (.slice (some ⟨g, 0, none⟩) n (n + 1))).setCells (w.heap.size + 1) 0 [.string p, (.slice (some ⟨g, 0, none⟩) n (n + 1))]) at hB
  generalize (W2.setCell ⟨w.heap.size, 1, none⟩ (.slice (some ⟨g, 0, none⟩) n (n + 1))).setCells (w.heap.size + 1) 0 [.string p, (.slice (some ⟨g, 0, none⟩) n (n + 1))] = W at hl hB hTf ⊢
  go_wp2
  (try simp only [Exit.inBlock, Exit.then])
  refine bodyPost_ret (results_cell Tryz.results7 _ _ rfl hl) rfl ?_
  exact ⟨g, rfl, hTf, hB⟩

set_option maxHeartbeats 1000000 in
theorem leftFact_of (p : ByteArray) (sv sl : Value) (w : World) (hcall : ∀ W : World, Below w.heap.size w W → Calls Tryz.prog 37 #[sv, sl] W fun e W' => e = .returned (.bool true) ∧ Below W.heap.size W W') :
    Calls Tryz.prog 10 #[.agg #[.string p, sv], .agg #[.string p, sl]] w fun e w' => e = .returned (.bool true) ∧ Below w.heap.size w w' := by
  obtain ⟨W1, hW1⟩ : ∃ W1, (w.alloc (.cells #[.string p, sv] 24)).alloc (.cells #[.string p, sl] 24) = W1 := ⟨_, rfl⟩
  have hB1 : Below w.heap.size w W1 := hW1 ▸ ((new_below w _).trans ((new_below _ _).mono (by simp)))
  have Hcall := Lib.hid (hcall W1 hB1)
  have HW1 := Lib.hid hW1
  clear hcall hW1
  go_enter Tryz.func10, Tryz.ntmps10
  go_wp2_with (go_at_call 37; rw [HW1.out]; refine Hcall.out.mono ?_; rintro e W2 ⟨rfl, hb2⟩)
  go_returns
  exact ⟨rfl, hB1.trans (hb2.mono hB1.size)⟩

theorem infoAtom : (Tryz.prog.info? 86).map (fun i => (i.zero, i.size, i.bytes)) = some (some (.agg #[.string ⟨#[]⟩, .slice none 0 0]), 2, 40) := by kernel_rfl
theorem sizeAtom : (Tryz.prog.info? 86).map (·.size) = some 2 := by kernel_rfl

set_option maxHeartbeats 1000000 in
set_option maxRecDepth 4000 in
theorem twinAtom_of (p : ByteArray) (A : Option Addr) (n cap : Nat) (Tq : Tp) (hT : TpOk Tq) (w : World)
    (hcall : ∀ W : World, Below w.heap.size w W → Calls Tryz.prog 309 #[(.slice A n cap)] W fun e W' => ∃ g : Nat, e = .returned (.slice (some ⟨g, 0, none⟩) n (n + 1)) ∧ Tq W.heap.size W' [(.slice (some ⟨g, 0, none⟩) n (n + 1))] ∧ Below W.heap.size W W') :
    Calls Tryz.prog 275 #[.agg #[.string p, (.slice A n cap)]] w fun e w' => ∃ g : Nat, e = .returned (.agg #[.string p, (.slice (some ⟨g, 0, none⟩) n (n + 1))]) ∧ Tq w.heap.size w' [(.slice (some ⟨g, 0, none⟩) n (n + 1))] ∧ Below w.heap.size w w' := by
  obtain ⟨W1, hW1⟩ : ∃ W1, (w.alloc (.cells #[.string p, (.slice A n cap)] 86)).alloc (.cells #[.string ⟨#[]⟩, .slice none 0 0] 86) = W1 := ⟨_, rfl⟩
  have hB1 : Below w.heap.size w W1 := hW1 ▸ ((new_below w _).trans ((new_below _ _).mono (by simp)))
  have hs1 : W1.heap.size = w.heap.size + 2 := by rw [← hW1]; simp
  have hr1 : W1.rangeAt w.heap.size 0 [.string p, (.slice A n cap)] := hW1 ▸ rangeAt_below (new_range w [.string p, (.slice A n cap)] 86) (new_below _ _) (by simp)
  have ht1 : W1.there w.heap.size 0 2 := hW1 ▸ there_below (new_there w #[.string p, (.slice A n cap)] 86 2 rfl) (new_below _ _) (by simp)
  have ht2 : W1.there (w.heap.size + 1) 0 2 := by
    have := new_there (w.alloc (.cells #[.string p, (.slice A n cap)] 86)) #[.string ⟨#[]⟩, .slice none 0 0] 86 2 rfl
    rw [hW1] at this
    simpa using this
  have Hcall := Lib.hid (hcall W1 hB1)
  have HT := Lib.hid hT
  have HW1 := Lib.hid hW1
  have HB1 := Lib.hid hB1
  have Hr1 := Lib.hid hr1
  have Ht1 := Lib.hid ht1
  have Ht2 := Lib.hid ht2
  have Hs1 := Lib.hid hs1
  clear hcall hT hW1 hB1 hr1 ht1 ht2 hs1
  go_enter Tryz.func275, Tryz.ntmps275
  go_wp2_with (first
    | (go_at_call 309; rw [HW1.out]; refine Hcall.out.mono ?_; rintro e W2 ⟨g, rfl, hTv, hb2⟩
       have h1 := Hs1.out
       have hr2 := rangeAt_below Hr1.out hb2 (by omega)
       have ht3 := there_below Ht1.out hb2 (by omega)
       have c0 : W2.cell? ⟨w.heap.size, 1, none⟩ = some (.slice A n cap) := by have := hr2 1 (.slice A n cap) rfl; rwa [Nat.zero_add] at this
       have f0 : W2.frozen? ⟨w.heap.size, 1, none⟩ = false := by have := (ht3 1 (by omega)).2; rwa [Nat.zero_add] at this
       have Hr2 := Lib.hid hr2
       have Ht3 := Lib.hid ht3
       have Ht4 := Lib.hid (there_below Ht2.out hb2 (by omega))
       have HTv := Lib.hid hTv
       clear hr2 ht3 hTv h1)
    | (refine tw_at_load 86 _ rfl ?_
       have hr5 : (W2.setCell ⟨w.heap.size, 1, none⟩ (.slice (some ⟨g, 0, none⟩) n (n + 1))).rangeAt w.heap.size 0 [.string p, (.slice (some ⟨g, 0, none⟩) n (n + 1))] := rangeAt_put (xs := [.string p]) (vs := [(.slice (some ⟨g, 0, none⟩) n (n + 1))]) (rangeAt_left (xs := [.string p]) (ys := [(.slice A n cap)]) Hr2.out) rfl (there_part Ht3.out 1 1 (by omega))
       refine wpList_load_mid rfl 86 _ rfl w.heap.size 0 rfl [.string p, (.slice (some ⟨g, 0, none⟩) n (n + 1))] _ hr5 Tryz.underlying86 rfl sizeAtom ?_)
    | (refine tw_at_store 86 _ _ rfl ?_; refine Stopped.out ?_))
  refine ⟨?_⟩
  have ht5 : (W2.setCell ⟨w.heap.size, 1, none⟩ (.slice (some ⟨g, 0, none⟩) n (n + 1))).there (w.heap.size + 1) 0 2 := World.there_setCells Ht4.out w.heap.size 1 [(.slice (some ⟨g, 0, none⟩) n (n + 1))]
  refine wpList_store_mid (b := w.heap.size + 1) (o := 0) rfl 86 _ _ rfl #[.string p, (.slice (some ⟨g, 0, none⟩) n (n + 1))] rfl rfl ht5 sizeAtom (by simp [Value.oneCell']) ?_
  have hl := run_loadVar_mid (P := Tryz.prog) ((W2.setCell ⟨w.heap.size, 1, none⟩ (.slice (some ⟨g, 0, none⟩) n (n + 1))).setCells (w.heap.size + 1) 0 [.string p, (.slice (some ⟨g, 0, none⟩) n (n + 1))]) (w.heap.size + 1) 0 86 [.string p, (.slice (some ⟨g, 0, none⟩) n (n + 1))] _ (World.rangeAt_setCells_same _ _ _ _ ht5) Tryz.underlying86 rfl sizeAtom
  have hs2 := hb2.size
  have hs1 := Hs1.out
  have hB := Below.setCells_ (B := w.heap.size) (b := w.heap.size + 1) (o := 0) (by omega) [.string p, (.slice (some ⟨g, 0, none⟩) n (n + 1))] (Below.setCells_ (B := w.heap.size) (b := w.heap.size) (o := 1) (Nat.le_refl _) [(.slice (some ⟨g, 0, none⟩) n (n + 1))] (HB1.out.trans (hb2.mono (by omega))))
  have hTf : Tq w.heap.size ((W2.setCell ⟨w.heap.size, 1, none⟩ (.slice (some ⟨g, 0, none⟩) n (n + 1))).setCells (w.heap.size + 1) 0 [.string p, (.slice (some ⟨g, 0, none⟩) n (n + 1))]) [(.slice (some ⟨g, 0, none⟩) n (n + 1))] := HT.out.low (by omega) (HT.out.keep HTv.out (fun k hk1 hk2 => by
    rw [setCells_far _ _ _ _ _ (by omega)]
    exact setCells_far w.heap.size [(.slice (some ⟨g, 0, none⟩) n (n + 1))] 1 W2 k (by omega)) (by rw [setCells_size]; exact Nat.le_of_eq (setCells_size w.heap.size [(.slice (some ⟨g, 0, none⟩) n (n + 1))] 1 W2).symm))
  change Below w.heap.size w ((W2.setCell ⟨w.heap.size, 1, none⟩ (.slice (some ⟨g, 0, none⟩) n (n + 1))).setCells (w.heap.size + 1) 0 [.string p, (.slice (some ⟨g, 0, none⟩) n (n + 1))]) at hB
  generalize (W2.setCell ⟨w.heap.size, 1, none⟩ (.slice (some ⟨g, 0, none⟩) n (n + 1))).setCells (w.heap.size + 1) 0 [.string p, (.slice (some ⟨g, 0, none⟩) n (n + 1))] = W at hl hB hTf ⊢
  go_wp2
  (try simp only [Exit.inBlock, Exit.then])
  refine bodyPost_ret (results_cell Tryz.results275 _ _ rfl hl) rfl ?_
  exact ⟨g, rfl, hTf, hB⟩

set_option maxHeartbeats 1000000 in
theorem leftAtom_of (p : ByteArray) (sv sl : Value) (w : World) (hcall : ∀ W : World, Below w.heap.size w W → Calls Tryz.prog 311 #[sv, sl] W fun e W' => e = .returned (.bool true) ∧ Below W.heap.size W W') :
    Calls Tryz.prog 278 #[.agg #[.string p, sv], .agg #[.string p, sl]] w fun e w' => e = .returned (.bool true) ∧ Below w.heap.size w w' := by
  obtain ⟨W1, hW1⟩ : ∃ W1, (w.alloc (.cells #[.string p, sv] 86)).alloc (.cells #[.string p, sl] 86) = W1 := ⟨_, rfl⟩
  have hB1 : Below w.heap.size w W1 := hW1 ▸ ((new_below w _).trans ((new_below _ _).mono (by simp)))
  have Hcall := Lib.hid (hcall W1 hB1)
  have HW1 := Lib.hid hW1
  clear hcall hW1
  go_enter Tryz.func278, Tryz.ntmps278
  go_wp2_with (go_at_call 311; rw [HW1.out]; refine Hcall.out.mono ?_; rintro e W2 ⟨rfl, hb2⟩)
  go_returns
  exact ⟨rfl, hB1.trans (hb2.mono hB1.size)⟩


set_option maxHeartbeats 1000000 in
set_option maxRecDepth 4000 in
theorem twinStep_of (k l m : Int) (A : Option Addr) (n cap : Nat) (Tq : Tp) (hT : TpOk Tq) (w : World)
    (hcall : ∀ W : World, Below w.heap.size w W → Calls Tryz.prog 224 #[(.slice A n cap)] W fun e W' => ∃ g : Nat, e = .returned (.slice (some ⟨g, 0, none⟩) n (n + 1)) ∧ Tq W.heap.size W' [(.slice (some ⟨g, 0, none⟩) n (n + 1))] ∧ Below W.heap.size W W') :
    Calls Tryz.prog 149 #[.agg #[.int .i8 k, .int .i64 l, .int .u32 m, (.slice A n cap)]] w fun e w' => ∃ g : Nat, e = .returned (.agg #[.int .i8 k, .int .i64 l, .int .u32 m, (.slice (some ⟨g, 0, none⟩) n (n + 1))]) ∧ Tq w.heap.size w' [(.slice (some ⟨g, 0, none⟩) n (n + 1))] ∧ Below w.heap.size w w' := by
  obtain ⟨W1, hW1⟩ : ∃ W1, (w.alloc (.cells #[.int .i8 k, .int .i64 l, .int .u32 m, (.slice A n cap)] 102)).alloc (.cells #[.int .i8 0, .int .i64 0, .int .u32 0, .slice none 0 0] 102) = W1 := ⟨_, rfl⟩
  have hB1 : Below w.heap.size w W1 := hW1 ▸ ((new_below w _).trans ((new_below _ _).mono (by simp)))
  have hs1 : W1.heap.size = w.heap.size + 2 := by rw [← hW1]; simp
  have hr1 : W1.rangeAt w.heap.size 0 [.int .i8 k, .int .i64 l, .int .u32 m, (.slice A n cap)] := hW1 ▸ rangeAt_below (new_range w [.int .i8 k, .int .i64 l, .int .u32 m, (.slice A n cap)] 102) (new_below _ _) (by simp)
  have ht1 : W1.there w.heap.size 0 4 := hW1 ▸ there_below (new_there w #[.int .i8 k, .int .i64 l, .int .u32 m, (.slice A n cap)] 102 4 rfl) (new_below _ _) (by simp)
  have ht2 : W1.there (w.heap.size + 1) 0 4 := by
    have := new_there (w.alloc (.cells #[.int .i8 k, .int .i64 l, .int .u32 m, (.slice A n cap)] 102)) #[.int .i8 0, .int .i64 0, .int .u32 0, .slice none 0 0] 102 4 rfl
    rw [hW1] at this
    simpa using this
  have Hcall := Lib.hid (hcall W1 hB1)
  have HT := Lib.hid hT
  have HW1 := Lib.hid hW1
  have HB1 := Lib.hid hB1
  have Hr1 := Lib.hid hr1
  have Ht1 := Lib.hid ht1
  have Ht2 := Lib.hid ht2
  have Hs1 := Lib.hid hs1
  clear hcall hT hW1 hB1 hr1 ht1 ht2 hs1
  go_enter Tryz.func149, Tryz.ntmps149
  go_wp2_with (first
    | (go_at_call 224; rw [HW1.out]; refine Hcall.out.mono ?_; rintro e W2 ⟨g, rfl, hTv, hb2⟩
       have h1 := Hs1.out
       have hr2 := rangeAt_below Hr1.out hb2 (by omega)
       have ht3 := there_below Ht1.out hb2 (by omega)
       have c0 : W2.cell? ⟨w.heap.size, 3, none⟩ = some (.slice A n cap) := by have := hr2 3 (.slice A n cap) rfl; rwa [Nat.zero_add] at this
       have f0 : W2.frozen? ⟨w.heap.size, 3, none⟩ = false := by have := (ht3 3 (by omega)).2; rwa [Nat.zero_add] at this
       have Hr2 := Lib.hid hr2
       have Ht3 := Lib.hid ht3
       have Ht4 := Lib.hid (there_below Ht2.out hb2 (by omega))
       have HTv := Lib.hid hTv
       clear hr2 ht3 hTv h1)
    | (refine tw_at_load 102 _ rfl ?_
       have hr5 : (W2.setCell ⟨w.heap.size, 3, none⟩ (.slice (some ⟨g, 0, none⟩) n (n + 1))).rangeAt w.heap.size 0 [.int .i8 k, .int .i64 l, .int .u32 m, (.slice (some ⟨g, 0, none⟩) n (n + 1))] := rangeAt_put (xs := [.int .i8 k, .int .i64 l, .int .u32 m]) (vs := [(.slice (some ⟨g, 0, none⟩) n (n + 1))]) (rangeAt_left (xs := [.int .i8 k, .int .i64 l, .int .u32 m]) (ys := [(.slice A n cap)]) Hr2.out) rfl (there_part Ht3.out 3 1 (by omega))
       refine wpList_load_mid rfl 102 _ rfl w.heap.size 0 rfl [.int .i8 k, .int .i64 l, .int .u32 m, (.slice (some ⟨g, 0, none⟩) n (n + 1))] _ hr5 Tryz.underlying102 rfl sizeStep ?_)
    | (refine tw_at_store 102 _ _ rfl ?_; refine Stopped.out ?_))
  refine ⟨?_⟩
  have ht5 : (W2.setCell ⟨w.heap.size, 3, none⟩ (.slice (some ⟨g, 0, none⟩) n (n + 1))).there (w.heap.size + 1) 0 4 := World.there_setCells Ht4.out w.heap.size 3 [(.slice (some ⟨g, 0, none⟩) n (n + 1))]
  refine wpList_store_mid (b := w.heap.size + 1) (o := 0) rfl 102 _ _ rfl #[.int .i8 k, .int .i64 l, .int .u32 m, (.slice (some ⟨g, 0, none⟩) n (n + 1))] rfl rfl ht5 sizeStep (by simp [Value.oneCell']) ?_
  have hl := run_loadVar_mid (P := Tryz.prog) ((W2.setCell ⟨w.heap.size, 3, none⟩ (.slice (some ⟨g, 0, none⟩) n (n + 1))).setCells (w.heap.size + 1) 0 [.int .i8 k, .int .i64 l, .int .u32 m, (.slice (some ⟨g, 0, none⟩) n (n + 1))]) (w.heap.size + 1) 0 102 [.int .i8 k, .int .i64 l, .int .u32 m, (.slice (some ⟨g, 0, none⟩) n (n + 1))] _ (World.rangeAt_setCells_same _ _ _ _ ht5) Tryz.underlying102 rfl sizeStep
  have hs2 := hb2.size
  have hs1 := Hs1.out
  have hB := Below.setCells_ (B := w.heap.size) (b := w.heap.size + 1) (o := 0) (by omega) [.int .i8 k, .int .i64 l, .int .u32 m, (.slice (some ⟨g, 0, none⟩) n (n + 1))] (Below.setCells_ (B := w.heap.size) (b := w.heap.size) (o := 3) (Nat.le_refl _) [(.slice (some ⟨g, 0, none⟩) n (n + 1))] (HB1.out.trans (hb2.mono (by omega))))
  have hTf : Tq w.heap.size ((W2.setCell ⟨w.heap.size, 3, none⟩ (.slice (some ⟨g, 0, none⟩) n (n + 1))).setCells (w.heap.size + 1) 0 [.int .i8 k, .int .i64 l, .int .u32 m, (.slice (some ⟨g, 0, none⟩) n (n + 1))]) [(.slice (some ⟨g, 0, none⟩) n (n + 1))] := HT.out.low (by omega) (HT.out.keep HTv.out (fun k hk1 hk2 => by
    rw [setCells_far _ _ _ _ _ (by omega)]
    exact setCells_far w.heap.size [(.slice (some ⟨g, 0, none⟩) n (n + 1))] 3 W2 k (by omega)) (by rw [setCells_size]; exact Nat.le_of_eq (setCells_size w.heap.size [(.slice (some ⟨g, 0, none⟩) n (n + 1))] 3 W2).symm))
  change Below w.heap.size w ((W2.setCell ⟨w.heap.size, 3, none⟩ (.slice (some ⟨g, 0, none⟩) n (n + 1))).setCells (w.heap.size + 1) 0 [.int .i8 k, .int .i64 l, .int .u32 m, (.slice (some ⟨g, 0, none⟩) n (n + 1))]) at hB
  generalize (W2.setCell ⟨w.heap.size, 3, none⟩ (.slice (some ⟨g, 0, none⟩) n (n + 1))).setCells (w.heap.size + 1) 0 [.int .i8 k, .int .i64 l, .int .u32 m, (.slice (some ⟨g, 0, none⟩) n (n + 1))] = W at hl hB hTf ⊢
  go_wp2
  (try simp only [Exit.inBlock, Exit.then])
  refine bodyPost_ret (results_cell Tryz.results149 _ _ rfl hl) rfl ?_
  exact ⟨g, rfl, hTf, hB⟩

set_option maxHeartbeats 1000000 in
theorem leftStep_of (k l m : Int) (sv sl : Value) (w : World) (hcall : ∀ W : World, Below w.heap.size w W → Calls Tryz.prog 229 #[sv, sl] W fun e W' => e = .returned (.bool true) ∧ Below W.heap.size W W') :
    Calls Tryz.prog 153 #[.agg #[.int .i8 k, .int .i64 l, .int .u32 m, sv], .agg #[.int .i8 k, .int .i64 l, .int .u32 m, sl]] w fun e w' => e = .returned (.bool true) ∧ Below w.heap.size w w' := by
  obtain ⟨W1, hW1⟩ : ∃ W1, (w.alloc (.cells #[.int .i8 k, .int .i64 l, .int .u32 m, sv] 102)).alloc (.cells #[.int .i8 k, .int .i64 l, .int .u32 m, sl] 102) = W1 := ⟨_, rfl⟩
  have hB1 : Below w.heap.size w W1 := hW1 ▸ ((new_below w _).trans ((new_below _ _).mono (by simp)))
  have Hcall := Lib.hid (hcall W1 hB1)
  have HW1 := Lib.hid hW1
  clear hcall hW1
  go_enter Tryz.func153, Tryz.ntmps153
  go_wp2_with (go_at_call 229; rw [HW1.out]; refine Hcall.out.mono ?_; rintro e W2 ⟨rfl, hb2⟩)
  go_returns
  exact ⟨rfl, hB1.trans (hb2.mono hB1.size)⟩


set_option maxHeartbeats 1000000 in
set_option maxRecDepth 4000 in
theorem twinExpr_of (q : Int) (v : ByteArray) (k m : Int) (s : ByteArray) (A : Option Addr) (n cap : Nat) (Tq : Tp) (hT : TpOk Tq) (w : World)
    (hcall : ∀ W : World, Below w.heap.size w W → Calls Tryz.prog 310 #[(.slice A n cap)] W fun e W' => ∃ g : Nat, e = .returned (.slice (some ⟨g, 0, none⟩) n (n + 1)) ∧ Tq W.heap.size W' [(.slice (some ⟨g, 0, none⟩) n (n + 1))] ∧ Below W.heap.size W W') :
    Calls Tryz.prog 276 #[.agg #[.int .i8 q, .string v, .int .i8 k, .int .i64 m, .string s, (.slice A n cap)]] w fun e w' => ∃ g : Nat, e = .returned (.agg #[.int .i8 q, .string v, .int .i8 k, .int .i64 m, .string s, (.slice (some ⟨g, 0, none⟩) n (n + 1))]) ∧ Tq w.heap.size w' [(.slice (some ⟨g, 0, none⟩) n (n + 1))] ∧ Below w.heap.size w w' := by
  obtain ⟨W1, hW1⟩ : ∃ W1, (w.alloc (.cells #[.int .i8 q, .string v, .int .i8 k, .int .i64 m, .string s, (.slice A n cap)] 91)).alloc (.cells #[.int .i8 0, .string ⟨#[]⟩, .int .i8 0, .int .i64 0, .string ⟨#[]⟩, .slice none 0 0] 91) = W1 := ⟨_, rfl⟩
  have hB1 : Below w.heap.size w W1 := hW1 ▸ ((new_below w _).trans ((new_below _ _).mono (by simp)))
  have hs1 : W1.heap.size = w.heap.size + 2 := by rw [← hW1]; simp
  have hr1 : W1.rangeAt w.heap.size 0 [.int .i8 q, .string v, .int .i8 k, .int .i64 m, .string s, (.slice A n cap)] := hW1 ▸ rangeAt_below (new_range w [.int .i8 q, .string v, .int .i8 k, .int .i64 m, .string s, (.slice A n cap)] 91) (new_below _ _) (by simp)
  have ht1 : W1.there w.heap.size 0 6 := hW1 ▸ there_below (new_there w #[.int .i8 q, .string v, .int .i8 k, .int .i64 m, .string s, (.slice A n cap)] 91 6 rfl) (new_below _ _) (by simp)
  have ht2 : W1.there (w.heap.size + 1) 0 6 := by
    have := new_there (w.alloc (.cells #[.int .i8 q, .string v, .int .i8 k, .int .i64 m, .string s, (.slice A n cap)] 91)) #[.int .i8 0, .string ⟨#[]⟩, .int .i8 0, .int .i64 0, .string ⟨#[]⟩, .slice none 0 0] 91 6 rfl
    rw [hW1] at this
    simpa using this
  have Hcall := Lib.hid (hcall W1 hB1)
  have HT := Lib.hid hT
  have HW1 := Lib.hid hW1
  have HB1 := Lib.hid hB1
  have Hr1 := Lib.hid hr1
  have Ht1 := Lib.hid ht1
  have Ht2 := Lib.hid ht2
  have Hs1 := Lib.hid hs1
  clear hcall hT hW1 hB1 hr1 ht1 ht2 hs1
  go_enter Tryz.func276, Tryz.ntmps276
  go_wp2_with (first
    | (go_at_call 310; rw [HW1.out]; refine Hcall.out.mono ?_; rintro e W2 ⟨g, rfl, hTv, hb2⟩
       have h1 := Hs1.out
       have hr2 := rangeAt_below Hr1.out hb2 (by omega)
       have ht3 := there_below Ht1.out hb2 (by omega)
       have c0 : W2.cell? ⟨w.heap.size, 5, none⟩ = some (.slice A n cap) := by have := hr2 5 (.slice A n cap) rfl; rwa [Nat.zero_add] at this
       have f0 : W2.frozen? ⟨w.heap.size, 5, none⟩ = false := by have := (ht3 5 (by omega)).2; rwa [Nat.zero_add] at this
       have Hr2 := Lib.hid hr2
       have Ht3 := Lib.hid ht3
       have Ht4 := Lib.hid (there_below Ht2.out hb2 (by omega))
       have HTv := Lib.hid hTv
       clear hr2 ht3 hTv h1)
    | (refine tw_at_load 91 _ rfl ?_
       have hr5 : (W2.setCell ⟨w.heap.size, 5, none⟩ (.slice (some ⟨g, 0, none⟩) n (n + 1))).rangeAt w.heap.size 0 [.int .i8 q, .string v, .int .i8 k, .int .i64 m, .string s, (.slice (some ⟨g, 0, none⟩) n (n + 1))] := rangeAt_put (xs := [.int .i8 q, .string v, .int .i8 k, .int .i64 m, .string s]) (vs := [(.slice (some ⟨g, 0, none⟩) n (n + 1))]) (rangeAt_left (xs := [.int .i8 q, .string v, .int .i8 k, .int .i64 m, .string s]) (ys := [(.slice A n cap)]) Hr2.out) rfl (there_part Ht3.out 5 1 (by omega))
       refine wpList_load_mid rfl 91 _ rfl w.heap.size 0 rfl [.int .i8 q, .string v, .int .i8 k, .int .i64 m, .string s, (.slice (some ⟨g, 0, none⟩) n (n + 1))] _ hr5 Tryz.underlying91 rfl sizeExpr ?_)
    | (refine tw_at_store 91 _ _ rfl ?_; refine Stopped.out ?_))
  refine ⟨?_⟩
  have ht5 : (W2.setCell ⟨w.heap.size, 5, none⟩ (.slice (some ⟨g, 0, none⟩) n (n + 1))).there (w.heap.size + 1) 0 6 := World.there_setCells Ht4.out w.heap.size 5 [(.slice (some ⟨g, 0, none⟩) n (n + 1))]
  refine wpList_store_mid (b := w.heap.size + 1) (o := 0) rfl 91 _ _ rfl #[.int .i8 q, .string v, .int .i8 k, .int .i64 m, .string s, (.slice (some ⟨g, 0, none⟩) n (n + 1))] rfl rfl ht5 sizeExpr (by simp [Value.oneCell']) ?_
  have hl := run_loadVar_mid (P := Tryz.prog) ((W2.setCell ⟨w.heap.size, 5, none⟩ (.slice (some ⟨g, 0, none⟩) n (n + 1))).setCells (w.heap.size + 1) 0 [.int .i8 q, .string v, .int .i8 k, .int .i64 m, .string s, (.slice (some ⟨g, 0, none⟩) n (n + 1))]) (w.heap.size + 1) 0 91 [.int .i8 q, .string v, .int .i8 k, .int .i64 m, .string s, (.slice (some ⟨g, 0, none⟩) n (n + 1))] _ (World.rangeAt_setCells_same _ _ _ _ ht5) Tryz.underlying91 rfl sizeExpr
  have hs2 := hb2.size
  have hs1 := Hs1.out
  have hB := Below.setCells_ (B := w.heap.size) (b := w.heap.size + 1) (o := 0) (by omega) [.int .i8 q, .string v, .int .i8 k, .int .i64 m, .string s, (.slice (some ⟨g, 0, none⟩) n (n + 1))] (Below.setCells_ (B := w.heap.size) (b := w.heap.size) (o := 5) (Nat.le_refl _) [(.slice (some ⟨g, 0, none⟩) n (n + 1))] (HB1.out.trans (hb2.mono (by omega))))
  have hTf : Tq w.heap.size ((W2.setCell ⟨w.heap.size, 5, none⟩ (.slice (some ⟨g, 0, none⟩) n (n + 1))).setCells (w.heap.size + 1) 0 [.int .i8 q, .string v, .int .i8 k, .int .i64 m, .string s, (.slice (some ⟨g, 0, none⟩) n (n + 1))]) [(.slice (some ⟨g, 0, none⟩) n (n + 1))] := HT.out.low (by omega) (HT.out.keep HTv.out (fun k hk1 hk2 => by
    rw [setCells_far _ _ _ _ _ (by omega)]
    exact setCells_far w.heap.size [(.slice (some ⟨g, 0, none⟩) n (n + 1))] 5 W2 k (by omega)) (by rw [setCells_size]; exact Nat.le_of_eq (setCells_size w.heap.size [(.slice (some ⟨g, 0, none⟩) n (n + 1))] 5 W2).symm))
  change Below w.heap.size w ((W2.setCell ⟨w.heap.size, 5, none⟩ (.slice (some ⟨g, 0, none⟩) n (n + 1))).setCells (w.heap.size + 1) 0 [.int .i8 q, .string v, .int .i8 k, .int .i64 m, .string s, (.slice (some ⟨g, 0, none⟩) n (n + 1))]) at hB
  generalize (W2.setCell ⟨w.heap.size, 5, none⟩ (.slice (some ⟨g, 0, none⟩) n (n + 1))).setCells (w.heap.size + 1) 0 [.int .i8 q, .string v, .int .i8 k, .int .i64 m, .string s, (.slice (some ⟨g, 0, none⟩) n (n + 1))] = W at hl hB hTf ⊢
  go_wp2
  (try simp only [Exit.inBlock, Exit.then])
  refine bodyPost_ret (results_cell Tryz.results276 _ _ rfl hl) rfl ?_
  exact ⟨g, rfl, hTf, hB⟩

set_option maxHeartbeats 1000000 in
theorem leftExpr_of (q : Int) (v : ByteArray) (k m : Int) (s : ByteArray) (sv sl : Value) (w : World) (hcall : ∀ W : World, Below w.heap.size w W → Calls Tryz.prog 312 #[sv, sl] W fun e W' => e = .returned (.bool true) ∧ Below W.heap.size W W') :
    Calls Tryz.prog 279 #[.agg #[.int .i8 q, .string v, .int .i8 k, .int .i64 m, .string s, sv], .agg #[.int .i8 q, .string v, .int .i8 k, .int .i64 m, .string s, sl]] w fun e w' => e = .returned (.bool true) ∧ Below w.heap.size w w' := by
  obtain ⟨W1, hW1⟩ : ∃ W1, (w.alloc (.cells #[.int .i8 q, .string v, .int .i8 k, .int .i64 m, .string s, sv] 91)).alloc (.cells #[.int .i8 q, .string v, .int .i8 k, .int .i64 m, .string s, sl] 91) = W1 := ⟨_, rfl⟩
  have hB1 : Below w.heap.size w W1 := hW1 ▸ ((new_below w _).trans ((new_below _ _).mono (by simp)))
  have Hcall := Lib.hid (hcall W1 hB1)
  have HW1 := Lib.hid hW1
  clear hcall hW1
  go_enter Tryz.func279, Tryz.ntmps279
  go_wp2_with (go_at_call 312; rw [HW1.out]; refine Hcall.out.mono ?_; rintro e W2 ⟨rfl, hb2⟩)
  go_returns
  exact ⟨rfl, hB1.trans (hb2.mono hB1.size)⟩

end Go.Proofs.YtgjdgincebchhaaGreatDoor

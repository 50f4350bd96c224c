/-
  Walks: rows.
-/
import Derived.Test.YthdpaakkamccbaaSymLists
namespace Go.Proofs.Ythdpaakkamccbaa
open Go.RowKit Go.Maps

/-- a call's cells. -/
def opC (on kind n m : Int) (v : Val) (L : Value) (rs : List Int) : Array Value :=
  (.int .i64 on :: .int .i64 kind :: .int .i64 n :: .int .i64 m :: .int .i8 v.k :: .int .i64 v.n :: .string v.s :: L :: rs.map (Value.int .i32)).toArray

theorem opC_at (on kind n m : Int) (v : Val) (L : Value) (rs : List Int) : (opC on kind n m v L rs)[0]? = some (.int .i64 on) ∧ (opC on kind n m v L rs)[1]? = some (.int .i64 kind) ∧ (opC on kind n m v L rs)[2]? = some (.int .i64 n) ∧ (opC on kind n m v L rs)[3]? = some (.int .i64 m) ∧
    (opC on kind n m v L rs)[4]? = some (.int .i8 v.k) ∧ (opC on kind n m v L rs)[5]? = some (.int .i64 v.n) ∧ (opC on kind n m v L rs)[6]? = some (.string v.s) ∧ (opC on kind n m v L rs)[7]? = some L := ⟨rfl, rfl, rfl, rfl, rfl, rfl, rfl, rfl⟩
theorem opC_row (on kind n m : Int) (v : Val) (L : Value) (rs : List Int) (j : Nat) : (opC on kind n m v L rs)[8 + j]? = (rs.map (Value.int .i32))[j]? := by
  unfold opC
  rw [List.getElem?_toArray, show 8 + j = j + 8 from by omega]
  rfl
theorem Blk.opRange {w : World} {g : Nat} {t : TypeId} {on kind n m : Int} {v : Val} {L : Value} {rs : List Int} (h : Blk w g t (opC on kind n m v L rs)) : w.rangeAt g 8 (rs.map (Value.int .i32)) := fun j u hj => by
  rw [h.cell, opC_row]; exact hj
theorem opC_size (on kind n m : Int) (v : Val) (L : Value) (rs : List Int) : (opC on kind n m v L rs).size = rs.length + 8 := by unfold opC; simp

theorem drew_below (w : World) : Below w.heap.size w w.drew := ⟨rfl, rfl, rfl, Nat.le_refl _, fun _ _ => rfl⟩
theorem rowI_info (rs : List Int) (h : rs.length = 24) : (Try.prog.info? 43).map (·.size) = some (rs.map (Value.int .i32)).length := by
  rw [List.length_map, h]; kernel_rfl
theorem rowI_eq (rs : List Int) : rowI rs = (rs.map (Value.int .i32)).toArray := rfl

set_option maxRecDepth 100000 in
set_option maxHeartbeats 2000000 in
theorem rows_tuple {w : World} {bb bo : Nat} {bt : TypeId} {bc : Array Value} {tv rv : Value} {st : St} {S1 S2 : List Nat} (h : Pair w bb bo bt bc tv rv st S1 S2) (on n m : Int) (v : Val) (L : Value) (rs : List Int) (hrl : rs.length = 24) (hrs : ∀ r ∈ rs, r ≤ 2147483647) :
    Calls Try.prog 38 #[.pointer (some ⟨bb, bo, none⟩), .agg (opC on 6 n m v L rs)] w fun e w' => e = .returned (.bool true) ∧ Below w.heap.size w w' := by
  have hp := fun (W : World) (hb : Below w.heap.size w W) => pt_tuple (h.pt.below hb) rs hrl hrs n
  have hr := fun (W : World) (hb : Below w.heap.size w W) => rt_tuple (h.rt.below hb) rs hrl hrs n
  have hln : (tupA st rs n).1.length ≤ 24 := by
    match st with
    | none => simp [tupA]
    | some (most, vs) =>
      show (tupRes vs rs n).1.length ≤ 24
      unfold tupRes
      split
      · simp
      · split
        · rename_i h1 h2
          rw [tupGo_full vs _ [] h2, List.length_take, List.length_nil]; omega
        · simp
  obtain ⟨pT, rfl⟩ := h.pt.ptr
  obtain ⟨pR, rfl⟩ := h.rt.ptr
  obtain ⟨⟨tl, tc⟩, hta⟩ : ∃ R, tupA st rs n = R := ⟨_, rfl⟩
  rw [hta] at hp hr hln
  clear hta
  simp only at hp hr hln
  obtain ⟨k, hk⟩ : ∃ k, tl.length = k := ⟨_, rfl⟩
  rw [hk] at hp hr hln
  rw [rowI_eq] at hp hr
  have Hk := Lib.hid hk
  have Hp := Lib.hid hp
  have Hr := Lib.hid hr
  have H := Lib.hid h.blk
  have Hc0 := Lib.hid h.at0
  have Hc1 := Lib.hid h.at1
  have hu7 := Try.underlying43
  have hi7 := rowI_info rs hrl
  have hl7 : (rs.map (Value.int .i32)).length = 24 := by rw [List.length_map]; exact hrl
  obtain ⟨R, hR⟩ : ∃ R, rs.map (Value.int .i32) = R := ⟨_, rfl⟩
  rw [hR] at Hp Hr hi7 hl7
  have HR := Lib.hid hR
  clear hp hr h hk hrl hrs hR
  obtain ⟨O, hO⟩ : ∃ O, opC on 6 n m v L rs = O := ⟨_, rfl⟩
  rw [hO]
  have HO := Lib.hid hO
  clear hO
  go_enter Try.func38, Try.ntmps38
  go_upto_region 1 with fail
  have h3 := tup_new w O 68
  generalize w.alloc (.cells O 68) = W1 at h3 ⊢
  obtain ⟨hb1, hop, _⟩ := h3
  obtain ⟨o0, o1, o2, o3, o4, o5, o6, o7⟩ := opC_at on 6 n m v L rs
  rw [HO.out] at o0 o1 o2 o3 o4 o5 o6 o7
  have c1 : W1.cell? ⟨w.heap.size, 1, none⟩ = some (.int .i64 6) := (hop.cell 1).trans o1
  have hcb : ∀ W, Below W1.heap.size W1 W → W.cell? ⟨bb, bo, none⟩ = some (.pointer pT) ∧ W.cell? ⟨bb, bo + 1, none⟩ = some (.pointer pR) ∧ W.cell? ⟨w.heap.size, 2, none⟩ = some (.int .i64 n) ∧ W.rangeAt w.heap.size 8 R := fun W hb => by
    have hbk := (H.out.same (hb1.block _ H.out.lt)).same (hb.block _ (Nat.lt_of_lt_of_le H.out.lt hb1.size))
    have hok := hop.same (hb.block _ hop.lt)
    refine ⟨(hbk.cell bo).trans Hc0.out, (hbk.cell (bo + 1)).trans Hc1.out, (hok.cell 2).trans o2, ?_⟩
    rw [← HO.out] at hok
    have hrg := hok.opRange
    rw [HR.out] at hrg
    exact hrg
  have Hcb := Lib.hid hcb
  clear o0 o1 o2 o3 o4 o5 o6 o7 hop hcb
  go_upto_region 2 with fail
  go_cut [5, 6] (fun x e wx => ∃ A cap, x = .slice A k cap ∧ e = .int .i64 tc ∧ RdV wx A tl ∧ Below W1.heap.size W1 wx)
  case first =>
    have hS0 : W1.drew.rangeAt w.heap.size 8 R ∧ W1.drew.cell? ⟨bb, bo, none⟩ = some (.pointer pT) ∧ W1.drew.cell? ⟨w.heap.size, 2, none⟩ = some (.int .i64 n) := ⟨(Hcb.out _ (drew_below _)).2.2.2, (Hcb.out _ (drew_below _)).1, (Hcb.out _ (drew_below _)).2.2.1⟩
    have Hp1 := Lib.hid (Hp.out W1.drew (hb1.trans ((drew_below W1).mono hb1.size)))
    go_region_held3 (fun W' : World => W'.rangeAt w.heap.size 8 R ∧ W'.cell? ⟨bb, bo, none⟩ = some (.pointer pT) ∧ W'.cell? ⟨w.heap.size, 2, none⟩ = some (.int .i64 n)) (first | exact hS0 | exact hS1) (first
      | (go_at_call 18; refine Hp1.out.mono ?_; rintro e Wt ⟨A, cap, rfl, hrd, hbt⟩
         have hbt' : Below W1.heap.size W1 Wt := (drew_below W1).trans hbt
         have hS1 : Wt.rangeAt w.heap.size 8 R ∧ Wt.cell? ⟨bb, bo, none⟩ = some (.pointer pT) ∧ Wt.cell? ⟨w.heap.size, 2, none⟩ = some (.int .i64 n) := ⟨(Hcb.out _ hbt').2.2.2, (Hcb.out _ hbt').1, (Hcb.out _ hbt').2.2.1⟩))
    all_goals (go_wp2_with fail; go_meet; exact ⟨A, cap, rfl, rfl, hrd, hbt'⟩)
  case rest =>
    obtain ⟨A, cap, rfl, rfl, hrd, hbW2⟩ := hcut
    obtain ⟨W2, rfl⟩ : ∃ W2 : World, W2 = wc := ⟨_, rfl⟩
    go_upto_region 3 with fail
    go_cut [7, 8] (fun x e wx => ∃ A' cap', x = .slice A' k cap' ∧ e = .int .i64 tc ∧ RdV wx A' tl ∧ Below W2.heap.size W2 wx)
    case first =>
      have hb12 : Below W1.heap.size W1 W2.drew := hbW2.trans ((drew_below W2).mono hbW2.size)
      have hS0 : W2.drew.rangeAt w.heap.size 8 R ∧ W2.drew.cell? ⟨bb, bo + 1, none⟩ = some (.pointer pR) ∧ W2.drew.cell? ⟨w.heap.size, 2, none⟩ = some (.int .i64 n) := ⟨(Hcb.out _ hb12).2.2.2, (Hcb.out _ hb12).2.1, (Hcb.out _ hb12).2.2.1⟩
      have Hr1 := Lib.hid (Hr.out W2.drew (hb1.trans (hb12.mono hb1.size)))
      go_region_held3 (fun W' : World => W'.rangeAt w.heap.size 8 R ∧ W'.cell? ⟨bb, bo + 1, none⟩ = some (.pointer pR) ∧ W'.cell? ⟨w.heap.size, 2, none⟩ = some (.int .i64 n)) (first | exact hS0 | exact hS1) (first
        | (go_at_call 43; refine Hr1.out.mono ?_; rintro e Wt ⟨A', cap', rfl, hrd', hbt⟩
           have hbt' : Below W1.heap.size W1 Wt := hb12.trans (hbt.mono hb12.size)
           have hS1 : Wt.rangeAt w.heap.size 8 R ∧ Wt.cell? ⟨bb, bo + 1, none⟩ = some (.pointer pR) ∧ Wt.cell? ⟨w.heap.size, 2, none⟩ = some (.int .i64 n) := ⟨(Hcb.out _ hbt').2.2.2, (Hcb.out _ hbt').2.1, (Hcb.out _ hbt').2.2.1⟩))
      all_goals (go_wp2_with fail; go_meet; exact ⟨A', cap', rfl, rfl, hrd', (drew_below W2).trans hbt⟩)
    case rest =>
      obtain ⟨A', cap', rfl, rfl, hrd', hbW3⟩ := hcut
      obtain ⟨W3, rfl⟩ : ∃ W3 : World, W3 = wc := ⟨_, rfl⟩
      have hsame := same_yes A A' cap cap' tl W3 (hrd.below hbW3) hrd' (by rw [Hk.out]; omega)
      rw [Hk.out] at hsame
      have Hsame := Lib.hid hsame
      have hbw3 : Below w.heap.size w W3 := hb1.trans ((hbW2.trans (hbW3.mono hbW2.size)).mono hb1.size)
      clear hsame hbW2 hbW3
      go_wp2_with (go_at_call 19; refine Hsame.out.mono ?_; rintro e W4 ⟨rfl, hb4⟩)
      go_ret
      exact ⟨by simp, hbw3.trans (hb4.mono hbw3.size)⟩

end Go.Proofs.Ythdpaakkamccbaa

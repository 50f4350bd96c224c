/-
  Walk: Clone.
-/
import Derived.Test.YthdpaakkamccbaaSymLent
namespace Go.Proofs.Ythdpaakkamccbaa
open Go.RowKit Go.Maps

theorem below_grown {W W' : World} (h : Below W.heap.size W W') : W.grownBy W' none := ⟨h.os, h.tape, h.output, h.size, fun k hk _ => h.block k hk⟩

theorem vcells_one (l : List Val) : ∀ u ∈ vcells l, u.oneCell' = true := by
  intro u hu
  unfold vcells at hu
  obtain ⟨v, _, hu⟩ := List.mem_flatMap.1 hu
  simp only [Val.cells, List.mem_cons, List.not_mem_nil, or_false] at hu
  rcases hu with rfl | rfl | rfl <;> rfl

theorem slice_nil_eq (W : World) : (binOp .eql 22 (.slice none 0 0) (.slice none 0 0)).run Try.prog W = .ok (.bool true) W := by kernel_rfl
theorem slice_some_eq (g n cap : Nat) (W : World) : (binOp .eql 22 (.slice (some ⟨g, 0, none⟩) n cap) (.slice none 0 0)).run Try.prog W = .ok (.bool false) W := by kernel_rfl

set_option maxHeartbeats 2000000 in
theorem clone_any (A : Option Addr) (cap : Nat) (vs : List Val) (w : World) (hrow : RowV w A cap vs) (hle : vs.length ≤ 2147483647) :
    Calls Try.prog 42 #[.slice A vs.length cap] w fun e w' => ∃ A' cap', e = .returned (.slice A' vs.length cap') ∧ RowV w' A' cap' vs ∧ (∀ g ∈ blkOf A', w.heap.size ≤ g) ∧ Below w.heap.size w w' := by
  obtain ⟨i0, hi, hz0, hz1, hz2⟩ := info_parts Try.infoV
  rcases hrow.form with ⟨rfl, rfl, rfl⟩ | ⟨g, rfl, hg, _, _⟩
  · have hq := slice_nil_eq
    go_enter Try.func42, Try.ntmps42
    go_wp2
    go_ret
    exact ⟨none, 0, rfl, RowV.nil_ _, by simp [blkOf], Below.refl _ _⟩
  · have hcells : ∀ j u, (vcells vs)[j]? = some u → w.cell? ((⟨g, 0, none⟩ : Addr).add j) = some u := by
      intro j u hj
      have hjl : j < vs.length * 3 := by
        rw [← vcells_length]
        exact (List.getElem?_eq_some_iff.1 hj).1
      have hadd : (⟨g, 0, none⟩ : Addr).add j = ⟨g, j, none⟩ := by rw [Addr.add_mid g 0 j, Nat.zero_add]
      rw [hadd, hrow.cell j hjl]; exact hj
    obtain ⟨n, hn⟩ : ∃ n, vs.length = n := ⟨_, rfl⟩
    have Hn := Lib.hid hn
    rw [hn] at hle ⊢
    have Hcells := Lib.hid (fun j u (h : (vcells vs)[j]? = some u) => (World.cell?_alloc_some w _ (.cells #[] 36) (by rw [hcells j u h]; rfl)).trans (hcells j u h))
    have Hbase : Hid ((w.alloc (.cells #[] 36)).ownsRow 0 36 3 (.slice (some ⟨w.heap.size, 0, none⟩) 0 0) 0 []) := Lib.hid ⟨rfl, .inr ⟨w.heap.size, 0, #[], rfl, Nat.zero_le _, Blk.new w _ _, Nat.le_refl _, Nat.zero_le _, rfl, rfl⟩⟩
    have Hone := Lib.hid (vcells_one vs)
    have Hvl := Lib.hid (show (vcells vs).length = n * 3 by rw [vcells_length, Hn.out])
    have h63' : 0 + n ≤ maxLen := by unfold maxLen; omega
    have h32' : (0 + n) * 32 ≤ 140737488355328 := by omega
    have hq := slice_some_eq g n cap
    clear hcells hrow hn
    go_enter Try.func42, Try.ntmps42
    go_wp2_with (at_builtin; refine wpList_append_own_at _ rfl _ _ 22 rfl 0 36 i0 _ 3 32 Try.underlying22 hi hz0 hz1 hz2 rfl (by decide) _ 0 [] rfl Hbase.out ⟨g, 0, none⟩ n cap (vcells vs) rfl Hvl.out Hcells.out Hone.out h63' h32' (Nat.zero_le _) ?_)
    intro v' W4 hown4 hgrow4 hnil4 hloc4
    obtain ⟨A1, cap1, rfl, hrow1, hob⟩ := RowV.of_own Hn.out hown4
    have hfr : ∀ x ∈ blkOf A1, w.heap.size ≤ x := fun x hx => by
      rcases hloc4 with h | h
      · cases A1 with
        | none => simp [blkOf] at hx
        | some a => simp [blkOf] at hx; simp [Value.ownBlock] at h; omega
      · cases A1 with
        | none => simp [blkOf] at hx
        | some a => simp [blkOf] at hx; simp [Value.ownBlock] at h; omega
    have hbel : Below w.heap.size w W4 := ((Below.refl _ _).alloc (Nat.le_refl _) _).grown hgrow4 (by simp) (fun k hk => by simp [Value.ownBlock] at hk; omega)
    have Hrow1 := Lib.hid hrow1
    clear hown4 hgrow4 hnil4 hloc4 hrow1 hob
    go_wp2
    go_ret
    exact ⟨A1, cap1, by simp, Hrow1.out, hfr, hbel⟩

end Go.Proofs.Ythdpaakkamccbaa

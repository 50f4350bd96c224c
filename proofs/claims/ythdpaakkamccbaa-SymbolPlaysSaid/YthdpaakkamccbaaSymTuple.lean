/-
  Walks: each with Value handed to it; Tuple.
-/
import Derived.Test.YthdpaakkamccbaaSymEach2
namespace Go.Proofs.Ythdpaakkamccbaa
open Go.RowKit Go.Maps

/-- a row's cells, whatever numbers. -/
def rowI (rs : List Int) : Array Value := (rs.map (Value.int .i32)).toArray

/-- the columns as values, to the first that is no value's number. -/
def tupGo (vs : List Val) : List Int → List Val → List Val × Int
  | [], out => (out, 0)
  | r :: rs, out => if 0 ≤ r ∧ r < vs.length then tupGo vs rs (out ++ [vs.getD r.toNat Val.zero]) else (out, 21)
theorem tupGo_cons (vs : List Val) (r : Int) (rs : List Int) (out : List Val) : tupGo vs (r :: rs) out = if 0 ≤ r ∧ r < vs.length then tupGo vs rs (out ++ [vs.getD r.toNat Val.zero]) else (out, 21) := rfl

/-- so far filled, noughts behind. -/
def destOf (out : List Val) (n : Nat) : Array Value := (vcells (out ++ List.replicate (n - out.length) Val.zero)).toArray

theorem destOf_at (out : List Val) (n : Nat) (h : out.length < n) : (destOf out n)[out.length * 3]? = some (.int .i8 0) ∧ (destOf out n)[out.length * 3 + 1]? = some (.int .i64 0) ∧ (destOf out n)[out.length * 3 + 2]? = some (.string ⟨#[]⟩) := by
  unfold destOf
  simp only [List.getElem?_toArray]
  have hl : out.length < (out ++ List.replicate (n - out.length) Val.zero).length := by simp; omega
  have := vcells_at (out ++ List.replicate (n - out.length) Val.zero) out.length hl
  rw [show (out ++ List.replicate (n - out.length) Val.zero)[out.length] = Val.zero from by
    rw [List.getElem_append_right (Nat.le_refl _)]; simp] at this
  exact this

theorem destOf_set (out : List Val) (n : Nat) (v : Val) (h : out.length < n) :
    (((destOf out n).setIfInBounds (out.length * 3) (.int .i8 v.k)).setIfInBounds (out.length * 3 + 1) (.int .i64 v.n)).setIfInBounds (out.length * 3 + 2) (.string v.s) = destOf (out ++ [v]) n := by
  unfold destOf
  have e : n - out.length = n - (out ++ [v]).length + 1 := by rw [List.length_append, List.length_singleton]; omega
  rw [e, List.replicate_succ, vcells_append, vcells_append]
  generalize List.replicate (n - (out ++ [v]).length) Val.zero = z
  have h1 : vcells (Val.zero :: z) = .int .i8 0 :: .int .i64 0 :: .string ⟨#[]⟩ :: vcells z := rfl
  have h2 : vcells (out ++ [v]) = vcells out ++ [.int .i8 v.k, .int .i64 v.n, .string v.s] := by rw [vcells_append]; rfl
  rw [h1, h2]
  have hl : (vcells out).length = out.length * 3 := vcells_length out
  generalize vcells out = x at hl
  simp only [List.setIfInBounds_toArray]
  rw [← hl]
  congr 1
  rw [List.set_append_right _ _ (Nat.le_refl _), List.set_append_right _ _ (by omega), List.set_append_right _ _ (by omega)]
  simp

theorem destOf_none (n : Nat) : destOf [] n = madeCells #[.int .i8 0, .int .i64 0, .string ⟨#[]⟩] (n * 3) := by
  unfold destOf madeCells
  apply Array.ext
  · simp [vcells_length]
  · intro i h1 h2
    simp only [List.length_nil, Nat.sub_zero, List.nil_append, List.getElem_toArray, Array.getElem_map, Array.getElem_range]
    have hlt : i < n * 3 := by simpa using h2
    have hq : i / 3 < (List.replicate n Val.zero).length := by rw [List.length_replicate]; omega
    obtain ⟨c0, c1, c2⟩ := vcells_at (List.replicate n Val.zero) (i / 3) hq
    rw [List.getElem_replicate] at c0 c1 c2
    have hi : (vcells (List.replicate n Val.zero))[i]? = some (vcells (List.replicate n Val.zero))[i] := List.getElem?_eq_getElem _
    have hm : i % 3 = 0 ∨ i % 3 = 1 ∨ i % 3 = 2 := by omega
    rcases hm with hm | hm | hm
    · have e : i / 3 * 3 = i := by omega
      rw [e] at c0
      rw [c0] at hi
      show _ = #[Value.int .i8 0, .int .i64 0, .string ⟨#[]⟩][i % 3]!
      rw [hm]; injection hi with hi; rw [← hi]; rfl
    · have e : i / 3 * 3 + 1 = i := by omega
      rw [e] at c1
      rw [c1] at hi
      show _ = #[Value.int .i8 0, .int .i64 0, .string ⟨#[]⟩][i % 3]!
      rw [hm]; injection hi with hi; rw [← hi]; rfl
    · have e : i / 3 * 3 + 2 = i := by omega
      rw [e] at c2
      rw [c2] at hi
      show _ = #[Value.int .i8 0, .int .i64 0, .string ⟨#[]⟩][i % 3]!
      rw [hm]; injection hi with hi; rw [← hi]; rfl

set_option maxHeartbeats 1000000 in
theorem each_value (lb rb tb most n rcap : Nat) (vs : List Val) (rs : List Int) (S : List Nat) (w : World) (hT : Tab w tb most vs S) (hn : n ≤ rs.length) (hn24 : n ≤ 24) (hrs : ∀ r ∈ rs, r ≤ 2147483647)
    (hrow : Blk w rb 43 (rowI rs)) (hdst : Blk w lb 36 (destOf [] n)) (hlb : lb ∉ S) (hlr : lb ≠ rb) :
    Calls Try.prog 33 #[.slice (some ⟨lb, 0, none⟩) n n, .slice (some ⟨rb, 0, none⟩) n rcap, .func (.func 15) #[.pointer (some ⟨tb, 0, none⟩)] #[]] w fun e w' =>
      e = .returned (.int .i64 (tupGo vs (rs.take n) []).2) ∧ Blk w' lb 36 (destOf (tupGo vs (rs.take n) []).1 n) ∧ Chg [lb] w w' := by
  have HT := Lib.hid hT
  have Hrow := Lib.hid hrow
  have Hdst := Lib.hid hdst
  have Hrs := Lib.hid hrs
  have Hn := Lib.hid hn
  clear hT hrow hdst hrs
  go_enter Try.func33, Try.ntmps33
  go_wp2
  go_loopg [13] n (fun gk i wx => ∃ (j : Nat) (out : List Val), j ≤ n ∧ gk = n - j ∧ i = .int .i64 j ∧ out.length = j ∧ tupGo vs (rs.take n) [] = tupGo vs ((rs.take n).drop j) out ∧ Blk wx lb 36 (destOf out n) ∧ Chg [lb] w wx)
  case atStart => exact ⟨0, [], Nat.zero_le _, rfl, rfl, rfl, rfl, Hdst.out, Chg.refl _ _⟩
  case round =>
    obtain ⟨j, out, hj, rfl, rfl, hnl, hgo, hdst, hC⟩ := hrel
    have hT : Tab wr tb most vs S := HT.out.chg hC (fun k hk hm => hlb (by simp at hm; subst hm; exact hk))
    have hrow : Blk wr rb 43 (rowI rs) := Hrow.out.same (hC.block rb Hrow.out.lt (by simpa using hlr.symm))
    by_cases hlt : j < n
    · have hjr : j < rs.length := by omega
      have hjt : j < (rs.take n).length := by rw [List.length_take]; omega
      have c0 : wr.cell? ⟨rb, j, none⟩ = some (.int .i32 rs[j]) := by rw [hrow.cell]; simp [rowI, hjr]
      rw [List.drop_eq_getElem_cons hjt, tupGo_cons, List.getElem_take] at hgo
      have hb31 := Hrs.out rs[j] (List.getElem_mem hjr)
      have hrl := hdst.lt
      have Hdst' := Lib.hid hdst
      have HC := Lib.hid hC
      have HT' := Lib.hid hT
      clear hdst hC hrow hT
      by_cases hm : 0 ≤ rs[j] ∧ rs[j] < vs.length
      · simp only [if_pos hm] at hgo
        obtain ⟨r, hr⟩ : ∃ r : Nat, rs[j] = r := ⟨rs[j].toNat, by omega⟩
        rw [hr] at hgo c0 hm
        have hrl2 : r < vs.length := by omega
        rw [Int.toNat_natCast, show vs.getD r Val.zero = vs[r] from by rw [List.getD_eq_getElem?_getD, List.getElem?_eq_getElem hrl2]; rfl] at hgo
        have hval := value_yes HT'.out r hrl2
        have Hval := Lib.hid hval
        have Hgo := Lib.hid hgo
        clear hval hgo hm hr
        generalize vs[r] = v at Hval Hgo
        have hds := destOf_set out n v (by omega)
        rw [hnl] at hds
        have Hds := Lib.hid hds
        clear hds
        obtain ⟨vk, vn, s⟩ := v
        simp only [Val.agg] at Hval
        simp only at Hds
        have hj3 : out.length < n := by omega
        have Hcs := Lib.hid (show (destOf out n)[j * 3]? = some (.int .i8 0) ∧ (destOf out n)[j * 3 + 1]? = some (.int .i64 0) ∧ (destOf out n)[j * 3 + 2]? = some (.string ⟨#[]⟩) from hnl ▸ destOf_at out n hj3)
        go_wp2_with (go_at_call 15; refine Hval.out.mono ?_; rintro e W2 ⟨rfl, hb2⟩
                     have hdst2 : Blk W2 lb 36 (destOf out n) := Hdst'.out.same (hb2.block lb hrl)
                     obtain ⟨k0, k1, k2⟩ := Hcs.out
                     have d0 : ∀ o, (W2.alloc o).cell? ⟨lb, j * 3, none⟩ = some (.int .i8 0) := fun o => ((hdst2.alloc o).cell _).trans k0
                     have f0 : ∀ o, (W2.alloc o).frozen? ⟨lb, j * 3, none⟩ = false := fun o => (hdst2.alloc o).frozen _
                     have d1 : ∀ o u, ((W2.alloc o).setCell ⟨lb, j * 3, none⟩ u).cell? ⟨lb, j * 3 + 1, none⟩ = some (.int .i64 0) := fun o u => (((hdst2.alloc o).set_ _ u).cell _).trans (by rw [Array.getElem?_setIfInBounds_ne (by omega)]; exact k1)
                     have f1 : ∀ o u, ((W2.alloc o).setCell ⟨lb, j * 3, none⟩ u).frozen? ⟨lb, j * 3 + 1, none⟩ = false := fun o u => ((hdst2.alloc o).set_ _ u).frozen _
                     have d2 : ∀ o u u', (((W2.alloc o).setCell ⟨lb, j * 3, none⟩ u).setCell ⟨lb, j * 3 + 1, none⟩ u').cell? ⟨lb, j * 3 + 2, none⟩ = some (.string ⟨#[]⟩) := fun o u u' => ((((hdst2.alloc o).set_ _ u).set_ _ u').cell _).trans (by rw [Array.getElem?_setIfInBounds_ne (by omega), Array.getElem?_setIfInBounds_ne (by omega)]; exact k2)
                     have f2 : ∀ o u u', (((W2.alloc o).setCell ⟨lb, j * 3, none⟩ u).setCell ⟨lb, j * 3 + 1, none⟩ u').frozen? ⟨lb, j * 3 + 2, none⟩ = false := fun o u u' => (((hdst2.alloc o).set_ _ u).set_ _ u').frozen _
                     have Hd2 := Lib.hid hdst2
                     clear hdst2 k0 k1 k2)
        go_roundg (n - (j + 1))
        case measure => omega
        case rel =>
          refine ⟨j + 1, out ++ [⟨vk, vn, s⟩], by omega, rfl, by push_cast; rfl, by rw [List.length_append, hnl]; rfl, Hgo.out, ?_, ?_⟩
          · exact Hds.out ▸ ((((Hd2.out.alloc _).set_ _ _).set_ _ _).set_ _ _)
          · exact ((((HC.out.trans (Chg.of_below [] hb2) (fun _ hx => by cases hx)).alloc _).setCell (.inl (by simp)) _).setCell (.inl (by simp)) _).setCell (.inl (by simp)) _
      · simp only [if_neg hm] at hgo
        have hval := value_no HT'.out rs[j] (by omega) hb31
        have Hval := Lib.hid hval
        have Hgo := Lib.hid hgo
        clear hval hgo hm
        simp only [Val.zero, Val.agg] at Hval
        generalize rs[j] = r at *
        go_wp2_with (go_at_call 15; refine Hval.out.mono ?_; rintro e W2 ⟨rfl, hb2⟩)
        go_ret
        rw [Hgo.out]
        exact ⟨rfl, (Hdst'.out.same (hb2.block lb hrl)).alloc _, (HC.out.trans (Chg.of_below [] hb2) (fun _ hx => by cases hx)).alloc _⟩
    · obtain rfl : j = n := by omega
      rw [List.drop_of_length_le (by rw [List.length_take]; omega)] at hgo
      have Hend := Lib.hid (show tupGo vs (rs.take j) [] = (out, 0) by rw [hgo]; rfl)
      have Hdst' := Lib.hid hdst
      have HC := Lib.hid hC
      clear hdst hC hgo hT hrow
      go_wp2
      go_ret
      rw [Hend.out]
      exact ⟨rfl, Hdst'.out, HC.out⟩

end Go.Proofs.Ythdpaakkamccbaa

/-
  Walks: a list of Steps copied with a mark behind it; is the copy still what it was? By what is known of one.
-/
import Derived.Test.YtgjdgincebchhaaGreatDoorMarks
import Derived.Deep.LoopGhost
import Derived.Deep.QuietTactic
import Derived.BigQuiet
import Derived.StillTailTactics
namespace Go.Proofs.YtgjdgincebchhaaGreatDoor
open Go Go.RowKit

set_option maxHeartbeats 2000000 in
set_option maxRecDepth 4000 in
theorem twinSteps_of (A : Option Addr) (cap : Nat) (rows : List (List Value)) (Tf : Nat → Tp) (w : World) (hr : Rd w A rows.flatten) (hc : ∀ r ∈ rows, r.length = 4) (hb : rows.length * 48 ≤ 140737488351232) (hT : ∀ i, TpOk (Tf i))
    (hcall : ∀ (i : Nat) (r : List Value) (W : World), rows[i]? = some r → Below w.heap.size w W → Calls Tryz.prog 149 #[.agg r.toArray] W fun e W' => ∃ r' : List Value, e = .returned (.agg r'.toArray) ∧ r'.length = 4 ∧ (∀ v ∈ r', v.oneCell' = true) ∧ Tf i W.heap.size W' r' ∧ Below W.heap.size W W') :
    Calls Tryz.prog 93 #[.slice A rows.length cap] w fun e w' => ∃ (g : Nat) (rs : List (List Value)), e = .returned (.slice (some ⟨g, 0, none⟩) rows.length (rows.length + 1)) ∧ w.heap.size ≤ g ∧ g < w'.heap.size ∧ rs.length = rows.length ∧ (∀ r ∈ rs, r.length = 4) ∧
      w'.rangeAt g 0 (rs.flatten ++ markStepL) ∧ (∀ i r, rs[i]? = some r → Tf i w.heap.size w' r) ∧ Below w.heap.size w w' := by
  have hl : rows.flatten.length = rows.length * 4 := flat_length hc
  have hpt := flat_part hc
  obtain ⟨n, hn⟩ : ∃ n, rows.length = n := ⟨_, rfl⟩
  rw [hn] at hl hb ⊢
  have Hn := Lib.hid hn
  have Hr := Lib.hid hr
  have Hl := Lib.hid hl
  have Hpt := Lib.hid hpt
  have HT := Lib.hid hT
  have Hc := Lib.hid hc
  have Hcall := Lib.hid hcall
  clear hn hr hl hpt hT hc hcall
  obtain ⟨mk, hmkl, hmark, hmk3, hmk1⟩ : ∃ mk : List Value, markStepL = mk ∧ (∀ W : World, Calls Tryz.prog 150 #[.int .i64 777777] W fun e W' => e = .returned (.agg mk.toArray) ∧ Below W.heap.size W W') ∧ mk.length = 4 ∧ ∀ v ∈ mk, v.oneCell' = true :=
    ⟨_, rfl, fun W => markStep_any W, rfl, by simp [markStepL, Value.oneCell']⟩
  rw [hmkl]
  have Hmk := Lib.hid hmark
  have Hmk1 := Lib.hid hmk1
  clear hmkl hmark hmk1
  have hmk := make_eq Tryz.underlying29 infoStep n (by omega) (by omega)
  go_enter Tryz.func93, Tryz.ntmps93
  go_wp2
  go_loopg [4] n (fun gk i wx => ∃ (j : Nat) (rs : List (List Value)), j ≤ n ∧ gk = n - j ∧ i = .int .i64 j ∧ rs.length = j ∧ (∀ r ∈ rs, r.length = 4) ∧ Below w.heap.size w wx ∧ w.heap.size < wx.heap.size ∧ wx.rangeAt w.heap.size 0 rs.flatten ∧ wx.there w.heap.size 0 ((n + 1) * 4) ∧ ∀ i r, rs[i]? = some r → Tf i (w.heap.size + 1) wx r)
  case atStart => exact ⟨0, [], Nat.zero_le _, rfl, rfl, rfl, (fun r h => by cases h), new_below _ _, by simp, (fun j v h => by simp at h), new_there _ _ _ _ (size_madeCells _ _), fun i r h => by simp at h⟩
  case round =>
    obtain ⟨j, rs, hj, rfl, rfl, hrl, hrc, hB, hsz, hrg, hth, hTs⟩ := hrel
    have Hrl := Lib.hid hrl
    have Hrc := Lib.hid hrc
    have HTs := Lib.hid hTs
    have hfl : rs.flatten.length = j * 4 := hrl ▸ flat_length hrc
    clear hrl hrc hTs
    by_cases hlt : j < n
    · have hul : j < rows.length := by rw [Hn.out]; exact hlt
      have hne : rows.flatten ≠ [] := by
        intro e
        have := Hl.out
        rw [e] at this
        simp at this
        omega
      obtain ⟨b, o, rfl, hbl, hsrc⟩ := Hr.out hne
      have hld := rangeAt_part (rangeAt_below hsrc hB hbl) (j * 4) 4
      rw [Hpt.out j hul] at hld
      have hth3 := there_part hth (j * 4) 4 (by omega)
      rw [Nat.zero_add] at hth3
      have hp3 : (rows[j]).length = 4 := Hc.out _ (List.getElem_mem hul)
      have hcj := Hcall.out j rows[j] wr (List.getElem?_eq_getElem hul) hB
      generalize rows[j] = r at hld hp3 hcj
      have hi : (Tryz.prog.info? 102).map (·.size) = some r.length := by rw [hp3]; exact sizeStep
      have Hcj := Lib.hid hcj
      have Hth3 := Lib.hid hth3
      have Hfl := Lib.hid hfl
      have Hrg := Lib.hid hrg
      have Hth := Lib.hid hth
      have HB := Lib.hid hB
      clear hcj hth3 hfl hrg hth hB hsrc
      go_wp2_with (first
        | (refine tw_at_load 102 _ rfl ?_; refine wpList_load_mid rfl 102 _ rfl b (o + j * 4) rfl r _ hld Tryz.underlying102 rfl hi ?_)
        | (go_at_call 149; refine Hcj.out.mono ?_; rintro e W1 ⟨r', rfl, hl1, ho1, hT1, hb1⟩
           have HT1 := Lib.hid hT1
           have Ho1 := Lib.hid ho1
           have hr3 : r'.toArray.size = 4 := by simp [hl1]
           have hi2 : (Tryz.prog.info? 102).map (·.size) = some r'.toArray.size := by rw [hr3]; exact sizeStep
           have Hto := Lib.hid (show W1.there w.heap.size (j * 4) r'.toArray.size by rw [hr3]; exact there_below Hth3.out hb1 hsz)
           clear hT1 ho1)
        | (refine tw_at_store 102 _ _ rfl ?_; refine wpList_store_mid rfl 102 _ _ rfl w.heap.size (j * 4) r'.toArray rfl rfl Hto.out hi2 (all_oneCell_toArray Ho1.out) ?_))
      go_roundg (n - (j + 1))
      case measure => omega
      case rel =>
        have hs1 := hb1.size
        refine ⟨j + 1, rs ++ [r'], by omega, rfl, by push_cast; rfl, by rw [List.length_append, Hrl.out]; rfl, ?_, Below.setCells_ (Nat.le_refl _) _ (HB.out.trans (hb1.mono (by omega))), by rw [setCells_size]; omega, ?_, World.there_setCells (there_below Hth.out hb1 hsz) _ _ _, ?_⟩
        · intro x hx
          rcases List.mem_append.1 hx with h | h
          · exact Hrc.out x h
          · rw [List.mem_singleton] at h
            rw [h]; exact hl1
        · rw [List.flatten_append]
          simp only [List.flatten_cons, List.flatten_nil, List.append_nil]
          exact rangeAt_put (rangeAt_below Hrg.out hb1 hsz) (by rw [Hfl.out]; omega) (by rw [hl1]; exact hr3 ▸ Hto.out)
        · intro i x hx
          rcases snoc_at hx with h | ⟨h1, h2⟩
          · exact (HT.out i).set_ ((HT.out i).below (HTs.out i x h) hb1) _
          · subst h2
            have := HT1.out
            rw [h1, Hrl.out]
            exact (HT.out j).set_ ((HT.out j).low (by omega) this) _
    · obtain rfl : j = n := by omega
      have hthm := there_part hth (j * 4) mk.length (by omega)
      rw [Nat.zero_add] at hthm
      have hmk4 : mk.toArray.size = mk.length := List.size_toArray
      have hi2 : (Tryz.prog.info? 102).map (·.size) = some mk.toArray.size := by rw [hmk4, hmk3]; exact sizeStep
      have Hthm := Lib.hid hthm
      have Hrg := Lib.hid hrg
      have Hth := Lib.hid hth
      have Hfl := Lib.hid hfl
      have HB := Lib.hid hB
      clear hthm hth hrg hB hfl
      go_wp2_with (first
        | (go_at_call 150; refine (Hmk.out _).mono ?_; rintro e W2 ⟨rfl, hb2⟩)
        | (refine tw_at_store 102 _ _ rfl ?_; refine wpList_store_mid rfl 102 _ _ rfl w.heap.size (j * 4) mk.toArray rfl rfl (hmk4 ▸ there_below Hthm.out hb2 hsz) hi2 (all_oneCell_toArray Hmk1.out) ?_))
      go_returns
      have hrg2 := rangeAt_below Hrg.out hb2 hsz
      have hs2 := hb2.size
      refine ⟨w.heap.size, rs, rfl, Nat.le_refl _, by rw [setCells_size]; omega, Hrl.out, Hrc.out, rangeAt_put hrg2 (by rw [Hfl.out]; omega) (there_below Hthm.out hb2 hsz), fun i x hx => ?_, Below.setCells_ (Nat.le_refl _) _ (HB.out.trans (hb2.mono (by omega)))⟩
      exact (HT.out i).low (Nat.le_succ _) ((HT.out i).set_ ((HT.out i).below (HTs.out i x hx) hb2) _)

set_option maxHeartbeats 2000000 in
set_option maxRecDepth 4000 in
theorem leftSteps_of (g : Nat) (A : Option Addr) (cap : Nat) (rows rs : List (List Value)) (w : World) (hg : g < w.heap.size) (hrl : rs.length = rows.length) (ht : w.rangeAt g 0 (rs.flatten ++ markStepL)) (hr : Rd w A rows.flatten) (hc : ∀ r ∈ rows, r.length = 4) (hcs : ∀ r ∈ rs, r.length = 4) (hb : rows.length * 48 ≤ 140737488351232)
    (hcall : ∀ (i : Nat) (r r' : List Value) (W : World), rows[i]? = some r → rs[i]? = some r' → Below w.heap.size w W → Calls Tryz.prog 153 #[.agg r'.toArray, .agg r.toArray] W fun e W' => e = .returned (.bool true) ∧ Below W.heap.size W W') :
    Calls Tryz.prog 96 #[.slice (some ⟨g, 0, none⟩) rows.length (rows.length + 1), .slice A rows.length cap] w fun e w' => e = .returned (.bool true) ∧ Below w.heap.size w w' := by
  have hl : rows.flatten.length = rows.length * 4 := flat_length hc
  have hm := rangeAt_right ht
  rw [flat_length hcs, Nat.zero_add, hrl] at hm
  have hrs := rangeAt_left ht
  have hpt := flat_part hc
  have hpts := flat_part hcs
  obtain ⟨n, hn⟩ : ∃ n, rows.length = n := ⟨_, rfl⟩
  rw [hn] at hl hb hrl hm ⊢
  have Hn := Lib.hid hn
  have Hr := Lib.hid hr
  have Hl := Lib.hid hl
  have Hm := Lib.hid hm
  have Hrs := Lib.hid hrs
  have Hrl := Lib.hid hrl
  have Hpt := Lib.hid hpt
  have Hpts := Lib.hid hpts
  have Hc := Lib.hid hc
  have Hcs := Lib.hid hcs
  have Hcall := Lib.hid hcall
  clear hn hr hl hm hrs hrl hpt hpts hc hcs hcall ht
  go_enter Tryz.func96, Tryz.ntmps96
  go_wp2
  go_loopg [5] n (fun gk i wx => ∃ j : Nat, j ≤ n ∧ gk = n - j ∧ i = .int .i64 j ∧ Below w.heap.size w wx)
  case atStart => exact ⟨0, Nat.zero_le _, rfl, rfl, Below.refl _ _⟩
  case round =>
    obtain ⟨j, hj, rfl, rfl, hbr⟩ := hrel
    by_cases hlt : j < n
    · have hul : j < rows.length := by rw [Hn.out]; exact hlt
      have huls : j < rs.length := by rw [Hrl.out]; exact hlt
      have hne : rows.flatten ≠ [] := by
        intro e
        have := Hl.out
        rw [e] at this
        simp at this
        omega
      obtain ⟨b, o, rfl, hbl, hsrc⟩ := Hr.out hne
      have d := rangeAt_part (rangeAt_below hsrc hbr hbl) (j * 4) 4
      rw [Hpt.out j hul] at d
      have d' := rangeAt_part (rangeAt_below Hrs.out hbr hg) (j * 4) 4
      rw [Hpts.out j huls, Nat.zero_add] at d'
      have hp3 : (rows[j]).length = 4 := Hc.out _ (List.getElem_mem hul)
      have hp4 : (rs[j]).length = 4 := Hcs.out _ (List.getElem_mem huls)
      have hcj := Hcall.out j rows[j] rs[j] wr.drew (List.getElem?_eq_getElem hul) (List.getElem?_eq_getElem huls) hbr.drew
      generalize rows[j] = r at d hp3 hcj
      generalize rs[j] = r' at d' hp4 hcj
      obtain ⟨x0, x1, x2, x3, rfl⟩ := list4 hp3
      obtain ⟨y0, y1, y2, y3, rfl⟩ := list4 hp4
      have Hcj := Lib.hid hcj
      have c0 : wr.cell? ⟨b, o + j * 4, none⟩ = some x0 := d 0 _ rfl
      have e0 : wr.cell? ⟨g, j * 4, none⟩ = some y0 := d' 0 _ rfl
      have c1 : wr.cell? ⟨b, o + j * 4 + 1, none⟩ = some x1 := d 1 _ rfl
      have e1 : wr.cell? ⟨g, j * 4 + 1, none⟩ = some y1 := d' 1 _ rfl
      have c2 : wr.cell? ⟨b, o + j * 4 + 2, none⟩ = some x2 := d 2 _ rfl
      have e2 : wr.cell? ⟨g, j * 4 + 2, none⟩ = some y2 := d' 2 _ rfl
      have c3 : wr.cell? ⟨b, o + j * 4 + 3, none⟩ = some x3 := d 3 _ rfl
      have e3 : wr.cell? ⟨g, j * 4 + 3, none⟩ = some y3 := d' 3 _ rfl
      clear d d' hcj hsrc
      go_upto_region 6 with fail
      go_still_tail 8, (by kernel_rfl)
      go_wp2_with (go_at_call 153; refine Hcj.out.mono ?_; rintro e W1 ⟨rfl, hb1⟩)
      go_roundg (n - (j + 1))
      case measure => omega
      case rel => exact ⟨j + 1, by omega, rfl, by push_cast; rfl, hbr.drew.trans (hb1.mono hbr.size)⟩
    · obtain rfl : j = n := by omega
      have hm1 := rangeAt_below Hm.out hbr hg
      have m0 : wr.cell? ⟨g, j * 4, none⟩ = some (.int .i8 0) := hm1 0 _ rfl
      have m1 : wr.cell? ⟨g, j * 4 + 1, none⟩ = some (.int .i64 (-777777)) := hm1 1 _ rfl
      have m2 : wr.cell? ⟨g, j * 4 + 2, none⟩ = some (.int .u32 0) := hm1 2 _ rfl
      have m3 : wr.cell? ⟨g, j * 4 + 3, none⟩ = some (.slice none 0 0) := hm1 3 _ rfl
      clear hm1
      go_wp2_with (go_at_call 154; refine (isStep_any _).mono ?_; rintro e W2 ⟨rfl, hb2⟩)
      go_returns
      exact ⟨rfl, hbr.trans (hb2.mono hbr.size)⟩

end Go.Proofs.YtgjdgincebchhaaGreatDoor

/-
  Walks: a list of Texts copied with a mark behind it; two such lists held against each other; is the copy still what it was?
-/
import Derived.Test.YtgjdgincebchhaaGreatDoorMarks
import Derived.Deep.LoopGhost
import Derived.Deep.QuietTactic
import Derived.BigQuiet
namespace Go.Proofs.YtgjdgincebchhaaGreatDoor
open Go Go.RowKit

theorem infoText : (Tryz.prog.info? 9).map (fun i => (i.zero, i.size, i.bytes)) = some (some (.string ⟨#[]⟩), 1, 16) := by kernel_rfl

theorem atText {w : World} {b o : Nat} {xs : List ByteArray} (h : w.rangeAt b o (xs.map (Value.string))) (j : Nat) (hj : j < xs.length) : w.cell? ⟨b, o + j, none⟩ = some (Value.string xs[j]) := h j _ (by rw [List.getElem?_map, List.getElem?_eq_getElem hj]; rfl)
theorem takeText (xs : List ByteArray) (j : Nat) (hj : j < xs.length) : (xs.map (Value.string)).take (j + 1) = (xs.map (Value.string)).take j ++ [Value.string xs[j]] := by
  rw [List.take_add_one, List.getElem?_map, List.getElem?_eq_getElem hj]
  rfl

set_option maxHeartbeats 1000000 in
set_option maxRecDepth 4000 in
theorem twinTexts_any (A : Option Addr) (cap : Nat) (xs : List ByteArray) (w : World) (hp : Pow w) (hr : Rd w A (xs.map (Value.string))) (hb : xs.length * 16 ≤ 140737488351232) :
    Calls Tryz.prog 224 #[.slice A xs.length cap] w fun e w' => ∃ g, e = .returned (.slice (some ⟨g, 0, none⟩) xs.length (xs.length + 1)) ∧ w.heap.size ≤ g ∧ g < w'.heap.size ∧
      w'.rangeAt g 0 (xs.map (Value.string) ++ markTextL) ∧ w'.there g 0 (xs.length + 1) ∧ Below w.heap.size w w' := by
  have hat := fun (W : World) (hB : Below w.heap.size w W) (j : Nat) (hj : j < xs.length) => show ∃ b o, A = some ⟨b, o, none⟩ ∧ W.cell? ⟨b, o + j, none⟩ = some (Value.string xs[j]) by
    obtain ⟨b, o, e, hlt, hsrc⟩ := hr (by intro h; rw [List.map_eq_nil_iff] at h; rw [h] at hj; simp at hj)
    exact ⟨b, o, e, atText (rangeAt_below hsrc hB hlt) j hj⟩
  have htk := takeText xs
  have hlm : (xs.map (Value.string)).length = xs.length := List.length_map _
  obtain ⟨n, hn⟩ : ∃ n, xs.length = n := ⟨_, rfl⟩
  have Hat := Lib.hid hat
  have Htk := Lib.hid htk
  have Hlm := Lib.hid hlm
  have Hn := Lib.hid hn
  have Hp := Lib.hid hp
  clear hp
  rw [hn] at hb ⊢
  have hmk := make_eq Tryz.underlying98 infoText n (by omega) (by omega)
  clear hr hat htk hlm hn
  go_enter Tryz.func224, Tryz.ntmps224
  go_wp2
  go_loopg [4] n (fun gk i wx => ∃ j : Nat, j ≤ n ∧ gk = n - j ∧ i = .int .i64 j ∧ Below w.heap.size w wx ∧ w.heap.size < wx.heap.size ∧ wx.rangeAt w.heap.size 0 ((xs.map (Value.string)).take j) ∧ wx.there w.heap.size 0 (n + 1))
  case atStart => exact ⟨0, Nat.zero_le _, rfl, rfl, new_below _ _, by simp, (fun j v h => by simp at h), new_there _ _ _ _ (size_madeCells _ _)⟩
  case round =>
    obtain ⟨j, hj, rfl, rfl, hB, hsz, hrg, hth⟩ := hrel
    by_cases hlt : j < n
    · have hul : j < xs.length := by rw [Hn.out]; exact hlt
      obtain ⟨b, o, rfl, c0⟩ := Hat.out wr hB j hul
      obtain ⟨d1, f0⟩ := hth j (by omega)
      rw [Nat.zero_add] at d1 f0
      obtain ⟨y, d0⟩ := Option.isSome_iff_exists.1 d1
      have hstep := Htk.out j hul
      have hlen : ((xs.map (Value.string)).take j).length = j := by rw [List.length_take, Hlm.out]; omega
      generalize xs[j] = x at c0 hstep
      have Hs := Lib.hid hstep
      have Hlen := Lib.hid hlen
      have Hrg := Lib.hid hrg
      have Hth := Lib.hid hth
      have HB := Lib.hid hB
      clear hth hrg hstep hlen hB d1
      go_wp2
      go_roundg (n - (j + 1))
      case measure => omega
      case rel =>
        refine ⟨j + 1, by omega, rfl, by push_cast; rfl, HB.out.setCell (Nat.le_refl _) _, by simpa [World.setCell] using hsz, ?_, World.there_setCells Hth.out _ j [Value.string x]⟩
        rw [Hs.out]
        exact rangeAt_put (vs := [Value.string x]) Hrg.out (by rw [Hlen.out]; omega) (fun i hi => by
          obtain rfl : i = 0 := by have h : i < 1 := hi; omega
          have h := Hth.out j (by omega)
          rw [Nat.zero_add] at h
          exact h)
    · obtain rfl : j = n := by omega
      rw [List.take_of_length_le (by rw [Hlm.out, Hn.out]; omega)] at hrg
      have Hrg := Lib.hid hrg
      have Hth := Lib.hid hth
      have HpB := Lib.hid (Hp.out.below hB (Nat.le_refl _))
      have HB := Lib.hid hB
      clear hth hrg hB
      go_wp2_with (go_at_call 277; refine (markText_any _ HpB.out).mono ?_; rintro e W2 ⟨rfl, hb2⟩
                   have hth2 := there_below Hth.out hb2 hsz
                   obtain ⟨d1, f0⟩ := hth2 j (by omega)
                   rw [Nat.zero_add] at d1 f0
                   obtain ⟨y, d0⟩ := Option.isSome_iff_exists.1 d1
                   have Hth2 := Lib.hid hth2
                   clear d1 hth2)
      go_returns
      have hrg2 := rangeAt_below Hrg.out hb2 hsz
      have hs2 := hb2.size
      refine ⟨w.heap.size, rfl, Nat.le_refl _, by simp [World.setCell]; omega, rangeAt_put (vs := markTextL) hrg2 (by rw [Hlm.out, Hn.out]; omega) (fun i hi => ?_), World.there_setCells Hth2.out _ j markTextL, (HB.out.trans (hb2.mono (by omega))).setCell (Nat.le_refl _) _⟩
      obtain rfl : i = 0 := by have h : i < 1 := hi; omega
      have h := Hth2.out j (by omega)
      rw [Nat.zero_add] at h
      exact h

set_option maxHeartbeats 1000000 in
theorem sameTexts_any (A B : Option Addr) (ca cb : Nat) (xs : List ByteArray) (w : World) (ha : Rd w A (xs.map (Value.string))) (hb : Rd w B (xs.map (Value.string))) (hle : xs.length ≤ 4611686018427387904) :
    Calls Tryz.prog 280 #[.slice A xs.length ca, .slice B xs.length cb] w fun e w' => e = .returned (.bool true) ∧ Below w.heap.size w w' := by
  obtain ⟨n, hn⟩ : ∃ n, xs.length = n := ⟨_, rfl⟩
  rw [hn] at hle ⊢
  have Hn := Lib.hid hn
  have Ha := Lib.hid ha
  have Hb := Lib.hid hb
  clear hn ha hb
  go_enter Tryz.func280, Tryz.ntmps280
  go_wp2
  go_loopg [5] n (fun gk i wx => ∃ j : Nat, j ≤ n ∧ gk = n - j ∧ i = .int .i64 j ∧ Below w.heap.size w wx)
  case atStart => exact ⟨0, Nat.zero_le _, rfl, rfl, Below.refl _ _⟩
  case round =>
    obtain ⟨j, hj, rfl, rfl, hbr⟩ := hrel
    by_cases hlt : j < n
    · have hul : j < xs.length := by rw [Hn.out]; exact hlt
      have hne : xs.map (Value.string) ≠ [] := fun h => by rw [List.map_eq_nil_iff] at h; rw [h] at hul; simp at hul
      obtain ⟨b, off, rfl, hbl, hc⟩ := (Ha.out.below hbr (Nat.le_refl _)) hne
      obtain ⟨b', off', rfl, hbl', hc'⟩ := (Hb.out.below hbr (Nat.le_refl _)) hne
      have c0 := atText hc j hul
      have e0 := atText hc' j hul
      clear hc hc'
      generalize xs[j] = x at c0 e0
      go_wp2
      go_quiet (fail)
      go_wp2
      go_roundg (n - (j + 1))
      case measure => omega
      case rel => exact ⟨j + 1, by omega, rfl, by push_cast; rfl, below_drewN hbr _⟩
    · obtain rfl : j = n := by omega
      go_wp2
      go_returns
      exact ⟨rfl, hbr⟩

set_option maxHeartbeats 1000000 in
theorem leftTexts_any (g : Nat) (A : Option Addr) (cap : Nat) (xs : List ByteArray) (w : World) (hp : Pow w) (hg : g < w.heap.size) (ht : w.rangeAt g 0 (xs.map (Value.string) ++ markTextL)) (hr : Rd w A (xs.map (Value.string))) (hle : xs.length ≤ 17592186044416) :
    Calls Tryz.prog 229 #[.slice (some ⟨g, 0, none⟩) xs.length (xs.length + 1), .slice A xs.length cap] w fun e w' => e = .returned (.bool true) ∧ Below w.heap.size w w' := by
  have hsame := sameTexts_any (some ⟨g, 0, none⟩) A (xs.length + 1) cap xs w (fun _ => ⟨g, 0, rfl, hg, rangeAt_left ht⟩) hr (by omega)
  have hm := rangeAt_right ht
  rw [List.length_map, Nat.zero_add] at hm
  obtain ⟨n, hn⟩ : ∃ n, xs.length = n := ⟨_, rfl⟩
  rw [hn] at hsame hm hle ⊢
  have Hs := Lib.hid hsame
  have Hm := Lib.hid hm
  have Hp := Lib.hid hp
  clear hp
  clear hsame hn hr ht
  go_enter Tryz.func229, Tryz.ntmps229
  go_wp2_with (first
    | (go_at_call 280; refine Hs.out.mono ?_; rintro e W1 ⟨rfl, hb1⟩
       have hm1 := rangeAt_below Hm.out hb1 hg
       have m0 : W1.cell? ⟨g, n, none⟩ = some (.string ⟨#[35, 55, 55, 55, 55, 55, 55]⟩) := hm1 0 _ rfl
       clear hm1)
    | (go_at_call 281; refine (isText_any _ (Hp.out.below hb1 (Nat.le_refl _))).mono ?_; rintro e W2 ⟨rfl, hb2⟩))
  go_returns
  exact ⟨rfl, hb1.trans (hb2.mono hb1.size)⟩

end Go.Proofs.YtgjdgincebchhaaGreatDoor

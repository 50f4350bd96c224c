/-
  Walks: a list of Terms copied with a mark behind it; two such lists held against each other; is the copy still what it was?
-/
import Derived.Test.YtgjdgincebchhaaGreatDoorMarks
import Derived.Deep.LoopGhost
import Derived.Deep.QuietTactic
import Derived.BigQuiet
namespace Go.Proofs.YtgjdgincebchhaaGreatDoor
open Go Go.RowKit

/-- its cells. -/
def OkTerm (r : List Value) : Prop := ∃ (v : ByteArray) (k m : Int) (s : ByteArray), r = [.string v, .int .i8 k, .int .i64 m, .string s]
theorem OkTerm.len {r : List Value} (h : OkTerm r) : r.length = 4 := by
  obtain ⟨v, k, m, s, rfl⟩ := h
  rfl
theorem OkTerm.one {r : List Value} (h : OkTerm r) : ∀ v ∈ r, v.oneCell' = true := by
  obtain ⟨v, k, m, s, rfl⟩ := h
  simp [Value.oneCell']

@[go_sem high] theorem ne_selfTerm (v : ByteArray) (k m : Int) (s : ByteArray) (w : World) : (binOp .neq 82 (.agg #[.string v, .int .i8 k, .int .i64 m, .string s]) (.agg #[.string v, .int .i8 k, .int .i64 m, .string s])).run Tryz.prog w = .ok (.bool false) w := by
  simp only [binOp]
  simp [Op.equal, Op.maxDepth, Tryz.underlying82, Tryz.underlying56, Tryz.underlying54, Tryz.underlying2, Tryz.underlying9, go_sem]

set_option maxHeartbeats 1000000 in
set_option maxRecDepth 4000 in
theorem twinTerms_any (A : Option Addr) (cap : Nat) (rows : List (List Value)) (w : World) (hp : Pow w) (hr : Rd w A rows.flatten) (hok : ∀ r ∈ rows, OkTerm r) (hb : rows.length * 48 ≤ 140737488351232) :
    Calls Tryz.prog 309 #[.slice A rows.length cap] w fun e w' => ∃ g, e = .returned (.slice (some ⟨g, 0, none⟩) rows.length (rows.length + 1)) ∧ w.heap.size ≤ g ∧ g < w'.heap.size ∧
      w'.rangeAt g 0 (rows.flatten ++ markTermL) ∧ w'.there g 0 ((rows.length + 1) * 4) ∧ Below w.heap.size w w' := by
  have hl : rows.flatten.length = rows.length * 4 := flat_length fun r h => (hok r h).len
  have h1 : ∀ v ∈ rows.flatten, v.oneCell' = true := fun v hv => by
    obtain ⟨r, hr, hv⟩ := List.mem_flatten.1 hv
    exact (hok r hr).one v hv
  generalize rows.flatten = xs at hr hl h1 ⊢
  generalize rows.length = n at hl hb ⊢
  clear hok
  obtain ⟨mk, hmkl, hmark, hmk3, hmk1⟩ : ∃ mk : List Value, markTermL = mk ∧ (∀ W : World, Pow W → Calls Tryz.prog 330 #[.int .i64 777777] W fun e W' => e = .returned (.agg mk.toArray) ∧ Below W.heap.size W W') ∧ mk.length = 4 ∧ ∀ v ∈ mk, v.oneCell' = true :=
    ⟨_, rfl, fun W hW => markTerm_any W hW, rfl, by simp [markTermL, Value.oneCell']⟩
  rw [hmkl]
  have Hmk := Lib.hid hmark
  have Hmk1 := Lib.hid hmk1
  have Hp := Lib.hid hp
  clear hp
  clear hmkl hmark hmk1
  have hmk := make_eq Tryz.underlying84 infoTerm n (by omega) (by omega)
  go_enter Tryz.func309, Tryz.ntmps309
  go_wp2
  go_loopg [4] n (fun gk i wx => ∃ j : Nat, j ≤ n ∧ gk = n - j ∧ i = .int .i64 j ∧ Below w.heap.size w wx ∧ w.heap.size < wx.heap.size ∧ wx.rangeAt w.heap.size 0 (xs.take (j * 4)) ∧ wx.there w.heap.size 0 ((n + 1) * 4))
  case atStart => exact ⟨0, Nat.zero_le _, rfl, rfl, new_below _ _, by simp, (fun j v h => by simp at h), new_there _ _ _ _ (size_madeCells _ _)⟩
  case round =>
    obtain ⟨j, hj, rfl, rfl, hB, hsz, hrg, hth⟩ := hrel
    by_cases hlt : j < n
    · have hp3 := row_part hl j hlt
      have hne : xs ≠ [] := by
        intro e
        rw [e] at hl
        simp at hl
        omega
      obtain ⟨b, o, rfl, hbl, hsrc⟩ := hr hne
      have hld := rangeAt_part (rangeAt_below hsrc hB hbl) (j * 4) 4
      have hstep := row_step xs 4 j
      have hone : ∀ v ∈ (xs.drop (j * 4)).take 4, v.oneCell' = true := fun v hv => h1 v (List.mem_of_mem_drop (List.mem_of_mem_take hv))
      have hth3 := there_part hth (j * 4) 4 (by omega)
      rw [Nat.zero_add] at hth3
      have hlen : (xs.take (j * 4)).length = j * 4 := by rw [List.length_take]; omega
      generalize (xs.drop (j * 4)).take 4 = r at hld hstep hone hp3
      have hi : (Tryz.prog.info? 82).map (·.size) = some r.length := by rw [hp3]; exact sizeTerm
      have hr3 : r.toArray.size = 4 := by simp [hp3]
      have hi2 : (Tryz.prog.info? 82).map (·.size) = some r.toArray.size := by rw [hr3]; exact sizeTerm
      have hth4 : wr.there w.heap.size (j * 4) r.toArray.size := by rw [hr3]; exact hth3
      have hto := Lib.hid hth4
      have Hall := Lib.hid (all_oneCell_toArray hone)
      have Hs := Lib.hid hstep
      have Hlen := Lib.hid hlen
      have Hrg := Lib.hid hrg
      have Hth := Lib.hid hth
      have HB := Lib.hid hB
      clear hth4 hth3 hth hrg hone hstep hlen hB
      go_wp2_with (first
        | (refine tw_at_load 82 _ rfl ?_; refine wpList_load_mid rfl 82 _ rfl b (o + j * 4) rfl r _ hld Tryz.underlying82 rfl hi ?_)
        | (refine tw_at_store 82 _ _ rfl ?_; refine wpList_store_mid rfl 82 _ _ rfl w.heap.size (j * 4) r.toArray rfl rfl hto.out hi2 Hall.out ?_))
      go_roundg (n - (j + 1))
      case measure => omega
      case rel =>
        refine ⟨j + 1, by omega, rfl, by push_cast; rfl, Below.setCells_ (Nat.le_refl _) _ HB.out, by rw [setCells_size]; exact hsz, ?_, World.there_setCells Hth.out _ _ _⟩
        rw [← Hs.out]
        exact rangeAt_put Hrg.out (by rw [Hlen.out]; omega) (by rw [hp3]; exact hr3 ▸ hto.out)
    · obtain rfl : j = n := by omega
      rw [List.take_of_length_le (by omega)] at hrg
      have hthm := there_part hth (j * 4) mk.length (by omega)
      rw [Nat.zero_add] at hthm
      have hmk4 : mk.toArray.size = mk.length := List.size_toArray
      have hi2 : (Tryz.prog.info? 82).map (·.size) = some mk.toArray.size := by rw [hmk4, hmk3]; exact sizeTerm
      have Hthm := Lib.hid hthm
      have Hrg := Lib.hid hrg
      have Hth := Lib.hid hth
      have HpB := Lib.hid (Hp.out.below hB (Nat.le_refl _))
      have HB := Lib.hid hB
      clear hthm hth hrg hB hr h1
      go_wp2_with (first
        | (go_at_call 330; refine (Hmk.out _ HpB.out).mono ?_; rintro e W2 ⟨rfl, hb2⟩)
        | (refine tw_at_store 82 _ _ rfl ?_; refine wpList_store_mid rfl 82 _ _ rfl w.heap.size (j * 4) mk.toArray rfl rfl (hmk4 ▸ there_below Hthm.out hb2 hsz) hi2 (all_oneCell_toArray Hmk1.out) ?_))
      go_returns
      have hrg2 := rangeAt_below Hrg.out hb2 hsz
      have hth2 := there_below Hth.out hb2 hsz
      have hs2 := hb2.size
      refine ⟨w.heap.size, rfl, Nat.le_refl _, by rw [setCells_size]; omega, rangeAt_put hrg2 (by omega) ?_, World.there_setCells hth2 _ _ _, Below.setCells_ (Nat.le_refl _) _ (HB.out.trans (hb2.mono (by omega)))⟩
      exact there_below Hthm.out hb2 hsz

set_option maxHeartbeats 1000000 in
theorem sameTerms_any (A B : Option Addr) (ca cb : Nat) (rows : List (List Value)) (w : World) (ha : Rd w A rows.flatten) (hb : Rd w B rows.flatten) (hok : ∀ r ∈ rows, OkTerm r) (hle : rows.length ≤ 4611686018427387904) :
    Calls Tryz.prog 332 #[.slice A rows.length ca, .slice B rows.length cb] w fun e w' => e = .returned (.bool true) ∧ Below w.heap.size w w' := by
  have hpt := flat_part (c := 4) (fun r h => (hok r h).len)
  have hfl : rows.flatten.length = rows.length * 4 := flat_length fun r h => (hok r h).len
  obtain ⟨n, hn⟩ : ∃ n, rows.length = n := ⟨_, rfl⟩
  rw [hn] at hle hfl ⊢
  have Hpt := Lib.hid hpt
  have Hn := Lib.hid hn
  have Ha := Lib.hid ha
  have Hb := Lib.hid hb
  have Hok := Lib.hid hok
  clear hn ha hb hok hpt
  go_enter Tryz.func332, Tryz.ntmps332
  go_wp2
  go_loopg [5] n (fun gk i wx => ∃ j : Nat, j ≤ n ∧ gk = n - j ∧ i = .int .i64 j ∧ Below w.heap.size w wx)
  case atStart => exact ⟨0, Nat.zero_le _, rfl, rfl, Below.refl _ _⟩
  case round =>
    obtain ⟨j, hj, rfl, rfl, hbr⟩ := hrel
    by_cases hlt : j < n
    · have hul : j < rows.length := by rw [Hn.out]; exact hlt
      have hne : rows.flatten ≠ [] := fun h => by rw [h] at hfl; simp at hfl; omega
      obtain ⟨b, off, rfl, hbl, hc⟩ := (Ha.out.below hbr (Nat.le_refl _)) hne
      obtain ⟨b', off', rfl, hbl', hc'⟩ := (Hb.out.below hbr (Nat.le_refl _)) hne
      have d := rangeAt_part hc (j * 4) 4
      have d' := rangeAt_part hc' (j * 4) 4
      obtain ⟨v, k, m, s, hrow⟩ := Hok.out rows[j] (List.getElem_mem hul)
      rw [Hpt.out j hul, hrow] at d d'
      have c0 : wr.cell? ⟨b, off + j * 4, none⟩ = some (.string v) := d 0 _ rfl
      have e0 : wr.cell? ⟨b', off' + j * 4, none⟩ = some (.string v) := d' 0 _ rfl
      have c1 : wr.cell? ⟨b, off + j * 4 + 1, none⟩ = some (.int .i8 k) := d 1 _ rfl
      have e1 : wr.cell? ⟨b', off' + j * 4 + 1, none⟩ = some (.int .i8 k) := d' 1 _ rfl
      have c2 : wr.cell? ⟨b, off + j * 4 + 2, none⟩ = some (.int .i64 m) := d 2 _ rfl
      have e2 : wr.cell? ⟨b', off' + j * 4 + 2, none⟩ = some (.int .i64 m) := d' 2 _ rfl
      have c3 : wr.cell? ⟨b, off + j * 4 + 3, none⟩ = some (.string s) := d 3 _ rfl
      have e3 : wr.cell? ⟨b', off' + j * 4 + 3, none⟩ = some (.string s) := d' 3 _ rfl
      clear hc hc' d d' hrow
      go_wp2
      go_quiet (fail)
      go_wp2
      go_roundg (n - (j + 1))
      case measure => omega
      case rel => exact ⟨j + 1, by omega, rfl, by push_cast; rfl, below_drewN hbr _⟩
    · obtain rfl : j = n := by omega
      go_wp2
      go_returns
      exact ⟨rfl, hbr⟩

set_option maxHeartbeats 1000000 in
theorem leftTerms_any (g : Nat) (A : Option Addr) (cap : Nat) (rows : List (List Value)) (w : World) (hp : Pow w) (hg : g < w.heap.size) (ht : w.rangeAt g 0 (rows.flatten ++ markTermL)) (hr : Rd w A rows.flatten) (hok : ∀ r ∈ rows, OkTerm r) (hle : rows.length ≤ 4398046510976) :
    Calls Tryz.prog 311 #[.slice (some ⟨g, 0, none⟩) rows.length (rows.length + 1), .slice A rows.length cap] w fun e w' => e = .returned (.bool true) ∧ Below w.heap.size w w' := by
  have hsame := sameTerms_any (some ⟨g, 0, none⟩) A (rows.length + 1) cap rows w (fun _ => ⟨g, 0, rfl, hg, rangeAt_left ht⟩) hr hok (by omega)
  have hm := rangeAt_right ht
  rw [flat_length (c := 4) fun r h => (hok r h).len, Nat.zero_add] at hm
  obtain ⟨n, hn⟩ : ∃ n, rows.length = n := ⟨_, rfl⟩
  rw [hn] at hsame hm hle ⊢
  have Hs := Lib.hid hsame
  have Hm := Lib.hid hm
  have Hp := Lib.hid hp
  clear hp
  clear hsame hn hr ht hok
  go_enter Tryz.func311, Tryz.ntmps311
  go_wp2_with (first
    | (go_at_call 332; refine Hs.out.mono ?_; rintro e W1 ⟨rfl, hb1⟩
       have hm1 := rangeAt_below Hm.out hb1 hg
       have m0 : W1.cell? ⟨g, n * 4, none⟩ = some (.string ⟨#[35, 55, 55, 55, 55, 55, 55]⟩) := hm1 0 _ rfl
       have m1 : W1.cell? ⟨g, n * 4 + 1, none⟩ = some (.int .i8 0) := hm1 1 _ rfl
       have m2 : W1.cell? ⟨g, n * 4 + 2, none⟩ = some (.int .i64 0) := hm1 2 _ rfl
       have m3 : W1.cell? ⟨g, n * 4 + 3, none⟩ = some (.string ⟨#[]⟩) := hm1 3 _ rfl
       clear hm1)
    | (go_at_call 333; refine (isTerm_any _ (Hp.out.below hb1 (Nat.le_refl _))).mono ?_; rintro e W2 ⟨rfl, hb2⟩))
  go_returns
  exact ⟨rfl, hb1.trans (hb2.mono hb1.size)⟩

end Go.Proofs.YtgjdgincebchhaaGreatDoor

/-
  The mark's text: strconv.Itoa(777777), where 'internal/strconv.uint64pow10' reads as it is laid.
-/
import Derived.Test.YtgjdgincebchhaaGreatDoorLives
import Derived.Test.YtgjdgincebchhaaGreatDoorTwMem
import Derived.Lib.Hide
import Derived.Handy
import Derived.Laws.BytesString
namespace Go.Proofs.YtgjdgincebchhaaGreatDoor
open Go Go.RowKit Ev

/-- the seventh power of ten stands where it is laid. -/
structure Pow (w : World) : Prop where
  cell : w.cell? ⟨1, 6, none⟩ = some (.int .u64 1000000)
  lt : 1 < w.heap.size
theorem Pow.below {w w' : World} {B : Nat} (h : Pow w) (hb : Below B w w') (hB : w.heap.size ≤ B) : Pow w' :=
  ⟨(World.cell?_of_block (w := w) (hb.block 1 (Nat.lt_of_lt_of_le h.lt hB))).trans h.cell, Nat.lt_of_lt_of_le h.lt hb.size⟩

def saysV (v : Value) : Option Res2 → Bool
  | some (.value u _) => eqV u v
  | _ => false

theorem reckoned {f : FuncId} {args : List Value} {v : Value} (hr : saysV v (ev2 Tryz.prog (tabOf tabL) 5000 (.call f args CH.start)) = true) (ha : args.all pureV = true) (hv : pureV v = true) (w : World) :
    Calls Tryz.prog f args.toArray w fun e w1 => e = .returned v ∧ Below w.heap.size w w1 := by
  unfold saysV at hr
  split at hr
  · rename_i u h1 he
    have hu := eqV_eq hr
    subst hu
    exact ev_call (by kernel_rfl) ((ev2_ok Tryz.prog (tabOf tabL) 5000).call he) ha hv w
  · cases hr

theorem len64_any (w : World) : Calls Tryz.prog 164 #[.int .u64 777777] w fun e w1 => e = .returned (.int .i64 20) ∧ Below w.heap.size w w1 := reckoned (args := [.int .u64 777777]) (by kernel_rfl) rfl rfl w
theorem log10_any (w : World) : Calls Tryz.prog 337 #[.int .i64 20] w fun e w1 => e = .returned (.int .i64 6) ∧ Below w.heap.size w w1 := reckoned (args := [.int .i64 20]) (by kernel_rfl) rfl rfl w
theorem bool2_any (w : World) : Calls Tryz.prog 338 #[.bool false] w fun e w1 => e = .returned (.int .i64 0) ∧ Below w.heap.size w w1 := reckoned (args := [.bool false]) (by kernel_rfl) rfl rfl w

theorem numDigits_any (w : World) (hp : Pow w) : Calls Tryz.prog 321 #[.int .u64 777777] w fun e w1 => e = .returned (.int .i64 6) ∧ Below w.heap.size w w1 := by
  have Hp := Lib.hid hp
  clear hp
  go_enter Tryz.func321, Tryz.ntmps321
  go_wp2_with (first
    | (go_at_call 164; refine (len64_any _).mono ?_; rintro e w1 ⟨rfl, hb1⟩)
    | (go_at_call 337; refine (log10_any _).mono ?_; rintro e w2 ⟨rfl, hb2⟩; have hc := ((Hp.out.below hb1 (Nat.le_refl _)).below hb2 (Nat.le_refl _)).cell)
    | (go_at_call 338; refine (bool2_any _).mono ?_; rintro e w3 ⟨rfl, hb3⟩))
  go_returns
  exact ⟨rfl, (hb1.trans (hb2.mono hb1.size)).trans (hb3.mono (Nat.le_trans hb1.size hb2.size))⟩

/-- a block that came in, reckoned with. -/
def phOne (g : Nat) : Ph := fun b => if b < NG then some (b, none) else if b = NG then some (g, none) else none
theorem one_rh {g : Nat} {w : World} {c : Array Value} {t : TypeId} (hg : w.heap[g]? = some (.cells c t (0, 0))) (hc : c.toList.all pureV = true) : RH Tryz.prog (phOne g) (CH.start.alloc (.cells c t (0, 0))) w := by
  have hget : ∀ b, (CH.start.alloc (.cells c t (0, 0))).get b = if b = NG then some (.cells c t (0, 0)) else none := fun b => by
    rw [CH.get_alloc (show CH.start.n < 2 ^ D from by show 64 < 2 ^ 16; omega), CH.start_get]
    rfl
  have hN : phOne g NG = some (g, none) := by unfold phOne; rw [if_neg (Nat.lt_irrefl _), if_pos rfl]
  refine ⟨by show 65 < 2 ^ 16; omega, fun b o h => ?_, fun b1 b2 o1 o2 x r1 r2 h1 h2 _ _ => ?_, fun b hb => ?_, fun b hb => if_pos hb⟩
  · rw [hget] at h
    split at h
    · rename_i e
      injection h with h
      subst h
      subst e
      exact ⟨g, none, _, hN, hg, .row t (pures_rel hc) (fun i _ h => by omega)⟩
    · cases h
  · rw [hget] at h1 h2
    split at h1
    · split at h2
      · omega
      · cases h2
    · cases h1
  · have hb' : NG + 1 ≤ b := hb
    unfold phOne
    rw [if_neg (by omega), if_neg (by omega)]

noncomputable def saysDigits : Option Res2 → Bool
  | some (.value (.tuple ⟨[]⟩) h1) => (List.range 6).all fun i => match h1.cell ⟨NG, 1 + i, none⟩ with | some v => eqV v (.int .u8 55) | none => false
  | _ => false

theorem digits_reckoned : saysDigits (ev2 Tryz.prog (tabOf tabL) 5000 (.call 322 [.slice (some ⟨NG, 1, none⟩) 6 23, .int .u64 777777] (CH.start.alloc (.cells (Array.replicate 24 (.int .u8 0)) 420 (0, 0))))) = true := by kernel_rfl

/-- the digits, into a block that was made for them. -/
theorem digits_any (g : Nat) (w : World) (hg : w.heap[g]? = some (.cells (Array.replicate 24 (.int .u8 0)) 420 (0, 0))) :
    Calls Tryz.prog 322 #[.slice (some ⟨g, 1, none⟩) 6 23, .int .u64 777777] w fun e w1 => e = .returned (.tuple #[]) ∧ (∀ i, i < 6 → w1.cell? ⟨g, 1 + i, none⟩ = some (.int .u8 55)) ∧
      w1.os = w.os ∧ w1.tape = w.tape ∧ w1.output = w.output ∧ w.heap.size ≤ w1.heap.size ∧ ∀ k, k < w.heap.size → k ≠ g → w1.heap[k]? = w.heap[k]? := by
  have hr := digits_reckoned
  unfold saysDigits at hr
  split at hr
  · rename_i h1 he
    have hev := (ev2_ok Tryz.prog (tabOf tabL) 5000).call he
    have hN : phOne g NG = some (g, none) := by unfold phOne; rw [if_neg (Nat.lt_irrefl _), if_pos rfl]
    refine (ev_good (by kernel_rfl) 5000).call hev (p := phOne g) (.cons (.slice (.mk hN 1) 6 23 (by unfold HALF; exact Nat.lt_of_lt_of_le (by omega) (Nat.pow_le_pow_right (n := 2) (by omega) (show 5 ≤ 79 by omega)))) (.cons (.int _ _) .nil)) (one_rh hg (by kernel_rfl)) _ (fun q v' w1 s1 s2 s3 => ?_)
    refine ⟨?_, fun i hi => ?_, s1.os, s1.tape, s1.output, s1.size, fun k hk hne => s1.keep k hk (fun b o r hb hp => ?_)⟩
    · rw [s3.pure_eq rfl]
    · have hi2 := List.all_eq_true.1 hr i (List.mem_range.2 hi)
      split at hi2
      · rename_i v hc
        have hv := eqV_eq hi2
        subst hv
        obtain ⟨v2, c1, c2, _⟩ := s2.cell hc (.mk (s1.le _ _ hN) (1 + i))
        rw [c1, c2.pure_eq rfl]
      · cases hi2
    · rw [CH.get_alloc (show CH.start.n < 2 ^ D from by show 64 < 2 ^ 16; omega), CH.start_get] at hb
      split at hb
      · rename_i e
        rw [e] at hp
        have : phOne g CH.start.n = some (g, none) := hN
        rw [this] at hp
        injection hp with hp
        injection hp with hp _
        exact hne hp.symm
      · cases hb
  · cases hr


theorem six_cells {w : World} {g : Nat} (h : ∀ i, i < 6 → w.cell? ⟨g, 1 + i, none⟩ = some (.int .u8 55)) : w.rangeAt g 1 (List.replicate 6 (.int .u8 55)) := fun j v hj => by
  have hj6 : j < 6 := by
    have := (List.getElem?_eq_some_iff.1 hj).1
    simpa using this
  rw [List.getElem?_replicate, if_pos hj6] at hj
  injection hj with hj
  subst hj
  exact h j hj6

theorem text_run (w : World) (g : Nat) (h : ∀ i, i < 6 → w.cell? ⟨g, 1 + i, none⟩ = some (.int .u8 55)) :
    (convert 398 9 (.slice (some ⟨g, 1, none⟩) 6 23)).run Tryz.prog w = .ok (.string ⟨#[55, 55, 55, 55, 55, 55]⟩) w := by
  rw [run_convert_bytes_string w _ _ _ _ _ _ Tryz.underlying398 Tryz.underlying5 Tryz.underlying9,
    run_bytesToString w ⟨g, 1, none⟩ 6 23 [55, 55, 55, 55, 55, 55] (run_loadCells_list (P := Tryz.prog) w ⟨g, 1, none⟩ (List.replicate 6 (.int .u8 55)) (fun j v hv => by rw [Addr.add_mid]; exact six_cells h j v hv))]
  rfl

set_option maxHeartbeats 1000000 in
theorem formatInt_any (w : World) (hp : Pow w) : Calls Tryz.prog 297 #[.int .i64 777777, .int .i64 10] w fun e w1 => e = .returned (.string ⟨#[55, 55, 55, 55, 55, 55]⟩) ∧ Below w.heap.size w w1 := by
  have Hp := Lib.hid hp
  clear hp
  go_enter Tryz.func297, Tryz.ntmps297
  go_wp2_with (first
    | (go_at_call 321; refine (numDigits_any _ (Hp.out.below (new_below w _) (Nat.le_refl _))).mono ?_; rintro e w1 ⟨rfl, hb1⟩)
    | (go_at_call 322
       have hblk : w1.heap[w.heap.size]? = some (.cells (Array.replicate 24 (.int .u8 0)) 420 (0, 0)) := (hb1.block w.heap.size (by simp)).trans (heap_alloc_new w _)
       refine (digits_any w.heap.size _ hblk).mono ?_
       rintro e w2 ⟨rfl, hcs, ho, ht, hou, hsz, hk⟩
       have htx := text_run w2 w.heap.size hcs))
  go_returns
  have hs1 := hb1.size
  simp only [World.size_alloc] at hs1
  have hB1 : Below w.heap.size w w1 := (new_below w _).trans (hb1.mono (by simp))
  exact ⟨rfl, hB1.trans ⟨ho, ht, hou, hsz, fun k hk1 => hk k (by omega) (by omega)⟩⟩

theorem itoa_any (w : World) (hp : Pow w) : Calls Tryz.prog 258 #[.int .i64 777777] w fun e w1 => e = .returned (.string ⟨#[55, 55, 55, 55, 55, 55]⟩) ∧ Below w.heap.size w w1 := by
  have Hp := Lib.hid hp
  clear hp
  go_enter Tryz.func258, Tryz.ntmps258
  go_wp2_with (go_at_call 297; refine (formatInt_any _ Hp.out).mono ?_; rintro e w1 ⟨rfl, hb1⟩)
  go_returns
  exact ⟨rfl, hb1⟩

theorem itoa2_any (w : World) (hp : Pow w) : Calls Tryz.prog 205 #[.int .i64 777777] w fun e w1 => e = .returned (.string ⟨#[55, 55, 55, 55, 55, 55]⟩) ∧ Below w.heap.size w w1 := by
  have Hp := Lib.hid hp
  clear hp
  go_enter Tryz.func205, Tryz.ntmps205
  go_wp2_with (go_at_call 258; refine (itoa_any _ Hp.out).mono ?_; rintro e w1 ⟨rfl, hb1⟩)
  go_returns
  exact ⟨rfl, hb1⟩

theorem word_any (w : World) (hp : Pow w) : Calls Tryz.prog 274 #[.int .i64 777777] w fun e w1 => e = .returned (.string ⟨#[35, 55, 55, 55, 55, 55, 55]⟩) ∧ Below w.heap.size w w1 := by
  have Hp := Lib.hid hp
  clear hp
  go_enter Tryz.func274, Tryz.ntmps274
  go_wp2_with (go_at_call 205; refine (itoa2_any _ Hp.out).mono ?_; rintro e w1 ⟨rfl, hb1⟩)
  go_returns
  exact ⟨rfl, hb1⟩

end Go.Proofs.YtgjdgincebchhaaGreatDoor

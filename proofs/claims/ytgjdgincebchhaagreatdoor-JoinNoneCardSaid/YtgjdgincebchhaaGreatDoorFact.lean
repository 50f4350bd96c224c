/-
  Facts: copied, and still what they were; lists of none.
-/
import Derived.Test.YtgjdgincebchhaaGreatDoorPlan2
namespace Go.Proofs.YtgjdgincebchhaaGreatDoor
open Go Go.RowKit

/-- a copied fact. -/
theorem twinFact_any (p : ByteArray) (A : Option Addr) (cap : Nat) (args : List (List Value)) (w : World) (hr : Rd w A args.flatten) (hok : ∀ a ∈ args, OkValue a) (hb : args.length * 32 ≤ 140737488351232) :
    Calls Tryz.prog 7 #[.agg #[.string p, .slice A args.length cap]] w fun e w' => ∃ g : Nat, e = .returned (.agg #[.string p, .slice (some ⟨g, 0, none⟩) args.length (args.length + 1)]) ∧
      FlatT args.flatten markValueL args.length w.heap.size w' [.slice (some ⟨g, 0, none⟩) args.length (args.length + 1)] ∧ Below w.heap.size w w' := by
  have h := twinFact_of p A args.length cap _ (FlatT.ok args.flatten markValueL args.length) w (fun W hW => by
    refine (twinValues_any A cap args W (hr.below hW (Nat.le_refl _)) hok hb).mono ?_
    rintro e W' ⟨g, rfl, h1, h2, h3, h4, h5⟩
    refine ⟨g, rfl, ⟨g, rfl, h1, h2, h3, ?_⟩, h5⟩
    rw [flat_length (c := 3) (fun r h => (hok r h).len)]
    have : args.length * 3 + markValueL.length = (args.length + 1) * 3 := by rw [Nat.add_mul]; rfl
    rw [this]
    exact h4)
  exact h

theorem leftFact_any (p : ByteArray) (g : Nat) (A : Option Addr) (cap lo : Nat) (args : List (List Value)) (w : World) (hT : FlatT args.flatten markValueL args.length lo w [.slice (some ⟨g, 0, none⟩) args.length (args.length + 1)]) (hr : Rd w A args.flatten) (hok : ∀ a ∈ args, OkValue a) (hb : args.length * 32 ≤ 140737488351232) :
    Calls Tryz.prog 10 #[.agg #[.string p, .slice (some ⟨g, 0, none⟩) args.length (args.length + 1)], .agg #[.string p, .slice A args.length cap]] w fun e w' => e = .returned (.bool true) ∧ Below w.heap.size w w' := by
  obtain ⟨g', h1, h2, h3, h4, _⟩ := hT
  simp only [List.cons.injEq, Value.slice.injEq, Option.some.injEq, Addr.mk.injEq, and_true] at h1
  subst h1
  exact leftFact_of p _ _ w (fun W hW => leftValues_any g A cap args W (Nat.lt_of_lt_of_le h3 hW.size) (rangeAt_below h4 hW h3) (hr.below hW (Nat.le_refl _)) hok (by omega))

end Go.Proofs.YtgjdgincebchhaaGreatDoor

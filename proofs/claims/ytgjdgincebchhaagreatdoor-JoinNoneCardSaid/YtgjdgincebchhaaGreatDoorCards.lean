/-
  DERIVED. GIVEN WITH THE SEED: THE CARDS: each row of YtgjdgincebchhaaGreatDoorRows.lean that lists a variable, with what it lists TIED to the program's text (the seventh form; the later family's looks); each row that meets fmt, with fmt's text TOLD by the authors' own Lean function (tested against real Go, not proved from fmt's source: count such statements apart). THE CARD IS WHAT COUNTS. Prove the row's statement (the work); the ties are given (YtgjdgincebchhaaGreatDoorTie.lean); close each card by the builder's one call (the guide's Derived/Test/ToyasCard.lean, 'card_holds'). Laid BY PROGRAM, IN A SANDBOX (cutbox-door.mjs). By AI agents, Wed Nov 11 2026. No macro, syntax, notation, axiom, sorry.
-/
import Derived.Test.YtgjdgincebchhaaGreatDoorRows
import GoSem.ClaimSeven
namespace Go.Proofs.YtgjdgincebchhaaGreatDoor
namespace Rows

/-- THE TIED CARD OF 'pedigreelaw13.JoinNone'. -/
def joinNoneCard : Claim7 := { stood := { row := joinNoneRow, standIns := [], harness := (true, "59c726bfc5d07497d5d9b90443a023f8d523687d880c1a84b618560905fac79f"), looks := true }, kinds := [], alts := [], laidByText := true, laidKinds := [.data, .data, .data], laidTests := true, laidLooks := .later }
def JoinNoneCardSaid : Prop := Claim7.holds Tryz.pinned (.plain (OpenSpec.ofChange joinNoneSpec)) joinNoneCard

/-- THE SECOND FORM's CARD OF 'pedigreelaw13.JoinNone'. -/
def joinNoneUptoCard : Claim7 := { stood := { row := joinNoneUptoRow, standIns := [], harness := (true, "59c726bfc5d07497d5d9b90443a023f8d523687d880c1a84b618560905fac79f"), looks := true }, kinds := [], alts := [], laidByText := true, laidKinds := [.data, .data, .data], laidTests := true, laidLooks := .later }
def JoinNoneUptoCardSaid : Prop := Claim7.holds Tryz.pinned (.plain (OpenSpec.upto joinNoneSpec)) joinNoneUptoCard
end Rows
end Go.Proofs.YtgjdgincebchhaaGreatDoor

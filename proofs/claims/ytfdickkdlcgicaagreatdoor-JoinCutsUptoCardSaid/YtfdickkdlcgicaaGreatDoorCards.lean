/-
  DERIVED. GIVEN WITH THE SEED: THE CARDS: each row of YtfdickkdlcgicaaGreatDoorRows.lean that lists a variable, with what it lists TIED to the program's text (the seventh form; the later family's looks); each row that meets fmt, with fmt's text TOLD by the authors' own Lean function (tested against real Go, not proved from fmt's source: count such statements apart). THE CARD IS WHAT COUNTS. Prove the row's statement (the work); the ties are given (YtfdickkdlcgicaaGreatDoorTie.lean); close each card by the builder's one call (the guide's Derived/Test/ToyasCard.lean, 'card_holds'). Laid BY PROGRAM, IN A SANDBOX (cutbox-door.mjs). By AI agents, Wed Nov 11 2026. No macro, syntax, notation, axiom, sorry.
-/
import Derived.Test.YtfdickkdlcgicaaGreatDoorRows
import GoSem.ClaimSeven
namespace Go.Proofs.YtfdickkdlcgicaaGreatDoor
namespace Rows

/-- THE TIED CARD OF 'pedigreelaw13.JoinCuts'. -/
def joinCutsCard : Claim7 := { stood := { row := joinCutsRow, standIns := [], harness := (true, "3949af1c234ff44a055ef6b12d6444d79727a99a1cb618629ca14641290e0c6e"), looks := true }, kinds := [], alts := [], laidByText := true, laidKinds := [.data, .data, .data], laidTests := true, laidLooks := .later }
def JoinCutsCardSaid : Prop := Claim7.holds Tryz.pinned (.plain (OpenSpec.ofChange joinCutsSpec)) joinCutsCard

/-- THE TIED CARD OF 'pedigreelaw13.JoinDeltas'. -/
def joinDeltasCard : Claim7 := { stood := { row := joinDeltasRow, standIns := [], harness := (true, "3949af1c234ff44a055ef6b12d6444d79727a99a1cb618629ca14641290e0c6e"), looks := true }, kinds := [], alts := [], laidByText := true, laidKinds := [.data, .data, .data], laidTests := true, laidLooks := .later }
def JoinDeltasCardSaid : Prop := Claim7.holds Tryz.pinned (.plain (OpenSpec.ofChange joinDeltasSpec)) joinDeltasCard

/-- THE TIED CARD OF 'pedigreelaw13.JoinMore'. -/
def joinMoreCard : Claim7 := { stood := { row := joinMoreRow, standIns := [], harness := (true, "3949af1c234ff44a055ef6b12d6444d79727a99a1cb618629ca14641290e0c6e"), looks := true }, kinds := [], alts := [], laidByText := true, laidKinds := [.data, .data, .data], laidTests := true, laidLooks := .later }
def JoinMoreCardSaid : Prop := Claim7.holds Tryz.pinned (.plain (OpenSpec.ofChange joinMoreSpec)) joinMoreCard

/-- THE TIED CARD OF 'pedigreelaw13.JoinHeads'. -/
def joinHeadsCard : Claim7 := { stood := { row := joinHeadsRow, standIns := [], harness := (true, "3949af1c234ff44a055ef6b12d6444d79727a99a1cb618629ca14641290e0c6e"), looks := true }, kinds := [], alts := [], laidByText := true, laidKinds := [.data, .data, .data], laidTests := true, laidLooks := .later }
def JoinHeadsCardSaid : Prop := Claim7.holds Tryz.pinned (.plain (OpenSpec.ofChange joinHeadsSpec)) joinHeadsCard

/-- THE TIED CARD OF 'pedigreelaw13.JoinSound'. -/
def joinSoundCard : Claim7 := { stood := { row := joinSoundRow, standIns := [], harness := (true, "3949af1c234ff44a055ef6b12d6444d79727a99a1cb618629ca14641290e0c6e"), looks := true }, kinds := [], alts := [], laidByText := true, laidKinds := [.data, .data, .data, .data], laidTests := true, laidLooks := .later }
def JoinSoundCardSaid : Prop := Claim7.holds Tryz.pinned (.plain (OpenSpec.ofChange joinSoundSpec)) joinSoundCard

/-- THE SECOND FORM's CARD OF 'pedigreelaw13.JoinCuts'. -/
def joinCutsUptoCard : Claim7 := { stood := { row := joinCutsUptoRow, standIns := [], harness := (true, "3949af1c234ff44a055ef6b12d6444d79727a99a1cb618629ca14641290e0c6e"), looks := true }, kinds := [], alts := [], laidByText := true, laidKinds := [.data, .data, .data], laidTests := true, laidLooks := .later }
def JoinCutsUptoCardSaid : Prop := Claim7.holds Tryz.pinned (.plain (OpenSpec.upto joinCutsSpec)) joinCutsUptoCard

/-- THE SECOND FORM's CARD OF 'pedigreelaw13.JoinDeltas'. -/
def joinDeltasUptoCard : Claim7 := { stood := { row := joinDeltasUptoRow, standIns := [], harness := (true, "3949af1c234ff44a055ef6b12d6444d79727a99a1cb618629ca14641290e0c6e"), looks := true }, kinds := [], alts := [], laidByText := true, laidKinds := [.data, .data, .data], laidTests := true, laidLooks := .later }
def JoinDeltasUptoCardSaid : Prop := Claim7.holds Tryz.pinned (.plain (OpenSpec.upto joinDeltasSpec)) joinDeltasUptoCard

/-- THE SECOND FORM's CARD OF 'pedigreelaw13.JoinMore'. -/
def joinMoreUptoCard : Claim7 := { stood := { row := joinMoreUptoRow, standIns := [], harness := (true, "3949af1c234ff44a055ef6b12d6444d79727a99a1cb618629ca14641290e0c6e"), looks := true }, kinds := [], alts := [], laidByText := true, laidKinds := [.data, .data, .data], laidTests := true, laidLooks := .later }
def JoinMoreUptoCardSaid : Prop := Claim7.holds Tryz.pinned (.plain (OpenSpec.upto joinMoreSpec)) joinMoreUptoCard

/-- THE SECOND FORM's CARD OF 'pedigreelaw13.JoinHeads'. -/
def joinHeadsUptoCard : Claim7 := { stood := { row := joinHeadsUptoRow, standIns := [], harness := (true, "3949af1c234ff44a055ef6b12d6444d79727a99a1cb618629ca14641290e0c6e"), looks := true }, kinds := [], alts := [], laidByText := true, laidKinds := [.data, .data, .data], laidTests := true, laidLooks := .later }
def JoinHeadsUptoCardSaid : Prop := Claim7.holds Tryz.pinned (.plain (OpenSpec.upto joinHeadsSpec)) joinHeadsUptoCard

/-- THE SECOND FORM's CARD OF 'pedigreelaw13.JoinSound'. -/
def joinSoundUptoCard : Claim7 := { stood := { row := joinSoundUptoRow, standIns := [], harness := (true, "3949af1c234ff44a055ef6b12d6444d79727a99a1cb618629ca14641290e0c6e"), looks := true }, kinds := [], alts := [], laidByText := true, laidKinds := [.data, .data, .data, .data], laidTests := true, laidLooks := .later }
def JoinSoundUptoCardSaid : Prop := Claim7.holds Tryz.pinned (.plain (OpenSpec.upto joinSoundSpec)) joinSoundUptoCard
end Rows
end Go.Proofs.YtfdickkdlcgicaaGreatDoor

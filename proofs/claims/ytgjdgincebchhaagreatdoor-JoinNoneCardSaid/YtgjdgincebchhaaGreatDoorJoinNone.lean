/-
  JoinNone: for every call on a world that is not there (a nil pointer, a zero struct) the program answers what the document does. Conditions: the row's own: the three listed variables read as the program's text lays them (the card ties them).
-/
import Derived.Test.YtgjdgincebchhaaGreatDoorJNOver
import Derived.Test.YtgjdgincebchhaaGreatDoorJNCard
import Derived.Test.YtgjdgincebchhaaGreatDoorCards
import Derived.Test.YtgjdgincebchhaaGreatDoorTie
import Derived.SevenTiedAt
namespace Go.Proofs.YtgjdgincebchhaaGreatDoor.joinNone
open Go Go.ChangeShapes Go.WideShapes Go.ChangeAt Go.WideMaps Go.WideElems Go.RowKit Go.Deep

theorem wants : ∀ f fn, Tryz.prog.funcNamed "pedigree/pedigreelaw13.JoinNone" = some f → Tryz.prog.funcs[f]? = some fn → true = Tryz.prog.looks [] ∧ ∀ (j : Nat) t, fn.params[j]? = some t → Tryz.prog.wantsStandIn t = false := by
  intro f fn hf hfn
  obtain rfl : f = 3 := Option.some.inj (named.symm.trans hf) |>.symm
  obtain rfl : fn = Tryz.f3 := (Option.some.inj (Tryz.func3.symm.trans hfn)).symm
  refine ⟨c3, fun j t ht => ?_⟩
  rw [Tryz.params3] at ht
  have hm : t ∈ [34] := by simpa using Array.mem_of_getElem? ht
  exact (show Tryz.prog.wantsStandIn t = false by simpa using List.all_eq_true.1 c4 t hm)

theorem proved : Rows.JoinNoneCardSaid :=
  Claim7.holds_tied_plain_at .later [] [.data, .data, .data] true (true, "59c726bfc5d07497d5d9b90443a023f8d523687d880c1a84b618560905fac79f") true
    over (fun _ h => by cases h) c1 (fun _ h => by cases h) joinNone_row_tie rfl ⟨rfl, rfl⟩ c2 rfl wants c5
#print axioms proved
end Go.Proofs.YtgjdgincebchhaaGreatDoor.joinNone

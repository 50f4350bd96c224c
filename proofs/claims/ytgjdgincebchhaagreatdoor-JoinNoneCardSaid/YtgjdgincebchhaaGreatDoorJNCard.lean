/-
  JoinNone's card: its closed facts, one by one.
-/
import Derived.Test.YtgjdgincebchhaaGreatDoorRows
import Derived.ProofKit
import Derived.SevenTiedAt
namespace Go.Proofs.YtgjdgincebchhaaGreatDoor.joinNone
open Go Go.ChangeShapes Go.WideShapes Go.ChangeAt Go.WideMaps Go.WideElems Go.RowKit

theorem c1 : Rows.joinNoneRow.wfByText (OpenSpec.ofChange Rows.joinNoneSpec) = true := by kernel_rfl
theorem c2 : Tryz.prog.mainIs = some (true, "59c726bfc5d07497d5d9b90443a023f8d523687d880c1a84b618560905fac79f".toList) := by kernel_rfl
theorem c3 : true = Tryz.prog.looks [] := by kernel_rfl
theorem c4 : ([34].all fun u => !Tryz.prog.wantsStandIn u) = true := by kernel_rfl
theorem c5 : false = Rows.joinNoneRow.goesBy Tryz.prog := by kernel_rfl

end Go.Proofs.YtgjdgincebchhaaGreatDoor.joinNone

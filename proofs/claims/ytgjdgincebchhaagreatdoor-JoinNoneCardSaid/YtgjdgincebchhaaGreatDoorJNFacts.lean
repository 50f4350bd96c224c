/-
  JoinNone's row: its closed facts, one by one.
-/
import Derived.Test.YtgjdgincebchhaaGreatDoorRows
import Derived.ProofKit
namespace Go.Proofs.YtgjdgincebchhaaGreatDoor.joinNone
open Go Go.ChangeShapes Go.WideShapes Go.ChangeAt Go.WideMaps Go.WideElems Go.RowKit

theorem e1 : (Rows.joinNoneRow.wf (OpenSpec.ofChange Rows.joinNoneSpec)) = true := by kernel_rfl
theorem e2 : (laidOutB Tryz.prog) = true := by kernel_rfl
theorem e3 : (mapsRowed Tryz.prog) = true := by kernel_rfl
theorem e4 : (Tryz.f3.params.all (Tryz.prog.readableRec ·)) = true := by kernel_rfl
theorem e5 : (namedTie Tryz.prog Rows.joinNoneRow.named Rows.joinNoneSpec.vars) = true := by kernel_rfl
theorem e6 : (Rows.joinNoneRow.stops == []) = true := by kernel_rfl
theorem e7 : (Tryz.prog.stops == []) = true := by kernel_rfl
theorem e8 : (Rows.joinNoneRow.knobs == []) = true := by kernel_rfl
theorem e9 : (Tryz.prog.stopKnobs == []) = true := by kernel_rfl
theorem e10 : (Rows.joinNoneRow.inPlace == Tryz.prog.inPlace 3) = true := by kernel_rfl
theorem e11 : (Rows.joinNoneRow.unfollowed == Tryz.prog.unfollowed 3) = true := by kernel_rfl
theorem e12 : (Rows.joinNoneRow.recurses == Tryz.prog.recurses 3) = true := by kernel_rfl
theorem e13 : (Rows.joinNoneRow.named == Tryz.prog.varsNamed 3) = true := by kernel_rfl
theorem e14 : (Rows.joinNoneRow.maps == (Tryz.f3.params.toList ++ Rows.joinNoneSpec.plain.varTypes Tryz.prog).any (Tryz.prog.mapsRec ·)) = true := by kernel_rfl
theorem e15 : (Rows.joinNoneRow.ifaces == (Tryz.f3.params.toList ++ Rows.joinNoneSpec.plain.varTypes Tryz.prog).any (Tryz.prog.ifacesRec ·)) = true := by kernel_rfl
theorem e16 : (Rows.joinNoneRow.mapsOut == Tryz.prog.mapsAmong Tryz.f3.resultTypes.toList) = true := by kernel_rfl
theorem e17 : (Rows.joinNoneRow.loops == (Tryz.f3.params.toList ++ Rows.joinNoneSpec.plain.varTypes Tryz.prog).any (Tryz.prog.loopsFrom ·)) = true := by kernel_rfl
theorem e18 : (Rows.joinNoneRow.wideKeys == (Tryz.f3.params.toList ++ Rows.joinNoneSpec.plain.varTypes Tryz.prog ++ Tryz.f3.resultTypes.toList).any (Tryz.prog.wideKeysFrom ·)) = true := by kernel_rfl
theorem e19 : (Rows.joinNoneSpec.vars.all (Tryz.prog.varReadable ·)) = true := by kernel_rfl
theorem e20 : (Tryz.f3.resultTypes.all (fun t => Tryz.prog.readableRec t && decide (t < Tryz.prog.types.size))) = true := by kernel_rfl
theorem e21 : (Rows.joinNoneRow.ifacesOut == Tryz.f3.resultTypes.toList.any (Tryz.prog.ifacesRec ·)) = true := by kernel_rfl
theorem e22 : (Rows.joinNoneRow.loopsOut == Tryz.f3.resultTypes.toList.any (Tryz.prog.loopsFrom ·)) = true := by kernel_rfl
theorem e23 : (Rows.joinNoneRow.plainKeys == Tryz.prog.plainKeys) = true := by kernel_rfl
theorem e24 : (Rows.joinNoneRow.shortTexts.isNone) = true := by kernel_rfl
theorem e25 : (Tryz.prog.stopsHeard) = true := by kernel_rfl
theorem e26 : (Tryz.prog.mayEnter) = true := by kernel_rfl
theorem e27 : (Rows.joinNoneRow.lifted == Tryz.prog.liftsFinal) = true := by kernel_rfl
theorem e28 : (Tryz.prog.make == some Rows.joinNoneRow.make) = true := by kernel_rfl
theorem e30 : (Rows.joinNoneRow.pinned == Rows.joinNoneRow.pinnedBy) = true := by kernel_rfl
theorem e31 : (Rows.joinNoneRow.veiled == (Tryz.f3.params.toList ++ Rows.joinNoneSpec.plain.varTypes Tryz.prog ++ Tryz.f3.resultTypes.toList).any (Tryz.prog.veiledRec ·)) = true := by kernel_rfl
theorem e32 : (Rows.joinNoneRow.veiledFits Tryz.prog Tryz.f3.params.toList (Tryz.f3.params.toList ++ Rows.joinNoneSpec.plain.varTypes Tryz.prog ++ Tryz.f3.resultTypes.toList)) = true := by kernel_rfl

end Go.Proofs.YtgjdgincebchhaaGreatDoor.joinNone

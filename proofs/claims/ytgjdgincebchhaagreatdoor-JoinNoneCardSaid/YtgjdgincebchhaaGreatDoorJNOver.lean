/-
  JoinNone's row holds.
-/
import Derived.Test.YtgjdgincebchhaaGreatDoorJNLift
import Derived.Test.YtgjdgincebchhaaGreatDoorJNFacts
namespace Go.Proofs.YtgjdgincebchhaaGreatDoor.joinNone
open Go Go.ChangeShapes Go.WideShapes Go.ChangeAt Go.WideMaps Go.WideElems Go.RowKit Go.Deep

theorem closed : joinedFacts Tryz.prog 3 Tryz.f3 Rows.joinNoneSpec Rows.joinNoneRow = true := by
  unfold joinedFacts
  rw [e1, e2, e3, e4, e5, e6, e7, e8, e9, e10, e11, e12, e13, e14, e15, e16, e17, e18, e19, e20, e21, e22, e23, e24, e25, e26, e27, e28, if_pos (show Rows.joinNoneRow.domain.isEmpty = true from rfl), show (Rows.joinNoneRow.kinds == []) = true from rfl, e30, e31, e32]
  rfl

theorem named : Tryz.prog.funcNamed "pedigree/pedigreelaw13.JoinNone" = some 3 := by kernel_rfl
theorem inst : Tryz.f3.isInstance Tryz.prog Rows.joinNoneRow.origin Rows.joinNoneRow.targs := of_decide_eq_true (by kernel_rfl)
theorem wrap : Tryz.f3.isWrapper Tryz.prog Rows.joinNoneRow.wrapper Rows.joinNoneRow.mainSum := by
  unfold Func.isWrapper
  first | (rw [if_pos (by decide +kernel)]; kernel_rfl) | (rw [if_neg (by decide +kernel)]; exact ⟨rfl, rfl⟩)

theorem over : Rows.JoinNoneSaid :=
  OpenClaim.holds_of_wide 3 Tryz.f3 rfl rfl rfl rfl rfl rfl rfl ⟨rfl, rfl, rfl, rfl, rfl⟩ rfl rfl rfl rfl rfl named Tryz.func3 closed inst wrap
    (fun os started H enc _ => lifted os started H enc)

end Go.Proofs.YtgjdgincebchhaaGreatDoor.joinNone

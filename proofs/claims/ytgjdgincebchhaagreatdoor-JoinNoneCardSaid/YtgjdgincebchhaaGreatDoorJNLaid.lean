/-
  JoinNone's row: what the listed variables give the walk.
-/
import Derived.Test.YtgjdgincebchhaaGreatDoorWalk
import Derived.Test.YtgjdgincebchhaaGreatDoorRows
import Derived.ProofKit
import Derived.LaidMore
import Derived.OpenShut
import Derived.Stop.Joined
import Derived.SizedLaws
import Derived.ChangeOld
import Derived.SevenTiedAt
namespace Go.Proofs.YtgjdgincebchhaaGreatDoor.joinNone
open Go Go.ChangeShapes Go.WideShapes Go.ChangeAt Go.WideMaps Go.WideElems Go.RowKit Go.Deep

theorem own : ownKnob Tryz.prog.godebug = none := by kernel_rfl
theorem laidOut : laidOutB Tryz.prog = true := by kernel_rfl
theorem gPow : Tryz.prog.globalNamed "internal/strconv.uint64pow10" = some 1 := by kernel_rfl
theorem tPow : (Tryz.prog.globals[1]?).map (·.type) = some 432 := by kernel_rfl

/-- The door's own heap meets the condition: three closed facts. -/
theorem door_met (os : Os) (args : Array Value) : laidMetH Tryz.prog Rows.joinNoneRow.laid ((World.doorLaid Tryz.prog 29 os).forCall (fun _ _ => 0) ⟨#[], args, []⟩).memory :=
  laidMetH_of_parts3 (fuel := 8) (laidMet_of_run' 8 (by kernel_rfl) (by kernel_rfl)) (by kernel_rfl) (by kernel_rfl)

set_option maxRecDepth 100000 in
theorem pow_of {W : World} (h : laidMetH Tryz.prog Rows.joinNoneRow.laid W) : Pow W := by
  rw [MakeChecks.laidMetH_plain _ _ _ (by kernel_rfl)] at h
  obtain ⟨ps, ⟨g0, t0, cs0, f0, p0, q0, hg0, ht0, hv0, hd0, ⟨g1, t1, cs1, f1, p1, q1, hg1, ht1, hv1, hd1, ⟨g2, t2, cs2, f2, p2, q2, hg2, ht2, hv2, hd2, _, _⟩, _⟩, _⟩, _, _⟩ := h
  obtain rfl := Option.some.inj (gPow.symm.trans hg2)
  obtain rfl := Option.some.inj (tPow.symm.trans ht2)
  obtain ⟨xs, m1, rfl, hx1, hlen, hn3, hel⟩ := DataW.trod_array Tryz.underlying432 hd2
  have c1 : Tryz.prog.cellsOf 278 = 1 := by kernel_rfl
  have h6 := hel 6 (by decide)
  simp only [Prod.mk.injEq] at hx1
  obtain ⟨hx, _⟩ := hx1
  unfold Rows.laid_internal_strconv_uint64pow10 at hx
  injection hx with hx
  have e6 : (xs.map (·.1))[6]? = some (.lit (.int .u64 1000000)) := by rw [← hx]; rfl
  rw [List.getElem?_map] at e6
  obtain ⟨x6, hx6, he6⟩ := Option.map_eq_some_iff.1 e6
  rw [hx6, c1] at h6
  obtain ⟨k, e1, e2, _⟩ := DataW.trod_int Tryz.underlying278 h6
  have hk : k = 1000000 := by rw [e2] at he6; simpa using he6
  subst hk
  have hc : cs2[6]? = some (.int .u64 1000000) := by
    have h := congrArg (·[0]?) e1
    simpa [List.getElem?_take, List.getElem?_drop] using h
  have hcell := (World.var?_cell hg2 hv2 6).trans hc
  exact ⟨hcell, World.block_lt_of_cell? _ _ hcell⟩

end Go.Proofs.YtgjdgincebchhaaGreatDoor.joinNone

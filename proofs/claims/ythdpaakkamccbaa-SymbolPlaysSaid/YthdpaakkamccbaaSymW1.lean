/-
  Walks: there, value.Check, New, Len, Find, Value.
-/
import Derived.Test.YthdpaakkamccbaaSymMem
import Derived.WalkSpells
import Derived.WalkLawsBesides
import Derived.Deep.QuietTactic
import Derived.BigQuiet
import Derived.Deep.LoopGhost
import Derived.Deep.DeepCutAuto
import Derived.StillTailTactics
import Derived.Deep.RegionLaw
import Derived.Deep.Light
import Derived.Laws.Cover3
namespace Go.Proofs.Ythdpaakkamccbaa
open Go.RowKit Go.Maps

@[go_sem] theorem neqMap (m : Option Nat) (w : World) : (binOp .neq 75 (.map m) (.map none)).run Try.prog w = .ok (.bool (!m.isNone)) w := run_neq_map_nil w _ _ _ m Try.underlying75

theorem ret_int {k : IntKind} {a b : Int} (h : a = b) : Ending.returned (.int k a) = .returned (.int k b) := by rw [h]
theorem ret_bool {a b : Bool} (h : a = b) : Ending.returned (.bool a) = .returned (.bool b) := by rw [h]
theorem size_isEmpty (s : ByteArray) : (s.size == 0) = s.toList.isEmpty := by
  rw [ByteArray.toList_eq]
  cases h : s.data.toList with
  | nil => have : s.data.toList.length = 0 := by rw [h]; rfl
           have e : s.size = 0 := this
           rw [e]; rfl
  | cons x l => have : s.data.toList.length = l.length + 1 := by rw [h]; rfl
                have e : s.size = l.length + 1 := this
                rw [e]; rfl

theorem there_any (tb : Nat) (m : Int) (mb : Nat) (v : Value) (w : World) (h : Blk w tb 77 #[.int .i64 m, .map (some mb), v]) :
    Calls Try.prog 29 #[.pointer (some ⟨tb, 0, none⟩)] w fun e w' => e = .returned (.bool true) ∧ w' = w := by
  have h1 : w.cell? ⟨tb, 1, none⟩ = some (.map (some mb)) := h.cell 1
  go_enter Try.func29, Try.ntmps29
  go_wp2
  go_ret
  exact ⟨rfl, rfl⟩

theorem there_zero (tb : Nat) (m : Int) (v : Value) (w : World) (h : Blk w tb 77 #[.int .i64 m, .map none, v]) :
    Calls Try.prog 29 #[.pointer (some ⟨tb, 0, none⟩)] w fun e w' => e = .returned (.bool false) ∧ w' = w := by
  have h1 : w.cell? ⟨tb, 1, none⟩ = some (.map none) := h.cell 1
  go_enter Try.func29, Try.ntmps29
  go_wp2
  go_ret
  exact ⟨rfl, rfl⟩

theorem there_nil (w : World) :
    Calls Try.prog 29 #[.pointer none] w fun e w' => e = .returned (.bool false) ∧ w' = w := by
  go_enter Try.func29, Try.ntmps29
  go_wp2
  go_ret
  exact ⟨rfl, rfl⟩

/-- what Check answers. -/
def Val.code (v : Val) : Int := if v.ok then 0 else 10

set_option maxHeartbeats 400000 in
theorem check_any (v : Val) (w : World) :
    Calls Try.prog 30 #[v.agg] w fun e w' => e = .returned (.int .i64 v.code) ∧ Below w.heap.size w w' := by
  obtain ⟨k, n, s⟩ := v
  show Calls _ _ #[.agg #[.int .i8 k, .int .i64 n, .string s]] _ _
  go_enter Try.func30, Try.ntmps30
  go_wp2
  all_goals
    go_ret
    refine ⟨ret_int ?_, (Below.refl _ _).alloc (Nat.le_refl _) _⟩
    go_light
    first | (simp_all [Val.code, Val.ok, size_isEmpty]; done) | (simp_all [Val.code, Val.ok, size_isEmpty]; omega)

end Go.Proofs.Ythdpaakkamccbaa

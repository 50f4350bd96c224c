/-
  The marks that stand behind a copied list, and their tests.
-/
import Derived.Test.YtgjdgincebchhaaGreatDoorWord
import Derived.StillTailTactics
import Derived.Sort.CutIn
import Derived.WalkSpells
import Derived.Deep.RegionHeld3
import Derived.Laws.StructEq
namespace Go.Proofs.YtgjdgincebchhaaGreatDoor
open Go Go.RowKit Ev

theorem tw_at_store {P : Program} {ops : Array Oper} {rest : List Oper} {o : Oper} {a : Act} {w : World} {Q : Exit → Act → World → Prop} (ty : TypeId) (x y : Operand) (_ : o.op = .store ty x y) (h : wpList P ops Q (o :: rest) a w) : wpList P ops Q (o :: rest) a w := h
theorem tw_at_load {P : Program} {ops : Array Oper} {rest : List Oper} {o : Oper} {a : Act} {w : World} {Q : Exit → Act → World → Prop} (ty : TypeId) (x : Operand) (_ : o.op = .load ty x) (h : wpList P ops Q (o :: rest) a w) : wpList P ops Q (o :: rest) a w := h
/-- where a walk is to stand still. -/
structure Stopped (p : Prop) : Prop where
  out : p
/-- a result that lies in a cell. -/
theorem results_cell {P : Program} {fn : Func} {a : Tmp} {t : TypeId} (h : fn.results = #[.cell a t]) (tmps : Array Value) (w : World) {ad : Addr} (ha : tmps.getD a undef = .pointer (some ad)) {v : Value} (hl : (loadVar t ad).run P w = .ok v w) : (results fn tmps).run P w = .ok v w := by
  rw [results_eq, h]
  have hr : (resOf tmps (.cell a t)).run P w = .ok v w := by
    show (do loadVar t (← asAddr (tmps.getD a undef))).run P w = _
    rw [ha]
    simp only [asAddr, Sem.run_bind, Sem.run_pure, Result.andThen_ok, hl]
  simp [hr]

def markValueL : List Value := [.int .i8 99, .int .i64 777777, .string ⟨#[]⟩]
def markTermL : List Value := [.string ⟨#[35, 55, 55, 55, 55, 55, 55]⟩, .int .i8 0, .int .i64 0, .string ⟨#[]⟩]
def markArgL : List Value := [.int .i8 0, .string ⟨#[35, 55, 55, 55, 55, 55, 55]⟩, .int .i8 0, .int .i64 0, .string ⟨#[]⟩]
def markExprL : List Value := [.int .i8 99, .string ⟨#[35, 55, 55, 55, 55, 55, 55]⟩, .int .i8 0, .int .i64 0, .string ⟨#[]⟩, .slice none 0 0]
def markLiteralL : List Value := [.int .i8 99, .string ⟨#[35, 55, 55, 55, 55, 55, 55]⟩, .slice none 0 0, .int .i8 0, .int .i8 0, .string ⟨#[]⟩, .int .i8 0, .int .i64 0, .string ⟨#[]⟩, .slice none 0 0, .int .i8 0, .string ⟨#[]⟩, .int .i8 0, .int .i64 0, .string ⟨#[]⟩, .slice none 0 0]
def markStepL : List Value := [.int .i8 0, .int .i64 (-777777), .int .u32 0, .slice none 0 0]
def markTextL : List Value := [.string ⟨#[35, 55, 55, 55, 55, 55, 55]⟩]
def markIntL : List Value := [.int .i64 (-778777)]
theorem markValue_any (w : World) : Calls Tryz.prog 69 #[.int .i64 777777] w fun e w1 => e = .returned (.agg #[.int .i8 99, .int .i64 777777, .string ⟨#[]⟩]) ∧ Below w.heap.size w w1 := reckoned (args := [.int .i64 777777]) (by kernel_rfl) rfl rfl w
theorem isValue_any (w : World) : Calls Tryz.prog 80 #[.agg #[.int .i8 99, .int .i64 777777, .string ⟨#[]⟩], .int .i64 777777] w fun e w1 => e = .returned (.bool true) ∧ Below w.heap.size w w1 := reckoned (args := [.agg #[.int .i8 99, .int .i64 777777, .string ⟨#[]⟩], .int .i64 777777]) (by kernel_rfl) rfl rfl w
theorem markInt_any (w : World) : Calls Tryz.prog 94 #[.int .i64 777777] w fun e w1 => e = .returned (.int .i64 (-778777)) ∧ Below w.heap.size w w1 := reckoned (args := [.int .i64 777777]) (by kernel_rfl) rfl rfl w
theorem isInt_any (w : World) : Calls Tryz.prog 98 #[.int .i64 (-778777), .int .i64 777777] w fun e w1 => e = .returned (.bool true) ∧ Below w.heap.size w w1 := reckoned (args := [.int .i64 (-778777), .int .i64 777777]) (by kernel_rfl) rfl rfl w
theorem markStep_any (w : World) : Calls Tryz.prog 150 #[.int .i64 777777] w fun e w1 => e = .returned (.agg #[.int .i8 0, .int .i64 (-777777), .int .u32 0, .slice none 0 0]) ∧ Below w.heap.size w w1 := reckoned (args := [.int .i64 777777]) (by kernel_rfl) rfl rfl w
theorem isStep_any (w : World) : Calls Tryz.prog 154 #[.agg #[.int .i8 0, .int .i64 (-777777), .int .u32 0, .slice none 0 0], .int .i64 777777] w fun e w1 => e = .returned (.bool true) ∧ Below w.heap.size w w1 := reckoned (args := [.agg #[.int .i8 0, .int .i64 (-777777), .int .u32 0, .slice none 0 0], .int .i64 777777]) (by kernel_rfl) rfl rfl w
theorem infoValue : (Tryz.prog.info? 56).map (fun i => (i.zero, i.size, i.bytes)) = some (some (.agg #[.int .i8 0, .int .i64 0, .string ⟨#[]⟩]), 3, 32) := by kernel_rfl
theorem sizeValue : (Tryz.prog.info? 56).map (·.size) = some 3 := by kernel_rfl
theorem infoTerm : (Tryz.prog.info? 82).map (fun i => (i.zero, i.size, i.bytes)) = some (some (.agg #[.string ⟨#[]⟩, .int .i8 0, .int .i64 0, .string ⟨#[]⟩]), 4, 48) := by kernel_rfl
theorem sizeTerm : (Tryz.prog.info? 82).map (·.size) = some 4 := by kernel_rfl
theorem infoArg : (Tryz.prog.info? 96).map (fun i => (i.zero, i.size, i.bytes)) = some (some (.agg #[.int .i8 0, .string ⟨#[]⟩, .int .i8 0, .int .i64 0, .string ⟨#[]⟩]), 5, 56) := by kernel_rfl
theorem sizeArg : (Tryz.prog.info? 96).map (·.size) = some 5 := by kernel_rfl
theorem infoExpr : (Tryz.prog.info? 91).map (fun i => (i.zero, i.size, i.bytes)) = some (some (.agg #[.int .i8 0, .string ⟨#[]⟩, .int .i8 0, .int .i64 0, .string ⟨#[]⟩, .slice none 0 0]), 6, 80) := by kernel_rfl
theorem sizeExpr : (Tryz.prog.info? 91).map (·.size) = some 6 := by kernel_rfl
theorem infoLiteral : (Tryz.prog.info? 93).map (fun i => (i.zero, i.size, i.bytes)) = some (some (.agg #[.int .i8 0, .string ⟨#[]⟩, .slice none 0 0, .int .i8 0, .int .i8 0, .string ⟨#[]⟩, .int .i8 0, .int .i64 0, .string ⟨#[]⟩, .slice none 0 0, .int .i8 0, .string ⟨#[]⟩, .int .i8 0, .int .i64 0, .string ⟨#[]⟩, .slice none 0 0]), 16, 216) := by kernel_rfl
theorem sizeLiteral : (Tryz.prog.info? 93).map (·.size) = some 16 := by kernel_rfl
theorem infoStep : (Tryz.prog.info? 102).map (fun i => (i.zero, i.size, i.bytes)) = some (some (.agg #[.int .i8 0, .int .i64 0, .int .u32 0, .slice none 0 0]), 4, 48) := by kernel_rfl
theorem sizeStep : (Tryz.prog.info? 102).map (·.size) = some 4 := by kernel_rfl
theorem markText_any (w : World) (hp : Pow w) : Calls Tryz.prog 277 #[.int .i64 777777] w fun e w1 => e = .returned (.string ⟨#[35, 55, 55, 55, 55, 55, 55]⟩) ∧ Below w.heap.size w w1 := by
  have Hp := Lib.hid hp
  clear hp
  go_enter Tryz.func277, Tryz.ntmps277
  go_wp2_with (go_at_call 274; refine (word_any _ Hp.out).mono ?_; rintro e w1 ⟨rfl, hb1⟩)
  go_returns
  exact ⟨rfl, hb1⟩
set_option maxHeartbeats 400000 in
theorem markTerm_any (w : World) (hp : Pow w) : Calls Tryz.prog 330 #[.int .i64 777777] w fun e w1 => e = .returned (.agg #[.string ⟨#[35, 55, 55, 55, 55, 55, 55]⟩, .int .i8 0, .int .i64 0, .string ⟨#[]⟩]) ∧ Below w.heap.size w w1 := by
  have Hp := Lib.hid hp
  clear hp
  go_enter Tryz.func330, Tryz.ntmps330
  go_wp2_with (first
    | (go_at_call 274; refine (word_any _ (Hp.out.below (new_below w _) (Nat.le_refl _))).mono ?_; rintro e w1 ⟨rfl, hb1⟩)
    | (refine tw_at_store 82 _ _ rfl ?_; refine Stopped.out ?_))
  refine ⟨?_⟩
  have hth := there_below (new_there w #[.string ⟨#[]⟩, .int .i8 0, .int .i64 0, .string ⟨#[]⟩] 82 4 rfl) hb1 (by simp)
  refine wpList_store_mid (b := w.heap.size) (o := 0) rfl 82 _ _ rfl #[.string ⟨#[35, 55, 55, 55, 55, 55, 55]⟩, .int .i8 0, .int .i64 0, .string ⟨#[]⟩] rfl rfl hth sizeTerm (by simp [Value.oneCell']) ?_
  have hl := run_loadVar_mid (P := Tryz.prog) (w1.setCells w.heap.size 0 [.string ⟨#[35, 55, 55, 55, 55, 55, 55]⟩, .int .i8 0, .int .i64 0, .string ⟨#[]⟩]) w.heap.size 0 82 [.string ⟨#[35, 55, 55, 55, 55, 55, 55]⟩, .int .i8 0, .int .i64 0, .string ⟨#[]⟩] _ (World.rangeAt_setCells_same _ _ _ _ hth) Tryz.underlying82 rfl sizeTerm
  have hB := Below.setCells_ (o := 0) (Nat.le_refl _) [.string ⟨#[35, 55, 55, 55, 55, 55, 55]⟩, .int .i8 0, .int .i64 0, .string ⟨#[]⟩] ((new_below w _).trans (hb1.mono (by simp)))
  generalize w1.setCells w.heap.size 0 [.string ⟨#[35, 55, 55, 55, 55, 55, 55]⟩, .int .i8 0, .int .i64 0, .string ⟨#[]⟩] = W at hl hB ⊢
  go_wp2
  (try simp only [Exit.inBlock, Exit.then])
  refine bodyPost_ret (results_cell Tryz.results330 _ _ rfl hl) rfl ?_
  exact ⟨rfl, hB⟩
set_option maxHeartbeats 400000 in
theorem markArg_any (w : World) (hp : Pow w) : Calls Tryz.prog 221 #[.int .i64 777777] w fun e w1 => e = .returned (.agg #[.int .i8 0, .string ⟨#[35, 55, 55, 55, 55, 55, 55]⟩, .int .i8 0, .int .i64 0, .string ⟨#[]⟩]) ∧ Below w.heap.size w w1 := by
  have Hp := Lib.hid hp
  clear hp
  go_enter Tryz.func221, Tryz.ntmps221
  go_wp2_with (first
    | (go_at_call 274; refine (word_any _ (Hp.out.below (new_below w _) (Nat.le_refl _))).mono ?_; rintro e w1 ⟨rfl, hb1⟩)
    | (refine tw_at_store 96 _ _ rfl ?_; refine Stopped.out ?_))
  refine ⟨?_⟩
  have hth := there_below (new_there w #[.int .i8 0, .string ⟨#[]⟩, .int .i8 0, .int .i64 0, .string ⟨#[]⟩] 96 5 rfl) hb1 (by simp)
  refine wpList_store_mid (b := w.heap.size) (o := 0) rfl 96 _ _ rfl #[.int .i8 0, .string ⟨#[35, 55, 55, 55, 55, 55, 55]⟩, .int .i8 0, .int .i64 0, .string ⟨#[]⟩] rfl rfl hth sizeArg (by simp [Value.oneCell']) ?_
  have hl := run_loadVar_mid (P := Tryz.prog) (w1.setCells w.heap.size 0 [.int .i8 0, .string ⟨#[35, 55, 55, 55, 55, 55, 55]⟩, .int .i8 0, .int .i64 0, .string ⟨#[]⟩]) w.heap.size 0 96 [.int .i8 0, .string ⟨#[35, 55, 55, 55, 55, 55, 55]⟩, .int .i8 0, .int .i64 0, .string ⟨#[]⟩] _ (World.rangeAt_setCells_same _ _ _ _ hth) Tryz.underlying96 rfl sizeArg
  have hB := Below.setCells_ (o := 0) (Nat.le_refl _) [.int .i8 0, .string ⟨#[35, 55, 55, 55, 55, 55, 55]⟩, .int .i8 0, .int .i64 0, .string ⟨#[]⟩] ((new_below w _).trans (hb1.mono (by simp)))
  generalize w1.setCells w.heap.size 0 [.int .i8 0, .string ⟨#[35, 55, 55, 55, 55, 55, 55]⟩, .int .i8 0, .int .i64 0, .string ⟨#[]⟩] = W at hl hB ⊢
  go_wp2
  (try simp only [Exit.inBlock, Exit.then])
  refine bodyPost_ret (results_cell Tryz.results221 _ _ rfl hl) rfl ?_
  exact ⟨rfl, hB⟩
set_option maxHeartbeats 400000 in
theorem markExpr_any (w : World) (hp : Pow w) : Calls Tryz.prog 331 #[.int .i64 777777] w fun e w1 => e = .returned (.agg #[.int .i8 99, .string ⟨#[35, 55, 55, 55, 55, 55, 55]⟩, .int .i8 0, .int .i64 0, .string ⟨#[]⟩, .slice none 0 0]) ∧ Below w.heap.size w w1 := by
  have Hp := Lib.hid hp
  clear hp
  go_enter Tryz.func331, Tryz.ntmps331
  go_wp2_with (first
    | (go_at_call 274; refine (word_any _ (Hp.out.below (new_below w _) (Nat.le_refl _))).mono ?_; rintro e w1 ⟨rfl, hb1⟩)
    | (refine tw_at_store 91 _ _ rfl ?_; refine Stopped.out ?_))
  refine ⟨?_⟩
  have hth := there_below (new_there w #[.int .i8 0, .string ⟨#[]⟩, .int .i8 0, .int .i64 0, .string ⟨#[]⟩, .slice none 0 0] 91 6 rfl) hb1 (by simp)
  refine wpList_store_mid (b := w.heap.size) (o := 0) rfl 91 _ _ rfl #[.int .i8 99, .string ⟨#[35, 55, 55, 55, 55, 55, 55]⟩, .int .i8 0, .int .i64 0, .string ⟨#[]⟩, .slice none 0 0] rfl rfl hth sizeExpr (by simp [Value.oneCell']) ?_
  have hl := run_loadVar_mid (P := Tryz.prog) (w1.setCells w.heap.size 0 [.int .i8 99, .string ⟨#[35, 55, 55, 55, 55, 55, 55]⟩, .int .i8 0, .int .i64 0, .string ⟨#[]⟩, .slice none 0 0]) w.heap.size 0 91 [.int .i8 99, .string ⟨#[35, 55, 55, 55, 55, 55, 55]⟩, .int .i8 0, .int .i64 0, .string ⟨#[]⟩, .slice none 0 0] _ (World.rangeAt_setCells_same _ _ _ _ hth) Tryz.underlying91 rfl sizeExpr
  have hB := Below.setCells_ (o := 0) (Nat.le_refl _) [.int .i8 99, .string ⟨#[35, 55, 55, 55, 55, 55, 55]⟩, .int .i8 0, .int .i64 0, .string ⟨#[]⟩, .slice none 0 0] ((new_below w _).trans (hb1.mono (by simp)))
  generalize w1.setCells w.heap.size 0 [.int .i8 99, .string ⟨#[35, 55, 55, 55, 55, 55, 55]⟩, .int .i8 0, .int .i64 0, .string ⟨#[]⟩, .slice none 0 0] = W at hl hB ⊢
  go_wp2
  (try simp only [Exit.inBlock, Exit.then])
  refine bodyPost_ret (results_cell Tryz.results331 _ _ rfl hl) rfl ?_
  exact ⟨rfl, hB⟩
set_option maxHeartbeats 400000 in
theorem markLiteral_any (w : World) (hp : Pow w) : Calls Tryz.prog 223 #[.int .i64 777777] w fun e w1 => e = .returned (.agg #[.int .i8 99, .string ⟨#[35, 55, 55, 55, 55, 55, 55]⟩, .slice none 0 0, .int .i8 0, .int .i8 0, .string ⟨#[]⟩, .int .i8 0, .int .i64 0, .string ⟨#[]⟩, .slice none 0 0, .int .i8 0, .string ⟨#[]⟩, .int .i8 0, .int .i64 0, .string ⟨#[]⟩, .slice none 0 0]) ∧ Below w.heap.size w w1 := by
  have Hp := Lib.hid hp
  clear hp
  go_enter Tryz.func223, Tryz.ntmps223
  go_wp2_with (first
    | (go_at_call 274; refine (word_any _ (Hp.out.below (new_below w _) (Nat.le_refl _))).mono ?_; rintro e w1 ⟨rfl, hb1⟩)
    | (refine tw_at_store 93 _ _ rfl ?_; refine Stopped.out ?_))
  refine ⟨?_⟩
  have hth := there_below (new_there w #[.int .i8 0, .string ⟨#[]⟩, .slice none 0 0, .int .i8 0, .int .i8 0, .string ⟨#[]⟩, .int .i8 0, .int .i64 0, .string ⟨#[]⟩, .slice none 0 0, .int .i8 0, .string ⟨#[]⟩, .int .i8 0, .int .i64 0, .string ⟨#[]⟩, .slice none 0 0] 93 16 rfl) hb1 (by simp)
  refine wpList_store_mid (b := w.heap.size) (o := 0) rfl 93 _ _ rfl #[.int .i8 99, .string ⟨#[35, 55, 55, 55, 55, 55, 55]⟩, .slice none 0 0, .int .i8 0, .int .i8 0, .string ⟨#[]⟩, .int .i8 0, .int .i64 0, .string ⟨#[]⟩, .slice none 0 0, .int .i8 0, .string ⟨#[]⟩, .int .i8 0, .int .i64 0, .string ⟨#[]⟩, .slice none 0 0] rfl rfl hth sizeLiteral (by simp [Value.oneCell']) ?_
  have hl := run_loadVar_mid (P := Tryz.prog) (w1.setCells w.heap.size 0 [.int .i8 99, .string ⟨#[35, 55, 55, 55, 55, 55, 55]⟩, .slice none 0 0, .int .i8 0, .int .i8 0, .string ⟨#[]⟩, .int .i8 0, .int .i64 0, .string ⟨#[]⟩, .slice none 0 0, .int .i8 0, .string ⟨#[]⟩, .int .i8 0, .int .i64 0, .string ⟨#[]⟩, .slice none 0 0]) w.heap.size 0 93 [.int .i8 99, .string ⟨#[35, 55, 55, 55, 55, 55, 55]⟩, .slice none 0 0, .int .i8 0, .int .i8 0, .string ⟨#[]⟩, .int .i8 0, .int .i64 0, .string ⟨#[]⟩, .slice none 0 0, .int .i8 0, .string ⟨#[]⟩, .int .i8 0, .int .i64 0, .string ⟨#[]⟩, .slice none 0 0] _ (World.rangeAt_setCells_same _ _ _ _ hth) Tryz.underlying93 rfl sizeLiteral
  have hB := Below.setCells_ (o := 0) (Nat.le_refl _) [.int .i8 99, .string ⟨#[35, 55, 55, 55, 55, 55, 55]⟩, .slice none 0 0, .int .i8 0, .int .i8 0, .string ⟨#[]⟩, .int .i8 0, .int .i64 0, .string ⟨#[]⟩, .slice none 0 0, .int .i8 0, .string ⟨#[]⟩, .int .i8 0, .int .i64 0, .string ⟨#[]⟩, .slice none 0 0] ((new_below w _).trans (hb1.mono (by simp)))
  generalize w1.setCells w.heap.size 0 [.int .i8 99, .string ⟨#[35, 55, 55, 55, 55, 55, 55]⟩, .slice none 0 0, .int .i8 0, .int .i8 0, .string ⟨#[]⟩, .int .i8 0, .int .i64 0, .string ⟨#[]⟩, .slice none 0 0, .int .i8 0, .string ⟨#[]⟩, .int .i8 0, .int .i64 0, .string ⟨#[]⟩, .slice none 0 0] = W at hl hB ⊢
  go_wp2
  (try simp only [Exit.inBlock, Exit.then])
  refine bodyPost_ret (results_cell Tryz.results223 _ _ rfl hl) rfl ?_
  exact ⟨rfl, hB⟩
theorem isText_any (w : World) (hp : Pow w) : Calls Tryz.prog 281 #[.string ⟨#[35, 55, 55, 55, 55, 55, 55]⟩, .int .i64 777777] w fun e w1 => e = .returned (.bool true) ∧ Below w.heap.size w w1 := by
  have Hp := Lib.hid hp
  clear hp
  go_enter Tryz.func281, Tryz.ntmps281
  go_wp2_with (go_at_call 274; refine (word_any _ Hp.out).mono ?_; rintro e w1 ⟨rfl, hb1⟩)
  go_returns
  exact ⟨rfl, hb1⟩
set_option maxRecDepth 100000 in
theorem isTerm_any (w : World) (hp : Pow w) : Calls Tryz.prog 333 #[.agg #[.string ⟨#[35, 55, 55, 55, 55, 55, 55]⟩, .int .i8 0, .int .i64 0, .string ⟨#[]⟩], .int .i64 777777] w fun e w1 => e = .returned (.bool true) ∧ Below w.heap.size w w1 := by
  have Hp := Lib.hid hp
  clear hp
  have heq : ∀ W : World, (binOp .eql 82 (.agg #[.string ⟨#[35, 55, 55, 55, 55, 55, 55]⟩, .int .i8 0, .int .i64 0, .string ⟨#[]⟩]) (.agg #[.string ⟨#[35, 55, 55, 55, 55, 55, 55]⟩, .int .i8 0, .int .i64 0, .string ⟨#[]⟩])).run Tryz.prog W = .ok (.bool true) W := fun W => by kernel_rfl
  have hS0 : (w.alloc (.cells #[.string ⟨#[35, 55, 55, 55, 55, 55, 55]⟩, .int .i8 0, .int .i64 0, .string ⟨#[]⟩] 82)).drew.cell? ⟨w.heap.size, 0, none⟩ = some (.string ⟨#[35, 55, 55, 55, 55, 55, 55]⟩) ∧ (w.alloc (.cells #[.string ⟨#[35, 55, 55, 55, 55, 55, 55]⟩, .int .i8 0, .int .i64 0, .string ⟨#[]⟩] 82)).drew.cell? ⟨w.heap.size, 1, none⟩ = some (.int .i8 0) ∧ (w.alloc (.cells #[.string ⟨#[35, 55, 55, 55, 55, 55, 55]⟩, .int .i8 0, .int .i64 0, .string ⟨#[]⟩] 82)).drew.cell? ⟨w.heap.size, 2, none⟩ = some (.int .i64 0) ∧ (w.alloc (.cells #[.string ⟨#[35, 55, 55, 55, 55, 55, 55]⟩, .int .i8 0, .int .i64 0, .string ⟨#[]⟩] 82)).drew.cell? ⟨w.heap.size, 3, none⟩ = some (.string ⟨#[]⟩) := ⟨by simp, by simp, by simp, by simp⟩
  have hW0 : Below w.heap.size w (w.alloc (.cells #[.string ⟨#[35, 55, 55, 55, 55, 55, 55]⟩, .int .i8 0, .int .i64 0, .string ⟨#[]⟩] 82)).drew := (new_below w _).drew
  have Hw := Lib.hid (word_any (w.alloc (.cells #[.string ⟨#[35, 55, 55, 55, 55, 55, 55]⟩, .int .i8 0, .int .i64 0, .string ⟨#[]⟩] 82)).drew (Hp.out.below hW0 (Nat.le_refl _)))
  have HW0 := Lib.hid hW0
  have Hr := Lib.hid (show (w.alloc (.cells #[.string ⟨#[35, 55, 55, 55, 55, 55, 55]⟩, .int .i8 0, .int .i64 0, .string ⟨#[]⟩] 82)).drew.rangeAt w.heap.size 0 [.string ⟨#[35, 55, 55, 55, 55, 55, 55]⟩, .int .i8 0, .int .i64 0, .string ⟨#[]⟩] from new_range w [.string ⟨#[35, 55, 55, 55, 55, 55, 55]⟩, .int .i8 0, .int .i64 0, .string ⟨#[]⟩] 82)
  clear hW0
  go_enter Tryz.func333, Tryz.ntmps333
  go_upto_region 1 with fail
  go_region_held3 (fun W' : World => W'.cell? ⟨w.heap.size, 0, none⟩ = some (.string ⟨#[35, 55, 55, 55, 55, 55, 55]⟩) ∧ W'.cell? ⟨w.heap.size, 1, none⟩ = some (.int .i8 0) ∧ W'.cell? ⟨w.heap.size, 2, none⟩ = some (.int .i64 0) ∧ W'.cell? ⟨w.heap.size, 3, none⟩ = some (.string ⟨#[]⟩)) (first | exact hS0 | exact hS1) (first
    | (go_at_call 274; refine Hw.out.mono ?_; rintro e W1 ⟨rfl, hb1⟩
       have hB1 : Below w.heap.size w W1 := HW0.out.trans (hb1.mono (by simp))
       have hS1 : W1.cell? ⟨w.heap.size, 0, none⟩ = some (.string ⟨#[35, 55, 55, 55, 55, 55, 55]⟩) ∧ W1.cell? ⟨w.heap.size, 1, none⟩ = some (.int .i8 0) ∧ W1.cell? ⟨w.heap.size, 2, none⟩ = some (.int .i64 0) ∧ W1.cell? ⟨w.heap.size, 3, none⟩ = some (.string ⟨#[]⟩) := by have h := rangeAt_below Hr.out hb1 (by simp); exact ⟨h 0 _ rfl, h 1 _ rfl, h 2 _ rfl, h 3 _ rfl⟩))
  go_wp2
  go_returns
  exact ⟨rfl, hB1⟩
set_option maxRecDepth 100000 in
theorem isArg_any (w : World) (hp : Pow w) : Calls Tryz.prog 226 #[.agg #[.int .i8 0, .string ⟨#[35, 55, 55, 55, 55, 55, 55]⟩, .int .i8 0, .int .i64 0, .string ⟨#[]⟩], .int .i64 777777] w fun e w1 => e = .returned (.bool true) ∧ Below w.heap.size w w1 := by
  have Hp := Lib.hid hp
  clear hp
  have heq : ∀ W : World, (binOp .eql 96 (.agg #[.int .i8 0, .string ⟨#[35, 55, 55, 55, 55, 55, 55]⟩, .int .i8 0, .int .i64 0, .string ⟨#[]⟩]) (.agg #[.int .i8 0, .string ⟨#[35, 55, 55, 55, 55, 55, 55]⟩, .int .i8 0, .int .i64 0, .string ⟨#[]⟩])).run Tryz.prog W = .ok (.bool true) W := fun W => by kernel_rfl
  have hS0 : (w.alloc (.cells #[.int .i8 0, .string ⟨#[35, 55, 55, 55, 55, 55, 55]⟩, .int .i8 0, .int .i64 0, .string ⟨#[]⟩] 96)).drew.cell? ⟨w.heap.size, 0, none⟩ = some (.int .i8 0) ∧ (w.alloc (.cells #[.int .i8 0, .string ⟨#[35, 55, 55, 55, 55, 55, 55]⟩, .int .i8 0, .int .i64 0, .string ⟨#[]⟩] 96)).drew.cell? ⟨w.heap.size, 1, none⟩ = some (.string ⟨#[35, 55, 55, 55, 55, 55, 55]⟩) ∧ (w.alloc (.cells #[.int .i8 0, .string ⟨#[35, 55, 55, 55, 55, 55, 55]⟩, .int .i8 0, .int .i64 0, .string ⟨#[]⟩] 96)).drew.cell? ⟨w.heap.size, 2, none⟩ = some (.int .i8 0) ∧ (w.alloc (.cells #[.int .i8 0, .string ⟨#[35, 55, 55, 55, 55, 55, 55]⟩, .int .i8 0, .int .i64 0, .string ⟨#[]⟩] 96)).drew.cell? ⟨w.heap.size, 3, none⟩ = some (.int .i64 0) ∧ (w.alloc (.cells #[.int .i8 0, .string ⟨#[35, 55, 55, 55, 55, 55, 55]⟩, .int .i8 0, .int .i64 0, .string ⟨#[]⟩] 96)).drew.cell? ⟨w.heap.size, 4, none⟩ = some (.string ⟨#[]⟩) := ⟨by simp, by simp, by simp, by simp, by simp⟩
  have hW0 : Below w.heap.size w (w.alloc (.cells #[.int .i8 0, .string ⟨#[35, 55, 55, 55, 55, 55, 55]⟩, .int .i8 0, .int .i64 0, .string ⟨#[]⟩] 96)).drew := (new_below w _).drew
  have Hw := Lib.hid (word_any (w.alloc (.cells #[.int .i8 0, .string ⟨#[35, 55, 55, 55, 55, 55, 55]⟩, .int .i8 0, .int .i64 0, .string ⟨#[]⟩] 96)).drew (Hp.out.below hW0 (Nat.le_refl _)))
  have HW0 := Lib.hid hW0
  have Hr := Lib.hid (show (w.alloc (.cells #[.int .i8 0, .string ⟨#[35, 55, 55, 55, 55, 55, 55]⟩, .int .i8 0, .int .i64 0, .string ⟨#[]⟩] 96)).drew.rangeAt w.heap.size 0 [.int .i8 0, .string ⟨#[35, 55, 55, 55, 55, 55, 55]⟩, .int .i8 0, .int .i64 0, .string ⟨#[]⟩] from new_range w [.int .i8 0, .string ⟨#[35, 55, 55, 55, 55, 55, 55]⟩, .int .i8 0, .int .i64 0, .string ⟨#[]⟩] 96)
  clear hW0
  go_enter Tryz.func226, Tryz.ntmps226
  go_upto_region 1 with fail
  go_region_held3 (fun W' : World => W'.cell? ⟨w.heap.size, 0, none⟩ = some (.int .i8 0) ∧ W'.cell? ⟨w.heap.size, 1, none⟩ = some (.string ⟨#[35, 55, 55, 55, 55, 55, 55]⟩) ∧ W'.cell? ⟨w.heap.size, 2, none⟩ = some (.int .i8 0) ∧ W'.cell? ⟨w.heap.size, 3, none⟩ = some (.int .i64 0) ∧ W'.cell? ⟨w.heap.size, 4, none⟩ = some (.string ⟨#[]⟩)) (first | exact hS0 | exact hS1) (first
    | (go_at_call 274; refine Hw.out.mono ?_; rintro e W1 ⟨rfl, hb1⟩
       have hB1 : Below w.heap.size w W1 := HW0.out.trans (hb1.mono (by simp))
       have hS1 : W1.cell? ⟨w.heap.size, 0, none⟩ = some (.int .i8 0) ∧ W1.cell? ⟨w.heap.size, 1, none⟩ = some (.string ⟨#[35, 55, 55, 55, 55, 55, 55]⟩) ∧ W1.cell? ⟨w.heap.size, 2, none⟩ = some (.int .i8 0) ∧ W1.cell? ⟨w.heap.size, 3, none⟩ = some (.int .i64 0) ∧ W1.cell? ⟨w.heap.size, 4, none⟩ = some (.string ⟨#[]⟩) := by have h := rangeAt_below Hr.out hb1 (by simp); exact ⟨h 0 _ rfl, h 1 _ rfl, h 2 _ rfl, h 3 _ rfl, h 4 _ rfl⟩))
  go_wp2
  go_returns
  exact ⟨rfl, hB1⟩
set_option maxRecDepth 100000 in
theorem isExpr_any (w : World) (hp : Pow w) : Calls Tryz.prog 334 #[.agg #[.int .i8 99, .string ⟨#[35, 55, 55, 55, 55, 55, 55]⟩, .int .i8 0, .int .i64 0, .string ⟨#[]⟩, .slice none 0 0], .int .i64 777777] w fun e w1 => e = .returned (.bool true) ∧ Below w.heap.size w w1 := by
  have Hp := Lib.hid hp
  clear hp
  have heq : ∀ W : World, (binOp .eql 82 (.agg #[.string ⟨#[35, 55, 55, 55, 55, 55, 55]⟩, .int .i8 0, .int .i64 0, .string ⟨#[]⟩]) (.agg #[.string ⟨#[35, 55, 55, 55, 55, 55, 55]⟩, .int .i8 0, .int .i64 0, .string ⟨#[]⟩])).run Tryz.prog W = .ok (.bool true) W := fun W => by kernel_rfl
  have hS0 : (w.alloc (.cells #[.int .i8 99, .string ⟨#[35, 55, 55, 55, 55, 55, 55]⟩, .int .i8 0, .int .i64 0, .string ⟨#[]⟩, .slice none 0 0] 91)).drew.cell? ⟨w.heap.size, 0, none⟩ = some (.int .i8 99) ∧ (w.alloc (.cells #[.int .i8 99, .string ⟨#[35, 55, 55, 55, 55, 55, 55]⟩, .int .i8 0, .int .i64 0, .string ⟨#[]⟩, .slice none 0 0] 91)).drew.cell? ⟨w.heap.size, 1, none⟩ = some (.string ⟨#[35, 55, 55, 55, 55, 55, 55]⟩) ∧ (w.alloc (.cells #[.int .i8 99, .string ⟨#[35, 55, 55, 55, 55, 55, 55]⟩, .int .i8 0, .int .i64 0, .string ⟨#[]⟩, .slice none 0 0] 91)).drew.cell? ⟨w.heap.size, 2, none⟩ = some (.int .i8 0) ∧ (w.alloc (.cells #[.int .i8 99, .string ⟨#[35, 55, 55, 55, 55, 55, 55]⟩, .int .i8 0, .int .i64 0, .string ⟨#[]⟩, .slice none 0 0] 91)).drew.cell? ⟨w.heap.size, 3, none⟩ = some (.int .i64 0) ∧ (w.alloc (.cells #[.int .i8 99, .string ⟨#[35, 55, 55, 55, 55, 55, 55]⟩, .int .i8 0, .int .i64 0, .string ⟨#[]⟩, .slice none 0 0] 91)).drew.cell? ⟨w.heap.size, 4, none⟩ = some (.string ⟨#[]⟩) ∧ (w.alloc (.cells #[.int .i8 99, .string ⟨#[35, 55, 55, 55, 55, 55, 55]⟩, .int .i8 0, .int .i64 0, .string ⟨#[]⟩, .slice none 0 0] 91)).drew.cell? ⟨w.heap.size, 5, none⟩ = some (.slice none 0 0) := ⟨by simp, by simp, by simp, by simp, by simp, by simp⟩
  have hW0 : Below w.heap.size w (w.alloc (.cells #[.int .i8 99, .string ⟨#[35, 55, 55, 55, 55, 55, 55]⟩, .int .i8 0, .int .i64 0, .string ⟨#[]⟩, .slice none 0 0] 91)).drew := (new_below w _).drew
  have Hw := Lib.hid (word_any (w.alloc (.cells #[.int .i8 99, .string ⟨#[35, 55, 55, 55, 55, 55, 55]⟩, .int .i8 0, .int .i64 0, .string ⟨#[]⟩, .slice none 0 0] 91)).drew (Hp.out.below hW0 (Nat.le_refl _)))
  have HW0 := Lib.hid hW0
  have Hr := Lib.hid (show (w.alloc (.cells #[.int .i8 99, .string ⟨#[35, 55, 55, 55, 55, 55, 55]⟩, .int .i8 0, .int .i64 0, .string ⟨#[]⟩, .slice none 0 0] 91)).drew.rangeAt w.heap.size 0 [.int .i8 99, .string ⟨#[35, 55, 55, 55, 55, 55, 55]⟩, .int .i8 0, .int .i64 0, .string ⟨#[]⟩, .slice none 0 0] from new_range w [.int .i8 99, .string ⟨#[35, 55, 55, 55, 55, 55, 55]⟩, .int .i8 0, .int .i64 0, .string ⟨#[]⟩, .slice none 0 0] 91)
  clear hW0
  go_enter Tryz.func334, Tryz.ntmps334
  go_upto_region 1 with fail
  go_region_held3 (fun W' : World => W'.cell? ⟨w.heap.size, 0, none⟩ = some (.int .i8 99) ∧ W'.cell? ⟨w.heap.size, 1, none⟩ = some (.string ⟨#[35, 55, 55, 55, 55, 55, 55]⟩) ∧ W'.cell? ⟨w.heap.size, 2, none⟩ = some (.int .i8 0) ∧ W'.cell? ⟨w.heap.size, 3, none⟩ = some (.int .i64 0) ∧ W'.cell? ⟨w.heap.size, 4, none⟩ = some (.string ⟨#[]⟩) ∧ W'.cell? ⟨w.heap.size, 5, none⟩ = some (.slice none 0 0)) (first | exact hS0 | exact hS1) (first
    | (go_at_call 274; refine Hw.out.mono ?_; rintro e W1 ⟨rfl, hb1⟩
       have hB1 : Below w.heap.size w W1 := HW0.out.trans (hb1.mono (by simp))
       have hS1 : W1.cell? ⟨w.heap.size, 0, none⟩ = some (.int .i8 99) ∧ W1.cell? ⟨w.heap.size, 1, none⟩ = some (.string ⟨#[35, 55, 55, 55, 55, 55, 55]⟩) ∧ W1.cell? ⟨w.heap.size, 2, none⟩ = some (.int .i8 0) ∧ W1.cell? ⟨w.heap.size, 3, none⟩ = some (.int .i64 0) ∧ W1.cell? ⟨w.heap.size, 4, none⟩ = some (.string ⟨#[]⟩) ∧ W1.cell? ⟨w.heap.size, 5, none⟩ = some (.slice none 0 0) := by have h := rangeAt_below Hr.out hb1 (by simp); exact ⟨h 0 _ rfl, h 1 _ rfl, h 2 _ rfl, h 3 _ rfl, h 4 _ rfl, h 5 _ rfl⟩))
  go_wp2
  go_returns
  exact ⟨rfl, hB1⟩
set_option maxRecDepth 100000 in
theorem isLiteral_any (w : World) (hp : Pow w) : Calls Tryz.prog 228 #[.agg #[.int .i8 99, .string ⟨#[35, 55, 55, 55, 55, 55, 55]⟩, .slice none 0 0, .int .i8 0, .int .i8 0, .string ⟨#[]⟩, .int .i8 0, .int .i64 0, .string ⟨#[]⟩, .slice none 0 0, .int .i8 0, .string ⟨#[]⟩, .int .i8 0, .int .i64 0, .string ⟨#[]⟩, .slice none 0 0], .int .i64 777777] w fun e w1 => e = .returned (.bool true) ∧ Below w.heap.size w w1 := by
  have Hp := Lib.hid hp
  clear hp
  have hS0 : (w.alloc (.cells #[.int .i8 99, .string ⟨#[35, 55, 55, 55, 55, 55, 55]⟩, .slice none 0 0, .int .i8 0, .int .i8 0, .string ⟨#[]⟩, .int .i8 0, .int .i64 0, .string ⟨#[]⟩, .slice none 0 0, .int .i8 0, .string ⟨#[]⟩, .int .i8 0, .int .i64 0, .string ⟨#[]⟩, .slice none 0 0] 93)).drew.cell? ⟨w.heap.size, 0, none⟩ = some (.int .i8 99) ∧ (w.alloc (.cells #[.int .i8 99, .string ⟨#[35, 55, 55, 55, 55, 55, 55]⟩, .slice none 0 0, .int .i8 0, .int .i8 0, .string ⟨#[]⟩, .int .i8 0, .int .i64 0, .string ⟨#[]⟩, .slice none 0 0, .int .i8 0, .string ⟨#[]⟩, .int .i8 0, .int .i64 0, .string ⟨#[]⟩, .slice none 0 0] 93)).drew.cell? ⟨w.heap.size, 1, none⟩ = some (.string ⟨#[35, 55, 55, 55, 55, 55, 55]⟩) ∧ (w.alloc (.cells #[.int .i8 99, .string ⟨#[35, 55, 55, 55, 55, 55, 55]⟩, .slice none 0 0, .int .i8 0, .int .i8 0, .string ⟨#[]⟩, .int .i8 0, .int .i64 0, .string ⟨#[]⟩, .slice none 0 0, .int .i8 0, .string ⟨#[]⟩, .int .i8 0, .int .i64 0, .string ⟨#[]⟩, .slice none 0 0] 93)).drew.cell? ⟨w.heap.size, 2, none⟩ = some (.slice none 0 0) := ⟨by simp, by simp, by simp⟩
  have hW0 : Below w.heap.size w (w.alloc (.cells #[.int .i8 99, .string ⟨#[35, 55, 55, 55, 55, 55, 55]⟩, .slice none 0 0, .int .i8 0, .int .i8 0, .string ⟨#[]⟩, .int .i8 0, .int .i64 0, .string ⟨#[]⟩, .slice none 0 0, .int .i8 0, .string ⟨#[]⟩, .int .i8 0, .int .i64 0, .string ⟨#[]⟩, .slice none 0 0] 93)).drew := (new_below w _).drew
  have Hw := Lib.hid (word_any (w.alloc (.cells #[.int .i8 99, .string ⟨#[35, 55, 55, 55, 55, 55, 55]⟩, .slice none 0 0, .int .i8 0, .int .i8 0, .string ⟨#[]⟩, .int .i8 0, .int .i64 0, .string ⟨#[]⟩, .slice none 0 0, .int .i8 0, .string ⟨#[]⟩, .int .i8 0, .int .i64 0, .string ⟨#[]⟩, .slice none 0 0] 93)).drew (Hp.out.below hW0 (Nat.le_refl _)))
  have HW0 := Lib.hid hW0
  have Hr := Lib.hid (show (w.alloc (.cells #[.int .i8 99, .string ⟨#[35, 55, 55, 55, 55, 55, 55]⟩, .slice none 0 0, .int .i8 0, .int .i8 0, .string ⟨#[]⟩, .int .i8 0, .int .i64 0, .string ⟨#[]⟩, .slice none 0 0, .int .i8 0, .string ⟨#[]⟩, .int .i8 0, .int .i64 0, .string ⟨#[]⟩, .slice none 0 0] 93)).drew.rangeAt w.heap.size 0 [.int .i8 99, .string ⟨#[35, 55, 55, 55, 55, 55, 55]⟩, .slice none 0 0, .int .i8 0, .int .i8 0, .string ⟨#[]⟩, .int .i8 0, .int .i64 0, .string ⟨#[]⟩, .slice none 0 0, .int .i8 0, .string ⟨#[]⟩, .int .i8 0, .int .i64 0, .string ⟨#[]⟩, .slice none 0 0] from new_range w [.int .i8 99, .string ⟨#[35, 55, 55, 55, 55, 55, 55]⟩, .slice none 0 0, .int .i8 0, .int .i8 0, .string ⟨#[]⟩, .int .i8 0, .int .i64 0, .string ⟨#[]⟩, .slice none 0 0, .int .i8 0, .string ⟨#[]⟩, .int .i8 0, .int .i64 0, .string ⟨#[]⟩, .slice none 0 0] 93)
  clear hW0
  go_enter Tryz.func228, Tryz.ntmps228
  go_upto_region 1 with fail
  go_region_held3 (fun W' : World => W'.cell? ⟨w.heap.size, 0, none⟩ = some (.int .i8 99) ∧ W'.cell? ⟨w.heap.size, 1, none⟩ = some (.string ⟨#[35, 55, 55, 55, 55, 55, 55]⟩) ∧ W'.cell? ⟨w.heap.size, 2, none⟩ = some (.slice none 0 0)) (first | exact hS0 | exact hS1) (first
    | (go_at_call 274; refine Hw.out.mono ?_; rintro e W1 ⟨rfl, hb1⟩
       have hB1 : Below w.heap.size w W1 := HW0.out.trans (hb1.mono (by simp))
       have hS1 : W1.cell? ⟨w.heap.size, 0, none⟩ = some (.int .i8 99) ∧ W1.cell? ⟨w.heap.size, 1, none⟩ = some (.string ⟨#[35, 55, 55, 55, 55, 55, 55]⟩) ∧ W1.cell? ⟨w.heap.size, 2, none⟩ = some (.slice none 0 0) := by have h := rangeAt_below Hr.out hb1 (by simp); exact ⟨h 0 _ rfl, h 1 _ rfl, h 2 _ rfl⟩))
  go_wp2
  go_returns
  exact ⟨rfl, hB1⟩

end Go.Proofs.YtgjdgincebchhaaGreatDoor

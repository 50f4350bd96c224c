/-
  Plans: how they lie in memory, copied, and still what they were.
-/
import Derived.Test.YtgjdgincebchhaaGreatDoorTree
import Derived.Test.YtgjdgincebchhaaGreatDoorWide
import Derived.Test.YtgjdgincebchhaaGreatDoorListLiteral
import Derived.Test.YtgjdgincebchhaaGreatDoorListStep
import Derived.Test.YtgjdgincebchhaaGreatDoorFlatArg
import Derived.Test.YtgjdgincebchhaaGreatDoorFlatText
import Derived.Test.YtgjdgincebchhaaGreatDoorFlatInt
namespace Go.Proofs.YtgjdgincebchhaaGreatDoor
open Go Go.RowKit

/-! ### a literal -/
structure Li where
  k : Int
  rl : Int
  p : ByteArray
  A : Option Addr
  cap : Nat
  args : List (List Value)
  l : Ex
  r : Ex
def Li.cells (x : Li) : List Value := [.int .i8 x.k, .string x.p, .slice x.A x.args.length x.cap, .int .i8 x.rl] ++ (x.l.cells ++ x.r.cells)
structure Li.lies (x : Li) (w : World) : Prop where
  rd : Rd w x.A x.args.flatten
  ok : ∀ a ∈ x.args, OkTerm a
  len : x.args.length * 48 ≤ 140737488351232
  l : x.l.lies w
  r : x.r.lies w
def Li.T (x : Li) : Tp := fun lo W r' => ∃ (g : Nat) (ys zs : List Value), r' = [.int .i8 x.k, .string x.p, .slice (some ⟨g, 0, none⟩) x.args.length (x.args.length + 1), .int .i8 x.rl] ++ (ys ++ zs) ∧ ys.length = 6 ∧ zs.length = 6 ∧
  FlatT x.args.flatten markTermL x.args.length lo W [.slice (some ⟨g, 0, none⟩) x.args.length (x.args.length + 1)] ∧ x.l.T lo W ys ∧ x.r.T lo W zs
theorem Li.ok_ (x : Li) : TpOk x.T where
  keep := fun ⟨g, ys, zs, h1, h2, h3, h4, h5, h6⟩ hk hs => ⟨g, ys, zs, h1, h2, h3, (FlatT.ok _ _ _).keep h4 hk hs, x.l.ok.keep h5 hk hs, x.r.ok.keep h6 hk hs⟩
  low := fun hl ⟨g, ys, zs, h1, h2, h3, h4, h5, h6⟩ => ⟨g, ys, zs, h1, h2, h3, (FlatT.ok _ _ _).low hl h4, x.l.ok.low hl h5, x.r.ok.low hl h6⟩
theorem Li.lies.below {x : Li} {w W : World} (h : x.lies w) (hb : Below w.heap.size w W) : x.lies W := ⟨h.rd.below hb (Nat.le_refl _), h.ok, h.len, Ex.lies_below hb h.l, Ex.lies_below hb h.r⟩
theorem Li.cells_length (x : Li) : x.cells.length = 16 := by simp [Li.cells, Ex.cells_length]

theorem Ex.one (e : Ex) : ∀ v ∈ e.cells, v.oneCell' = true := by
  cases e
  simp [Ex.cells, Value.oneCell']

/-- a copied atom. -/
theorem twinAtom_any (p : ByteArray) (A : Option Addr) (cap : Nat) (args : List (List Value)) (w : World) (hp : Pow w) (hr : Rd w A args.flatten) (hok : ∀ a ∈ args, OkTerm a) (hb : args.length * 48 ≤ 140737488351232) :
    Calls Tryz.prog 275 #[.agg #[.string p, .slice A args.length cap]] w fun e w' => ∃ g : Nat, e = .returned (.agg #[.string p, .slice (some ⟨g, 0, none⟩) args.length (args.length + 1)]) ∧
      FlatT args.flatten markTermL args.length w.heap.size w' [.slice (some ⟨g, 0, none⟩) args.length (args.length + 1)] ∧ Below w.heap.size w w' :=
  twinAtom_of p A args.length cap _ (FlatT.ok args.flatten markTermL args.length) w (fun W hW => by
    refine (twinTerms_any A cap args W (hp.below hW (Nat.le_refl _)) (hr.below hW (Nat.le_refl _)) hok hb).mono ?_
    rintro e W' ⟨g, rfl, h1, h2, h3, h4, h5⟩
    refine ⟨g, rfl, ⟨g, rfl, h1, h2, h3, ?_⟩, h5⟩
    rw [flat_length (c := 4) (fun r h => (hok r h).len)]
    have : args.length * 4 + markTermL.length = (args.length + 1) * 4 := by rw [Nat.add_mul]; rfl
    rw [this]
    exact h4)

theorem leftAtom_any (p : ByteArray) (g : Nat) (A : Option Addr) (cap lo : Nat) (args : List (List Value)) (w : World) (hp : Pow w) (hT : FlatT args.flatten markTermL args.length lo w [.slice (some ⟨g, 0, none⟩) args.length (args.length + 1)]) (hr : Rd w A args.flatten) (hok : ∀ a ∈ args, OkTerm a) (hb : args.length * 48 ≤ 140737488351232) :
    Calls Tryz.prog 278 #[.agg #[.string p, .slice (some ⟨g, 0, none⟩) args.length (args.length + 1)], .agg #[.string p, .slice A args.length cap]] w fun e w' => e = .returned (.bool true) ∧ Below w.heap.size w w' := by
  obtain ⟨g', h1, h2, h3, h4, _⟩ := hT
  simp only [List.cons.injEq, Value.slice.injEq, Option.some.injEq, Addr.mk.injEq, and_true] at h1
  subst h1
  exact leftAtom_of p _ _ w (fun W hW => leftTerms_any g A cap args W (hp.below hW (Nat.le_refl _)) (Nat.lt_of_lt_of_le h3 hW.size) (rangeAt_below h4 hW h3) (hr.below hW (Nat.le_refl _)) hok (by omega))

theorem six_of {e : Ex} {w : World} (h : Calls Tryz.prog 276 #[.agg e.cells.toArray] w fun x w' => ∃ r' : List Value, x = .returned (.agg r'.toArray) ∧ r'.length = 6 ∧ (∀ v ∈ r', v.oneCell' = true) ∧ e.T w.heap.size w' r' ∧ Below w.heap.size w w') :
    Calls Tryz.prog 276 #[.agg e.cells.toArray] w fun x w' => ∃ a b c d f g : Value, x = .returned (.agg #[a, b, c, d, f, g]) ∧ (∀ v ∈ [a, b, c, d, f, g], v.oneCell' = true) ∧ e.T w.heap.size w' [a, b, c, d, f, g] ∧ Below w.heap.size w w' := by
  refine h.mono ?_
  rintro x w1 ⟨r', rfl, h1, h2, h3, h4⟩
  obtain ⟨a, b, c, d, f, g, rfl⟩ := list6 h1
  exact ⟨a, b, c, d, f, g, rfl, h2, h3, h4⟩

theorem twinLiteral_any (x : Li) (w : World) (hp : Pow w) (hl : x.lies w) :
    Calls Tryz.prog 222 #[.agg x.cells.toArray] w fun e w' => ∃ r' : List Value, e = .returned (.agg r'.toArray) ∧ r'.length = 16 ∧ (∀ v ∈ r', v.oneCell' = true) ∧ x.T w.heap.size w' r' ∧ Below w.heap.size w w' := by
  obtain ⟨k, rl, p, A, cap, args, l, r⟩ := x
  obtain ⟨x1a, x1b, x1c, x1d, x1e, x1f, e1⟩ := list6 l.cells_length
  obtain ⟨x2a, x2b, x2c, x2d, x2e, x2f, e2⟩ := list6 r.cells_length
  have o1 := l.one
  have o2 := r.one
  have t1 := fun (W : World) (hW : Below w.heap.size w W) => six_of (twinExpr_any l W (hp.below hW (Nat.le_refl _)) (Ex.lies_below hW hl.l))
  have t2 := fun (W : World) (hW : Below w.heap.size w W) => six_of (twinExpr_any r W (hp.below hW (Nat.le_refl _)) (Ex.lies_below hW hl.r))
  rw [e1] at o1 t1
  rw [e2] at o2 t2
  unfold Li.cells
  simp only
  rw [e1, e2]
  simp only [List.cons_append, List.nil_append]
  refine (twinLiteral_of k rl p A args.length cap x1a x1b x1c x1d x1e x1f x2a x2b x2c x2d x2e x2f (FlatT args.flatten markTermL args.length) l.T r.T w o1 o2 (FlatT.ok _ _ _)
    (fun W hW => twinAtom_any p A cap args W (hp.below hW (Nat.le_refl _)) (hl.rd.below hW (Nat.le_refl _)) hl.ok hl.len) l.ok t1 r.ok t2).mono ?_
  rintro e w' ⟨g0, y1a, y1b, y1c, y1d, y1e, y1f, y2a, y2b, y2c, y2d, y2e, y2f, rfl, h0, h1, h2, h3, h4, hb⟩
  refine ⟨[.int .i8 k, .string p, .slice (some ⟨g0, 0, none⟩) args.length (args.length + 1), .int .i8 rl] ++ ([y1a, y1b, y1c, y1d, y1e, y1f] ++ [y2a, y2b, y2c, y2d, y2e, y2f]), rfl, rfl, ?_, ⟨g0, _, _, rfl, rfl, rfl, h0, h2, h4⟩, hb⟩
  intro v hv
  simp only [List.mem_append] at hv
  rcases hv with hv | hv | hv
  · simp only [List.mem_cons, List.not_mem_nil, or_false] at hv
    rcases hv with rfl | rfl | rfl | rfl <;> rfl
  · exact h1 v hv
  · exact h3 v hv

theorem leftLiteral_any (x : Li) (r' : List Value) (lo : Nat) (w : World) (hp : Pow w) (hT : x.T lo w r') (hl : x.lies w) :
    Calls Tryz.prog 227 #[.agg r'.toArray, .agg x.cells.toArray] w fun e w' => e = .returned (.bool true) ∧ Below w.heap.size w w' := by
  obtain ⟨k, rl, p, A, cap, args, l, r⟩ := x
  obtain ⟨g, ys, zs, rfl, hy, hz, h4, h5, h6⟩ := hT
  obtain ⟨x1a, x1b, x1c, x1d, x1e, x1f, e1⟩ := list6 l.cells_length
  obtain ⟨x2a, x2b, x2c, x2d, x2e, x2f, e2⟩ := list6 r.cells_length
  obtain ⟨y1a, y1b, y1c, y1d, y1e, y1f, rfl⟩ := list6 hy
  obtain ⟨y2a, y2b, y2c, y2d, y2e, y2f, rfl⟩ := list6 hz
  have t1 := fun (W : World) (hW : Below w.heap.size w W) => leftExpr_any l _ lo W (hp.below hW (Nat.le_refl _)) (l.ok.below h5 hW) (Ex.lies_below hW hl.l)
  have t2 := fun (W : World) (hW : Below w.heap.size w W) => leftExpr_any r _ lo W (hp.below hW (Nat.le_refl _)) (r.ok.below h6 hW) (Ex.lies_below hW hl.r)
  rw [e1] at t1
  rw [e2] at t2
  unfold Li.cells
  simp only
  rw [e1, e2]
  simp only [List.cons_append, List.nil_append]
  exact leftLiteral_of (k := k) (rl := rl) (p := p) (w := w) (hc0 := fun W hW => leftAtom_any p g A cap lo args W (hp.below hW (Nat.le_refl _)) ((FlatT.ok _ _ _).below h4 hW) (hl.rd.below hW (Nat.le_refl _)) hl.ok hl.len) (hc1 := t1) (hc2 := t2)

end Go.Proofs.YtgjdgincebchhaaGreatDoor

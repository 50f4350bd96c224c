/-
  Plans: lists of literals and of steps, rules, plans: copied, and still what they were.
-/
import Derived.Test.YtgjdgincebchhaaGreatDoorPlan
namespace Go.Proofs.YtgjdgincebchhaaGreatDoor
open Go Go.RowKit

/-- what is known of a copied list of records. -/
def RecT {α : Type} (T : α → Tp) (c : Nat) (mark : List Value) (xs : List α) : Tp := fun lo W r => ∃ (g : Nat) (rs : List (List Value)), r = [.slice (some ⟨g, 0, none⟩) xs.length (xs.length + 1)] ∧ lo ≤ g ∧ g < W.heap.size ∧ rs.length = xs.length ∧ (∀ r ∈ rs, r.length = c) ∧
  W.rangeAt g 0 (rs.flatten ++ mark) ∧ ∀ (i : Nat) (x : α) (r : List Value), xs[i]? = some x → rs[i]? = some r → T x lo W r
theorem RecT.ok {α : Type} {T : α → Tp} (hT : ∀ x, TpOk (T x)) (c : Nat) (mark : List Value) (xs : List α) : TpOk (RecT T c mark xs) where
  keep := fun ⟨g, rs, h1, h2, h3, h4, h5, h6, h7⟩ hk hs => ⟨g, rs, h1, h2, Nat.lt_of_lt_of_le h3 hs, h4, h5, rangeAt_same h6 (hk g h2 h3), fun i x r hx hr => (hT x).keep (h7 i x r hx hr) hk hs⟩
  low := fun hl ⟨g, rs, h1, h2, h3, h4, h5, h6, h7⟩ => ⟨g, rs, h1, Nat.le_trans hl h2, h3, h4, h5, h6, fun i x r hx hr => (hT x).low hl (h7 i x r hx hr)⟩
def recTf {α : Type} (T : α → Tp) (xs : List α) (i : Nat) : Tp := match xs[i]? with
  | some x => T x
  | none => fun _ _ _ => True
theorem recTf_ok {α : Type} {T : α → Tp} (hT : ∀ x, TpOk (T x)) (xs : List α) (i : Nat) : TpOk (recTf T xs i) := by
  unfold recTf
  cases xs[i]? with
  | some x => exact hT x
  | none => exact ⟨fun _ _ _ => trivial, fun _ _ => trivial⟩
theorem map_at {α : Type} {f : α → List Value} {xs : List α} {i : Nat} {r : List Value} (h : (xs.map f)[i]? = some r) : ∃ x, xs[i]? = some x ∧ r = f x := by
  rw [List.getElem?_map, Option.map_eq_some_iff] at h
  obtain ⟨x, h1, h2⟩ := h
  exact ⟨x, h1, h2.symm⟩

/-! ### literals -/
theorem twinLiterals_any (xs : List Li) (A : Option Addr) (cap : Nat) (w : World) (hp : Pow w) (hr : Rd w A (xs.map Li.cells).flatten) (hb : xs.length * 216 ≤ 140737488351232) (hl : ∀ x ∈ xs, x.lies w) :
    Calls Tryz.prog 148 #[.slice A xs.length cap] w fun e w' => ∃ g : Nat, e = .returned (.slice (some ⟨g, 0, none⟩) xs.length (xs.length + 1)) ∧ RecT Li.T 16 markLiteralL xs w.heap.size w' [.slice (some ⟨g, 0, none⟩) xs.length (xs.length + 1)] ∧ Below w.heap.size w w' := by
  have h := twinLiterals_of A cap (xs.map Li.cells) (recTf Li.T xs) w hp hr (fun r hr => by obtain ⟨x, _, rfl⟩ := List.mem_map.1 hr; exact x.cells_length) (by rw [List.length_map]; exact hb) (recTf_ok Li.ok_ xs) (fun i r W hi hW => by
    obtain ⟨x, hx, rfl⟩ := map_at hi
    have hT : recTf Li.T xs i = x.T := by unfold recTf; rw [hx]
    rw [hT]
    exact twinLiteral_any x W (hp.below hW (Nat.le_refl _)) ((hl x (List.mem_of_getElem? hx)).below hW))
  rw [List.length_map] at h
  refine h.mono ?_
  rintro e w' ⟨g, rs, rfl, h1, h2, h3, h4, h5, h6, h7⟩
  refine ⟨g, rfl, ⟨g, rs, rfl, h1, h2, h3, h4, h5, fun i x r hx hr' => ?_⟩, h7⟩
  have := h6 i r hr'
  unfold recTf at this
  rw [hx] at this
  exact this

theorem leftLiterals_any (xs : List Li) (g : Nat) (A : Option Addr) (cap lo : Nat) (w : World) (hp : Pow w) (hT : RecT Li.T 16 markLiteralL xs lo w [.slice (some ⟨g, 0, none⟩) xs.length (xs.length + 1)]) (hr : Rd w A (xs.map Li.cells).flatten) (hb : xs.length * 216 ≤ 140737488351232) (hl : ∀ x ∈ xs, x.lies w) :
    Calls Tryz.prog 152 #[.slice (some ⟨g, 0, none⟩) xs.length (xs.length + 1), .slice A xs.length cap] w fun e w' => e = .returned (.bool true) ∧ Below w.heap.size w w' := by
  obtain ⟨g', rs, h1, h2, h3, h4, h5, h6, h7⟩ := hT
  simp only [List.cons.injEq, Value.slice.injEq, Option.some.injEq, Addr.mk.injEq, and_true] at h1
  subst h1
  have h := leftLiterals_of g A cap (xs.map Li.cells) rs w hp h3 (by rw [List.length_map]; exact h4) h6 hr (fun r hr => by obtain ⟨x, _, rfl⟩ := List.mem_map.1 hr; exact x.cells_length) h5 (by rw [List.length_map]; exact hb) (fun i r r' W hi hi' hW => by
    obtain ⟨x, hx, rfl⟩ := map_at hi
    exact leftLiteral_any x r' lo W (hp.below hW (Nat.le_refl _)) (x.ok_.below (h7 i x r' hx hi') hW) ((hl x (List.mem_of_getElem? hx)).below hW))
  rw [List.length_map] at h
  exact h

/-! ### steps -/
structure Sp where
  k : Int
  l : Int
  m : Int
  A : Option Addr
  cap : Nat
  gives : List ByteArray
def Sp.cells (x : Sp) : List Value := [.int .i8 x.k, .int .i64 x.l, .int .u32 x.m, .slice x.A x.gives.length x.cap]
structure Sp.lies (x : Sp) (w : World) : Prop where
  rd : Rd w x.A (x.gives.map Value.string)
  len : x.gives.length * 16 ≤ 140737488351232
def Sp.T (x : Sp) : Tp := fun lo W r' => ∃ g : Nat, r' = [.int .i8 x.k, .int .i64 x.l, .int .u32 x.m, .slice (some ⟨g, 0, none⟩) x.gives.length (x.gives.length + 1)] ∧
  FlatT (x.gives.map Value.string) markTextL x.gives.length lo W [.slice (some ⟨g, 0, none⟩) x.gives.length (x.gives.length + 1)]
theorem Sp.ok_ (x : Sp) : TpOk x.T where
  keep := fun ⟨g, h1, h2⟩ hk hs => ⟨g, h1, (FlatT.ok _ _ _).keep h2 hk hs⟩
  low := fun hl ⟨g, h1, h2⟩ => ⟨g, h1, (FlatT.ok _ _ _).low hl h2⟩
theorem Sp.lies.below {x : Sp} {w W : World} (h : x.lies w) (hb : Below w.heap.size w W) : x.lies W := ⟨h.rd.below hb (Nat.le_refl _), h.len⟩
theorem Sp.cells_length (x : Sp) : x.cells.length = 4 := rfl

theorem twinStep_any (x : Sp) (w : World) (hp : Pow w) (hl : x.lies w) :
    Calls Tryz.prog 149 #[.agg x.cells.toArray] w fun e w' => ∃ r' : List Value, e = .returned (.agg r'.toArray) ∧ r'.length = 4 ∧ (∀ v ∈ r', v.oneCell' = true) ∧ x.T w.heap.size w' r' ∧ Below w.heap.size w w' := by
  obtain ⟨k, l, m, A, cap, gives⟩ := x
  refine (twinStep_of k l m A gives.length cap _ (FlatT.ok (gives.map Value.string) markTextL gives.length) w (fun W hW => ?_)).mono ?_
  · refine (twinTexts_any A cap gives W (hp.below hW (Nat.le_refl _)) (hl.rd.below hW (Nat.le_refl _)) hl.len).mono ?_
    rintro e W' ⟨g, rfl, h1, h2, h3, h4, h5⟩
    refine ⟨g, rfl, ⟨g, rfl, h1, h2, h3, ?_⟩, h5⟩
    rw [List.length_map]
    exact h4
  · rintro e w' ⟨g, rfl, h1, h2⟩
    exact ⟨[.int .i8 k, .int .i64 l, .int .u32 m, .slice (some ⟨g, 0, none⟩) gives.length (gives.length + 1)], rfl, rfl, by simp [Value.oneCell'], ⟨g, rfl, h1⟩, h2⟩

theorem leftStep_any (x : Sp) (r' : List Value) (lo : Nat) (w : World) (hp : Pow w) (hT : x.T lo w r') (hl : x.lies w) :
    Calls Tryz.prog 153 #[.agg r'.toArray, .agg x.cells.toArray] w fun e w' => e = .returned (.bool true) ∧ Below w.heap.size w w' := by
  obtain ⟨k, l, m, A, cap, gives⟩ := x
  obtain ⟨g, rfl, g', h1, h2, h3, h4, _⟩ := hT
  simp only [List.cons.injEq, Value.slice.injEq, Option.some.injEq, Addr.mk.injEq, and_true] at h1
  subst h1
  exact leftStep_of k l m _ _ w (fun W hW => leftTexts_any g A cap gives W (hp.below hW (Nat.le_refl _)) (Nat.lt_of_lt_of_le h3 hW.size) (rangeAt_below h4 hW h3) (hl.rd.below hW (Nat.le_refl _)) (by have := hl.len; simp only at this; omega))

theorem twinSteps_any (xs : List Sp) (A : Option Addr) (cap : Nat) (w : World) (hp : Pow w) (hr : Rd w A (xs.map Sp.cells).flatten) (hb : xs.length * 48 ≤ 140737488351232) (hl : ∀ x ∈ xs, x.lies w) :
    Calls Tryz.prog 93 #[.slice A xs.length cap] w fun e w' => ∃ g : Nat, e = .returned (.slice (some ⟨g, 0, none⟩) xs.length (xs.length + 1)) ∧ RecT Sp.T 4 markStepL xs w.heap.size w' [.slice (some ⟨g, 0, none⟩) xs.length (xs.length + 1)] ∧ Below w.heap.size w w' := by
  have h := twinSteps_of A cap (xs.map Sp.cells) (recTf Sp.T xs) w hr (fun r hr => by obtain ⟨x, _, rfl⟩ := List.mem_map.1 hr; exact x.cells_length) (by rw [List.length_map]; exact hb) (recTf_ok Sp.ok_ xs) (fun i r W hi hW => by
    obtain ⟨x, hx, rfl⟩ := map_at hi
    have hT : recTf Sp.T xs i = x.T := by unfold recTf; rw [hx]
    rw [hT]
    exact twinStep_any x W (hp.below hW (Nat.le_refl _)) ((hl x (List.mem_of_getElem? hx)).below hW))
  rw [List.length_map] at h
  refine h.mono ?_
  rintro e w' ⟨g, rs, rfl, h1, h2, h3, h4, h5, h6, h7⟩
  refine ⟨g, rfl, ⟨g, rs, rfl, h1, h2, h3, h4, h5, fun i x r hx hr' => ?_⟩, h7⟩
  have := h6 i r hr'
  unfold recTf at this
  rw [hx] at this
  exact this

theorem leftSteps_any (xs : List Sp) (g : Nat) (A : Option Addr) (cap lo : Nat) (w : World) (hp : Pow w) (hT : RecT Sp.T 4 markStepL xs lo w [.slice (some ⟨g, 0, none⟩) xs.length (xs.length + 1)]) (hr : Rd w A (xs.map Sp.cells).flatten) (hb : xs.length * 48 ≤ 140737488351232) (hl : ∀ x ∈ xs, x.lies w) :
    Calls Tryz.prog 96 #[.slice (some ⟨g, 0, none⟩) xs.length (xs.length + 1), .slice A xs.length cap] w fun e w' => e = .returned (.bool true) ∧ Below w.heap.size w w' := by
  obtain ⟨g', rs, h1, h2, h3, h4, h5, h6, h7⟩ := hT
  simp only [List.cons.injEq, Value.slice.injEq, Option.some.injEq, Addr.mk.injEq, and_true] at h1
  subst h1
  have h := leftSteps_of g A cap (xs.map Sp.cells) rs w h3 (by rw [List.length_map]; exact h4) h6 hr (fun r hr => by obtain ⟨x, _, rfl⟩ := List.mem_map.1 hr; exact x.cells_length) h5 (by rw [List.length_map]; exact hb) (fun i r r' W hi hi' hW => by
    obtain ⟨x, hx, rfl⟩ := map_at hi
    exact leftStep_any x r' lo W (hp.below hW (Nat.le_refl _)) (x.ok_.below (h7 i x r' hx hi') hW) ((hl x (List.mem_of_getElem? hx)).below hW))
  rw [List.length_map] at h
  exact h

/-! ### rules and plans -/
structure Ru where
  p : ByteArray
  A : Option Addr
  cap : Nat
  head : List (List Value)
  B : Option Addr
  capB : Nat
  body : List Li
structure Ru.lies (x : Ru) (w : World) : Prop where
  rdA : Rd w x.A x.head.flatten
  ok : ∀ a ∈ x.head, OkArg a
  lenA : x.head.length * 56 ≤ 140737488351232
  rdB : Rd w x.B (x.body.map Li.cells).flatten
  lenB : x.body.length * 216 ≤ 140737488351232
  body : ∀ y ∈ x.body, y.lies w
def Ru.cells (x : Ru) : List Value := [.string x.p, .slice x.A x.head.length x.cap, .slice x.B x.body.length x.capB]
def Ru.T (x : Ru) : Tp := fun lo W r => ∃ g0 g1 : Nat, r = [.string x.p, .slice (some ⟨g0, 0, none⟩) x.head.length (x.head.length + 1), .slice (some ⟨g1, 0, none⟩) x.body.length (x.body.length + 1)] ∧
  FlatT x.head.flatten markArgL x.head.length lo W [.slice (some ⟨g0, 0, none⟩) x.head.length (x.head.length + 1)] ∧ RecT Li.T 16 markLiteralL x.body lo W [.slice (some ⟨g1, 0, none⟩) x.body.length (x.body.length + 1)]
theorem Ru.ok_ (x : Ru) : TpOk x.T where
  keep := fun ⟨g0, g1, h1, h2, h3⟩ hk hs => ⟨g0, g1, h1, (FlatT.ok _ _ _).keep h2 hk hs, (RecT.ok Li.ok_ _ _ _).keep h3 hk hs⟩
  low := fun hl ⟨g0, g1, h1, h2, h3⟩ => ⟨g0, g1, h1, (FlatT.ok _ _ _).low hl h2, (RecT.ok Li.ok_ _ _ _).low hl h3⟩
theorem Ru.lies.below {x : Ru} {w W : World} (h : x.lies w) (hb : Below w.heap.size w W) : x.lies W := ⟨h.rdA.below hb (Nat.le_refl _), h.ok, h.lenA, h.rdB.below hb (Nat.le_refl _), h.lenB, fun y hy => (h.body y hy).below hb⟩

theorem twinRule_any (x : Ru) (w : World) (hp : Pow w) (hl : x.lies w) :
    Calls Tryz.prog 92 #[.agg x.cells.toArray] w fun e w' => ∃ a b c : Value, e = .returned (.agg #[a, b, c]) ∧ (∀ v ∈ [a, b, c], v.oneCell' = true) ∧ x.T w.heap.size w' [a, b, c] ∧ Below w.heap.size w w' := by
  obtain ⟨p, A, cap, head, B, capB, body⟩ := x
  refine (twinRule_of (p := p) (A0 := A) (n0 := head.length) (cap0 := cap) (A1 := B) (n1 := body.length) (cap1 := capB) (Tq0 := FlatT head.flatten markArgL head.length) (Tq1 := RecT Li.T 16 markLiteralL body) (w := w) (hT0 := FlatT.ok _ _ _) (hc0 := fun W hW => ?_) (hT1 := RecT.ok Li.ok_ _ _ _)
    (hc1 := fun W hW => twinLiterals_any body B capB W (hp.below hW (Nat.le_refl _)) (hl.rdB.below hW (Nat.le_refl _)) hl.lenB (fun y hy => (hl.body y hy).below hW))).mono ?_
  · refine (twinArgs_any A cap head W (hp.below hW (Nat.le_refl _)) (hl.rdA.below hW (Nat.le_refl _)) hl.ok hl.lenA).mono ?_
    rintro e W' ⟨g, rfl, h1, h2, h3, h4, h5⟩
    refine ⟨g, rfl, ⟨g, rfl, h1, h2, h3, ?_⟩, h5⟩
    rw [flat_length (c := 5) (fun r h => (hl.ok r h).len)]
    have : head.length * 5 + markArgL.length = (head.length + 1) * 5 := by rw [Nat.add_mul]; rfl
    rw [this]
    exact h4
  · rintro e w' ⟨g0, g1, rfl, h0, h1, hb⟩
    exact ⟨_, _, _, rfl, by simp [Value.oneCell'], ⟨g0, g1, rfl, h0, h1⟩, hb⟩

theorem leftRule_any (x : Ru) (r : List Value) (lo : Nat) (w : World) (hp : Pow w) (hT : x.T lo w r) (hl : x.lies w) :
    Calls Tryz.prog 95 #[.agg r.toArray, .agg x.cells.toArray] w fun e w' => e = .returned (.bool true) ∧ Below w.heap.size w w' := by
  obtain ⟨p, A, cap, head, B, capB, body⟩ := x
  obtain ⟨g0, g1, rfl, h0, h1⟩ := hT
  refine leftRule_of (p := p) (w := w) (hc0 := fun W hW => ?_) (hc1 := fun W hW => leftLiterals_any body g1 B capB lo W (hp.below hW (Nat.le_refl _)) ((RecT.ok Li.ok_ _ _ _).below h1 hW) (hl.rdB.below hW (Nat.le_refl _)) hl.lenB (fun y hy => (hl.body y hy).below hW))
  obtain ⟨g', k1, k2, k3, k4, _⟩ := h0
  simp only [List.cons.injEq, Value.slice.injEq, Option.some.injEq, Addr.mk.injEq, and_true] at k1
  subst k1
  exact leftArgs_any g0 A cap head W (hp.below hW (Nat.le_refl _)) (Nat.lt_of_lt_of_le k3 hW.size) (rangeAt_below k4 hW k3) (hl.rdA.below hW (Nat.le_refl _)) hl.ok (by have := hl.lenA; simp only at this; omega)

structure Pl where
  rule : Ru
  A : Option Addr
  cap : Nat
  steps : List Sp
structure Pl.lies (x : Pl) (w : World) : Prop where
  rule : x.rule.lies w
  rd : Rd w x.A (x.steps.map Sp.cells).flatten
  len : x.steps.length * 48 ≤ 140737488351232
  steps : ∀ y ∈ x.steps, y.lies w
def Pl.cells (x : Pl) : List Value := x.rule.cells ++ [.slice x.A x.steps.length x.cap]
def Pl.T (x : Pl) : Tp := fun lo W r => ∃ (a b c : Value) (g1 : Nat), r = [a, b, c, .slice (some ⟨g1, 0, none⟩) x.steps.length (x.steps.length + 1)] ∧ x.rule.T lo W [a, b, c] ∧ RecT Sp.T 4 markStepL x.steps lo W [.slice (some ⟨g1, 0, none⟩) x.steps.length (x.steps.length + 1)]
theorem Pl.ok_ (x : Pl) : TpOk x.T where
  keep := fun ⟨a, b, c, g1, h1, h2, h3⟩ hk hs => ⟨a, b, c, g1, h1, x.rule.ok_.keep h2 hk hs, (RecT.ok Sp.ok_ _ _ _).keep h3 hk hs⟩
  low := fun hl ⟨a, b, c, g1, h1, h2, h3⟩ => ⟨a, b, c, g1, h1, x.rule.ok_.low hl h2, (RecT.ok Sp.ok_ _ _ _).low hl h3⟩
theorem Pl.lies.below {x : Pl} {w W : World} (h : x.lies w) (hb : Below w.heap.size w W) : x.lies W := ⟨h.rule.below hb, h.rd.below hb (Nat.le_refl _), h.len, fun y hy => (h.steps y hy).below hb⟩

theorem twinPlan_any (x : Pl) (w : World) (hp : Pow w) (hl : x.lies w) :
    Calls Tryz.prog 45 #[.agg x.cells.toArray] w fun e w' => ∃ r' : List Value, e = .returned (.agg r'.toArray) ∧ x.T w.heap.size w' r' ∧ Below w.heap.size w w' := by
  obtain ⟨⟨p, A0, cap0, head, B, capB, body⟩, A, cap, steps⟩ := x
  refine (twinPlan_of (x0a := .string p) (x0b := .slice A0 head.length cap0) (x0c := .slice B body.length capB) (A1 := A) (n1 := steps.length) (cap1 := cap) (Tq0 := Ru.T ⟨p, A0, cap0, head, B, capB, body⟩) (Tq1 := RecT Sp.T 4 markStepL steps) (w := w) (_ho0 := by simp [Value.oneCell']) (hT0 := Ru.ok_ _)
    (hc0 := fun W hW => twinRule_any ⟨p, A0, cap0, head, B, capB, body⟩ W (hp.below hW (Nat.le_refl _)) (hl.rule.below hW)) (hT1 := RecT.ok Sp.ok_ _ _ _) (hc1 := fun W hW => twinSteps_any steps A cap W (hp.below hW (Nat.le_refl _)) (hl.rd.below hW (Nat.le_refl _)) hl.len (fun y hy => (hl.steps y hy).below hW))).mono ?_
  rintro e w' ⟨a, b, c, g1, rfl, _, h0, h1, hb⟩
  exact ⟨[a, b, c, .slice (some ⟨g1, 0, none⟩) steps.length (steps.length + 1)], rfl, ⟨a, b, c, g1, rfl, h0, h1⟩, hb⟩

theorem leftPlan_any (x : Pl) (r : List Value) (lo : Nat) (w : World) (hp : Pow w) (hT : x.T lo w r) (hl : x.lies w) :
    Calls Tryz.prog 47 #[.agg r.toArray, .agg x.cells.toArray] w fun e w' => e = .returned (.bool true) ∧ Below w.heap.size w w' := by
  obtain ⟨⟨p, A0, cap0, head, B, capB, body⟩, A, cap, steps⟩ := x
  obtain ⟨a, b, c, g1, rfl, h0, h1⟩ := hT
  exact leftPlan_of (w := w) (hc0 := fun W hW => leftRule_any ⟨p, A0, cap0, head, B, capB, body⟩ [a, b, c] lo W (hp.below hW (Nat.le_refl _)) ((Ru.ok_ _).below h0 hW) (hl.rule.below hW))
    (hc1 := fun W hW => leftSteps_any steps g1 A cap lo W (hp.below hW (Nat.le_refl _)) ((RecT.ok Sp.ok_ _ _ _).below h1 hW) (hl.rd.below hW (Nat.le_refl _)) hl.len (fun y hy => (hl.steps y hy).below hW))

end Go.Proofs.YtgjdgincebchhaaGreatDoor

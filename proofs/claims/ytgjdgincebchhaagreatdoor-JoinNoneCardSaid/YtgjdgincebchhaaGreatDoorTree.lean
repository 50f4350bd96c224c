/-
  Expressions as trees: how they lie in memory, copied, and still what they were.
-/
import Derived.Test.YtgjdgincebchhaaGreatDoorRecs
import Derived.Test.YtgjdgincebchhaaGreatDoorListExpr
namespace Go.Proofs.YtgjdgincebchhaaGreatDoor
open Go Go.RowKit

/-- a copied list of plain things, a mark behind it. -/
def FlatT (xs mark : List Value) (n : Nat) : Tp := fun lo W r => ∃ g : Nat, r = [.slice (some ⟨g, 0, none⟩) n (n + 1)] ∧ lo ≤ g ∧ g < W.heap.size ∧ W.rangeAt g 0 (xs ++ mark) ∧ W.there g 0 (xs.length + mark.length)
theorem rangeAt_same {w w' : World} {b o : Nat} {cs : List Value} (h : w.rangeAt b o cs) (hb : w'.heap[b]? = w.heap[b]?) : w'.rangeAt b o cs := fun j v hj => by
  rw [World.cell?_of_block (w := w) hb]
  exact h j v hj
theorem there_same {w w' : World} {b o n : Nat} (h : w.there b o n) (hb : w'.heap[b]? = w.heap[b]?) : w'.there b o n := fun j hj => by
  rw [World.cell?_of_block (w := w) hb, World.frozen?_of_block (w := w) hb]
  exact h j hj
theorem FlatT.ok (xs mark : List Value) (n : Nat) : TpOk (FlatT xs mark n) where
  keep := fun ⟨g, h1, h2, h3, h4, h5⟩ hk hs => ⟨g, h1, h2, Nat.lt_of_lt_of_le h3 hs, rangeAt_same h4 (hk g h2 h3), there_same h5 (hk g h2 h3)⟩
  low := fun hl ⟨g, h1, h2, h3, h4, h5⟩ => ⟨g, h1, Nat.le_trans hl h2, h3, h4, h5⟩

/-- an expression; where its kids lie. -/
inductive Ex where
  | mk (q : Int) (v : ByteArray) (k m : Int) (s : ByteArray) (A : Option Addr) (cap : Nat) (kids : List Ex)

def Ex.cells : Ex → List Value
  | .mk q v k m s A cap kids => [.int .i8 q, .string v, .int .i8 k, .int .i64 m, .string s, .slice A kids.length cap]
def exCells (es : List Ex) : List (List Value) := es.map Ex.cells

mutual
def Ex.lies (w : World) : Ex → Prop
  | .mk _ _ _ _ _ A _ kids => Rd w A (exCells kids).flatten ∧ kids.length * 80 ≤ 140737488351232 ∧ Ex.liesL w kids
def Ex.liesL (w : World) : List Ex → Prop
  | [] => True
  | e :: es => e.lies w ∧ Ex.liesL w es
end
mutual
def Ex.T : Ex → Nat → World → List Value → Prop
  | .mk q v k m s _ _ kids, lo, W, r => ∃ (g : Nat) (rs : List (List Value)), r = [.int .i8 q, .string v, .int .i8 k, .int .i64 m, .string s, .slice (some ⟨g, 0, none⟩) kids.length (kids.length + 1)] ∧ lo ≤ g ∧ g < W.heap.size ∧
      rs.length = kids.length ∧ (∀ r ∈ rs, r.length = 6) ∧ W.rangeAt g 0 (rs.flatten ++ markExprL) ∧ Ex.TL kids lo W rs
def Ex.TL : List Ex → Nat → World → List (List Value) → Prop
  | [], _, _, [] => True
  | e :: es, lo, W, r :: rs => e.T lo W r ∧ Ex.TL es lo W rs
  | _, _, _, _ => False
end

theorem Ex.cells_length (e : Ex) : e.cells.length = 6 := by cases e; rfl
theorem exCells_length (es : List Ex) : (exCells es).length = es.length := List.length_map _
theorem exCells_len (es : List Ex) : ∀ r ∈ exCells es, r.length = 6 := fun r hr => by
  obtain ⟨e, _, rfl⟩ := List.mem_map.1 hr
  exact e.cells_length
theorem exCells_at {es : List Ex} {i : Nat} {r : List Value} (h : (exCells es)[i]? = some r) : ∃ e, es[i]? = some e ∧ r = e.cells := by
  unfold exCells at h
  rw [List.getElem?_map, Option.map_eq_some_iff] at h
  obtain ⟨e, h1, h2⟩ := h
  exact ⟨e, h1, h2.symm⟩

mutual
theorem Ex.lies_below {w W : World} (hb : Below w.heap.size w W) : ∀ {e : Ex}, e.lies w → e.lies W
  | .mk _ _ _ _ _ _ _ kids, h => by
    unfold Ex.lies at h ⊢
    exact ⟨h.1.below hb (Nat.le_refl _), h.2.1, Ex.liesL_below hb h.2.2⟩
theorem Ex.liesL_below {w W : World} (hb : Below w.heap.size w W) : ∀ {es : List Ex}, Ex.liesL w es → Ex.liesL W es
  | [], _ => trivial
  | e :: es, h => by
    unfold Ex.liesL at h ⊢
    exact ⟨Ex.lies_below hb h.1, Ex.liesL_below hb h.2⟩
end
theorem Ex.liesL_at {w : World} : ∀ {es : List Ex} {i : Nat} {e : Ex}, Ex.liesL w es → es[i]? = some e → e.lies w
  | [], i, e, _, h => by simp at h
  | x :: es, 0, e, hl, h => by
    simp at h
    subst h
    unfold Ex.liesL at hl
    exact hl.1
  | x :: es, i + 1, e, hl, h => by
    unfold Ex.liesL at hl
    exact Ex.liesL_at hl.2 (by simpa using h)

mutual
theorem Ex.T_keep {lo : Nat} {W W' : World} (hk : ∀ k, lo ≤ k → k < W.heap.size → W'.heap[k]? = W.heap[k]?) (hs : W.heap.size ≤ W'.heap.size) : ∀ {e : Ex} {r : List Value}, e.T lo W r → e.T lo W' r
  | .mk _ _ _ _ _ _ _ kids, r, h => by
    unfold Ex.T at h ⊢
    obtain ⟨g, rs, h1, h2, h3, h4, h5, h6, h7⟩ := h
    exact ⟨g, rs, h1, h2, Nat.lt_of_lt_of_le h3 hs, h4, h5, rangeAt_same h6 (hk g h2 h3), Ex.TL_keep hk hs h7⟩
theorem Ex.TL_keep {lo : Nat} {W W' : World} (hk : ∀ k, lo ≤ k → k < W.heap.size → W'.heap[k]? = W.heap[k]?) (hs : W.heap.size ≤ W'.heap.size) : ∀ {es : List Ex} {rs : List (List Value)}, Ex.TL es lo W rs → Ex.TL es lo W' rs
  | [], [], _ => by unfold Ex.TL; trivial
  | e :: es, r :: rs, h => by
    unfold Ex.TL at h ⊢
    exact ⟨Ex.T_keep hk hs h.1, Ex.TL_keep hk hs h.2⟩
  | [], _ :: _, h => by unfold Ex.TL at h; exact h.elim
  | _ :: _, [], h => by unfold Ex.TL at h; exact h.elim
end
mutual
theorem Ex.T_low {lo lo' : Nat} {W : World} (hl : lo' ≤ lo) : ∀ {e : Ex} {r : List Value}, e.T lo W r → e.T lo' W r
  | .mk _ _ _ _ _ _ _ kids, r, h => by
    unfold Ex.T at h ⊢
    obtain ⟨g, rs, h1, h2, h3, h4, h5, h6, h7⟩ := h
    exact ⟨g, rs, h1, Nat.le_trans hl h2, h3, h4, h5, h6, Ex.TL_low hl h7⟩
theorem Ex.TL_low {lo lo' : Nat} {W : World} (hl : lo' ≤ lo) : ∀ {es : List Ex} {rs : List (List Value)}, Ex.TL es lo W rs → Ex.TL es lo' W rs
  | [], [], _ => by unfold Ex.TL; trivial
  | e :: es, r :: rs, h => by
    unfold Ex.TL at h ⊢
    exact ⟨Ex.T_low hl h.1, Ex.TL_low hl h.2⟩
  | [], _ :: _, h => by unfold Ex.TL at h; exact h.elim
  | _ :: _, [], h => by unfold Ex.TL at h; exact h.elim
end
theorem Ex.ok (e : Ex) : TpOk e.T := ⟨fun h hk hs => Ex.T_keep hk hs h, fun hl h => Ex.T_low hl h⟩

theorem Ex.TL_of : ∀ {es : List Ex} {lo : Nat} {W : World} {rs : List (List Value)}, rs.length = es.length → (∀ (i : Nat) (e : Ex) (r : List Value), es[i]? = some e → rs[i]? = some r → e.T lo W r) → Ex.TL es lo W rs
  | [], _, _, [], _, _ => by unfold Ex.TL; trivial
  | e :: es, _, _, r :: rs, hl, h => by
    unfold Ex.TL
    exact ⟨h 0 e r rfl rfl, Ex.TL_of (by simpa using hl) (fun i e r h1 h2 => h (i + 1) e r (by simpa using h1) (by simpa using h2))⟩
  | [], _, _, _ :: _, hl, _ => by simp at hl
  | _ :: _, _, _, [], hl, _ => by simp at hl
theorem Ex.TL_at : ∀ {es : List Ex} {lo : Nat} {W : World} {rs : List (List Value)} {i : Nat} {e : Ex} {r : List Value}, Ex.TL es lo W rs → es[i]? = some e → rs[i]? = some r → e.T lo W r
  | [], _, _, _, _, _, _, _, h, _ => by simp at h
  | _ :: _, _, _, [], _, _, _, _, _, h => by simp at h
  | e :: es, _, _, r :: rs, 0, e', r', ht, h1, h2 => by
    simp at h1 h2
    subst h1
    subst h2
    unfold Ex.TL at ht
    exact ht.1
  | e :: es, _, _, r :: rs, i + 1, e', r', ht, h1, h2 => by
    unfold Ex.TL at ht
    exact Ex.TL_at ht.2 (by simpa using h1) (by simpa using h2)

/-- what is known of a copied list of kids. -/
def KidsT (kids : List Ex) : Tp := fun lo W r => ∃ (g : Nat) (rs : List (List Value)), r = [.slice (some ⟨g, 0, none⟩) kids.length (kids.length + 1)] ∧ lo ≤ g ∧ g < W.heap.size ∧ rs.length = kids.length ∧ (∀ r ∈ rs, r.length = 6) ∧ W.rangeAt g 0 (rs.flatten ++ markExprL) ∧ Ex.TL kids lo W rs
theorem KidsT.ok (kids : List Ex) : TpOk (KidsT kids) where
  keep := fun ⟨g, rs, h1, h2, h3, h4, h5, h6, h7⟩ hk hs => ⟨g, rs, h1, h2, Nat.lt_of_lt_of_le h3 hs, h4, h5, rangeAt_same h6 (hk g h2 h3), Ex.TL_keep hk hs h7⟩
  low := fun hl ⟨g, rs, h1, h2, h3, h4, h5, h6, h7⟩ => ⟨g, rs, h1, Nat.le_trans hl h2, h3, h4, h5, h6, Ex.TL_low hl h7⟩

def exTf (es : List Ex) (i : Nat) : Tp := match es[i]? with
  | some e => e.T
  | none => fun _ _ _ => True
theorem exTf_ok (es : List Ex) (i : Nat) : TpOk (exTf es i) := by
  unfold exTf
  cases es[i]? with
  | some e => exact e.ok
  | none => exact ⟨fun _ _ _ => trivial, fun _ _ => trivial⟩

/-- a copied expression, by its kids. -/
theorem twinExpr_kids (e : Ex) (w : World) (hk : ∀ W : World, Below w.heap.size w W → ∀ (q : Int) (v : ByteArray) (k m : Int) (s : ByteArray) (A : Option Addr) (cap : Nat) (kids : List Ex), e = .mk q v k m s A cap kids →
    Calls Tryz.prog 310 #[.slice A kids.length cap] W fun x W' => ∃ g : Nat, x = .returned (.slice (some ⟨g, 0, none⟩) kids.length (kids.length + 1)) ∧ KidsT kids W.heap.size W' [.slice (some ⟨g, 0, none⟩) kids.length (kids.length + 1)] ∧ Below W.heap.size W W') :
    Calls Tryz.prog 276 #[.agg e.cells.toArray] w fun x w' => ∃ r' : List Value, x = .returned (.agg r'.toArray) ∧ r'.length = 6 ∧ (∀ v ∈ r', v.oneCell' = true) ∧ e.T w.heap.size w' r' ∧ Below w.heap.size w w' := by
  cases e with
  | mk q v k m s A cap kids =>
    refine (twinExpr_of q v k m s A kids.length cap (KidsT kids) (KidsT.ok kids) w (fun W hW => hk W hW q v k m s A cap kids rfl)).mono ?_
    rintro x w' ⟨g, rfl, ⟨g', rs, h1, h2, h3, h4, h5, h6, h7⟩, hb⟩
    refine ⟨[.int .i8 q, .string v, .int .i8 k, .int .i64 m, .string s, .slice (some ⟨g, 0, none⟩) kids.length (kids.length + 1)], rfl, rfl, by simp [Value.oneCell'], ?_, hb⟩
    unfold Ex.T
    refine ⟨g, rs, rfl, ?_, ?_, h4, h5, ?_, h7⟩
    all_goals
      simp only [List.cons.injEq, Value.slice.injEq, Option.some.injEq, Addr.mk.injEq, and_true] at h1
      rw [h1]
      assumption

theorem twinExprs_all : ∀ (N : Nat) (es : List Ex), SizeOf.sizeOf es ≤ N → ∀ (A : Option Addr) (cap : Nat) (w : World), Pow w → Rd w A (exCells es).flatten → es.length * 80 ≤ 140737488351232 → Ex.liesL w es →
    Calls Tryz.prog 310 #[.slice A es.length cap] w fun x w' => ∃ g : Nat, x = .returned (.slice (some ⟨g, 0, none⟩) es.length (es.length + 1)) ∧ KidsT es w.heap.size w' [.slice (some ⟨g, 0, none⟩) es.length (es.length + 1)] ∧ Below w.heap.size w w'
  | 0, es, hN, _, _, _, _, _, _, _ => by
    cases es <;> simp at hN
  | N + 1, es, hN, A, cap, w, hp, hr, hb, hl => by
    have h := twinExprs_of A cap (exCells es) (exTf es) w hp hr (exCells_len es) (by rw [exCells_length]; exact hb) (exTf_ok es) (fun i r W hi hW => by
      obtain ⟨e, he, rfl⟩ := exCells_at hi
      have hlies := Ex.lies_below hW (Ex.liesL_at hl he)
      have hT : exTf es i = e.T := by unfold exTf; rw [he]
      rw [hT]
      refine twinExpr_kids e W (fun W' hW' q v k m s A' cap' kids hek => ?_)
      subst hek
      unfold Ex.lies at hlies
      obtain ⟨l1, l2, l3⟩ := hlies
      have hsz : SizeOf.sizeOf kids ≤ N := by
        have h1 := List.sizeOf_lt_of_mem (List.mem_of_getElem? he)
        simp only [Ex.mk.sizeOf_spec] at h1
        omega
      exact twinExprs_all N kids hsz A' cap' W' ((hp.below hW (Nat.le_refl _)).below hW' (Nat.le_refl _)) (l1.below hW' (Nat.le_refl _)) l2 (Ex.liesL_below hW' l3))
    rw [exCells_length] at h
    refine h.mono ?_
    rintro x w' ⟨g, rs, rfl, h1, h2, h3, h4, h5, h6, h7⟩
    refine ⟨g, rfl, ⟨g, rs, rfl, h1, h2, h3, h4, h5, Ex.TL_of h3 fun i e r he hr' => ?_⟩, h7⟩
    have := h6 i r hr'
    unfold exTf at this
    rw [he] at this
    exact this

theorem twinExpr_any (e : Ex) (w : World) (hp : Pow w) (hl : e.lies w) :
    Calls Tryz.prog 276 #[.agg e.cells.toArray] w fun x w' => ∃ r' : List Value, x = .returned (.agg r'.toArray) ∧ r'.length = 6 ∧ (∀ v ∈ r', v.oneCell' = true) ∧ e.T w.heap.size w' r' ∧ Below w.heap.size w w' :=
  twinExpr_kids e w (fun W hW q v k m s A cap kids hek => by
    subst hek
    unfold Ex.lies at hl
    exact twinExprs_all _ kids (Nat.le_refl _) A cap W (hp.below hW (Nat.le_refl _)) (hl.1.below hW (Nat.le_refl _)) hl.2.1 (Ex.liesL_below hW hl.2.2))

/-! ### still what they were -/
theorem leftExpr_kids (e : Ex) (r : List Value) (lo : Nat) (w : World) (hT : e.T lo w r) (hk : ∀ W : World, Below w.heap.size w W → ∀ (q : Int) (v : ByteArray) (k m : Int) (s : ByteArray) (A : Option Addr) (cap : Nat) (kids : List Ex), e = .mk q v k m s A cap kids →
    ∀ (g : Nat) (rs : List (List Value)), lo ≤ g → g < w.heap.size → rs.length = kids.length → (∀ r ∈ rs, r.length = 6) → w.rangeAt g 0 (rs.flatten ++ markExprL) → Ex.TL kids lo w rs →
    Calls Tryz.prog 312 #[.slice (some ⟨g, 0, none⟩) kids.length (kids.length + 1), .slice A kids.length cap] W fun x W' => x = .returned (.bool true) ∧ Below W.heap.size W W') :
    Calls Tryz.prog 279 #[.agg r.toArray, .agg e.cells.toArray] w fun x w' => x = .returned (.bool true) ∧ Below w.heap.size w w' := by
  cases e with
  | mk q v k m s A cap kids =>
    unfold Ex.T at hT
    obtain ⟨g, rs, rfl, h2, h3, h4, h5, h6, h7⟩ := hT
    exact leftExpr_of q v k m s (.slice (some ⟨g, 0, none⟩) kids.length (kids.length + 1)) (.slice A kids.length cap) w (fun W hW => hk W hW q v k m s A cap kids rfl g rs h2 h3 h4 h5 h6 h7)

theorem leftExprs_all : ∀ (N : Nat) (es : List Ex), SizeOf.sizeOf es ≤ N → ∀ (g : Nat) (A : Option Addr) (cap lo : Nat) (rs : List (List Value)) (w : World), Pow w → g < w.heap.size → rs.length = es.length → (∀ r ∈ rs, r.length = 6) → w.rangeAt g 0 (rs.flatten ++ markExprL) → Ex.TL es lo w rs →
    Rd w A (exCells es).flatten → es.length * 80 ≤ 140737488351232 → Ex.liesL w es →
    Calls Tryz.prog 312 #[.slice (some ⟨g, 0, none⟩) es.length (es.length + 1), .slice A es.length cap] w fun x w' => x = .returned (.bool true) ∧ Below w.heap.size w w'
  | 0, es, hN, _, _, _, _, _, _, _, _, _, _, _, _, _, _, _ => by
    cases es <;> simp at hN
  | N + 1, es, hN, g, A, cap, lo, rs, w, hp, hg, hrl, hrc, hrg, hTL, hr, hb, hl => by
    have h := leftExprs_of g A cap (exCells es) rs w hp hg (by rw [exCells_length]; exact hrl) hrg hr (exCells_len es) hrc (by rw [exCells_length]; exact hb) (fun i r r' W hi hi' hW => by
      obtain ⟨e, he, rfl⟩ := exCells_at hi
      have hlies := Ex.lies_below hW (Ex.liesL_at hl he)
      have hT := Ex.T_keep (W' := W) (fun k _ hk => hW.block k hk) hW.size (Ex.TL_at hTL he hi')
      refine leftExpr_kids e r' lo W hT (fun W' hW' q v k m s A' cap' kids hek g' rs' k1 k2 k3 k4 k5 k6 => ?_)
      subst hek
      unfold Ex.lies at hlies
      obtain ⟨l1, l2, l3⟩ := hlies
      have hsz : SizeOf.sizeOf kids ≤ N := by
        have h1 := List.sizeOf_lt_of_mem (List.mem_of_getElem? he)
        simp only [Ex.mk.sizeOf_spec] at h1
        omega
      exact leftExprs_all N kids hsz g' A' cap' lo rs' W' ((hp.below hW (Nat.le_refl _)).below hW' (Nat.le_refl _)) (Nat.lt_of_lt_of_le k2 hW'.size) k3 k4 (rangeAt_below k5 hW' k2)
        (Ex.TL_keep (fun k _ hk => hW'.block k hk) hW'.size k6) (l1.below hW' (Nat.le_refl _)) l2 (Ex.liesL_below hW' l3))
    rw [exCells_length] at h
    exact h

theorem leftExpr_any (e : Ex) (r : List Value) (lo : Nat) (w : World) (hp : Pow w) (hT : e.T lo w r) (hl : e.lies w) :
    Calls Tryz.prog 279 #[.agg r.toArray, .agg e.cells.toArray] w fun x w' => x = .returned (.bool true) ∧ Below w.heap.size w w' :=
  leftExpr_kids e r lo w hT (fun W hW q v k m s A cap kids hek g rs k1 k2 k3 k4 k5 k6 => by
    subst hek
    unfold Ex.lies at hl
    exact leftExprs_all _ kids (Nat.le_refl _) g A cap lo rs W (hp.below hW (Nat.le_refl _)) (Nat.lt_of_lt_of_le k2 hW.size) k3 k4 (rangeAt_below k5 hW k2) (Ex.TL_keep (fun k _ hk => hW.block k hk) hW.size k6)
      (hl.1.below hW (Nat.le_refl _)) hl.2.1 (Ex.liesL_below hW hl.2.2))

end Go.Proofs.YtgjdgincebchhaaGreatDoor

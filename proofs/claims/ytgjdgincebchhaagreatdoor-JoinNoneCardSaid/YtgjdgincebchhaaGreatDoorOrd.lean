/-
  A region that draws its order: walked once, in an order that is given; a condition on the cells is kept; what is guarded off is passed by. No program in sight.
-/
import Derived.OrdersHeld
import Derived.Deep.RegionHeld3
import Derived.WalkKit
namespace Go.Proofs.YtgjdgincebchhaaGreatDoor
open Go

section
variable {P : Program} {ops : Array Oper} {md : Region.Mode} {Q : Exit → Act → World → Prop} {S : World → Prop}

/-- the walk: 'false': an operation that yields the same in every world of S; 'true': one that is carried out. -/
def ordH (P : Program) (ops : Array Oper) (Q : Exit → Act → World → Prop) (S : World → Prop) : List (Bool × Oper) → Act → World → Prop
  | [], a, w => Q .normal a w
  | (false, o) :: rest, a, w => ∃ v, YieldsIf P ops S o v a ∧ ordH P ops Q S rest (a.put o.dst v) w
  | (true, o) :: rest, a, w => if Region.wanted o (yielded ops a.tmps) = true then o.wp P a w (fun a' w' => S w' ∧ ordH P ops Q S rest a' w') Q else ordH P ops Q S rest (a.put o.dst undef) w

def chkH (md : Region.Mode) (ops : Array Oper) : List (Nat × Bool) → Array Bool → Bool
  | [], listed => (Region.ready md ops listed).isEmpty
  | (i, false) :: rest, listed => (Region.ready md ops listed).contains i && Region.free md ops listed i && chkH md ops rest (listed.setIfInBounds i true)
  | (i, true) :: rest, listed => Region.ready md ops listed == [i] && chkH md ops rest (listed.setIfInBounds i true)

def pickH (ops : Array Oper) (ord : List (Nat × Bool)) : List (Bool × Oper) := ord.filterMap fun p => (ops[p.1]?).map fun o => (p.2, o)

theorem ready_some {i : Nat} {listed : Array Bool} (h : i ∈ Region.ready md ops listed) : ∃ o, ops[i]? = some o := by
  obtain ⟨_, oj, hoj, _⟩ := mem_ready.1 h
  exact ⟨oj, hoj⟩

theorem ord_sound (hs : Region.noSelect ops = true) (hP : ∀ c a d v w, Q (.panic c) (a.put d v) w → Q (.panic c) a w) : ∀ (ord : List (Nat × Bool)) (listed : Array Bool) (a : Act) (w : World), chkH md ops ord listed = true → S w → ordH P ops Q S (pickH ops ord) a w → wpAnyH P md ops Q S ord.length listed a w
  | [], listed, a, w, hc, _, h => wpAnyH_done (by simpa [chkH] using hc) h _
  | (i, false) :: rest, listed, a, w, hc, hS, h => by
    simp only [chkH, Bool.and_eq_true] at hc
    obtain ⟨⟨h1, h2⟩, h3⟩ := hc
    obtain ⟨o, ho⟩ := ready_some (md := md) (listed := listed) (i := i) (by simpa using h1)
    have hp : pickH ops ((i, false) :: rest) = (false, o) :: pickH ops rest := by simp [pickH, ho]
    rw [hp] at h
    obtain ⟨v, hy, hr⟩ := h
    exact wpAnyH_take ho hs h2 h1 (fun c a w h => hP _ _ _ _ _ h) hy hS (ord_sound hs hP rest _ _ _ h3 hS hr)
  | (i, true) :: rest, listed, a, w, hc, hS, h => by
    simp only [chkH, Bool.and_eq_true] at hc
    obtain ⟨h1, h3⟩ := hc
    have h1 : Region.ready md ops listed = [i] := by simpa using h1
    obtain ⟨o, ho⟩ := ready_some (md := md) (listed := listed) (i := i) (by rw [h1]; simp)
    have hp : pickH ops ((i, true) :: rest) = (true, o) :: pickH ops rest := by simp [pickH, ho]
    rw [hp] at h
    refine wpAnyH_all h1 (by simp) (fun j hj => ?_)
    obtain rfl := List.mem_singleton.1 hj
    unfold wpOp
    simp only [ho]
    unfold ordH at h
    split
    · rename_i hw
      rw [if_pos hw] at h
      exact .inl (Oper.wp_mono (fun a' w' h' => ⟨h'.1, ord_sound hs hP rest _ _ _ h3 h'.1 h'.2⟩) h)
    · rename_i hw
      rw [if_neg hw] at h
      exact ⟨hS, ord_sound hs hP rest _ _ _ h3 hS h⟩

theorem wp_region_ord {id : Nat} {a : Act} {w : World} (ord : List (Nat × Bool)) (S : World → Prop) (hm : P.follows .mixedOrders = true) (hs : Region.noSelect ops = true) (hn : ord.length = ops.size)
    (hc : chkH .any ops ord (Array.replicate ops.size false) = true) (hS : S w.drew) (h : ordH P ops (NoPanic Q) S (pickH ops ord) a w.drew) : (Code.region id ops true).wp P Q a w :=
  wp_region_noPanic (wp_region_held (S := S) hm (by rw [← hn]; rw [← hn] at hc; exact ord_sound hs (fun _ _ _ _ _ h => (h : False).elim) ord _ a _ hc hS h))

theorem ord_take {o : Oper} {rest : List (Bool × Oper)} {a : Act} {w : World} {v : Value} (hw : Region.wanted o (yielded ops a.tmps) = true) (hy : ∀ w, S w → (execOp a.eval o).run P w = .ok (.value v) w) (h : ordH P ops Q S rest (a.put o.dst v) w) :
    ordH P ops Q S ((false, o) :: rest) a w := ⟨v, .inl ⟨hw, hy⟩, h⟩
theorem ord_yield {o : Oper} {rest : List (Bool × Oper)} {a : Act} {w : World} {v : Value} (hy : YieldsIf P ops S o v a) (h : ordH P ops Q S rest (a.put o.dst v) w) : ordH P ops Q S ((false, o) :: rest) a w := ⟨v, hy, h⟩
theorem ord_skip {o : Oper} {rest : List (Bool × Oper)} {a : Act} {w : World} (hw : Region.wanted o (yielded ops a.tmps) = false) (h : ordH P ops Q S rest (a.put o.dst undef) w) :
    ordH P ops Q S ((false, o) :: rest) a w := ⟨undef, .inr ⟨hw, rfl⟩, h⟩
theorem ord_call {o : Oper} {rest : List (Bool × Oper)} {a : Act} {w : World} (hw : Region.wanted o (yielded ops a.tmps) = true)
    (h : ∀ K : Act → World → Prop, Shut (∀ a w, S w → ordH P ops Q S rest a w → K a w) → o.wp P a w K Q) : ordH P ops Q S ((true, o) :: rest) a w := by
  unfold ordH
  rw [if_pos hw]
  exact h _ (fun a w hS h => ⟨hS, h⟩)
theorem ord_pass {o : Oper} {rest : List (Bool × Oper)} {a : Act} {w : World} (hw : Region.wanted o (yielded ops a.tmps) = false) (h : ordH P ops Q S rest (a.put o.dst undef) w) : ordH P ops Q S ((true, o) :: rest) a w := by
  unfold ordH
  rw [if_neg (by rw [hw]; exact Bool.false_ne_true)]
  exact h
theorem ord_nil {a : Act} {w : World} (h : Q .normal a w) : ordH P ops (NoPanic Q) S [] a w := h
end

end Go.Proofs.YtgjdgincebchhaaGreatDoor

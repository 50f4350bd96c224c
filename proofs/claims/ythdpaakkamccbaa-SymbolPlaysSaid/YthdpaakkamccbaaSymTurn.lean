/-
  Memory words: a pair of tables where a block that is no cells is turned, from the beginning of a loop on.
-/
import Derived.Test.YthdpaakkamccbaaSymTellsN
namespace Go.Proofs.Ythdpaakkamccbaa
open Go.RowKit Go.Maps

theorem row_cells {w : World} {A : Option Addr} {cap : Nat} {vs : List Val} (h : RowV w A cap vs) : ∀ g ∈ blkOf A, ∃ o : Obj, w.heap[g]? = some o ∧ o.isCells = true := by
  intro g hg
  rcases h.2 with ⟨hv, _⟩ | ⟨g0, c0, cur, hv, _, hh, _⟩
  · injection hv with hA; subst hA; simp [blkOf] at hg
  · injection hv with hA; subst hA
    simp [blkOf] at hg
    subst hg
    exact ⟨_, hh, rfl⟩
theorem Blk.isCells {w : World} {g : Nat} {t : TypeId} {cs : Array Value} (h : Blk w g t cs) : ∃ o : Obj, w.heap[g]? = some o ∧ o.isCells = true := ⟨_, h, rfl⟩

/-- of a table's blocks the map alone is no cells. -/
theorem PT.cells {w : World} {tv : Value} {st : St} {S : List Nat} (h : PT w tv st S) : ∀ k ∈ S, S[1]? = some k ∨ ∃ o : Obj, w.heap[k]? = some o ∧ o.isCells = true := by
  match st, h with
  | none, .inl h => rw [h.2]; simp
  | none, .inr ⟨tb, h, hk, e⟩ => rw [e]; intro k hm; rw [List.mem_singleton.1 hm]; exact .inr hk.isCells
  | some (most, vs), ⟨tb, h, ht⟩ =>
    obtain ⟨mb, A, cap, D, hta, rfl⟩ := ht
    intro k hk
    simp only [footOf, List.mem_cons] at hk
    rcases hk with rfl | rfl | hk
    · exact .inr hta.blk.isCells
    · exact .inl rfl
    · exact .inr (row_cells hta.row k hk)
theorem RT.cells {w : World} {rv : Value} {st : St} {S : List Nat} (h : RT w rv st S) : ∀ k ∈ S, ∃ o : Obj, w.heap[k]? = some o ∧ o.isCells = true := by
  match st, h with
  | none, h => rw [h.2]; simp
  | some (most, vs), ⟨rb, h, ht⟩ =>
    obtain ⟨A, cap, hta, rfl⟩ := ht
    intro k hk
    simp only [footR, List.mem_cons] at hk
    rcases hk with rfl | hk
    · exact hta.blk.isCells
    · exact row_cells hta.row k hk

theorem Pair.turn {w w' : World} {bb bo : Nat} {bt : TypeId} {bc : Array Value} {tv rv : Value} {st : St} {S1 S2 : List Nat} {B : Nat} {row : Option Nat} (h : Pair w bb bo bt bc tv rv st S1 S2) (hm : ∀ x, S1[1]? = some x → x < B)
    (hg : w.grownBy w' row) (hr : ∀ r, row = some r → B ≤ r ∧ ∃ o : Obj, w.heap[r]? = some o ∧ o.isCells = false) : Pair w' bb bo bt bc tv rv st S1 S2 := by
  have hne : ∀ k, k < w.heap.size → (∃ o : Obj, w.heap[k]? = some o ∧ o.isCells = true) → w'.heap[k]? = w.heap[k]? := fun k hk ⟨o, ho, hc⟩ => hg.block k hk (fun e => by
    obtain ⟨_, o2, ho2, hc2⟩ := hr k e.symm
    rw [ho] at ho2
    injection ho2 with ho2
    subst ho2
    rw [hc] at hc2
    cases hc2)
  refine ⟨h.blk.same (hne _ h.blk.lt h.blk.isCells), h.at0, h.at1, h.pt.same fun k hk => ?_, h.rt.same fun k hk => hne k (h.rt.lt k hk) (h.rt.cells k hk), h.dis, h.b1, h.b2⟩
  rcases h.pt.cells k hk with h1 | h1
  · exact hg.block k (h.pt.lt k hk) (fun e => by have := (hr k e.symm).1; have := hm k h1; omega)
  · exact hne k (h.pt.lt k hk) h1

theorem chg_own {β : Type} (B : Nat) (S : List Nat) {w0 : World} (hB : w0.heap.size ≤ B) : OwnFrom B (fun (_ : β) W => Chg S w0 W) := fun _ X Y row hs hg hr =>
  hs.grown hg (fun k e => .inr (by have := (hr k e).1; omega))

/-- where a loop's round is over: the tables' state, and that nothing else has turned. -/
def AmidSt (w0 : World) (kb bb bo : Nat) (bt : TypeId) (bc : Array Value) (tv rv : Value) (st : St) (S1 S2 : List Nat) (early : Prop) (W : World) : Prop :=
  Chg (kb :: (S1 ++ S2)) w0 W ∧ ∃ st' S1' S2', Pair W bb bo bt bc tv rv st' S1' S2' ∧ Grew w0.heap.size S1 S1' ∧ (∀ k ∈ S2', k ∈ S2 ∨ w0.heap.size ≤ k) ∧ (early → st' = st ∧ S1' = S1 ∧ S2' = S2)

theorem amidSt_own {β : Type} {B : Nat} {w0 : World} {kb bb bo : Nat} {bt : TypeId} {bc : Array Value} {tv rv : Value} {st : St} {S1 S2 : List Nat} {early : β → Prop} (hB : w0.heap.size ≤ B) (hm : ∀ x, S1[1]? = some x → x < B) : OwnFrom B (fun (s : β) W => AmidSt w0 kb bb bo bt bc tv rv st S1 S2 (early s) W) := fun s X Y row hs hg hr => by
  obtain ⟨h1, st', S1', S2', h2, h3, h4, h5⟩ := hs
  exact ⟨chg_own (β := Unit) B _ hB () X Y row h1 hg hr, st', S1', S2', h2.turn (fun x hx => hm x (by rw [← h3.map]; exact hx)) hg hr, h3, h4, h5⟩

theorem KeepsFrom.of_chg {B : Nat} {S : List Nat} {W W' : World} (h : Chg S W W') (hS : ∀ k ∈ S, k < B) : KeepsFrom B W W' :=
  ⟨h.size, fun k o hB hk _ => (h.block k (Array.getElem?_eq_some_iff.1 hk).1 (fun hm => by have := hS k hm; omega)).trans hk⟩

section
variable {W0 W W5 : World} {kb bb bo : Nat} {bt : TypeId} {bc : Array Value} {tv rv : Value} {st st3 : St} {S1 S2 S1b S2b : List Nat} {e e' : Prop}
theorem AmidSt.tick (h : AmidSt W0 kb bb bo bt bc tv rv st S1 S2 e W) (hk : kb < W0.heap.size) (h1 : kb ∉ S1) (h2 : kb ∉ S2) (h3 : bb ≠ kb) (n : Nat) (u : Value) (he : e' → e) :
    AmidSt W0 kb bb bo bt bc tv rv st S1 S2 e' ((W.drewN n).setCell ⟨kb, 0, none⟩ u) := by
  obtain ⟨hc, st', S1', S2', hp, hg, hs, hE⟩ := h
  have hcd : Chg [kb] W ((W.drewN n).setCell ⟨kb, 0, none⟩ u) := (show Chg [kb] W (W.drewN n) from ⟨rfl, rfl, rfl, Nat.le_refl _, fun _ _ _ => rfl⟩).setCell (.inl (by simp)) u
  refine ⟨hc.trans hcd (fun x hx => .inl (by rw [List.mem_singleton.1 hx]; exact .head _)), st', S1', S2', hp.chg hcd ?_ ?_ ?_, hg, hs, fun x => hE (he x)⟩
  · intro k hk1 hm
    rw [List.mem_singleton.1 hm] at hk1
    rcases hg kb hk1 with h | h
    · exact h1 h
    · omega
  · intro k hk1 hm
    rw [List.mem_singleton.1 hm] at hk1
    rcases hs kb hk1 with h | h
    · exact h2 h
    · omega
  · rw [List.mem_singleton]; exact h3
theorem AmidSt.after (hC : Chg (kb :: (S1 ++ S2)) W0 W) (hP : Pair W5 bb bo bt bc tv rv st3 S1b S2b) (hC5 : Chg (S1 ++ S2) W W5) (hG : Grew W.heap.size S1 S1b) (hs : ∀ k ∈ S2b, k ∈ S2 ∨ W.heap.size ≤ k) (he : ¬ e) :
    AmidSt W0 kb bb bo bt bc tv rv st S1 S2 e W5 := by
  have hz := hC.size
  refine ⟨hC.trans hC5 (fun x hx => .inl (List.mem_cons_of_mem _ hx)), st3, S1b, S2b, hP, ⟨fun k hk => ?_, hG.map⟩, fun k hk => ?_, fun x => absurd x he⟩
  · rcases hG k hk with h | h
    · exact .inl h
    · right; omega
  · rcases hs k hk with h | h
    · exact .inl h
    · right; omega
end

end Go.Proofs.Ythdpaakkamccbaa

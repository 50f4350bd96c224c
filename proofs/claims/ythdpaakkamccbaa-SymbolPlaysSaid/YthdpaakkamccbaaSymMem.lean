/-
  Memory words: what a call may turn ('Chg'), a block known whole ('Blk'), a table of values in memory ('Tab'). No walk.
-/
import Derived.Test.YthdpaakkamccbaaSymBase
import Derived.Maps.AppendAt
import Derived.Laws.Rows
import Derived.Laws.OwnMore
import Derived.Deep.Draws
import Derived.Deep.AppendLies
namespace Go.Proofs.Ythdpaakkamccbaa
open Go.RowKit Go.Maps

/-- All that was there is as it was, but for the blocks of S. -/
structure Chg (S : List Nat) (w w' : World) : Prop where
  os : w'.os = w.os
  tape : w'.tape = w.tape
  output : w'.output = w.output
  size : w.heap.size ≤ w'.heap.size
  block : ∀ k, k < w.heap.size → k ∉ S → w'.heap[k]? = w.heap[k]?

/-- a table's blocks behind a call: of the old ones, or new; its map is the old one. -/
structure Grew (N : Nat) (S S' : List Nat) : Prop where
  sub : ∀ k ∈ S', k ∈ S ∨ N ≤ k
  map : S'[1]? = S[1]?
theorem Grew.refl (N : Nat) (S : List Nat) : Grew N S S := ⟨fun _ hk => .inl hk, rfl⟩
instance {N : Nat} {S S' : List Nat} : CoeFun (Grew N S S') (fun _ => ∀ k, k ∈ S' → k ∈ S ∨ N ≤ k) := ⟨Grew.sub⟩

theorem Chg.refl (S : List Nat) (w : World) : Chg S w w := ⟨rfl, rfl, rfl, Nat.le_refl _, fun _ _ _ => rfl⟩
theorem Chg.trans {S S' : List Nat} {a b c : World} (h : Chg S a b) (k : Chg S' b c) (hs : ∀ x ∈ S', x ∈ S ∨ a.heap.size ≤ x) : Chg S a c :=
  ⟨k.os.trans h.os, k.tape.trans h.tape, k.output.trans h.output, Nat.le_trans h.size k.size, fun i hi hn =>
    (k.block i (Nat.lt_of_lt_of_le hi h.size) (fun hm => by rcases hs i hm with h1 | h1; exact hn h1; omega)).trans (h.block i hi hn)⟩
theorem Chg.mono {S S' : List Nat} {w w' : World} (h : Chg S w w') (hs : ∀ x ∈ S, x ∈ S') : Chg S' w w' :=
  ⟨h.os, h.tape, h.output, h.size, fun k hk hn => h.block k hk (fun hm => hn (hs k hm))⟩
theorem Chg.of_below {w w' : World} (S : List Nat) (h : Below w.heap.size w w') : Chg S w w' := ⟨h.os, h.tape, h.output, h.size, fun k hk _ => h.block k hk⟩
theorem Chg.below {S : List Nat} {w w' : World} {B : Nat} (h : Chg S w w') (hB : B ≤ w.heap.size) (hs : ∀ x ∈ S, B ≤ x) : Below B w w' :=
  ⟨h.os, h.tape, h.output, h.size, fun k hk => h.block k (by omega) (fun hm => by have := hs k hm; omega)⟩
theorem Chg.of_none {w w' : World} (h : Chg [] w w') : Below w.heap.size w w' := h.below (Nat.le_refl _) (fun _ hx => by cases hx)
theorem Chg.drew {S : List Nat} {a w : World} (h : Chg S a w) : Chg S a w.drew := ⟨h.os, h.tape, h.output, h.size, h.block⟩
theorem Chg.alloc {S : List Nat} {a w : World} (h : Chg S a w) (o : Obj) : Chg S a (w.alloc o) :=
  ⟨h.os, h.tape, h.output, by have := h.size; simp; omega, fun k hk hn => (Below.heap_alloc _ _ _ (by have := h.size; omega)).trans (h.block k hk hn)⟩
theorem Chg.setCell {S : List Nat} {a w : World} (h : Chg S a w) {p : Addr} (hp : p.block ∈ S ∨ a.heap.size ≤ p.block) (u : Value) : Chg S a (w.setCell p u) :=
  ⟨h.os, h.tape, h.output, by have := h.size; simpa [World.setCell] using this, fun k hk hn =>
    (Below.heap_setCell _ _ _ _ (by rintro rfl; rcases hp with h1 | h1; exact hn h1; omega)).trans (h.block k hk hn)⟩
theorem Chg.grown {S : List Nat} {a w w' : World} {row : Option Nat} (h : Chg S a w) (hg : w.grownBy w' row) (hr : ∀ k, row = some k → k ∈ S ∨ a.heap.size ≤ k) : Chg S a w' :=
  ⟨hg.os.trans h.os, hg.tape.trans h.tape, hg.output.trans h.output, Nat.le_trans h.size hg.size, fun k hk hn =>
    (hg.block k (by have := h.size; omega) (fun e => by rcases hr k e.symm with h1 | h1; exact hn h1; omega)).trans (h.block k hk hn)⟩
theorem Chg.cell {S : List Nat} {w w' : World} (h : Chg S w w') {p : Addr} (hp : p.block < w.heap.size) (hn : p.block ∉ S) : w'.cell? p = w.cell? p := World.cell?_of_block (w := w) (h.block p.block hp hn)

/-- A block that is known whole. -/
def Blk (w : World) (g : Nat) (t : TypeId) (cs : Array Value) : Prop := w.heap[g]? = some (.cells cs t (0, 0))

section
variable {w w' : World} {g : Nat} {t : TypeId} {cs : Array Value}
theorem Blk.lt (h : Blk w g t cs) : g < w.heap.size := by
  rcases Nat.lt_or_ge g w.heap.size with hlt | hge
  · exact hlt
  · unfold Blk at h; rw [Array.getElem?_eq_none hge] at h; cases h
theorem Blk.cell (h : Blk w g t cs) (i : Nat) : w.cell? ⟨g, i, none⟩ = cs[i]? := cell_of_row w g i cs t (0, 0) h
theorem Blk.frozen (h : Blk w g t cs) (i : Nat) : w.frozen? ⟨g, i, none⟩ = false := by
  unfold Blk at h
  simp [World.frozen?, h]
theorem Blk.new (w : World) (t : TypeId) (cs : Array Value) : Blk (w.alloc (.cells cs t)) w.heap.size t cs := heap_alloc_new w _
theorem Blk.drew (h : Blk w g t cs) : Blk w.drew g t cs := h
theorem Blk.drewN (h : Blk w g t cs) (n : Nat) : Blk (w.drewN n) g t cs := h
theorem Blk.alloc (h : Blk w g t cs) (o : Obj) : Blk (w.alloc o) g t cs := (Below.heap_alloc w o g h.lt).trans h
theorem Blk.set_ (h : Blk w g t cs) (i : Nat) (u : Value) : Blk (w.setCell ⟨g, i, none⟩ u) g t (cs.setIfInBounds i u) := by
  unfold Blk at h ⊢
  simp [World.setCell, Array.getElem?_modify, h]
theorem Blk.far (h : Blk w g t cs) {p : Addr} (hp : g ≠ p.block) (u : Value) : Blk (w.setCell p u) g t cs := (Below.heap_setCell w p u g hp).trans h
theorem Blk.ne_ {g' : Nat} {t' : TypeId} {cs' : Array Value} (h : Blk w g t cs) (h' : Blk w g' t' cs') (hne : t ≠ t') : g ≠ g' := by
  rintro rfl
  unfold Blk at h h'
  rw [h] at h'
  injection h' with h'
  injection h' with _ ht
  exact hne ht
theorem Blk.same (h : Blk w g t cs) (hb : w'.heap[g]? = w.heap[g]?) : Blk w' g t cs := hb.trans h
end

/-! ### ownership kept where the blocks are as they were -/
theorem ownsMap_same {w w' : World} {P : Program} {k : TypeId} {R : Value → Option (DataW Unit × List MemPlace)} {b n : Nat} {D : DataW Unit} (h : w.ownsMap P k R b n D) (hb : w'.heap[b]? = w.heap[b]?) : w'.ownsMap P k R b n D := by
  obtain ⟨es, clock, h1, h2⟩ := h
  exact ⟨es, clock, hb.trans h1, h2⟩

theorem ownsRow_same {w w' : World} {base : Nat} {e : TypeId} {size : Nat} {v : Value} {n : Nat} {xs : List Value} (h : w.ownsRow base e size v n xs) (hb : ∀ g, v.ownBlock = some g → w'.heap[g]? = w.heap[g]?) : w'.ownsRow base e size v n xs := by
  obtain ⟨h1, h2⟩ := h
  refine ⟨h1, ?_⟩
  rcases h2 with h2 | ⟨g, cap, cur, rfl, hg, hh, r⟩
  · exact .inl h2
  · exact .inr ⟨g, cap, cur, rfl, hg, (hb g rfl).trans hh, r⟩

theorem ownsMap_exact {w : World} {P : Program} {k : TypeId} {R : Value → Option (DataW Unit × List MemPlace)} {b n m : Nat} {D : DataW Unit} (h : w.ownsMap P k R b n D) (hm : Maps.size D ≤ m) : w.ownsMap P k R b m D := by
  obtain ⟨es, clock, h1, h2, h3, h4⟩ := h
  refine ⟨es, clock, h1, h2, ?_, h4⟩
  have : es.size = Maps.size D := by rw [h4]; show _ = List.length _; rw [length_sorted]; simp
  omega

/-- the cells of a list of values. -/
def vcells (vs : List Val) : List Value := vs.flatMap Val.cells
theorem vcells_length (vs : List Val) : (vcells vs).length = vs.length * 3 := by
  induction vs with
  | nil => rfl
  | cons v vs ih => show (v.cells ++ vcells vs).length = _; rw [List.length_append, ih]; simp [Val.cells]; omega
theorem vcells_append (a b : List Val) : vcells (a ++ b) = vcells a ++ vcells b := by simp [vcells]
theorem vcells_take (vs : List Val) (n : Nat) : vcells (vs.take n) = (vcells vs).take (n * 3) := by
  induction vs generalizing n with
  | nil => simp [vcells]
  | cons v vs ih =>
    cases n with
    | zero => simp [vcells]
    | succ n =>
      show v.cells ++ vcells (vs.take n) = List.take ((n + 1) * 3) (v.cells ++ vcells vs)
      rw [ih, List.take_append, show v.cells.length = 3 from rfl, show (n + 1) * 3 - 3 = n * 3 from by omega, List.take_of_length_le (show v.cells.length ≤ (n + 1) * 3 from by show 3 ≤ _; omega)]
theorem vcells_at (vs : List Val) (i : Nat) (h : i < vs.length) : (vcells vs)[i * 3]? = some (.int .i8 (vs[i]).k) ∧ (vcells vs)[i * 3 + 1]? = some (.int .i64 (vs[i]).n) ∧ (vcells vs)[i * 3 + 2]? = some (.string (vs[i]).s) := by
  induction vs generalizing i with
  | nil => simp at h
  | cons v vs ih =>
    cases i with
    | zero => exact ⟨rfl, rfl, rfl⟩
    | succ i =>
      have := ih i (by simpa using h)
      have e : vcells (v :: vs) = .int .i8 v.k :: .int .i64 v.n :: .string v.s :: vcells vs := rfl
      rw [e, show (i + 1) * 3 = i * 3 + 3 from by omega]
      simpa using this

/-- A slice of values that the calls so far have made: nil, or at the head of a block of its own. -/
def RowV (w : World) (A : Option Addr) (cap : Nat) (vs : List Val) : Prop := w.ownsRow 0 36 3 (.slice A vs.length cap) vs.length (vcells vs)

/-- where its cells lie. -/
def blkOf (A : Option Addr) : List Nat := (A.map (·.block)).toList

theorem RowV.form {w : World} {A : Option Addr} {cap : Nat} {vs : List Val} (h : RowV w A cap vs) : (A = none ∧ cap = 0 ∧ vs = []) ∨ ∃ g, A = some ⟨g, 0, none⟩ ∧ g < w.heap.size ∧ vs.length ≤ cap ∧ cap ≤ maxLen := by
  obtain ⟨h1, h2⟩ := h
  rcases h2 with ⟨e, h0⟩ | ⟨g, c, cur, e, _, hh, hn, hc, hs, ht⟩
  · injection e with e1 e2 e3
    exact .inl ⟨e1, e3, List.eq_nil_of_length_eq_zero h0⟩
  · injection e with e1 e2 e3
    subst e3
    exact .inr ⟨g, e1, (Array.getElem?_eq_some_iff.1 hh).1, hn, hc⟩
theorem RowV.ownBlock {w : World} {A : Option Addr} {cap : Nat} {vs : List Val} (_ : RowV w A cap vs) : (Value.slice A vs.length cap).ownBlock = (blkOf A).head? := by
  cases A <;> rfl
theorem RowV.same {w w' : World} {A : Option Addr} {cap : Nat} {vs : List Val} (h : RowV w A cap vs) (hb : ∀ g ∈ blkOf A, w'.heap[g]? = w.heap[g]?) : RowV w' A cap vs :=
  ownsRow_same h (fun g hg => hb g (by cases A <;> simp_all [Value.ownBlock, blkOf]))
theorem RowV.lt {w : World} {A : Option Addr} {cap : Nat} {vs : List Val} (h : RowV w A cap vs) : ∀ g ∈ blkOf A, g < w.heap.size := by
  rcases h.form with ⟨rfl, _⟩ | ⟨g, rfl, hg, _⟩
  · simp [blkOf]
  · simpa [blkOf] using hg
theorem RowV.nil_ (w : World) : RowV w none 0 [] := World.ownsRow_nil w 0 _ _
/-- its cells. -/
theorem RowV.cell {w : World} {g cap : Nat} {vs : List Val} (h : RowV w (some ⟨g, 0, none⟩) cap vs) (j : Nat) (hj : j < vs.length * 3) : w.cell? ⟨g, j, none⟩ = (vcells vs)[j]? :=
  World.ownsRow.cellAt h j hj
theorem RowV.frozen {w : World} {g cap : Nat} {vs : List Val} (h : RowV w (some ⟨g, 0, none⟩) cap vs) (j : Nat) : w.frozen? ⟨g, j, none⟩ = false :=
  World.ownsRow.frozenAt h j
theorem RowV.three {w : World} {g cap : Nat} {vs : List Val} (h : RowV w (some ⟨g, 0, none⟩) cap vs) (i : Nat) (hi : i < vs.length) :
    w.cell? ⟨g, i * 3, none⟩ = some (.int .i8 (vs[i]).k) ∧ w.cell? ⟨g, i * 3 + 1, none⟩ = some (.int .i64 (vs[i]).n) ∧ w.cell? ⟨g, i * 3 + 2, none⟩ = some (.string (vs[i]).s) := by
  obtain ⟨h1, h2, h3⟩ := vcells_at vs i hi
  exact ⟨(h.cell _ (by omega)).trans h1, (h.cell _ (by omega)).trans h2, (h.cell _ (by omega)).trans h3⟩
/-- cut at its end. -/
theorem RowV.take {w : World} {A : Option Addr} {cap : Nat} {vs : List Val} (h : RowV w A cap vs) (n : Nat) (hn : n ≤ vs.length) : RowV w A cap (vs.take n) := by
  have hl : (vs.take n).length = n := by rw [List.length_take]; omega
  obtain ⟨h1, h2⟩ := h
  refine ⟨vcells_length _, ?_⟩
  rw [hl]
  rcases h2 with ⟨e, h0⟩ | ⟨g, c, cur, e, hg, hh, hm, hc, hs, ht⟩
  · injection e with e1 e2 e3
    subst e1; subst e3
    obtain rfl : n = 0 := by omega
    exact .inl ⟨rfl, rfl⟩
  · injection e with e1 e2 e3
    subst e1; subst e3
    refine .inr ⟨g, cap, cur, rfl, hg, hh, by omega, hc, hs, ?_⟩
    rw [vcells_take, ← ht, List.take_take]
    congr 1; omega

/-! ### a table -/
structure TabAt (w : World) (tb most : Nat) (vs : List Val) (mb : Nat) (A : Option Addr) (cap : Nat) (D : DataW Unit) : Prop where
  blk : Blk w tb 77 #[.int .i64 most, .map (some mb), .slice A vs.length cap]
  own : w.ownsMap Try.prog 36 (plainElem Try.prog 30) mb vs.length D
  nums : Nums D vs
  row : RowV w A cap vs
  wf : ∀ v ∈ vs, v.wf
  ok : ∀ v ∈ vs, v.ok = true
  nodup : vs.Nodup
  le : vs.length ≤ most
  most : most ≤ 2147483647

def footOf (tb mb : Nat) (A : Option Addr) : List Nat := tb :: mb :: blkOf A

/-- a table at block tb, made for so many values, with these; its blocks: S. -/
def Tab (w : World) (tb most : Nat) (vs : List Val) (S : List Nat) : Prop := ∃ mb A cap D, TabAt w tb most vs mb A cap D ∧ S = footOf tb mb A

theorem TabAt.same {w w' : World} {tb most : Nat} {vs : List Val} {mb : Nat} {A : Option Addr} {cap : Nat} {D : DataW Unit} (h : TabAt w tb most vs mb A cap D) (hb : ∀ k ∈ footOf tb mb A, w'.heap[k]? = w.heap[k]?) : TabAt w' tb most vs mb A cap D :=
  ⟨h.blk.same (hb _ (by simp [footOf])), ownsMap_same h.own (hb _ (by simp [footOf])), h.nums, h.row.same (fun g hg => hb g (by simp [footOf, hg])), h.wf, h.ok, h.nodup, h.le, h.most⟩
theorem TabAt.lt {w : World} {tb most : Nat} {vs : List Val} {mb : Nat} {A : Option Addr} {cap : Nat} {D : DataW Unit} (h : TabAt w tb most vs mb A cap D) : ∀ k ∈ footOf tb mb A, k < w.heap.size := by
  intro k hk
  simp only [footOf, List.mem_cons] at hk
  rcases hk with rfl | rfl | hk
  · exact h.blk.lt
  · exact h.own.lt
  · exact h.row.lt k hk

theorem TabAt.mb_ne {w : World} {tb most : Nat} {vs : List Val} {mb : Nat} {A : Option Addr} {cap : Nat} {D : DataW Unit} (h : TabAt w tb most vs mb A cap D) : mb ≠ tb := by
  rintro rfl
  have h1 := h.blk
  obtain ⟨es, cl, h2, _⟩ := h.own
  unfold Blk at h1; rw [h1] at h2; cases h2
theorem TabAt.row_ne {w : World} {tb most : Nat} {vs : List Val} {mb : Nat} {A : Option Addr} {cap : Nat} {D : DataW Unit} (h : TabAt w tb most vs mb A cap D) : ∀ g ∈ blkOf A, g ≠ tb := by
  intro g hg e
  subst e
  rcases h.row.2 with ⟨hv, _⟩ | ⟨g0, c0, cur, hv, _, hh, _⟩
  · injection hv with hA; subst hA; simp [blkOf] at hg
  · injection hv with hA; subst hA
    have h2 := h.blk
    simp [blkOf] at hg
    subst hg
    unfold Blk at h2
    rw [hh] at h2
    injection h2 with h2
    injection h2 with _ h3
    cases h3
theorem TabAt.row_ne_mb {w : World} {tb most : Nat} {vs : List Val} {mb : Nat} {A : Option Addr} {cap : Nat} {D : DataW Unit} (h : TabAt w tb most vs mb A cap D) : ∀ g ∈ blkOf A, g ≠ mb := by
  intro g hg e
  subst e
  rcases h.row.2 with ⟨hv, _⟩ | ⟨g0, c0, cur, hv, _, hh, _⟩
  · injection hv with hA; subst hA; simp [blkOf] at hg
  · injection hv with hA; subst hA
    obtain ⟨es, cl, h2, _⟩ := h.own
    simp [blkOf] at hg
    subst hg
    rw [hh] at h2; cases h2

theorem Tab.same {w w' : World} {tb most : Nat} {vs : List Val} {S : List Nat} (h : Tab w tb most vs S) (hb : ∀ k ∈ S, w'.heap[k]? = w.heap[k]?) : Tab w' tb most vs S := by
  obtain ⟨mb, A, cap, D, ht, rfl⟩ := h
  exact ⟨mb, A, cap, D, ht.same hb, rfl⟩
theorem Tab.lt {w : World} {tb most : Nat} {vs : List Val} {S : List Nat} (h : Tab w tb most vs S) : ∀ k ∈ S, k < w.heap.size := by
  obtain ⟨mb, A, cap, D, ht, rfl⟩ := h
  exact ht.lt
theorem Tab.chg {w w' : World} {tb most : Nat} {vs : List Val} {S S' : List Nat} (h : Tab w tb most vs S) (hc : Chg S' w w') (hd : ∀ k ∈ S, k ∉ S') : Tab w' tb most vs S :=
  h.same fun k hk => hc.block k (h.lt k hk) (hd k hk)
theorem Tab.below {w w' : World} {tb most : Nat} {vs : List Val} {S : List Nat} (h : Tab w tb most vs S) (hc : Below w.heap.size w w') : Tab w' tb most vs S :=
  h.same fun k hk => hc.block k (h.lt k hk)

end Go.Proofs.Ythdpaakkamccbaa

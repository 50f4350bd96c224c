/-
  A slice of calls that came in (a struct of 32 cells each), opened.
-/
import Derived.Test.YthdpaakkamccbaaSymOp
import Derived.Test.YthdpaakkamccbaaSymPlays
import Derived.Deep.Strs
namespace Go.Proofs.Ythdpaakkamccbaa
open Go.ChangeShapes Go.WideShapes Go.ChangeAt Go.RowKit Go.Deep

theorem cut_at (l : List Value) (k m j : Nat) (h : k + m = j) : l.drop k = (l.drop k).take m ++ l.drop j := by
  subst h
  rw [← List.drop_drop, List.take_append_drop]

/-- what a call of the script is, but for its reach. -/
structure OpV.fits {H : Type} (w : World) (o : OpV) (d : DataW H) : Prop where
  v : o.v.wf
  len : o.rs.length = 24
  rs : ∀ r ∈ o.rs, r ≤ 2147483647
  nil_ : o.A = none → o.cap = 0
  rd : RdV w o.A o.l
  wf : ∀ u ∈ o.l, u.wf
  data : ∃ d0 d1 d2 d3 d4 d5 d6, d = .agg [d0, d1, d2, d3, d4, d5, d6] ∧ ((o.l = [] ∧ d5 = .nil) ∨ ∃ es sp, d5 = .slice es sp ∧ es.length = o.l.length)

section
variable {H : Type} {enc : TypeId × Value → H} {W : World}

theorem vals_shape {cs : List Value} {fuel : Nat} {x : DataW H × List MemPlace}
    (hf : DataW.trod enc Try.prog W 0 (fun _ => true) true fuel 22 cs = some x) :
    ∃ A len cap, cs = [.slice A len cap] ∧ (A = none → cap = 0) := by
  rcases open_slice_fields Try.underlying22 Try.underlying36 (by kernel_rfl) cells_V hf with ⟨hcs, hx⟩ | ⟨a, len', cap', m, D, Pl, hcs, _, hl, hm, hmm, hx, hi⟩
  · exact ⟨none, 0, 0, hcs, fun _ => rfl⟩
  · exact ⟨some a, len', cap', hcs, fun h => by cases h⟩

theorem val_shape {cs : List Value} {fuel : Nat} {x : DataW H × List MemPlace}
    (hf : DataW.trod enc Try.prog W 0 (fun _ => true) true fuel 36 cs = some x) :
    ∃ u : Val, u.wf ∧ cs = [.int .i8 u.k, .int .i64 u.n, .string u.s] := by
  obtain ⟨y0, y1, y2, n, _, hl, t0, t1, t2⟩ := trod_struct3 Try.underlying36 hf
  have hl3 : cs.length = 3 := hl.trans cells_V
  have t0' : DataW.trod enc Try.prog W 0 (fun _ => true) true n 34 ((cs.drop 0).take 1) = some y0 := t0
  have t1' : DataW.trod enc Try.prog W 0 (fun _ => true) true n 2 ((cs.drop 1).take 1) = some y1 := t1
  have t2' : DataW.trod enc Try.prog W 0 (fun _ => true) true n 9 ((cs.drop 2).take 1) = some y2 := t2
  obtain ⟨k, e0, _, w0⟩ := DataW.trod_int Try.underlying34 t0'
  obtain ⟨n', e1, _, w1⟩ := DataW.trod_int Try.underlying2 t1'
  obtain ⟨s, e2, _, w2⟩ := DataW.trod_string Try.underlying9 t2'
  refine ⟨⟨k, n', s⟩, ⟨w0, w1, w2⟩, ?_⟩
  have h := cut_at cs 0 1 1 rfl
  rw [cut_at cs 1 1 2 rfl, cut_at cs 2 1 3 rfl, e0, e1, e2, List.drop_of_length_le (i := 3) (by omega)] at h
  exact h

theorem row_shape {cs : List Value} {fuel : Nat} {x : DataW H × List MemPlace}
    (hf : DataW.trod enc Try.prog W 0 (fun _ => true) true fuel 43 cs = some x) :
    ∃ rs : List Int, rs.length = 24 ∧ (∀ r ∈ rs, r ≤ 2147483647) ∧ cs = rs.map (Value.int .i32) := by
  obtain ⟨xs, m, _, _, hl, hxl, hi⟩ := DataW.trod_array Try.underlying43 hf
  have hl24 : cs.length = 24 := hl.trans (by kernel_rfl)
  have hone : Try.prog.cellsOf 30 = 1 := by kernel_rfl
  obtain ⟨rs, hrl, hrs⟩ := list_of (Q := fun i (x : Int) => cs[i]? = some (.int .i32 x) ∧ x ≤ 2147483647) 24 (fun i hi24 => by
    have h := hi i hi24
    rw [hone, Nat.mul_one, List.getElem?_eq_getElem (by omega)] at h
    obtain ⟨x, hx, _, hw⟩ := DataW.trod_int Try.underlying30 h
    rw [List.drop_eq_getElem_cons (by omega)] at hx
    simp only [List.take_succ_cons, List.take_zero, List.cons.injEq, and_true] at hx
    refine ⟨x, by rw [List.getElem?_eq_getElem (by omega), hx], ?_⟩
    simp only [Lit.wf, Bool.and_eq_true, decide_eq_true_eq] at hw
    exact hw.2)
  refine ⟨rs, hrl, fun r hr => ?_, ?_⟩
  · obtain ⟨j, hj, rfl⟩ := List.mem_iff_getElem.1 hr
    exact (hrs j hj).2
  · apply List.ext_getElem?
    intro i
    by_cases hil : i < 24
    · rw [(hrs i (by omega)).1, List.getElem?_map, List.getElem?_eq_getElem (by omega)]
      rfl
    · rw [List.getElem?_eq_none (by omega), List.getElem?_eq_none (by simp; omega)]

set_option maxRecDepth 100000 in
theorem op_shape {cs : List Value} {fuel : Nat} {x : DataW H × List MemPlace}
    (hf : DataW.trod enc Try.prog W 0 (fun _ => true) true fuel 68 cs = some x) :
    ∃ o : OpV, cs = o.cells.toList ∧ o.fits W x.1 := by
  obtain ⟨xs, fu, _, hx, hl, hxl, hfld⟩ := DataW.trod_struct Try.underlying68 hf
  have hl32 : cs.length = 32 := hl.trans (by kernel_rfl)
  have h0 := hfld 0 _ rfl
  have h1 := hfld 1 _ rfl
  have h2 := hfld 2 _ rfl
  have h3 := hfld 3 _ rfl
  have h4 := hfld 4 _ rfl
  have h5 := hfld 5 _ rfl
  have h6 := hfld 6 _ rfl
  have hxl7 : xs.length = 7 := hxl
  obtain ⟨y0, y1, y2, y3, y4, y5, y6, rfl⟩ := seven_of hxl7
  have t0 : DataW.trod enc Try.prog W 0 (fun _ => true) true fu 3 ((cs.drop 0).take 1) = some y0 := h0
  have t1 : DataW.trod enc Try.prog W 0 (fun _ => true) true fu 3 ((cs.drop 1).take 1) = some y1 := h1
  have t2 : DataW.trod enc Try.prog W 0 (fun _ => true) true fu 3 ((cs.drop 2).take 1) = some y2 := h2
  have t3 : DataW.trod enc Try.prog W 0 (fun _ => true) true fu 3 ((cs.drop 3).take 1) = some y3 := h3
  have t4 : DataW.trod enc Try.prog W 0 (fun _ => true) true fu 36 ((cs.drop 4).take 3) = some y4 := h4
  have t5 : DataW.trod enc Try.prog W 0 (fun _ => true) true fu 22 ((cs.drop 7).take 1) = some y5 := h5
  have t6 : DataW.trod enc Try.prog W 0 (fun _ => true) true fu 43 ((cs.drop 8).take 24) = some y6 := h6
  clear h0 h1 h2 h3 h4 h5 h6 hfld
  obtain ⟨on, e0, _, _⟩ := DataW.trod_int Try.underlying3 t0
  obtain ⟨kind, e1, _, _⟩ := DataW.trod_int Try.underlying3 t1
  obtain ⟨n, e2, _, _⟩ := DataW.trod_int Try.underlying3 t2
  obtain ⟨m, e3, _, _⟩ := DataW.trod_int Try.underlying3 t3
  obtain ⟨u, hu, e4⟩ := val_shape t4
  obtain ⟨A, len, cap, e5, hA⟩ := vals_shape t5
  obtain ⟨rs, hrl, hrs, e6⟩ := row_shape t6
  rw [e5] at t5
  obtain ⟨l, hll, hrd, hwf, hd5⟩ := open_vals_cell t5
  subst hll
  refine ⟨⟨on, kind, n, m, u, l, A, cap, rs⟩, ?_, hu, hrl, hrs, hA, hrd, hwf, ?_⟩
  · have h := cut_at cs 0 1 1 rfl
    rw [cut_at cs 1 1 2 rfl, cut_at cs 2 1 3 rfl, cut_at cs 3 1 4 rfl, cut_at cs 4 3 7 rfl, cut_at cs 7 1 8 rfl, cut_at cs 8 24 32 rfl, e0, e1, e2, e3, e4, e5, e6, List.drop_of_length_le (i := 32) (by omega)] at h
    simp only [List.drop_zero, List.append_nil] at h
    exact h
  · rw [hx]
    simp only [List.map_cons, List.map_nil]
    exact ⟨_, _, _, _, _, _, _, rfl, hd5⟩

theorem ops_shape {base : Nat} {v : Value} {d : DataW H} {p : List MemPlace}
    (hok : Value.okWide Try.prog W .any base 55 v) (h : DataW.Trod enc Try.prog W 0 (fun _ => true) true 55 v d p) :
    ∃ A cap os, v = .slice A (List.length os) cap ∧ RdO W A os ∧ ((os = [] ∧ d = .nil) ∨ ∃ es sp, d = .slice es sp ∧ es.length = os.length ∧ ∀ i (hi : i < os.length), ∃ e, es[i]? = some e ∧ (os[i]).fits W e) := by
  obtain ⟨a0, len, cap, rfl⟩ := okWide_slice Try.underlying55 hok
  obtain ⟨fuel, hf⟩ := h
  have h32 : Try.prog.cellsOf 68 = 32 := by kernel_rfl
  rcases open_slice Try.underlying55 hf with ⟨hcs, hx⟩ | ⟨a, len', cap', m, n, D, Pl, hcs, _, hl, hm, hmm, hx, hi⟩
  · simp [Value.cells] at hcs
    obtain ⟨rfl, rfl, rfl⟩ := hcs
    simp only [Prod.mk.injEq] at hx
    exact ⟨none, 0, [], rfl, fun h => absurd rfl h, .inl ⟨rfl, hx.1⟩⟩
  · simp [Value.cells] at hcs
    obtain ⟨rfl, rfl, rfl⟩ := hcs
    simp only [Prod.mk.injEq] at hx
    rw [h32] at hi
    obtain ⟨os, hol, ho⟩ := list_of (Q := fun i (o : OpV) => W.cells? 0 (a.add (i * 32)) 32 = some o.cells.toList ∧ o.fits W (D i)) len (fun i hil => by
      obtain ⟨cs', hc, ht⟩ := hi i (by rw [hmm]; simp; omega)
      obtain ⟨o, rfl, hfit⟩ := op_shape ht
      exact ⟨o, hc, hfit⟩)
    subst hol
    refine ⟨some a, cap, os, rfl, fun hne => ?_, .inr ⟨_, _, hx.1, by simp, fun i hi' => ⟨D i, by simp [hi'], (ho i hi').2⟩⟩⟩
    have h0 : 0 < os.length := List.length_pos_iff.2 hne
    obtain ⟨_, hl0, c0⟩ := World.cells?_some (ho 0 h0).1
    have c00 := c0 0 (by omega)
    have hv0 : (os[0]).cells.toList[0]? = some (.int .i64 (os[0]).on) := rfl
    rw [hv0] at c00
    have hs : a.spot = none := by
      have h := World.cell?_spot c00
      rw [Nat.zero_mul] at h
      exact h
    rw [Go.Deep.add_add, add_off a _ hs] at c00
    have hlt := World.block_lt_of_cell? _ _ c00
    refine ⟨a.block, a.off, congrArg some (addr_plain a hs), hlt, fun i hi' j v hj => ?_⟩
    obtain ⟨_, hlen, hc⟩ := World.cells?_some (ho i hi').1
    have hj32 : j < 32 := by
      have := (List.getElem?_eq_some_iff.1 hj).1
      omega
    have h := hc j hj32
    rw [hj, Go.Deep.add_add, add_off a _ hs, ← Nat.add_assoc] at h
    exact h
end

end Go.Proofs.Ythdpaakkamccbaa

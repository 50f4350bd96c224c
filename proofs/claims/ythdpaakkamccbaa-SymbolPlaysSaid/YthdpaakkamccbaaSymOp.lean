/-
  A call that came in (a struct of 32 cells), opened.
-/
import Derived.Test.YthdpaakkamccbaaSymRow
import Derived.Test.YthdpaakkamccbaaSymNone
import Derived.ChangeArms
namespace Go.Proofs.Ythdpaakkamccbaa
open Go.ChangeShapes Go.WideShapes Go.ChangeAt Go.RowKit Go.Deep

section
variable {W : World} {base : Nat} {t : TypeId} {v : Value}
theorem cell_int {k : IntKind} (hu : Try.prog.underlying t = some (.int k)) (h : Cell.okWide Try.prog W .any base t v) : ∃ n, v = .int k n ∧ (Lit.int k n).wf = true := by
  unfold Cell.okWide at h
  rw [hu] at h
  cases v with
  | int k' n =>
    simp only [Cell.ok, hu] at h
    obtain ⟨rfl, h1, h2⟩ := h
    exact ⟨n, rfl, by simp [Lit.wf, h1, h2]⟩
  | _ => simp [Cell.ok, hu] at h
theorem cell_string (hu : Try.prog.underlying t = some .string) (h : Cell.okWide Try.prog W .any base t v) : ∃ s, v = .string s ∧ s.size ≤ maxLen := by
  unfold Cell.okWide at h
  rw [hu] at h
  cases v with
  | string s =>
    simp only [Cell.ok, hu] at h
    refine ⟨s, rfl, ?_⟩
    have e : IntKind.i64.max = 9223372036854775807 := rfl
    rw [e] at h
    unfold maxLen; omega
  | _ => simp [Cell.ok, hu] at h
theorem cell_slice {e : TypeId} (hu : Try.prog.underlying t = some (.slice e)) (h : Cell.okWide Try.prog W .any base t v) : ∃ A len cap, v = .slice A len cap ∧ (A = none → cap = 0) ∧ (∀ a, A = some a → a.block < W.heap.size) := by
  unfold Cell.okWide at h
  rw [hu] at h
  cases v with
  | slice A len cap =>
    refine ⟨A, len, cap, rfl, ?_, ?_⟩
    · rintro rfl
      match len, cap, h with
      | 0, 0, _ => rfl
      | 0, c + 1, h => simp [Cell.ok, hu] at h
      | l + 1, c, h => simp [Cell.ok, hu] at h
    · rintro a rfl
      simp only [Cell.ok, hu] at h
      obtain ⟨_, _, _, _, row, cells, hs, _⟩ := h
      unfold World.shape? at hs
      rcases Nat.lt_or_ge a.block W.heap.size with hl | hg
      · exact hl
      · rw [Array.getElem?_eq_none hg] at hs
        cases hs
  | _ => simp [Cell.ok, hu] at h
end

theorem opTypes : Try.prog.cellTypes Try.prog.depth 68 = some ([3, 3, 3, 3, 34, 2, 9, 22] ++ List.replicate 24 30) := by kernel_rfl

/-- the slice's cells in memory, read. -/
theorem open_vals_cell {H : Type} {enc : TypeId × Value → H} {W : World} {A : Option Addr} {len cap fuel : Nat} {x : DataW H × List MemPlace}
    (hf : DataW.trod enc Try.prog W 0 (fun _ => true) true fuel 22 [.slice A len cap] = some x) :
    ∃ vs : List Val, vs.length = len ∧ RdV W A vs ∧ (∀ u ∈ vs, u.wf) ∧ ((vs = [] ∧ x.1 = .nil) ∨ ∃ es sp, x.1 = .slice es sp ∧ es.length = vs.length) := by
  rcases open_slice_fields Try.underlying22 Try.underlying36 (by kernel_rfl) cells_V hf with ⟨hcs, hx⟩ | ⟨a, len', cap', m, D, Pl, hcs, _, hl, hm, hmm, hx, hi⟩
  · simp at hcs
    obtain ⟨rfl, rfl, rfl⟩ := hcs
    exact ⟨[], rfl, fun h => absurd rfl h, by simp, .inl ⟨rfl, by rw [hx]⟩⟩
  · simp at hcs
    obtain ⟨rfl, rfl, rfl⟩ := hcs
    have hmcap : m = cap := by rw [hmm]; simp
    subst hmcap
    have hone : ∀ i, i < len → ∃ u : Val, u.wf ∧ W.cell? (a.add (i * 3)) = some (.int .i8 u.k) ∧ W.cell? (a.add (i * 3 + 1)) = some (.int .i64 u.n) ∧ W.cell? (a.add (i * 3 + 2)) = some (.string u.s) := by
      intro i hil
      obtain ⟨ys, n, _, _, _, hj⟩ := hi i (by omega)
      obtain ⟨v0, y0, c0, _, t0⟩ := hj 0 _ rfl
      obtain ⟨v1, y1, c1, _, t1⟩ := hj 1 _ rfl
      obtain ⟨v2, y2, c2, _, t2⟩ := hj 2 _ rfl
      obtain ⟨k, e0, _, w0⟩ := DataW.trod_int Try.underlying34 t0
      obtain ⟨n', e1, _, w1⟩ := DataW.trod_int Try.underlying2 t1
      obtain ⟨s, e2, _, w2⟩ := DataW.trod_string Try.underlying9 t2
      simp at e0 e1 e2
      subst e0 e1 e2
      exact ⟨⟨k, n', s⟩, ⟨w0, w1, w2⟩, c0, c1, c2⟩
    obtain ⟨vs, hvl, hv⟩ := list_of len hone
    subst hvl
    refine ⟨vs, rfl, ?_, ?_, .inr ⟨_, _, by rw [hx], by simp⟩⟩
    · intro hne
      have h0 : 0 < vs.length := List.length_pos_iff.2 hne
      have c0 := (hv 0 h0).2.1
      have hs : a.spot = none := by
        have h := World.cell?_spot c0
        rw [Nat.zero_mul] at h
        exact h
      refine ⟨a.block, a.off, congrArg some (addr_plain a hs), ?_, fun i hi => ?_⟩
      · have := World.block_lt_of_cell? _ _ c0
        rw [add_off a _ hs] at this
        exact this
      · obtain ⟨_, h1, h2, h3⟩ := hv i hi
        rw [add_off a _ hs] at h1 h2 h3
        exact ⟨h1, h2, h3⟩
    · intro u hu
      obtain ⟨i, hi, rfl⟩ := List.mem_iff_getElem.1 hu
      exact (hv i hi).1

theorem seven_of {B : Type} : ∀ {xs : List B}, xs.length = 7 → ∃ y0 y1 y2 y3 y4 y5 y6, xs = [y0, y1, y2, y3, y4, y5, y6]
  | [y0, y1, y2, y3, y4, y5, y6], _ => ⟨y0, y1, y2, y3, y4, y5, y6, rfl⟩

set_option maxRecDepth 100000 in
theorem open_op {H : Type} {enc : TypeId × Value → H} {W : World} {base : Nat} {v : Value} {d : DataW H} {p : List MemPlace}
    (hok : Value.okWide Try.prog W .any base 68 v) (h : DataW.Trod enc Try.prog W 0 (fun _ => true) true 68 v d p) :
    ∃ (on kind n m : Int) (u : Val) (l : List Val) (A : Option Addr) (cap : Nat) (rs : List Int), v = .agg (opC on kind n m u (.slice A l.length cap) rs) ∧ u.wf ∧ rs.length = 24 ∧ (∀ r ∈ rs, r ≤ 2147483647) ∧ (A = none → cap = 0) ∧ RdV W A l ∧ (∀ x ∈ l, x.wf) ∧ (∀ a, A = some a → a.block < W.heap.size) ∧
      ∃ d0 d1 d2 d3 d4 d5 d6, d = .agg [d0, d1, d2, d3, d4, d5, d6] ∧ ((l = [] ∧ d5 = .nil) ∨ ∃ es sp, d5 = .slice es sp ∧ es.length = l.length) := by
  simp only [Value.okWide, Try.underlying68] at hok
  obtain ⟨cs, rfl, hsz, ts, hts, _, hcells⟩ := hok
  rw [opTypes] at hts
  injection hts with hts
  subst hts
  have hsz : cs.size = 32 := hsz.trans (by kernel_rfl)
  have hat : ∀ i, (hi : i < 32) → ∃ u, ([3, 3, 3, 3, 34, 2, 9, 22] ++ List.replicate 24 30)[i % 32]? = some u ∧ Cell.okWide Try.prog W .any base u (cs[i]'(by omega)) := fun i hi => hcells i _ (Array.getElem?_eq_getElem (by omega))
  obtain ⟨on, e0, _⟩ : ∃ n, cs[0] = .int .i64 n ∧ (Lit.int .i64 n).wf = true := by obtain ⟨u, hu, hc⟩ := hat 0 (by omega); injection hu with hu; subst hu; exact cell_int Try.underlying3 hc
  obtain ⟨kind, e1, _⟩ : ∃ n, cs[1] = .int .i64 n ∧ (Lit.int .i64 n).wf = true := by obtain ⟨u, hu, hc⟩ := hat 1 (by omega); injection hu with hu; subst hu; exact cell_int Try.underlying3 hc
  obtain ⟨n, e2, _⟩ : ∃ n, cs[2] = .int .i64 n ∧ (Lit.int .i64 n).wf = true := by obtain ⟨u, hu, hc⟩ := hat 2 (by omega); injection hu with hu; subst hu; exact cell_int Try.underlying3 hc
  obtain ⟨m, e3, _⟩ : ∃ n, cs[3] = .int .i64 n ∧ (Lit.int .i64 n).wf = true := by obtain ⟨u, hu, hc⟩ := hat 3 (by omega); injection hu with hu; subst hu; exact cell_int Try.underlying3 hc
  obtain ⟨uk, e4, w4⟩ : ∃ n, cs[4] = .int .i8 n ∧ (Lit.int .i8 n).wf = true := by obtain ⟨u, hu, hc⟩ := hat 4 (by omega); injection hu with hu; subst hu; exact cell_int Try.underlying34 hc
  obtain ⟨un, e5, w5⟩ : ∃ n, cs[5] = .int .i64 n ∧ (Lit.int .i64 n).wf = true := by obtain ⟨u, hu, hc⟩ := hat 5 (by omega); injection hu with hu; subst hu; exact cell_int Try.underlying2 hc
  obtain ⟨us, e6, w6⟩ : ∃ s, cs[6] = .string s ∧ s.size ≤ maxLen := by obtain ⟨u, hu, hc⟩ := hat 6 (by omega); injection hu with hu; subst hu; exact cell_string Try.underlying9 hc
  obtain ⟨A, len, cap, e7, hA, hB⟩ : ∃ A len cap, cs[7] = .slice A len cap ∧ (A = none → cap = 0) ∧ (∀ a, A = some a → a.block < W.heap.size) := by obtain ⟨u, hu, hc⟩ := hat 7 (by omega); injection hu with hu; subst hu; exact cell_slice Try.underlying22 hc
  obtain ⟨rs, hrl, hrs⟩ := list_of (Q := fun i (x : Int) => cs[8 + i]? = some (.int .i32 x) ∧ x ≤ 2147483647) 24 (fun i hi => by
    obtain ⟨u, hu, hc⟩ := hat (8 + i) (by omega)
    rw [Nat.mod_eq_of_lt (by omega), List.getElem?_append_right (by simp)] at hu
    simp only [List.length_cons, List.length_nil] at hu
    rw [List.getElem?_replicate, if_pos (by omega)] at hu
    injection hu with hu
    subst hu
    obtain ⟨x, hx, hw⟩ := cell_int Try.underlying30 hc
    refine ⟨x, by rw [Array.getElem?_eq_getElem (by omega), hx], ?_⟩
    simp only [Lit.wf, Bool.and_eq_true, decide_eq_true_eq] at hw
    exact hw.2)
  obtain ⟨fuel, hf⟩ := h
  obtain ⟨xs, fu, _, hx, _, hxl, hfld⟩ := DataW.trod_struct Try.underlying68 hf
  have h5 := hfld 5 _ rfl
  have hxl7 : xs.length = 7 := hxl
  obtain ⟨y0, y1, y2, y3, y4, y5, y6, rfl⟩ := seven_of hxl7
  have hcell : ((Value.agg cs).cells.toList.drop 7).take 1 = [.slice A len cap] := by
    show (cs.toList.drop 7).take 1 = _
    rw [List.drop_eq_getElem_cons (by rw [Array.length_toList]; omega)]
    simp [e7]
  have h5' : DataW.trod enc Try.prog W 0 (fun _ => true) true fu 22 (((Value.agg cs).cells.toList.drop 7).take 1) = some y5 := h5
  rw [hcell] at h5'
  have h5'' : DataW.trod enc Try.prog W 0 (fun _ => true) true fu 22 [.slice A len cap] = some y5 := h5'
  obtain ⟨l, hll, hrd, hwf, hd5⟩ := open_vals_cell h5''
  subst hll
  simp only [Prod.mk.injEq, List.map_cons, List.map_nil] at hx
  refine ⟨on, kind, n, m, ⟨uk, un, us⟩, l, A, cap, rs, ?_, ⟨w4, w5, w6⟩, hrl, ?_, hA, hrd, hwf, hB, _, _, _, _, _, _, _, hx.1, hd5⟩
  · congr 1
    apply Array.ext
    · rw [opC_size, hrl, hsz]
    · intro i h1 h2
      have hg : cs[i]? = (opC on kind n m ⟨uk, un, us⟩ (.slice A l.length cap) rs)[i]? := by
        by_cases hi : i < 8
        · have : i = 0 ∨ i = 1 ∨ i = 2 ∨ i = 3 ∨ i = 4 ∨ i = 5 ∨ i = 6 ∨ i = 7 := by omega
          rcases this with rfl | rfl | rfl | rfl | rfl | rfl | rfl | rfl
          · rw [Array.getElem?_eq_getElem (by omega), e0]; rfl
          · rw [Array.getElem?_eq_getElem (by omega), e1]; rfl
          · rw [Array.getElem?_eq_getElem (by omega), e2]; rfl
          · rw [Array.getElem?_eq_getElem (by omega), e3]; rfl
          · rw [Array.getElem?_eq_getElem (by omega), e4]; rfl
          · rw [Array.getElem?_eq_getElem (by omega), e5]; rfl
          · rw [Array.getElem?_eq_getElem (by omega), e6]; rfl
          · rw [Array.getElem?_eq_getElem (by omega), e7]; rfl
        · obtain ⟨j, rfl⟩ : ∃ j, i = 8 + j := ⟨i - 8, by omega⟩
          have hj : j < rs.length := by omega
          rw [opC_row, (hrs j hj).1, List.getElem?_map, List.getElem?_eq_getElem hj]
          rfl
      rw [Array.getElem?_eq_getElem h1, Array.getElem?_eq_getElem h2] at hg
      exact Option.some.inj hg
  · intro r hr
    obtain ⟨j, hj, rfl⟩ := List.mem_iff_getElem.1 hr
    exact (hrs j hj).2

end Go.Proofs.Ythdpaakkamccbaa

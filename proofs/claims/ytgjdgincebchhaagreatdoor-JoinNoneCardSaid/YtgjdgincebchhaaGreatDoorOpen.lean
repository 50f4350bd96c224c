/-
  What came in, opened: a call on a world: a fact, a plan, two lists of integers.
-/
import Derived.Test.YtgjdgincebchhaaGreatDoorPlan2
import Derived.ChangeArms
import Derived.Deep.Slices
import Derived.Deep.Strs
import Derived.SizedLaws
import Derived.RowKit
namespace Go.Proofs.YtgjdgincebchhaaGreatDoor
open Go Go.ChangeShapes Go.WideShapes Go.ChangeAt Go.RowKit Go.Deep

theorem add_off (a : Addr) (n : Nat) (h : a.spot = none) : a.add n = ⟨a.block, a.off + n, none⟩ := by
  unfold Addr.add
  split
  · rename_i h0; subst h0; cases a; simp_all
  · rfl
theorem addr_plain (a : Addr) (h : a.spot = none) : a = ⟨a.block, a.off, none⟩ := by cases a; simp at h; subst h; rfl
theorem list_of {α : Type} {Q : Nat → α → Prop} : ∀ n : Nat, (∀ i, i < n → ∃ u, Q i u) → ∃ vs : List α, vs.length = n ∧ ∀ i (h : i < vs.length), Q i vs[i]
  | 0, _ => ⟨[], rfl, fun i h => by simp at h⟩
  | n + 1, h => by
    obtain ⟨vs, hl, hv⟩ := list_of n (fun i hi => h i (by omega))
    obtain ⟨u, hu⟩ := h n (by omega)
    refine ⟨vs ++ [u], by simp [hl], fun i hi => ?_⟩
    rw [List.length_append] at hi
    by_cases he : i < vs.length
    · simp only [List.getElem_append_left he]; exact hv i he
    · obtain rfl : i = vs.length := by simp at hi; omega
      simp only [List.getElem_append_right (Nat.le_refl _), Nat.sub_self, List.getElem_singleton]
      rw [hl]; exact hu
theorem cut_at (l : List Value) (k m j : Nat) (h : k + m = j) : l.drop k = (l.drop k).take m ++ l.drop j := by
  subst h
  rw [← List.drop_drop, List.take_append_drop]
theorem two_of {B : Type} : ∀ {xs : List B}, xs.length = 2 → ∃ y0 y1, xs = [y0, y1]
  | [y0, y1], _ => ⟨y0, y1, rfl⟩
theorem three_of {B : Type} : ∀ {xs : List B}, xs.length = 3 → ∃ y0 y1 y2, xs = [y0, y1, y2]
  | [y0, y1, y2], _ => ⟨y0, y1, y2, rfl⟩
theorem four_of {B : Type} : ∀ {xs : List B}, xs.length = 4 → ∃ y0 y1 y2 y3, xs = [y0, y1, y2, y3]
  | [y0, y1, y2, y3], _ => ⟨y0, y1, y2, y3, rfl⟩
theorem five_of {B : Type} : ∀ {xs : List B}, xs.length = 5 → ∃ y0 y1 y2 y3 y4, xs = [y0, y1, y2, y3, y4]
  | [y0, y1, y2, y3, y4], _ => ⟨y0, y1, y2, y3, y4, rfl⟩
theorem six_of_ {B : Type} : ∀ {xs : List B}, xs.length = 6 → ∃ y0 y1 y2 y3 y4 y5, xs = [y0, y1, y2, y3, y4, y5]
  | [y0, y1, y2, y3, y4, y5], _ => ⟨y0, y1, y2, y3, y4, y5, rfl⟩

section
variable {H : Type} {enc : TypeId × Value → H} {W : World}

/-- no list in it is greater than memory. -/
def Small (t : TypeId) (d : DataW H) : Prop := ∀ n ∈ d.weights Tryz.prog t, n ≤ 140737488351232

theorem weightsAll_mem {P : Program} {e : TypeId} : ∀ {l : List (DataW H)} {d : DataW H}, d ∈ l → ∀ n ∈ d.weights P e, n ∈ DataW.weightsAll P e l
  | x :: l, d, hd, n, hn => by
    simp only [DataW.weightsAll]
    rcases List.mem_cons.1 hd with rfl | hd
    · exact List.mem_append_left _ hn
    · exact List.mem_append_right _ (weightsAll_mem hd n hn)
theorem Small.slice {t e : TypeId} {es sp : List (DataW H)} (hu : Tryz.prog.underlying t = some (.slice e)) (h : Small t (.slice es sp)) : (es.length + sp.length) * Tryz.prog.bytesOf e ≤ 140737488351232 ∧ ∀ d ∈ es, Small e d := by
  unfold Small at h
  simp only [DataW.weights, hu] at h
  exact ⟨h _ List.mem_cons_self, fun d hd n hn => h n (List.mem_cons_of_mem _ (List.mem_append_left _ (weightsAll_mem hd n hn)))⟩
theorem Small.part {t : TypeId} {fs : Array Field} {ds : List (DataW H)} (hu : Tryz.prog.underlying t = some (.struct fs)) (h : Small t (.agg ds)) (i : Nat) {f : Field} {d : DataW H} (hf : fs[i]? = some f) (hd : ds[i]? = some d) : Small f.type d := by
  unfold Small at h
  simp only [DataW.weights, hu] at h
  intro n hn
  exact h n (DataW.weights_mem_each (by rw [List.getElem?_map, Array.getElem?_toList, hf]; rfl) hd n hn)

theorem rangeAt_flat {c b : Nat} : ∀ {rows : List (List Value)} {o : Nat}, (∀ r ∈ rows, r.length = c) → (∀ (i : Nat) (r : List Value), rows[i]? = some r → W.rangeAt b (o + i * c) r) → W.rangeAt b o rows.flatten
  | [], _, _, _ => fun j v hj => by simp at hj
  | r :: rows, o, hc, h => by
    rw [List.flatten_cons]
    refine rangeAt_append (by have := h 0 r rfl; simpa using this) ?_
    rw [hc r List.mem_cons_self]
    refine rangeAt_flat (fun r hr => hc r (List.mem_cons_of_mem _ hr)) fun i r' hi => ?_
    have := h (i + 1) r' (by simpa using hi)
    rw [Nat.add_mul, Nat.one_mul, Nat.add_comm (i * c) c, ← Nat.add_assoc] at this
    exact this

/-- a list, by what is known of one thing in it. -/
theorem slice_shape {t e : TypeId} {c bytes : Nat} {α : Type} (cells : α → List Value) (Q : α → Prop) (hlen : ∀ a, Q a → (cells a).length = c + 1) (ht : Tryz.prog.underlying t = some (.slice e)) (hc : Tryz.prog.cellsOf e = c + 1) (hb : Tryz.prog.bytesOf e = bytes)
    {fuel : Nat} {cs : List Value} {x : DataW H × List MemPlace} (hf : DataW.trod enc Tryz.prog W 0 (fun _ => true) true fuel t cs = some x) (hs : Small t x.1)
    (hone : ∀ (n : Nat) (cs' : List Value) (y : DataW H × List MemPlace), n < fuel → DataW.trod enc Tryz.prog W 0 (fun _ => true) true n e cs' = some y → Small e y.1 → ∃ a : α, cs' = cells a ∧ Q a) :
    ∃ (A : Option Addr) (cap : Nat) (l : List α), cs = [.slice A l.length cap] ∧ Rd W A (l.map cells).flatten ∧ (∀ a ∈ l, Q a) ∧ l.length * bytes ≤ 140737488351232 := by
  rcases DataW.trod_slice ht hf with ⟨rfl, _⟩ | ⟨a, len, cap, elems, rest, n, rfl, rfl, hx, hb0, hl, hm, hlen2, hel, _, _⟩
  · exact ⟨none, 0, [], rfl, fun h => absurd rfl h, by simp, by simp⟩
  · rw [hx] at hs
    obtain ⟨h1, h2⟩ := hs.slice ht
    rw [hb, List.length_map, hlen2] at h1
    obtain ⟨l, hll, hl'⟩ := list_of (Q := fun i (z : α) => W.cells? 0 (a.add (i * (c + 1))) (c + 1) = some (cells z) ∧ Q z) len (fun i hi => by
      have h := hel i hi
      rw [hc, List.getElem?_eq_getElem (by omega)] at h
      obtain ⟨cs', hc', ht'⟩ := Option.bind_eq_some_iff.1 h
      obtain ⟨z, rfl, hz⟩ := hone n cs' _ (Nat.lt_succ_self _) ht' (h2 _ (List.mem_map.2 ⟨_, List.getElem_mem _, rfl⟩))
      exact ⟨z, hc', hz⟩)
    subst hll
    have hQ : ∀ z ∈ l, Q z := fun z hz => by
      obtain ⟨i, hi, rfl⟩ := List.mem_iff_getElem.1 hz
      exact (hl' i hi).2
    refine ⟨some a, cap, l, rfl, fun hne => ?_, hQ, ?_⟩
    · have h0 : 0 < l.length := by
        cases l with
        | nil => simp at hne
        | cons z l => simp
      obtain ⟨_, hl0, c0⟩ := World.cells?_some (hl' 0 h0).1
      have c00 := c0 0 (by omega)
      rw [List.getElem?_eq_getElem (by omega)] at c00
      have hsp : a.spot = none := by
        have h := World.cell?_spot c00
        rw [Nat.zero_mul] at h
        exact h
      rw [Go.Deep.add_add, add_off a _ hsp] at c00
      have hlt := World.block_lt_of_cell? _ _ c00
      refine ⟨a.block, a.off, congrArg some (addr_plain a hsp), hlt, rangeAt_flat (c := c + 1) (fun r hr => ?_) fun i r hi => ?_⟩
      · obtain ⟨z, hz, rfl⟩ := List.mem_map.1 hr
        exact hlen z (hQ z hz)
      · obtain ⟨z, hz, rfl⟩ := map_at hi
        obtain ⟨hi', rfl⟩ := List.getElem?_eq_some_iff.1 hz
        obtain ⟨_, hl1, c1⟩ := World.cells?_some (hl' i hi').1
        intro j v hj
        have hjl : j < c + 1 := by
          have := (List.getElem?_eq_some_iff.1 hj).1
          omega
        have h := c1 j hjl
        rw [hj, Go.Deep.add_add, add_off a _ hsp, ← Nat.add_assoc] at h
        exact h
    · exact Nat.le_trans (Nat.mul_le_mul_right _ (Nat.le_add_right _ _)) h1

theorem list1 {cs : List Value} {x : Value} (h : (cs.drop 0).take 1 = [x]) (hl : cs.length = 1) : cs = [x] := by
  rw [List.drop_zero, List.take_of_length_le (by omega)] at h
  exact h

set_option maxRecDepth 100000 in
theorem value_cells {cs : List Value} {fuel : Nat} {x : DataW H × List MemPlace} (hf : DataW.trod enc Tryz.prog W 0 (fun _ => true) true fuel 56 cs = some x) : OkValue cs := by
  obtain ⟨xs, n, _, _, hl, hxl, hfld⟩ := DataW.trod_struct Tryz.underlying56 hf
  have hl3 : cs.length = 3 := hl.trans (by kernel_rfl)
  have h0 := hfld 0 _ rfl
  have h1 := hfld 1 _ rfl
  have h2 := hfld 2 _ rfl
  obtain ⟨y0, y1, y2, rfl⟩ := three_of (show xs.length = 3 from hxl)
  have t0 : DataW.trod enc Tryz.prog W 0 (fun _ => true) true n 54 ((cs.drop 0).take 1) = some y0 := h0
  have t1 : DataW.trod enc Tryz.prog W 0 (fun _ => true) true n 2 ((cs.drop 1).take 1) = some y1 := h1
  have t2 : DataW.trod enc Tryz.prog W 0 (fun _ => true) true n 9 ((cs.drop 2).take 1) = some y2 := h2
  obtain ⟨k, e0, _, _⟩ := DataW.trod_int Tryz.underlying54 t0
  obtain ⟨m, e1, _, _⟩ := DataW.trod_int Tryz.underlying2 t1
  obtain ⟨s, e2, _, _⟩ := DataW.trod_string Tryz.underlying9 t2
  refine ⟨k, m, s, ?_⟩
  have h := cut_at cs 0 1 1 rfl
  rw [cut_at cs 1 1 2 rfl, cut_at cs 2 1 3 rfl, e0, e1, e2, List.drop_of_length_le (i := 3) (by omega)] at h
  exact h

set_option maxRecDepth 100000 in
theorem term_cells {cs : List Value} {fuel : Nat} {x : DataW H × List MemPlace} (hf : DataW.trod enc Tryz.prog W 0 (fun _ => true) true fuel 82 cs = some x) : OkTerm cs := by
  obtain ⟨xs, n, _, _, hl, hxl, hfld⟩ := DataW.trod_struct Tryz.underlying82 hf
  have hl4 : cs.length = 4 := hl.trans (by kernel_rfl)
  have h0 := hfld 0 _ rfl
  have h1 := hfld 1 _ rfl
  obtain ⟨y0, y1, rfl⟩ := two_of (show xs.length = 2 from hxl)
  have t0 : DataW.trod enc Tryz.prog W 0 (fun _ => true) true n 9 ((cs.drop 0).take 1) = some y0 := h0
  have t1 : DataW.trod enc Tryz.prog W 0 (fun _ => true) true n 56 ((cs.drop 1).take 3) = some y1 := h1
  obtain ⟨v, e0, _, _⟩ := DataW.trod_string Tryz.underlying9 t0
  obtain ⟨k, m, s, e1⟩ := value_cells t1
  refine ⟨v, k, m, s, ?_⟩
  have h := cut_at cs 0 1 1 rfl
  rw [cut_at cs 1 3 4 rfl, e0, e1, List.drop_of_length_le (i := 4) (by omega)] at h
  exact h

set_option maxRecDepth 100000 in
theorem arg_cells {cs : List Value} {fuel : Nat} {x : DataW H × List MemPlace} (hf : DataW.trod enc Tryz.prog W 0 (fun _ => true) true fuel 96 cs = some x) : OkArg cs := by
  obtain ⟨xs, n, _, _, hl, hxl, hfld⟩ := DataW.trod_struct Tryz.underlying96 hf
  have hl5 : cs.length = 5 := hl.trans (by kernel_rfl)
  have h0 := hfld 0 _ rfl
  have h1 := hfld 1 _ rfl
  obtain ⟨y0, y1, rfl⟩ := two_of (show xs.length = 2 from hxl)
  have t0 : DataW.trod enc Tryz.prog W 0 (fun _ => true) true n 94 ((cs.drop 0).take 1) = some y0 := h0
  have t1 : DataW.trod enc Tryz.prog W 0 (fun _ => true) true n 82 ((cs.drop 1).take 4) = some y1 := h1
  obtain ⟨a, e0, _, _⟩ := DataW.trod_int Tryz.underlying94 t0
  obtain ⟨v, k, m, s, e1⟩ := term_cells t1
  refine ⟨a, v, k, m, s, ?_⟩
  have h := cut_at cs 0 1 1 rfl
  rw [cut_at cs 1 4 5 rfl, e0, e1, List.drop_of_length_le (i := 5) (by omega)] at h
  exact h

theorem flatten_one {α : Type} (f : α → Value) : ∀ l : List α, (l.map fun s => [f s]).flatten = l.map f
  | [] => rfl
  | a :: l => by simp [flatten_one f l]
theorem Ex.liesL_of : ∀ {es : List Ex}, (∀ e ∈ es, e.lies W) → Ex.liesL W es
  | [], _ => by unfold Ex.liesL; trivial
  | e :: es, h => by
    unfold Ex.liesL
    exact ⟨h e List.mem_cons_self, Ex.liesL_of fun e he => h e (List.mem_cons_of_mem _ he)⟩

set_option maxRecDepth 100000 in
theorem ex_shape : ∀ (fuel : Nat) {cs : List Value} {x : DataW H × List MemPlace}, DataW.trod enc Tryz.prog W 0 (fun _ => true) true fuel 91 cs = some x → Small 91 x.1 → ∃ e : Ex, cs = e.cells ∧ e.lies W := by
  intro fuel
  induction fuel using Nat.strongRecOn with
  | _ fuel ih =>
    intro cs x hf hs
    obtain ⟨xs, fu, hfu, hx, hl, hxl, hfld⟩ := DataW.trod_struct Tryz.underlying91 hf
    have hl6 : cs.length = 6 := hl.trans (by kernel_rfl)
    have h0 := hfld 0 _ rfl
    have h1 := hfld 1 _ rfl
    have h2 := hfld 2 _ rfl
    obtain ⟨y0, y1, y2, rfl⟩ := three_of (show xs.length = 3 from hxl)
    have t0 : DataW.trod enc Tryz.prog W 0 (fun _ => true) true fu 88 ((cs.drop 0).take 1) = some y0 := h0
    have t1 : DataW.trod enc Tryz.prog W 0 (fun _ => true) true fu 82 ((cs.drop 1).take 4) = some y1 := h1
    have t2 : DataW.trod enc Tryz.prog W 0 (fun _ => true) true fu 89 ((cs.drop 5).take 1) = some y2 := h2
    rw [hx] at hs
    have s2 : Small 89 y2.1 := hs.part Tryz.underlying91 2 rfl rfl
    obtain ⟨q, e0, _, _⟩ := DataW.trod_int Tryz.underlying88 t0
    obtain ⟨v, k, m, s, e1⟩ := term_cells t1
    obtain ⟨A, cap, kids, e2, hrd, hlies, hlen⟩ := slice_shape (c := 5) (bytes := 80) Ex.cells (fun e => e.lies W) (fun e _ => e.cells_length) Tryz.underlying89 (by kernel_rfl) (by kernel_rfl) t2 s2 (fun n cs' y hn ht hsm => ih n (by omega) ht hsm)
    refine ⟨.mk q v k m s A cap kids, ?_, ?_⟩
    · have h := cut_at cs 0 1 1 rfl
      rw [cut_at cs 1 4 5 rfl, cut_at cs 5 1 6 rfl, e0, e1, e2, List.drop_of_length_le (i := 6) (by omega)] at h
      exact h
    · unfold Ex.lies
      exact ⟨hrd, hlen, Ex.liesL_of hlies⟩

set_option maxRecDepth 100000 in
theorem li_shape {fuel : Nat} {cs : List Value} {x : DataW H × List MemPlace} (hf : DataW.trod enc Tryz.prog W 0 (fun _ => true) true fuel 93 cs = some x) (hs : Small 93 x.1) : ∃ l : Li, cs = l.cells ∧ l.lies W := by
  obtain ⟨xs, fu, hfu, hx, hl, hxl, hfld⟩ := DataW.trod_struct Tryz.underlying93 hf
  have hl16 : cs.length = 16 := hl.trans (by kernel_rfl)
  have h0 := hfld 0 _ rfl
  have h1 := hfld 1 _ rfl
  have h2 := hfld 2 _ rfl
  have h3 := hfld 3 _ rfl
  have h4 := hfld 4 _ rfl
  obtain ⟨y0, y1, y2, y3, y4, rfl⟩ := five_of (show xs.length = 5 from hxl)
  have t0 : DataW.trod enc Tryz.prog W 0 (fun _ => true) true fu 83 ((cs.drop 0).take 1) = some y0 := h0
  have t1 : DataW.trod enc Tryz.prog W 0 (fun _ => true) true fu 86 ((cs.drop 1).take 2) = some y1 := h1
  have t2 : DataW.trod enc Tryz.prog W 0 (fun _ => true) true fu 87 ((cs.drop 3).take 1) = some y2 := h2
  have t3 : DataW.trod enc Tryz.prog W 0 (fun _ => true) true fu 91 ((cs.drop 4).take 6) = some y3 := h3
  have t4 : DataW.trod enc Tryz.prog W 0 (fun _ => true) true fu 91 ((cs.drop 10).take 6) = some y4 := h4
  rw [hx] at hs
  have s1 : Small 86 y1.1 := hs.part Tryz.underlying93 1 rfl rfl
  have s3 : Small 91 y3.1 := hs.part Tryz.underlying93 3 rfl rfl
  have s4 : Small 91 y4.1 := hs.part Tryz.underlying93 4 rfl rfl
  obtain ⟨k, e0, _, _⟩ := DataW.trod_int Tryz.underlying83 t0
  obtain ⟨rl, e2, _, _⟩ := DataW.trod_int Tryz.underlying87 t2
  obtain ⟨l, e3, hl3⟩ := ex_shape _ t3 s3
  obtain ⟨r, e4, hl4⟩ := ex_shape _ t4 s4
  obtain ⟨zs, fv, hfv, hz, hzl', hzl, hfld2⟩ := DataW.trod_struct Tryz.underlying86 t1
  have g0 := hfld2 0 _ rfl
  have g1 := hfld2 1 _ rfl
  obtain ⟨z0, z1, rfl⟩ := two_of (show zs.length = 2 from hzl)
  have u0 : DataW.trod enc Tryz.prog W 0 (fun _ => true) true fv 9 ((((cs.drop 1).take 2).drop 0).take 1) = some z0 := g0
  have u1 : DataW.trod enc Tryz.prog W 0 (fun _ => true) true fv 84 ((((cs.drop 1).take 2).drop 1).take 1) = some z1 := g1
  rw [hz] at s1
  have s5 : Small 84 z1.1 := s1.part Tryz.underlying86 1 rfl rfl
  obtain ⟨p, e5, _, _⟩ := DataW.trod_string Tryz.underlying9 u0
  obtain ⟨A, cap, args, e6, hrd, hok, hlen⟩ := slice_shape (c := 3) (bytes := 48) (fun r : List Value => r) OkTerm (fun r h => h.len) Tryz.underlying84 (by kernel_rfl) (by kernel_rfl) u1 s5 (fun n cs' y hn ht hsm => ⟨cs', rfl, term_cells ht⟩)
  rw [List.map_id'] at hrd
  refine ⟨⟨k, rl, p, A, cap, args, l, r⟩, ?_, hrd, hok, hlen, hl3, hl4⟩
  have e7 := cut_at ((cs.drop 1).take 2) 0 1 1 rfl
  rw [cut_at ((cs.drop 1).take 2) 1 1 2 rfl, e5, e6, List.drop_of_length_le (i := 2) (by rw [List.length_take]; omega)] at e7
  have h := cut_at cs 0 1 1 rfl
  rw [List.drop_zero] at e7
  rw [cut_at cs 1 2 3 rfl, cut_at cs 3 1 4 rfl, cut_at cs 4 6 10 rfl, cut_at cs 10 6 16 rfl, e0, e7, e2, e3, e4, List.drop_of_length_le (i := 16) (by omega)] at h
  rw [List.drop_zero] at h
  rw [h]
  simp [Li.cells]

set_option maxRecDepth 100000 in
theorem sp_shape {fuel : Nat} {cs : List Value} {x : DataW H × List MemPlace} (hf : DataW.trod enc Tryz.prog W 0 (fun _ => true) true fuel 102 cs = some x) (hs : Small 102 x.1) : ∃ l : Sp, cs = l.cells ∧ l.lies W := by
  obtain ⟨xs, fu, hfu, hx, hl, hxl, hfld⟩ := DataW.trod_struct Tryz.underlying102 hf
  have hl4 : cs.length = 4 := hl.trans (by kernel_rfl)
  have h0 := hfld 0 _ rfl
  have h1 := hfld 1 _ rfl
  have h2 := hfld 2 _ rfl
  have h3 := hfld 3 _ rfl
  obtain ⟨y0, y1, y2, y3, rfl⟩ := four_of (show xs.length = 4 from hxl)
  have t0 : DataW.trod enc Tryz.prog W 0 (fun _ => true) true fu 97 ((cs.drop 0).take 1) = some y0 := h0
  have t1 : DataW.trod enc Tryz.prog W 0 (fun _ => true) true fu 3 ((cs.drop 1).take 1) = some y1 := h1
  have t2 : DataW.trod enc Tryz.prog W 0 (fun _ => true) true fu 100 ((cs.drop 2).take 1) = some y2 := h2
  have t3 : DataW.trod enc Tryz.prog W 0 (fun _ => true) true fu 98 ((cs.drop 3).take 1) = some y3 := h3
  rw [hx] at hs
  have s3 : Small 98 y3.1 := hs.part Tryz.underlying102 3 rfl rfl
  obtain ⟨k, e0, _, _⟩ := DataW.trod_int Tryz.underlying97 t0
  obtain ⟨l, e1, _, _⟩ := DataW.trod_int Tryz.underlying3 t1
  obtain ⟨m, e2, _, _⟩ := DataW.trod_int Tryz.underlying100 t2
  obtain ⟨A, cap, gives, e3, hrd, _, hlen⟩ := slice_shape (c := 0) (bytes := 16) (fun s : ByteArray => [Value.string s]) (fun _ => True) (fun _ _ => rfl) Tryz.underlying98 (by kernel_rfl) (by kernel_rfl) t3 s3 (fun n cs' y hn ht hsm => by
    obtain ⟨s, h, _, _⟩ := DataW.trod_string Tryz.underlying9 ht
    exact ⟨s, h, trivial⟩)
  rw [flatten_one] at hrd
  refine ⟨⟨k, l, m, A, cap, gives⟩, ?_, hrd, hlen⟩
  have h := cut_at cs 0 1 1 rfl
  rw [cut_at cs 1 1 2 rfl, cut_at cs 2 1 3 rfl, cut_at cs 3 1 4 rfl, e0, e1, e2, e3, List.drop_of_length_le (i := 4) (by omega)] at h
  exact h

set_option maxRecDepth 100000 in
theorem ru_shape {fuel : Nat} {cs : List Value} {x : DataW H × List MemPlace} (hf : DataW.trod enc Tryz.prog W 0 (fun _ => true) true fuel 28 cs = some x) (hs : Small 28 x.1) : ∃ l : Ru, cs = l.cells ∧ l.lies W := by
  obtain ⟨xs, fu, hfu, hx, hl, hxl, hfld⟩ := DataW.trod_struct Tryz.underlying28 hf
  have hl3 : cs.length = 3 := hl.trans (by kernel_rfl)
  have h0 := hfld 0 _ rfl
  have h1 := hfld 1 _ rfl
  have h2 := hfld 2 _ rfl
  obtain ⟨y0, y1, y2, rfl⟩ := three_of (show xs.length = 3 from hxl)
  have t0 : DataW.trod enc Tryz.prog W 0 (fun _ => true) true fu 9 ((cs.drop 0).take 1) = some y0 := h0
  have t1 : DataW.trod enc Tryz.prog W 0 (fun _ => true) true fu 25 ((cs.drop 1).take 1) = some y1 := h1
  have t2 : DataW.trod enc Tryz.prog W 0 (fun _ => true) true fu 26 ((cs.drop 2).take 1) = some y2 := h2
  rw [hx] at hs
  have s1 : Small 25 y1.1 := hs.part Tryz.underlying28 1 rfl rfl
  have s2 : Small 26 y2.1 := hs.part Tryz.underlying28 2 rfl rfl
  obtain ⟨p, e0, _, _⟩ := DataW.trod_string Tryz.underlying9 t0
  obtain ⟨A, cap, head, e1, hrd1, hok, hlen1⟩ := slice_shape (c := 4) (bytes := 56) (fun r : List Value => r) OkArg (fun r h => h.len) Tryz.underlying25 (by kernel_rfl) (by kernel_rfl) t1 s1 (fun n cs' y hn ht hsm => ⟨cs', rfl, arg_cells ht⟩)
  rw [List.map_id'] at hrd1
  obtain ⟨B, capB, body, e2, hrd2, hlies, hlen2⟩ := slice_shape (c := 15) (bytes := 216) Li.cells (fun l => l.lies W) (fun l _ => l.cells_length) Tryz.underlying26 (by kernel_rfl) (by kernel_rfl) t2 s2 (fun n cs' y hn ht hsm => li_shape ht hsm)
  refine ⟨⟨p, A, cap, head, B, capB, body⟩, ?_, hrd1, hok, hlen1, hrd2, hlen2, hlies⟩
  have h := cut_at cs 0 1 1 rfl
  rw [cut_at cs 1 1 2 rfl, cut_at cs 2 1 3 rfl, e0, e1, e2, List.drop_of_length_le (i := 3) (by omega)] at h
  exact h

set_option maxRecDepth 100000 in
theorem pl_shape {fuel : Nat} {cs : List Value} {x : DataW H × List MemPlace} (hf : DataW.trod enc Tryz.prog W 0 (fun _ => true) true fuel 31 cs = some x) (hs : Small 31 x.1) : ∃ l : Pl, cs = l.cells ∧ l.lies W := by
  obtain ⟨xs, fu, hfu, hx, hl, hxl, hfld⟩ := DataW.trod_struct Tryz.underlying31 hf
  have hl4 : cs.length = 4 := hl.trans (by kernel_rfl)
  have h0 := hfld 0 _ rfl
  have h1 := hfld 1 _ rfl
  obtain ⟨y0, y1, rfl⟩ := two_of (show xs.length = 2 from hxl)
  have t0 : DataW.trod enc Tryz.prog W 0 (fun _ => true) true fu 28 ((cs.drop 0).take 3) = some y0 := h0
  have t1 : DataW.trod enc Tryz.prog W 0 (fun _ => true) true fu 29 ((cs.drop 3).take 1) = some y1 := h1
  rw [hx] at hs
  have s0 : Small 28 y0.1 := hs.part Tryz.underlying31 0 rfl rfl
  have s1 : Small 29 y1.1 := hs.part Tryz.underlying31 1 rfl rfl
  obtain ⟨rule, e0, hr⟩ := ru_shape t0 s0
  obtain ⟨A, cap, steps, e1, hrd, hlies, hlen⟩ := slice_shape (c := 3) (bytes := 48) Sp.cells (fun l => l.lies W) (fun l _ => l.cells_length) Tryz.underlying29 (by kernel_rfl) (by kernel_rfl) t1 s1 (fun n cs' y hn ht hsm => sp_shape ht hsm)
  refine ⟨⟨rule, A, cap, steps⟩, ?_, hr, hrd, hlen, hlies⟩
  have h := cut_at cs 0 3 3 rfl
  rw [cut_at cs 3 1 4 rfl, e0, e1, List.drop_of_length_le (i := 4) (by omega)] at h
  exact h

/-- a call that came in. -/
structure Ov where
  on : Int
  kind : Int
  p : ByteArray
  A : Option Addr
  cap : Nat
  args : List (List Value)
  plan : Pl
  B : Option Addr
  capB : Nat
  from_ : List Int
  C : Option Addr
  capC : Nat
  to_ : List Int
def Ov.cells (o : Ov) : List Value := [.int .i64 o.on, .int .i64 o.kind, .string o.p, .slice o.A o.args.length o.cap] ++ (o.plan.cells ++ [.slice o.B o.from_.length o.capB, .slice o.C o.to_.length o.capC])
structure Ov.lies (o : Ov) (w : World) : Prop where
  rd : Rd w o.A o.args.flatten
  ok : ∀ a ∈ o.args, OkValue a
  len : o.args.length * 32 ≤ 140737488351232
  plan : o.plan.lies w
  rdB : Rd w o.B (o.from_.map (Value.int .i64))
  lenB : o.from_.length * 8 ≤ 140737488351232
  rdC : Rd w o.C (o.to_.map (Value.int .i64))
  lenC : o.to_.length * 8 ≤ 140737488351232
theorem Ov.lies.below {o : Ov} {w W : World} (h : o.lies w) (hb : Below w.heap.size w W) : o.lies W :=
  ⟨h.rd.below hb (Nat.le_refl _), h.ok, h.len, h.plan.below hb, h.rdB.below hb (Nat.le_refl _), h.lenB, h.rdC.below hb (Nat.le_refl _), h.lenC⟩

set_option maxRecDepth 100000 in
theorem ints_shape {fuel : Nat} {cs : List Value} {x : DataW H × List MemPlace} (hf : DataW.trod enc Tryz.prog W 0 (fun _ => true) true fuel 32 cs = some x) (hs : Small 32 x.1) :
    ∃ (A : Option Addr) (cap : Nat) (l : List Int), cs = [.slice A l.length cap] ∧ Rd W A (l.map (Value.int .i64)) ∧ l.length * 8 ≤ 140737488351232 := by
  obtain ⟨A, cap, l, e, hrd, _, hlen⟩ := slice_shape (c := 0) (bytes := 8) (fun i : Int => [Value.int .i64 i]) (fun _ => True) (fun _ _ => rfl) Tryz.underlying32 (by kernel_rfl) (by kernel_rfl) hf hs (fun n cs' y hn ht hsm => by
    obtain ⟨s, h, _, _⟩ := DataW.trod_int Tryz.underlying3 ht
    exact ⟨s, h, trivial⟩)
  rw [flatten_one] at hrd
  exact ⟨A, cap, l, e, hrd, hlen⟩

set_option maxRecDepth 100000 in
theorem ov_shape {fuel : Nat} {cs : List Value} {x : DataW H × List MemPlace} (hf : DataW.trod enc Tryz.prog W 0 (fun _ => true) true fuel 34 cs = some x) (hs : Small 34 x.1) : ∃ o : Ov, cs = o.cells ∧ o.lies W := by
  obtain ⟨xs, fu, hfu, hx, hl, hxl, hfld⟩ := DataW.trod_struct Tryz.underlying34 hf
  have hl10 : cs.length = 10 := hl.trans (by kernel_rfl)
  have h0 := hfld 0 _ rfl
  have h1 := hfld 1 _ rfl
  have h2 := hfld 2 _ rfl
  have h3 := hfld 3 _ rfl
  have h4 := hfld 4 _ rfl
  have h5 := hfld 5 _ rfl
  obtain ⟨y0, y1, y2, y3, y4, y5, rfl⟩ := six_of_ (show xs.length = 6 from hxl)
  have t0 : DataW.trod enc Tryz.prog W 0 (fun _ => true) true fu 3 ((cs.drop 0).take 1) = some y0 := h0
  have t1 : DataW.trod enc Tryz.prog W 0 (fun _ => true) true fu 3 ((cs.drop 1).take 1) = some y1 := h1
  have t2 : DataW.trod enc Tryz.prog W 0 (fun _ => true) true fu 24 ((cs.drop 2).take 2) = some y2 := h2
  have t3 : DataW.trod enc Tryz.prog W 0 (fun _ => true) true fu 31 ((cs.drop 4).take 4) = some y3 := h3
  have t4 : DataW.trod enc Tryz.prog W 0 (fun _ => true) true fu 32 ((cs.drop 8).take 1) = some y4 := h4
  have t5 : DataW.trod enc Tryz.prog W 0 (fun _ => true) true fu 32 ((cs.drop 9).take 1) = some y5 := h5
  rw [hx] at hs
  have s2 : Small 24 y2.1 := hs.part Tryz.underlying34 2 rfl rfl
  have s3 : Small 31 y3.1 := hs.part Tryz.underlying34 3 rfl rfl
  have s4 : Small 32 y4.1 := hs.part Tryz.underlying34 4 rfl rfl
  have s5 : Small 32 y5.1 := hs.part Tryz.underlying34 5 rfl rfl
  obtain ⟨on, e0, _, _⟩ := DataW.trod_int Tryz.underlying3 t0
  obtain ⟨kind, e1, _, _⟩ := DataW.trod_int Tryz.underlying3 t1
  obtain ⟨plan, e3, hpl⟩ := pl_shape t3 s3
  obtain ⟨B, capB, from_, e4, hrB, hlB⟩ := ints_shape t4 s4
  obtain ⟨C, capC, to_, e5, hrC, hlC⟩ := ints_shape t5 s5
  obtain ⟨zs, fv, hfv, hz, hzl', hzl, hfld2⟩ := DataW.trod_struct Tryz.underlying24 t2
  have g0 := hfld2 0 _ rfl
  have g1 := hfld2 1 _ rfl
  obtain ⟨z0, z1, rfl⟩ := two_of (show zs.length = 2 from hzl)
  have u0 : DataW.trod enc Tryz.prog W 0 (fun _ => true) true fv 9 ((((cs.drop 2).take 2).drop 0).take 1) = some z0 := g0
  have u1 : DataW.trod enc Tryz.prog W 0 (fun _ => true) true fv 22 ((((cs.drop 2).take 2).drop 1).take 1) = some z1 := g1
  rw [hz] at s2
  have s6 : Small 22 z1.1 := s2.part Tryz.underlying24 1 rfl rfl
  obtain ⟨p, e6, _, _⟩ := DataW.trod_string Tryz.underlying9 u0
  obtain ⟨A, cap, args, e7, hrd, hok, hlen⟩ := slice_shape (c := 2) (bytes := 32) (fun r : List Value => r) OkValue (fun r h => h.len) Tryz.underlying22 (by kernel_rfl) (by kernel_rfl) u1 s6 (fun n cs' y hn ht hsm => ⟨cs', rfl, value_cells ht⟩)
  rw [List.map_id'] at hrd
  refine ⟨⟨on, kind, p, A, cap, args, plan, B, capB, from_, C, capC, to_⟩, ?_, hrd, hok, hlen, hpl, hrB, hlB, hrC, hlC⟩
  have e8 := cut_at ((cs.drop 2).take 2) 0 1 1 rfl
  rw [cut_at ((cs.drop 2).take 2) 1 1 2 rfl, e6, e7, List.drop_of_length_le (l := (cs.drop 2).take 2) (i := 2) (by rw [List.length_take]; omega)] at e8
  rw [List.drop_zero] at e8
  have h := cut_at cs 0 1 1 rfl
  rw [cut_at cs 1 1 2 rfl, cut_at cs 2 2 4 rfl, cut_at cs 4 4 8 rfl, cut_at cs 8 1 9 rfl, cut_at cs 9 1 10 rfl, e0, e1, e8, e3, e4, e5, List.drop_of_length_le (i := 10) (by omega)] at h
  exact h
end

end Go.Proofs.YtgjdgincebchhaaGreatDoor

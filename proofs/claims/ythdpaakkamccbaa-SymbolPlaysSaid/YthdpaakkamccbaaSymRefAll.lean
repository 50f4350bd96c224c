/-
  Walk: the document's All: the values with their numbers, as a list.
-/
import Derived.Test.YthdpaakkamccbaaSymAll
namespace Go.Proofs.Ythdpaakkamccbaa
open Go.RowKit Go.Maps

def ncell (x : Nat × Val) : List Value := [.int .i32 (x.1 : Int), .int .i8 x.2.k, .int .i64 x.2.n, .string x.2.s]
def ncells (l : List (Nat × Val)) : List Value := l.flatMap ncell
theorem ncells_length (l : List (Nat × Val)) : (ncells l).length = l.length * 4 := by
  induction l with
  | nil => rfl
  | cons x l ih => show (ncell x ++ ncells l).length = _; rw [List.length_append, ih]; simp [ncell]; omega
theorem ncells_append (a b : List (Nat × Val)) : ncells (a ++ b) = ncells a ++ ncells b := by simp [ncells]
theorem ncells_at (l : List (Nat × Val)) (i : Nat) (h : i < l.length) : (ncells l)[i * 4]? = some (.int .i32 ((l[i]).1 : Int)) ∧ (ncells l)[i * 4 + 1]? = some (.int .i8 (l[i]).2.k) ∧ (ncells l)[i * 4 + 2]? = some (.int .i64 (l[i]).2.n) ∧ (ncells l)[i * 4 + 3]? = some (.string (l[i]).2.s) := by
  induction l generalizing i with
  | nil => simp at h
  | cons x l ih =>
    cases i with
    | zero => exact ⟨rfl, rfl, rfl, rfl⟩
    | succ i =>
      have := ih i (by simpa using h)
      have e : ncells (x :: l) = .int .i32 (x.1 : Int) :: .int .i8 x.2.k :: .int .i64 x.2.n :: .string x.2.s :: ncells l := rfl
      rw [e, show (i + 1) * 4 = i * 4 + 4 from by omega]
      simpa using this

/-- numbered values in a block of their own, or none. -/
def RowN (w : World) (A : Option Addr) (cap : Nat) (l : List (Nat × Val)) : Prop := w.ownsRow 0 85 4 (.slice A l.length cap) l.length (ncells l)
theorem RowN.form {w : World} {A : Option Addr} {cap : Nat} {l : List (Nat × Val)} (h : RowN w A cap l) : (A = none ∧ cap = 0 ∧ l = []) ∨ ∃ g, A = some ⟨g, 0, none⟩ ∧ g < w.heap.size ∧ l.length ≤ cap ∧ cap ≤ maxLen := by
  obtain ⟨h1, h2⟩ := h
  rcases h2 with ⟨e, h0⟩ | ⟨g, c, cur, e, _, hh, hn, hc, hs, ht⟩
  · injection e with e1 e2 e3
    exact .inl ⟨e1, e3, List.eq_nil_of_length_eq_zero h0⟩
  · injection e with e1 e2 e3
    subst e3
    exact .inr ⟨g, e1, (Array.getElem?_eq_some_iff.1 hh).1, hn, hc⟩
theorem RowN.same {w w' : World} {A : Option Addr} {cap : Nat} {l : List (Nat × Val)} (h : RowN w A cap l) (hb : ∀ g ∈ blkOf A, w'.heap[g]? = w.heap[g]?) : RowN w' A cap l :=
  ownsRow_same h (fun g hg => hb g (by cases A <;> simp_all [Value.ownBlock, blkOf]))
theorem RowN.lt {w : World} {A : Option Addr} {cap : Nat} {l : List (Nat × Val)} (h : RowN w A cap l) : ∀ g ∈ blkOf A, g < w.heap.size := by
  rcases h.form with ⟨rfl, _⟩ | ⟨g, rfl, hg, _⟩
  · simp [blkOf]
  · simpa [blkOf] using hg
theorem RowN.below {w w' : World} {A : Option Addr} {cap : Nat} {l : List (Nat × Val)} (h : RowN w A cap l) (hb : Below w.heap.size w w') : RowN w' A cap l := h.same fun g hg => hb.block g (h.lt g hg)
theorem RowN.nil_ (w : World) : RowN w none 0 [] := World.ownsRow_nil w 0 _ _
theorem RowN.four {w : World} {g cap : Nat} {l : List (Nat × Val)} (h : RowN w (some ⟨g, 0, none⟩) cap l) (i : Nat) (hi : i < l.length) :
    w.cell? ⟨g, i * 4, none⟩ = some (.int .i32 ((l[i]).1 : Int)) ∧ w.cell? ⟨g, i * 4 + 1, none⟩ = some (.int .i8 (l[i]).2.k) ∧ w.cell? ⟨g, i * 4 + 2, none⟩ = some (.int .i64 (l[i]).2.n) ∧ w.cell? ⟨g, i * 4 + 3, none⟩ = some (.string (l[i]).2.s) := by
  obtain ⟨h1, h2, h3, h4⟩ := ncells_at l i hi
  exact ⟨(World.ownsRow.cellAt h _ (by omega)).trans h1, (World.ownsRow.cellAt h _ (by omega)).trans h2, (World.ownsRow.cellAt h _ (by omega)).trans h3, (World.ownsRow.cellAt h _ (by omega)).trans h4⟩
theorem RowN.of_own {w : World} {v : Value} {l : List (Nat × Val)} {n : Nat} (hn : l.length = n) (h : w.ownsRow 0 85 4 v n (ncells l)) : ∃ A cap, v = .slice A n cap ∧ RowN w A cap l ∧ v.ownBlock = (blkOf A).head? := by
  rcases h.2 with ⟨rfl, h0⟩ | ⟨g, cap, cur, rfl, h2⟩
  · refine ⟨none, 0, by rw [h0], ?_, rfl⟩
    unfold RowN
    rw [hn]
    rw [h0] at h ⊢
    exact h
  · refine ⟨some ⟨g, 0, none⟩, cap, rfl, ?_, rfl⟩
    unfold RowN
    rw [hn]
    exact h

theorem infoN : (Try.prog.info? 85).map (fun i => (i.zero, i.size, i.bytes)) = some (some (.agg #[.int .i32 0, .int .i8 0, .int .i64 0, .string ⟨#[]⟩]), 4, 40) := by kernel_rfl
theorem build_numb (a : Int) (k n : Int) (s : ByteArray) (w : World) : (Instr.build 85 #[(0, .int .i32 a), (1, .agg #[.int .i8 k, .int .i64 n, .string s])]).run Try.prog w = .ok (.agg #[.int .i32 a, .int .i8 k, .int .i64 n, .string s]) w := run_build w 85 _ _ (by kernel_rfl)
theorem cells4_new (w : World) (a b c d : Value) (t : TypeId) : ∀ j u, [a, b, c, d][j]? = some u → (w.alloc (.cells #[a, b, c, d] t)).cell? ((⟨w.heap.size, 0, none⟩ : Addr).add j) = some u := by
  intro j u hj
  have hb := Blk.new w t #[a, b, c, d]
  match j, hj with
  | 0, hj => simp at hj; subst hj; exact hb.cell 0
  | 1, hj => simp at hj; subst hj; exact hb.cell 1
  | 2, hj => simp at hj; subst hj; exact hb.cell 2
  | 3, hj => simp at hj; subst hj; exact hb.cell 3
theorem four_one (a k n : Int) (s : ByteArray) : ∀ u ∈ [Value.int .i32 a, .int .i8 k, .int .i64 n, .string s], u.oneCell' = true := by
  intro u hu; simp at hu; rcases hu with rfl | rfl | rfl | rfl <;> rfl

set_option maxRecDepth 100000 in
set_option maxHeartbeats 2000000 in
theorem ref_all {w : World} {rb most : Nat} {vs : List Val} {S : List Nat} (h : RTab w rb most vs S) :
    Calls Try.prog 28 #[.pointer (some ⟨rb, 0, none⟩)] w fun e w' => ∃ A cap, e = .returned (.slice A vs.length cap) ∧ RowN w' A cap (numb vs) ∧ (∀ g ∈ blkOf A, w.heap.size ≤ g) ∧ Below w.heap.size w w' := by
  have hl := Lib.hid (fun W (hb : Below w.heap.size w W) => ref_len (h.below hb))
  obtain ⟨A, cap, ht, _⟩ := h
  have hle : vs.length ≤ 2147483647 := Nat.le_trans ht.le ht.most
  have Ht := Lib.hid ht
  obtain ⟨n, hn⟩ : ∃ n, vs.length = n := ⟨_, rfl⟩
  have Hn := Lib.hid hn
  rw [hn] at hle hl ⊢
  clear ht hn
  obtain ⟨i0, hi, hz0, hz1, hz2⟩ := info_parts infoN
  have hbn := build_numb
  go_enter Try.func28, Try.ntmps28
  go_wp2
  go_loopg [3, 4] n (fun gk l i wx => ∃ (k : Nat) (A' : Option Addr) (cap' : Nat), k ≤ n ∧ gk = n - k ∧ i = .int .i64 k ∧ l = .slice A' k cap' ∧ RowN wx A' cap' ((numb vs).take k) ∧ (∀ g ∈ blkOf A', w.heap.size ≤ g) ∧ Below w.heap.size w wx)
  case atStart => exact ⟨0, none, 0, Nat.zero_le _, rfl, rfl, rfl, RowN.nil_ _, by simp [blkOf], Below.refl _ _⟩
  case round =>
    obtain ⟨k, A', cap', hk, rfl, rfl, rfl, hrow, hfr, hb⟩ := hrel
    obtain ⟨wo, rfl⟩ : ∃ wo : World, wo = wr := ⟨_, rfl⟩
    have hl1 := Lib.hid (hl.out wo hb)
    have c2 : wo.cell? ⟨rb, 2, none⟩ = some (.slice A n cap) := by rw [← Hn.out]; exact (hb.cell Ht.out.blk.lt).trans (Ht.out.blk.cell 2)
    by_cases hlt : k < n
    · have hkl : k < vs.length := by rw [Hn.out]; exact hlt
      obtain ⟨gv, rfl⟩ : ∃ g, A = some ⟨g, 0, none⟩ := by
        rcases Ht.out.row.form with ⟨_, _, h⟩ | ⟨g, h, _⟩
        · rw [h] at hkl; simp at hkl
        · exact ⟨g, h⟩
      obtain ⟨d0, d1, d2⟩ := (Ht.out.row.below_ hb).three k hkl
      have htk := numb_take vs k hkl
      have hlk : ((numb vs).take k).length = k := by rw [List.length_take, numb_length]; omega
      have hw32 : IntKind.i32.wrap (k : Int) = k := IntWalk.i32_in _ ⟨by omega, by omega⟩
      generalize vs[k] = v at d0 d1 d2 htk
      obtain ⟨vk, vn, s⟩ := v
      simp only at d0 d1 d2
      have hown : wo.ownsRow 0 85 4 (.slice A' k cap') k (ncells ((numb vs).take k)) := by unfold RowN at hrow; rw [hlk] at hrow; exact hrow
      have Hown := Lib.hid hown
      have Hfr := Lib.hid hfr
      have Hb := Lib.hid hb
      have Htk := Lib.hid htk
      have Hlk := Lib.hid hlk
      have Hc1 := Lib.hid (cells4_new wo (.int .i32 (k : Int)) (.int .i8 vk) (.int .i64 vn) (.string s) 85)
      have Hc2 := Lib.hid (four_one (k : Int) vk vn s)
      have h63t : k + 1 ≤ maxLen := by unfold maxLen; omega
      have h32t : (k + 1) * 40 ≤ 140737488355328 := by omega
      clear hown hrow hfr htk hlk hkl
      go_wp2_with (first
        | (go_at_call 25; refine hl1.out.mono ?_; rintro e w' ⟨rfl, hw1⟩; obtain rfl : wo = w' := hw1.symm)
        | (at_builtin; refine wpList_append_own_at _ rfl _ _ 72 rfl 0 85 i0 _ 4 40 Try.underlying72 hi hz0 hz1 hz2 rfl (by decide) _ k _ rfl (Hown.out.alloc _) ⟨wo.heap.size, 0, none⟩ 1 1 [.int .i32 (k : Int), .int .i8 vk, .int .i64 vn, .string s] rfl rfl Hc1.out Hc2.out h63t h32t (Nat.zero_le _) ?_))
      intro v' W4 hown4 hgrow4 hnil4 hloc4
      have hxs : ncells ((numb vs).take k) ++ [.int .i32 (k : Int), .int .i8 vk, .int .i64 vn, .string s] = ncells ((numb vs).take (k + 1)) := by
        rw [Htk.out, ncells_append]; rfl
      rw [hxs] at hown4
      obtain ⟨A4, cap4, rfl, hrow4, hob4⟩ := RowN.of_own (l := (numb vs).take (k + 1)) (by rw [Htk.out, List.length_append, Hlk.out]; rfl) hown4
      have hob : ∀ g, (Value.slice A' k cap').ownBlock = some g → w.heap.size ≤ g := fun g hg => Hfr.out g (own_blk _ _ _ _ hg)
      have hbel4 : Below w.heap.size w W4 := (hb.alloc hb.size _).grown hgrow4 (by have := hb.size; simp; omega) hob
      have hfr4 : ∀ g ∈ blkOf A4, w.heap.size ≤ g := fun g hg => by
        have hg2 : (Value.slice A4 (k + 1) cap4).ownBlock = some g := by
          cases A4 with
          | none => simp [blkOf] at hg
          | some a => simp [blkOf] at hg; simp [Value.ownBlock, hg]
        rcases hloc4 with h | h
        · exact hob g (by rw [← h]; exact hg2)
        · have h2 := hg2.symm.trans h
          injection h2 with h2
          have h3 := hb.size
          have h4 : (wo.alloc (.cells #[.int .i32 (k : Int), .int .i8 vk, .int .i64 vn, .string s] 85)).heap.size = wo.heap.size + 1 := (tup_new wo _ _).2.2
          omega
      have Hrow4 := Lib.hid hrow4
      have Hbel4 := Lib.hid hbel4
      have Hfr4 := Lib.hid hfr4
      clear hown4 hgrow4 hnil4 hloc4 hrow4 hbel4 hfr4 hob hob4 hxs
      go_wp2
      go_roundg (n - (k + 1))
      case measure => omega
      case rel => exact ⟨k + 1, A4, cap4, by omega, rfl, by go_num, rfl, Hrow4.out, Hfr4.out, Hbel4.out⟩
    · obtain rfl : k = n := by omega
      have hend : (numb vs).take k = numb vs := List.take_of_length_le (by rw [numb_length, Hn.out]; exact Nat.le_refl _)
      rw [hend] at hrow
      clear hend
      go_wp2_with (go_at_call 25; refine hl1.out.mono ?_; rintro e w' ⟨rfl, hw1⟩; obtain rfl : wo = w' := hw1.symm)
      go_ret
      exact ⟨A', cap', rfl, hrow, hfr, hb⟩

theorem rt_all {w : World} {rv : Value} {st : St} {S : List Nat} (h : RT w rv st S) :
    Calls Try.prog 28 #[rv] w fun e w' => ∃ A cap, e = .returned (.slice A (stN st).length cap) ∧ RowN w' A cap (stN st) ∧ (∀ g ∈ blkOf A, w.heap.size ≤ g) ∧ Below w.heap.size w w' := by
  match st, h with
  | none, h =>
    obtain ⟨rfl, rfl⟩ := h
    exact (nil_all w).mono fun e w' ⟨he, hw⟩ => ⟨none, 0, he, RowN.nil_ _, by simp [blkOf], by rw [hw]; exact Below.refl _ _⟩
  | some (most, vs), h =>
    obtain ⟨rb, rfl, ht⟩ := h
    have := ref_all ht
    rw [← numb_length] at this
    exact this

theorem stN_le {w : World} {tv : Value} {st : St} {S : List Nat} (h : PT w tv st S) : (stN st).length ≤ 2147483647 := by
  match st, h with
  | none, _ => simp [stN]
  | some (most, vs), ⟨tb, _, ht⟩ =>
    obtain ⟨mb, A, cap, D, hta, _⟩ := ht
    rw [show stN (some (most, vs)) = numb vs from rfl, numb_length]
    exact Nat.le_trans hta.le hta.most

end Go.Proofs.Ythdpaakkamccbaa

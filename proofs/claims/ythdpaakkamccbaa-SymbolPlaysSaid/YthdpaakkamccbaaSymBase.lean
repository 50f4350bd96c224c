/-
  Values, their keys, and what a map of numbers by value says. No walk.
-/
import Derived.Test.YthdpaakkamccbaaRows
import Derived.WalkKit
import Derived.Maps.OwnSet
import Derived.DeepKeys4
import Derived.Lib.Hide
namespace Go.Proofs.Ythdpaakkamccbaa
open Go.RowKit Go.Maps

theorem laidOut : laidOutB Try.prog = true := by kernel_rfl

/-- A value of the program: its kind, its number, its text. -/
structure Val where
  k : Int
  n : Int
  s : ByteArray

theorem Val.ext_ {a b : Val} (h1 : a.k = b.k) (h2 : a.n = b.n) (h3 : a.s = b.s) : a = b := by cases a; cases b; simp_all

instance : DecidableEq Val := fun a b =>
  if h : a.k = b.k ∧ a.n = b.n ∧ a.s = b.s then isTrue (Val.ext_ h.1 h.2.1 h.2.2) else isFalse (fun e => h (by subst e; exact ⟨rfl, rfl, rfl⟩))

def Val.wf (v : Val) : Prop := (Lit.int .i8 v.k).wf = true ∧ (Lit.int .i64 v.n).wf = true ∧ v.s.size ≤ maxLen
def Val.cells (v : Val) : List Value := [.int .i8 v.k, .int .i64 v.n, .string v.s]
def Val.agg (v : Val) : Value := .agg #[.int .i8 v.k, .int .i64 v.n, .string v.s]

theorem Val.agg_inj {a b : Val} (h : a.agg = b.agg) : a = b := by
  unfold Val.agg at h
  simp at h
  exact Val.ext_ h.1 h.2.1 h.2.2

/-- may it be? (kind 1 without a text, kind 2 without a number and with a text of 200 bytes at most) -/
def Val.ok (v : Val) : Bool := (v.k == 1 && v.s.size == 0) || (v.k == 2 && v.n == 0 && decide (v.s.size ≤ 200))

/-! ### keys -/
theorem keyType_V : Try.prog.keyType 36 = true := by kernel_rfl
theorem cells_V : Try.prog.cellsOf 36 = 3 := by kernel_rfl
theorem cells_K : Try.prog.cellsOf 34 = 1 := by kernel_rfl
theorem cells_N : Try.prog.cellsOf 2 = 1 := by kernel_rfl
theorem cells_S : Try.prog.cellsOf 9 = 1 := by kernel_rfl
theorem tsize : Try.prog.types.size + 1 = (Try.prog.types.size - 1) + 1 + 1 := by kernel_rfl

theorem law : Keyed Try.prog 36 := Keyed.of_law (deep_law_laid laidOut (m := 3) (by omega) (of_decide_eq_true (by kernel_rfl)) (by kernel_rfl) (by kernel_rfl))

/-- the key as the reader has it. -/
def Val.lit (v : Val) : Lit := .string (keyBytes [.int .i8 v.k, .int .i64 v.n, .string v.s.data.toList])

theorem lits_V (d : Nat) (v : Val) (h : v.wf) : Try.prog.keyLits (d + 1 + 1) 36 v.cells = some [.int .i8 v.k, .int .i64 v.n, .string v.s.data.toList] := by
  obtain ⟨h1, h2, h3⟩ := h
  simp [Program.keyLits, Try.underlying36, Try.underlying34, Try.underlying2, Try.underlying9, Val.cells, cells_V, cells_K, cells_N, cells_S, h1, h2, h3]

theorem key_some (v : Val) (h : v.wf) : keyOf Try.prog 36 v.agg = some v.lit := by
  have e : (Try.prog.keyLits (Try.prog.types.size + 1) 36 v.agg.cells.toList) = some [.int .i8 v.k, .int .i64 v.n, .string v.s.data.toList] := by
    rw [tsize]
    exact lits_V _ v h
  unfold keyOf
  rw [Try.underlying36]
  simp only
  rw [keyType_V, e]
  simp [Val.agg, Value.formed, Try.underlying36, cells_V, Val.lit]

theorem lit_inj {a b : Val} (ha : a.wf) (hb : b.wf) (h : a.lit = b.lit) : a = b := by
  have h1 := key_some a ha
  have h2 := key_some b hb
  rw [← h] at h2
  exact Val.agg_inj (law.inj h1 h2)

theorem lit_key (v : Val) : WideAt.IsKeyLit v.lit := trivial

theorem zero_Sym (w : World) : (zeroValue 30).run Try.prog w = .ok (.int .i32 0) w := by kernel_rfl

/-- the map as read gives each of these values its place as number, and no other value any. -/
structure Nums (D : DataW Unit) (vs : List Val) : Prop where
  tidy : Tidy D
  size : Maps.size D = vs.length
  has : ∀ v : Val, v.wf → Maps.has D v.lit = decide (v ∈ vs)
  at_ : ∀ i (h : i < vs.length), D.atKey (vs[i]).lit (.lit (.int .i32 0)) = .lit (.int .i32 (i : Int))

theorem Nums.isMap {D : DataW Unit} {vs : List Val} (h : Nums D vs) : IsMap D := h.tidy.isMap

theorem Nums.none_ : Nums (.map []) [] := ⟨tidy_empty, rfl, fun v _ => by simp [Maps.has], fun i h => by simp at h⟩

theorem Nums.put {D : DataW Unit} {vs : List Val} (h : Nums D vs) (hw : ∀ v ∈ vs, v.wf) (v : Val) (hv : v.wf) (hn : v ∉ vs) : Nums (D.put v.lit (.lit (.int .i32 (vs.length : Int)))) (vs ++ [v]) := by
  refine ⟨h.tidy.put (lit_key _) _, ?_, fun u hu => ?_, fun i hi => ?_⟩
  · rw [size_put h.tidy, h.has v hv, h.size]; simp [hn]
  · by_cases e : u = v
    · subst e
      rw [has_put_same h.isMap (lit_key _)]; simp
    · rw [has_put_other (fun he => e (lit_inj hu hv he)), h.has u hu]
      simp [e]
  · rw [List.length_append] at hi
    by_cases e : i < vs.length
    · rw [List.getElem_append_left e, atKey_put_other, h.at_ i e]
      intro he
      have hm : vs[i] ∈ vs := List.getElem_mem e
      exact hn (lit_inj (hw _ hm) hv he ▸ hm)
    · obtain rfl : i = vs.length := by simp at hi; omega
      rw [List.getElem_append_right (Nat.le_refl _)]
      simp [atKey_put_same h.isMap (lit_key _)]

/-- the numbers from k on struck one by one, as far as j. -/
theorem Nums.del {D : DataW Unit} {vs us : List Val} (h : Nums D (vs ++ us)) (hw : ∀ v ∈ vs ++ us, v.wf) (hd : (vs ++ us).Nodup) : ∀ (j : Nat), j ≤ us.length →
    ∃ D', D' = (us.take j).foldl (fun D v => D.del v.lit) D ∧ (Tidy D' ∧ Maps.size D' + j = Maps.size D) ∧ (∀ v : Val, v.wf → Maps.has D' v.lit = (Maps.has D v.lit && !decide (v ∈ us.take j))) ∧ (∀ v : Val, v.wf → v ∉ us.take j → D'.atKey v.lit (.lit (.int .i32 0)) = D.atKey v.lit (.lit (.int .i32 0)))
  | 0, _ => ⟨D, rfl, ⟨h.tidy, rfl⟩, fun v _ => by simp, fun v _ _ => rfl⟩
  | j + 1, hj => by
    obtain ⟨D', rfl, ⟨h1, h1s⟩, h2, h3⟩ := Nums.del h hw hd j (by omega)
    have hlt : j < us.length := by omega
    have hwj : (us[j]).wf := hw _ (by simp)
    refine ⟨_, rfl, ?_, ?_, ?_⟩
    · rw [List.take_succ_eq_append_getElem hlt, List.foldl_append]
      refine ⟨h1.del _, ?_⟩
      have hs := size_del (k := (us[j]).lit) h1
      have hin : Maps.has (List.foldl (fun D v => D.del v.lit) D (List.take j us)) (us[j]).lit = true := by
        rw [h2 _ hwj, h.has _ hwj]
        have hnot : us[j] ∉ us.take j := by
          intro hm
          obtain ⟨i, hi, he⟩ := List.mem_iff_getElem.1 hm
          rw [List.length_take] at hi
          rw [List.getElem_take] at he
          have := (List.nodup_append.1 hd).2.1
          have := (List.getElem_inj this).1 he
          omega
        simp [hnot]
      rw [hin] at hs
      simp only [if_true] at hs
      show Maps.size (DataW.del _ _) + (j + 1) = _
      omega
    · intro v hv
      simp only [List.take_succ_eq_append_getElem hlt, List.foldl_append]
      show Maps.has (DataW.del _ _) v.lit = _
      by_cases e : v = us[j]
      · subst e
        rw [has_del_same, show decide (us[j] ∈ us.take j ++ [us[j]]) = true from decide_eq_true (List.mem_append_right _ (List.mem_singleton.2 rfl))]; simp
      · rw [has_del_other (fun he => e (lit_inj hv hwj he)), h2 v hv]
        congr 2
        simp only [List.mem_append, List.mem_singleton, e, or_false]
    · intro v hv hn
      rw [List.take_succ_eq_append_getElem hlt] at hn ⊢
      rw [List.foldl_append]
      show (DataW.del _ _).atKey v.lit _ = _
      rw [List.mem_append, List.mem_singleton] at hn
      rw [atKey_del_other (fun he => hn (.inr (lit_inj hv hwj he))), h3 v hv (fun hm => hn (.inl hm))]

theorem Nums.cut {D : DataW Unit} {vs us : List Val} (h : Nums D (vs ++ us)) (hw : ∀ v ∈ vs ++ us, v.wf) (hd : (vs ++ us).Nodup) : Nums (us.foldl (fun D v => D.del v.lit) D) vs := by
  obtain ⟨D', e, ⟨h1, h1s⟩, h2, h3⟩ := Nums.del h hw hd us.length (Nat.le_refl _)
  rw [List.take_length] at e h2 h3
  subst e
  have hdis := List.nodup_append.1 hd
  refine ⟨h1, ?_, fun v hv => ?_, fun i hi => ?_⟩
  · have := h.size
    rw [List.length_append] at this
    omega
  · rw [h2 v hv, h.has v hv]
    by_cases e : v ∈ vs
    · have : v ∉ us := fun hu => hdis.2.2 v e v hu rfl
      simp [e, this]
    · by_cases e2 : v ∈ us <;> simp [e, e2]
  · have hm : vs[i] ∈ vs := List.getElem_mem hi
    have : vs[i] ∉ us := fun hu => hdis.2.2 _ hm _ hu rfl
    rw [h3 _ (hw _ (by simp)) this]
    have := h.at_ i (by rw [List.length_append]; omega)
    rw [List.getElem_append_left hi] at this
    exact this

end Go.Proofs.Ythdpaakkamccbaa

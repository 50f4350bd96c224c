/-
  SymbolFresh's plain law and memory words: four lists of their own, marks, arrays of four.
-/
import Derived.Test.YthdpaakkamccbaaSymBack
import Derived.ArgAppend
import Derived.Deep.RegionHeld3
namespace Go.Proofs.Ythdpaakkamccbaa
open Go.RowKit Go.Maps

/-! ### marks, sizes -/
def mark (c : Int) (i : Nat) : Val := ⟨c, (i : Int), ⟨#[]⟩⟩
@[go_sem high] theorem build_mark (c a : Int) (w : World) : (Instr.build 36 #[(0, .int .i8 c), (1, .int .i64 a)]).run Try.prog w = .ok (.agg #[.int .i8 c, .int .i64 a, .string ⟨#[]⟩]) w := run_build w 36 _ _ (by kernel_rfl)
@[go_sem high] theorem build_sizes (a b c d : Int) (w : World) : (Instr.build 47 #[(0, .int .i64 a), (1, .int .i64 b), (2, .int .i64 c), (3, .int .i64 d)]).run Try.prog w = .ok (.agg #[.int .i64 a, .int .i64 b, .int .i64 c, .int .i64 d]) w := run_build w 47 _ _ (by kernel_rfl)

def sz (m k i : Nat) : Nat := if i % 2 = 0 then m else k
def szs (m k : Nat) : Array Value := #[.int .i64 (m : Int), .int .i64 (k : Int), .int .i64 (m : Int), .int .i64 (k : Int)]
theorem szs_at (m k i : Nat) (h : i < 4) : (szs m k)[i]? = some (.int .i64 (sz m k i : Int)) := by
  match i, h with
  | 0, _ => rfl
  | 1, _ => rfl
  | 2, _ => rfl
  | 3, _ => rfl
theorem sz_le {m k : Nat} (hk : k ≤ m) (i : Nat) : sz m k i ≤ m := by unfold sz; split <;> omega

/-! ### arrays of four slices -/
def slots4 (es : List Value) : Array Value := (es ++ List.replicate (4 - es.length) (Value.slice none 0 0)).toArray
theorem slots4_at (es : List Value) (i : Nat) (h : i < es.length) : (slots4 es)[i]? = some es[i] := by
  unfold slots4
  rw [List.getElem?_toArray, List.getElem?_append_left h, List.getElem?_eq_getElem h]
theorem slots4_none (es : List Value) (h : es.length < 4) : (slots4 es)[es.length]? = some (.slice none 0 0) := by
  unfold slots4
  rw [List.getElem?_toArray, List.getElem?_append_right (Nat.le_refl _), Nat.sub_self, List.getElem?_replicate, if_pos (by omega)]
theorem slots4_set (es : List Value) (v : Value) (h : es.length < 4) : (slots4 es).setIfInBounds es.length v = slots4 (es ++ [v]) := by
  unfold slots4
  have e : 4 - es.length = 4 - (es ++ [v]).length + 1 := by rw [List.length_append, List.length_singleton]; omega
  rw [List.setIfInBounds_toArray, List.set_append_right _ _ (Nat.le_refl _), Nat.sub_self, e, List.replicate_succ, List.set_cons_zero]
  simp
theorem slots4_reset (es : List Value) (v v' : Value) : (slots4 (es ++ [v])).setIfInBounds es.length v' = slots4 (es ++ [v']) := by
  unfold slots4
  rw [List.setIfInBounds_toArray, List.append_assoc, List.set_append_right _ _ (Nat.le_refl _), Nat.sub_self, List.singleton_append, List.set_cons_zero]
  simp
theorem slots4_zero : slots4 [] = #[.slice none 0 0, .slice none 0 0, .slice none 0 0, .slice none 0 0] := rfl

def lsV (m k : Nat) (bs : List Nat) : List Value := bs.mapIdx fun i b => .slice (some ⟨b, 0, none⟩) (sz m k i) (sz m k i)
theorem lsV_length (m k : Nat) (bs : List Nat) : (lsV m k bs).length = bs.length := by simp [lsV]
theorem lsV_snoc (m k : Nat) (bs : List Nat) (b : Nat) : lsV m k (bs ++ [b]) = lsV m k bs ++ [.slice (some ⟨b, 0, none⟩) (sz m k bs.length) (sz m k bs.length)] := by
  unfold lsV; simp [List.mapIdx_append]
theorem lsV_at (m k : Nat) (bs : List Nat) (i : Nat) (h : i < bs.length) : (slots4 (lsV m k bs))[i]? = some (.slice (some ⟨bs[i], 0, none⟩) (sz m k i) (sz m k i)) := by
  rw [slots4_at _ _ (by rw [lsV_length]; exact h)]; simp [lsV]

def lgV (m k : Nat) (gs : List (Nat × Nat)) : List Value := gs.mapIdx fun i p => .slice (some ⟨p.1, 0, none⟩) (sz m k i + 70) p.2
theorem lgV_length (m k : Nat) (gs : List (Nat × Nat)) : (lgV m k gs).length = gs.length := by simp [lgV]
theorem lgV_snoc (m k : Nat) (gs : List (Nat × Nat)) (g c : Nat) : lgV m k (gs ++ [(g, c)]) = lgV m k gs ++ [.slice (some ⟨g, 0, none⟩) (sz m k gs.length + 70) c] := by
  unfold lgV; simp [List.mapIdx_append]
theorem lgV_at (m k : Nat) (gs : List (Nat × Nat)) (i : Nat) (h : i < gs.length) : (slots4 (lgV m k gs))[i]? = some (.slice (some ⟨(gs[i]).1, 0, none⟩) (sz m k i + 70) (gs[i]).2) := by
  rw [slots4_at _ _ (by rw [lgV_length]; exact h)]; simp [lgV]

/-! ### a list's cells, one value written -/
theorem vcells_set (us : List Val) (j : Nat) (v : Val) (h : j < us.length) :
    (((vcells us).toArray.setIfInBounds (j * 3) (.int .i8 v.k)).setIfInBounds (j * 3 + 1) (.int .i64 v.n)).setIfInBounds (j * 3 + 2) (.string v.s) = (vcells (us.set j v)).toArray := by
  have e : us = us.take j ++ us[j] :: us.drop (j + 1) := by rw [List.getElem_cons_drop, List.take_append_drop]
  have e2 : us.set j v = us.take j ++ v :: us.drop (j + 1) := by rw [List.set_eq_take_append_cons_drop, if_pos h]
  have hl : (vcells (us.take j)).length = j * 3 := by rw [vcells_length, List.length_take]; omega
  rw [e2]
  conv => lhs; rw [e]
  have h1 : ∀ u : Val, vcells (us.take j ++ u :: us.drop (j + 1)) = vcells (us.take j) ++ .int .i8 u.k :: .int .i64 u.n :: .string u.s :: vcells (us.drop (j + 1)) := fun u => by
    rw [vcells_append]; rfl
  rw [h1, h1]
  generalize vcells (us.take j) = x at hl
  simp only [List.setIfInBounds_toArray]
  rw [← hl]
  congr 1
  rw [List.set_append_right _ _ (Nat.le_refl _), List.set_append_right _ _ (by omega), List.set_append_right _ _ (by omega)]
  simp

/-! ### lists of their own -/
structure Lists (w : World) (bs : List Nat) (c : Nat → List Val) : Prop where
  blk : ∀ a (h : a < bs.length), Blk w bs[a] 36 (vcells (c a)).toArray
  nodup : bs.Nodup
theorem Lists.lt {w : World} {bs : List Nat} {c : Nat → List Val} (h : Lists w bs c) : ∀ b ∈ bs, b < w.heap.size := fun b hb => by
  obtain ⟨a, ha, rfl⟩ := List.mem_iff_getElem.1 hb
  exact (h.blk a ha).lt
theorem Lists.same {w w' : World} {bs : List Nat} {c : Nat → List Val} (h : Lists w bs c) (hb : ∀ b ∈ bs, w'.heap[b]? = w.heap[b]?) : Lists w' bs c :=
  ⟨fun a ha => (h.blk a ha).same (hb _ (List.getElem_mem ha)), h.nodup⟩
theorem Lists.below {w w' : World} {bs : List Nat} {c : Nat → List Val} (h : Lists w bs c) (hb : Below w.heap.size w w') : Lists w' bs c := h.same fun b hm => hb.block b (h.lt b hm)
theorem Lists.snoc {w : World} {bs : List Nat} {c : Nat → List Val} (h : Lists w bs c) {b : Nat} (hb : Blk w b 36 (vcells (c bs.length)).toArray) (hn : b ∉ bs) : Lists w (bs ++ [b]) c :=
  ⟨fun a ha => by
    by_cases e : a < bs.length
    · rw [List.getElem_append_left e]; exact h.blk a e
    · obtain rfl : a = bs.length := by simp at ha; omega
      simpa using hb,
   List.nodup_append.2 ⟨h.nodup, by simp, fun x hx y hy e => by rw [List.mem_singleton] at hy; subst hy; subst e; exact hn hx⟩⟩
theorem Lists.nil (w : World) (c : Nat → List Val) : Lists w [] c := ⟨fun a h => by simp at h, by simp⟩
/-- one of them turned. -/
theorem Lists.turn {w w' : World} {bs : List Nat} {c : Nat → List Val} (h : Lists w bs c) (i : Nat) (hi : i < bs.length) (us : List Val) (hb : Blk w' bs[i] 36 (vcells us).toArray) (ho : ∀ b ∈ bs, b ≠ bs[i] → w'.heap[b]? = w.heap[b]?) :
    Lists w' bs (fun a => if a = i then us else c a) :=
  ⟨fun a ha => by
    by_cases e : a = i
    · subst e; simpa using hb
    · rw [if_neg e]
      exact (h.blk a ha).same (ho _ (List.getElem_mem ha) (fun he => e ((List.getElem_inj h.nodup).1 he))), h.nodup⟩
theorem Blk.rowV {w : World} {g : Nat} {us : List Val} (h : Blk w g 36 (vcells us).toArray) (hm : us.length ≤ maxLen) : RowV w (some ⟨g, 0, none⟩) us.length us :=
  ⟨vcells_length us, .inr ⟨g, us.length, (vcells us).toArray, rfl, Nat.zero_le _, h, Nat.le_refl _, hm, by simp [vcells_length], by
    show List.take _ (vcells us) = _
    rw [List.take_of_length_le (by rw [vcells_length]; exact Nat.le_refl _)]⟩⟩

theorem Lists.congr {w : World} {bs : List Nat} {c c' : Nat → List Val} (h : Lists w bs c) (hc : ∀ a, a < bs.length → c a = c' a) : Lists w bs c' :=
  ⟨fun a ha => by rw [← hc a ha]; exact h.blk a ha, h.nodup⟩
theorem rep_of {l : List Val} {n : Nat} {v : Val} (hl : l.length = n) (h : ∀ s, s < n → l[s]? = some v) : l = List.replicate n v := by
  apply List.ext_getElem?
  intro i
  by_cases hi : i < n
  · rw [h i hi, List.getElem?_replicate, if_pos hi]
  · rw [List.getElem?_eq_none (by omega), List.getElem?_eq_none (by simp; omega)]

/-- full, then gone on with. -/
def fullL (n i : Nat) : List Val := List.replicate n (mark 5 i) ++ List.replicate 70 (mark 6 i)
theorem fullL_length (n i : Nat) : (fullL n i).length = n + 70 := by simp [fullL]
theorem fullL_lo (n i j : Nat) (h : j < n) : (fullL n i)[j]'(by rw [fullL_length]; omega) = mark 5 i := by
  unfold fullL; rw [List.getElem_append_left (by simpa using h), List.getElem_replicate]
theorem fullL_hi (n i j : Nat) (h : n ≤ j) (h2 : j < n + 70) : (fullL n i)[j]'(by rw [fullL_length]; exact h2) = mark 6 i := by
  unfold fullL; rw [List.getElem_append_right (by simpa using h), List.getElem_replicate]

/-! ### the row of a table that is full of just these -/
theorem addGo_there (most : Nat) (vs : List Val) (hok : ∀ v ∈ vs, v.ok = true) : ∀ (us : List Val) (ns : List Nat), (∀ u ∈ us, u ∈ vs) → addGo most us vs ns = (vs, ns ++ us.map vs.idxOf, 0)
  | [], ns, _ => by simp [addGo]
  | u :: us, ns, h => by
    have hm := h u (.head _)
    have hs : addStep most vs u = (vs, vs.idxOf u, 0) := by unfold addStep; rw [if_neg (by rw [hok u hm]; simp), if_pos hm]
    rw [addGo_cons, hs]
    simp only [if_true]
    rw [addGo_there most vs hok us _ (fun v hv => h v (.tail _ hv))]
    simp
theorem rowGo_there (most : Nat) (vs : List Val) (hok : ∀ v ∈ vs, v.ok = true) (h24 : vs.length ≤ 24) : rowGo most vs vs = (vs, vs.map vs.idxOf, 0) := by
  unfold rowGo
  rw [if_neg (by omega), addGo_there most vs hok vs [] (fun _ h => h)]
  simp
theorem Of.self (vs : List Val) : Of vs (vs.map vs.idxOf) vs :=
  ⟨by
    rw [List.map_map]
    conv => lhs; rw [← List.map_id vs]
    refine List.map_congr_left fun v hv => ?_
    have hl := idx_lt hv
    show v = vs.getD (vs.idxOf v) Val.zero
    rw [getD_lt hl, idx_at hv], fun n hn => by
    obtain ⟨v, hv, rfl⟩ := List.mem_map.1 hn
    exact idx_lt hv⟩
theorem Of.take {vs : List Val} {ns : List Nat} {us : List Val} (h : Of vs ns us) (k : Nat) : Of vs (ns.take k) (us.take k) :=
  ⟨by rw [h.eq, List.map_take], fun n hn => h.lt n (List.mem_of_mem_take hn)⟩

/-- the first k columns of a row told as a list of their own. -/
theorem tuple_blk {w : World} {tb most : Nat} {vs : List Val} {S : List Nat} (h : Tab w tb most vs S) {ns : List Nat} {us : List Val} (hof : Of vs ns us) (hl : us.length ≤ 24) (k : Nat) (hk : k ≤ us.length) :
    Calls Try.prog 18 #[.pointer (some ⟨tb, 0, none⟩), .agg (rowOf ns), .int .i64 (k : Int)] w fun e w' =>
      ∃ lb, e = .returned (.tuple #[.slice (some ⟨lb, 0, none⟩) k k, .int .i64 0]) ∧ w.heap.size ≤ lb ∧ Blk w' lb 36 (vcells (us.take k)).toArray ∧ Below w.heap.size w w' := by
  have hle := hof.length
  have hbig := h.facts.2.2
  have hof' := hof.take k
  have hlk : (ns.take k).length = k := by rw [List.length_take]; omega
  have htk : (us.take k).length = k := by rw [List.length_take]; omega
  have hg := tupGo_of (ns.take k) [] hof'.lt
  have hrs : (rsOf ns).take k = (ns.take k).map fun n : Nat => (n : Int) := by
    unfold rsOf
    rw [List.take_append_of_le_length (by simp; omega), List.map_take]
  rw [← hof'.eq, List.nil_append, ← hrs] at hg
  have hd := tuple_ok h (rsOf ns) (rsOf_length ns (by omega)) (rsOf_le ns (fun n hn => by have := hof.lt n hn; omega)) k (by omega) (by rw [hg])
  rw [← rowOf_rowI, hg] at hd
  refine hd.mono ?_
  rintro e w' ⟨lb, he, hlb, hblk, hbel⟩
  have e2 := destOf_full (us.take k)
  rw [htk] at e2
  simp only [e2] at hblk
  exact ⟨lb, he, hlb, hblk, hbel⟩

/-- a row's cells, as a list. -/
def rowL (ns : List Nat) : List Value := (ns.map fun n : Nat => Value.int .i32 (n : Int)) ++ List.replicate (24 - ns.length) (Value.int .i32 0)
theorem rowL_eq (ns : List Nat) : rowOf ns = (rowL ns).toArray := rfl
theorem rowL_length (ns : List Nat) (h : ns.length ≤ 24) : (rowL ns).length = 24 := by unfold rowL; simp; omega
theorem rowL_info (ns : List Nat) (h : ns.length ≤ 24) : (Try.prog.info? 43).map (·.size) = some (rowL ns).length := by
  rw [rowL_length ns h]; kernel_rfl
theorem Blk.range {w : World} {g : Nat} {ns : List Nat} (h : Blk w g 43 (rowOf ns)) : w.rangeAt g 0 (rowL ns) := fun j v hv => by
  rw [Nat.zero_add, h.cell, rowL_eq, List.getElem?_toArray]; exact hv

/-- cut at its end. -/
theorem slice_vals {w : World} {A : Option Addr} {cap : Nat} {vs : List Val} (h : RowV w A cap vs) (n : Nat) (hn : n ≤ vs.length) (W : World) :
    (Instr.sliceAt 22 (.slice A vs.length cap) none (some (.int .i64 (n : Int))) none).run Try.prog W = .ok (.slice A n cap) W := by
  have hcap : vs.length ≤ cap := by
    rcases h.form with ⟨_, _, rfl⟩ | ⟨_, _, _, h, _⟩
    · simp
    · exact h
  have he : Try.prog.elem 22 = 36 := by kernel_rfl
  rw [run_sliceAt_slice W 22 _ _ _ _ (by kernel_rfl), run_slice_h (P := Try.prog) W 22 A vs.length cap (by kernel_rfl) .i64 (n : Int) (by omega) (by omega)]
  have hs : (sizeOf (Try.prog.elem 22)).run Try.prog W = .ok 3 W := by kernel_rfl
  rw [hs]
  rcases h.form with ⟨rfl, rfl, h0⟩ | ⟨g, rfl, _⟩
  · have : n = 0 := by rw [h0] at hn; simpa using hn
    subst this
    simp [Result.andThen, sliced]
  · simp [Result.andThen, sliced, Addr.add]

end Go.Proofs.Ythdpaakkamccbaa

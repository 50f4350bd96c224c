/-
  SymbolBack's plain law: a tuple's values picked; a row's numbers and back. No walk.
-/
import Derived.Test.YthdpaakkamccbaaSymSame
import Derived.Test.YthdpaakkamccbaaSymCuts
namespace Go.Proofs.Ythdpaakkamccbaa
open Go.RowKit Go.Maps

/-! ### the values of a tuple: those that may be, 24 at most -/
def pickStep (out : List Val) (v : Val) : List Val := if out.length < 24 ∧ v.ok = true then out ++ [v] else out
def pickL (ls : List Val) : List Val := ls.foldl pickStep []
theorem pickL_snoc (ls : List Val) (v : Val) : pickL (ls ++ [v]) = pickStep (pickL ls) v := by simp [pickL]
theorem pick_ind (Q : List Val → Prop) (ls : List Val) (h0 : Q []) (h : ∀ out v, Q out → v ∈ ls → out.length < 24 → v.ok = true → Q (out ++ [v])) : Q (pickL ls) := by
  suffices k : ∀ (us out : List Val), (∀ v ∈ us, v ∈ ls) → Q out → Q (us.foldl pickStep out) from k ls [] (fun _ hv => hv) h0
  intro us
  induction us with
  | nil => intro out _ hq; exact hq
  | cons u us ih =>
    intro out hs hq
    refine ih _ (fun v hv => hs v (.tail _ hv)) ?_
    unfold pickStep
    split
    · rename_i hc
      exact h out u hq (hs u (.head _)) hc.1 hc.2
    · exact hq
theorem pickL_len (ls : List Val) : (pickL ls).length ≤ 24 :=
  pick_ind (fun out => out.length ≤ 24) ls (by simp) (fun out v _ _ h _ => by simp; omega)
theorem pickL_mem (ls : List Val) : ∀ v ∈ pickL ls, v ∈ ls ∧ v.ok = true :=
  pick_ind (fun out => ∀ v ∈ out, v ∈ ls ∧ v.ok = true) ls (by simp) (fun out v h hm _ ho u hu => by
    rcases List.mem_append.1 hu with hu | hu
    · exact h u hu
    · rw [List.mem_singleton.1 hu]; exact ⟨hm, ho⟩)
theorem pickL_le (ls : List Val) : (pickL ls).length ≤ ls.length := by
  suffices k : ∀ (us out : List Val), (us.foldl pickStep out).length ≤ out.length + us.length by have := k ls []; rw [List.length_nil, Nat.zero_add] at this; exact this
  intro us
  induction us with
  | nil => intro out; simp
  | cons u us ih =>
    intro out
    refine Nat.le_trans (ih _) ?_
    have : (pickStep out u).length ≤ out.length + 1 := by unfold pickStep; split <;> simp
    simp; omega
theorem pickL_full (ls us : List Val) (h : 24 ≤ (pickL ls).length) : pickL (ls ++ us) = pickL ls := by
  unfold pickL at h ⊢
  rw [List.foldl_append]
  generalize ls.foldl pickStep [] = out at h ⊢
  induction us with
  | nil => rfl
  | cons u us ih =>
    rw [List.foldl_cons, show pickStep out u = out from by unfold pickStep; rw [if_neg (by omega)]]
    exact ih

/-! ### numbers of values -/
/-- these numbers are of these values. -/
structure Of (vs : List Val) (ns : List Nat) (us : List Val) : Prop where
  eq : us = ns.map fun n => vs.getD n Val.zero
  lt : ∀ n ∈ ns, n < vs.length

theorem getD_lt {vs : List Val} {n : Nat} (h : n < vs.length) : vs.getD n Val.zero = vs[n] := by
  rw [List.getD_eq_getElem?_getD, List.getElem?_eq_getElem h]; rfl
theorem getD_prefix {vs vs' : List Val} (h : vs <+: vs') {n : Nat} (hn : n < vs.length) : vs'.getD n Val.zero = vs.getD n Val.zero := by
  obtain ⟨t, rfl⟩ := h
  rw [getD_lt hn, getD_lt (by simp; omega), List.getElem_append_left hn]

theorem addGo_all (most : Nat) : ∀ (us vs : List Val) (ns : List Nat), (∀ u ∈ us, u.ok = true) → vs.length + us.length ≤ most →
    ∃ vs' ms, addGo most us vs ns = (vs', ns ++ ms, 0) ∧ vs <+: vs' ∧ Of vs' ms us
  | [], vs, ns, _, _ => ⟨vs, [], by simp [addGo], List.prefix_refl _, ⟨rfl, by simp⟩⟩
  | u :: us, vs, ns, hok, hl => by
    have ho := hok u (.head _)
    simp only [List.length_cons] at hl
    by_cases hm : u ∈ vs
    · have hs : addStep most vs u = (vs, vs.idxOf u, 0) := by unfold addStep; rw [if_neg (by rw [ho]; simp), if_pos hm]
      obtain ⟨vs', ms, h1, h2, h3, h4⟩ := addGo_all most us vs (ns ++ [vs.idxOf u]) (fun v hv => hok v (.tail _ hv)) (by omega)
      have hi := idx_lt hm
      refine ⟨vs', vs.idxOf u :: ms, ?_, h2, ?_, ?_⟩
      · rw [addGo_cons, hs]; simpa using h1
      · rw [List.map_cons, getD_prefix h2 hi, getD_lt hi, idx_at hm, ← h3]
      · intro n hn
        rcases List.mem_cons.1 hn with rfl | hn
        · exact Nat.lt_of_lt_of_le hi h2.length_le
        · exact h4 n hn
    · have hs : addStep most vs u = (vs ++ [u], vs.length, 0) := by unfold addStep; rw [if_neg (by rw [ho]; simp), if_neg hm, if_pos (by omega)]
      obtain ⟨vs', ms, h1, h2, h3, h4⟩ := addGo_all most us (vs ++ [u]) (ns ++ [vs.length]) (fun v hv => hok v (.tail _ hv)) (by simp; omega)
      have hi : vs.length < (vs ++ [u]).length := by simp
      refine ⟨vs', vs.length :: ms, ?_, (List.prefix_append _ _).trans h2, ?_, ?_⟩
      · rw [addGo_cons, hs]; simpa using h1
      · rw [List.map_cons, getD_prefix h2 hi, getD_lt hi, ← h3]; simp
      · intro n hn
        rcases List.mem_cons.1 hn with rfl | hn
        · exact Nat.lt_of_lt_of_le hi h2.length_le
        · exact h4 n hn

theorem rowGo_all (most : Nat) (us vs : List Val) (h24 : us.length ≤ 24) (hok : ∀ u ∈ us, u.ok = true) (hl : vs.length + us.length ≤ most) :
    ∃ vs' ms, rowGo most us vs = (vs', ms, 0) ∧ vs <+: vs' ∧ Of vs' ms us := by
  obtain ⟨vs', ms, h1, h2, h3⟩ := addGo_all most us vs [] hok hl
  refine ⟨vs', ms, ?_, h2, h3⟩
  unfold rowGo
  rw [if_neg (by omega), h1]
  simp

theorem tupGo_of {vs : List Val} : ∀ (ns : List Nat) (out : List Val), (∀ n ∈ ns, n < vs.length) → tupGo vs (ns.map fun n : Nat => (n : Int)) out = (out ++ ns.map (fun n => vs.getD n Val.zero), 0)
  | [], out, _ => by simp [tupGo]
  | n :: ns, out, h => by
    have hn := h n (.head _)
    rw [List.map_cons, tupGo_cons, if_pos ⟨by omega, by omega⟩, tupGo_of ns _ (fun k hk => h k (.tail _ hk))]
    simp

theorem idx_nodup {vs : List Val} (hd : vs.Nodup) {n : Nat} (hn : n < vs.length) : vs.idxOf vs[n] = n := by
  have hm : vs[n] ∈ vs := List.getElem_mem hn
  exact (List.getElem_inj hd).1 (idx_at hm)

theorem seekGo_of {vs : List Val} (hd : vs.Nodup) : ∀ (ns acc : List Nat), (∀ n ∈ ns, n < vs.length) → seekGo vs (ns.map fun n => vs.getD n Val.zero) acc = (acc ++ ns, 0)
  | [], acc, _ => by simp [seekGo]
  | n :: ns, acc, h => by
    have hn := h n (.head _)
    rw [List.map_cons, seekGo_cons, getD_lt hn, if_pos (List.getElem_mem hn), idx_nodup hd hn, seekGo_of hd ns _ (fun k hk => h k (.tail _ hk))]
    simp

theorem seekRes_of {vs : List Val} (hd : vs.Nodup) {ns : List Nat} {us : List Val} (h : Of vs ns us) (hl : us.length ≤ 24) : seekRes vs us = (ns, true) := by
  unfold seekRes
  rw [if_neg (by omega), h.eq, seekGo_of hd ns [] h.lt]
  simp

/-! ### the row -/
def rsOf (ns : List Nat) : List Int := (ns.map fun n : Nat => (n : Int)) ++ List.replicate (24 - ns.length) 0
theorem rowOf_rowI (ns : List Nat) : rowOf ns = rowI (rsOf ns) := by
  unfold rowOf rowI rsOf
  rw [List.map_append, List.map_map, List.map_replicate]
  rfl
theorem rsOf_length (ns : List Nat) (h : ns.length ≤ 24) : (rsOf ns).length = 24 := by unfold rsOf; simp; omega
theorem rsOf_take (ns : List Nat) : (rsOf ns).take ns.length = ns.map fun n : Nat => (n : Int) := by
  unfold rsOf
  rw [List.take_append_of_le_length (by simp), List.take_of_length_le (by simp)]
theorem rsOf_le (ns : List Nat) (h : ∀ n ∈ ns, n ≤ 2147483647) : ∀ r ∈ rsOf ns, r ≤ 2147483647 := by
  intro r hr
  unfold rsOf at hr
  rcases List.mem_append.1 hr with hr | hr
  · obtain ⟨n, hn, rfl⟩ := List.mem_map.1 hr
    have := h n hn
    omega
  · have := (List.mem_replicate.1 hr).2
    omega
theorem Of.length {vs : List Val} {ns : List Nat} {us : List Val} (h : Of vs ns us) : ns.length = us.length := by rw [h.eq]; simp
theorem rowOf_in (ns : List Nat) (i : Nat) (h : i < ns.length) : (rowOf ns)[i]? = some (.int .i32 (ns[i] : Int)) := by
  unfold rowOf
  rw [List.getElem?_toArray, List.getElem?_append_left (by simpa using h), List.getElem?_map, List.getElem?_eq_getElem h]
  rfl
theorem rowOf_out (ns : List Nat) (i : Nat) (h : ns.length ≤ i) (h24 : i < 24) : (rowOf ns)[i]? = some (.int .i32 0) := by
  unfold rowOf
  have hl : (ns.map fun n : Nat => Value.int .i32 (n : Int)).length = ns.length := by simp
  rw [List.getElem?_toArray, List.getElem?_append_right (by omega), hl, List.getElem?_replicate, if_pos (by omega)]
theorem destOf_full (us : List Val) : destOf us us.length = (vcells us).toArray := by
  unfold destOf; simp

theorem forIn_ok {P : Program} {B : Type} (f : Nat → B → Sem (ForInStep B)) (init : B) (w : World) : ∀ (is : List Nat), (∀ i ∈ is, (f i init).run P w = .ok (.yield init) w) → (forIn is init f).run P w = .ok init w
  | [], _ => rfl
  | i :: is, h => by
    rw [List.forIn_cons, Sem.run_bind, h i (.head _), Result.andThen_ok]
    exact forIn_ok f init w is (fun k hk => h k (.tail _ hk))

theorem row_eq_self (x : List Int) (hx : x.length = 24) (w : World) : (Op.equalIn 10000 43 (.agg (x.map (Value.int .i32)).toArray) (.agg (x.map (Value.int .i32)).toArray)).run Try.prog w = .ok true w := by
  have a3 : ∀ w, (isAgg 30).run Try.prog w = .ok false w := fun w => by kernel_rfl
  have z3 : ∀ w, (sizeOf 30).run Try.prog w = .ok 1 w := fun w => by kernel_rfl
  rw [show (10000 : Nat) = 9999 + 1 from rfl, Op.equalIn]
  simp only [Sem.run_bind, run_underlying Try.underlying43, Result.andThen_ok, z3]
  simp only [Std.Legacy.Range.forIn_eq_forIn_range']
  rw [forIn_ok]
  · rfl
  · intro i hi
    have hi24 : i < 24 := by simp [Std.Legacy.Range.size] at hi; exact hi
    have hp : ∀ w, (part 30 (x.map (Value.int .i32)).toArray (i * 1)).run Try.prog w = .ok (.int .i32 (x[i]'(by omega))) w := by
      intro w
      unfold part
      have : i < x.length := by omega
      simp [Sem.run_bind, a3, z3, this]
    simp only [Sem.run_bind, hp, Result.andThen_ok, run_equalIn_int w 9998 30 .i32 .i32 _ _ Try.underlying30]
    simp

theorem row_neq_self (ns : List Nat) (h : ns.length ≤ 24) (w : World) : (binOp .neq 43 (.agg (rowOf ns)) (.agg (rowOf ns))).run Try.prog w = .ok (.bool false) w := by
  rw [rowOf_rowI, run_neq_struct]
  unfold rowI
  rw [row_eq_self _ (rsOf_length ns h)]
  rfl

/-- numbers are equal where the values are. -/
theorem Of.beq {vs : List Val} {ns : List Nat} {us : List Val} (h : Of vs ns us) (hd : vs.Nodup) (i k : Nat) (hi : i < us.length) (hk : k < us.length) :
    ((((ns[i]'(by rw [h.length]; exact hi) : Nat) : Int)) == (((ns[k]'(by rw [h.length]; exact hk) : Nat) : Int))) = veq us[i] us[k] := by
  have hni : i < ns.length := by rw [h.length]; exact hi
  have hnk : k < ns.length := by rw [h.length]; exact hk
  have li := h.lt _ (List.getElem_mem hni)
  have lk := h.lt _ (List.getElem_mem hnk)
  have ei : us[i] = vs[ns[i]] := by
    have : us[i]? = some (vs.getD ns[i] Val.zero) := by rw [h.eq, List.getElem?_map, List.getElem?_eq_getElem hni]; rfl
    rw [List.getElem?_eq_getElem hi, getD_lt li] at this
    exact Option.some.inj this
  have ek : us[k] = vs[ns[k]] := by
    have : us[k]? = some (vs.getD ns[k] Val.zero) := by rw [h.eq, List.getElem?_map, List.getElem?_eq_getElem hnk]; rfl
    rw [List.getElem?_eq_getElem hk, getD_lt lk] at this
    exact Option.some.inj this
  rw [ei, ek]
  unfold veq
  rw [Bool.eq_iff_iff]
  simp only [beq_iff_eq, decide_eq_true_eq, List.getElem_inj hd]
  omega

theorem prefix_num {vs vs' : List Val} (h : vs <+: vs') (hd : vs'.Nodup) (i : Nat) (hi : i < vs.length) : numOf vs' vs[i] = i ∧ decide (vs[i] ∈ vs') = true := by
  have hl := h.length_le
  have e : vs[i] = vs'[i]'(by omega) := by obtain ⟨t, rfl⟩ := h; rw [List.getElem_append_left hi]
  have hm : vs[i] ∈ vs' := by rw [e]; exact List.getElem_mem _
  refine ⟨?_, decide_eq_true hm⟩
  unfold numOf
  rw [if_pos hm, e]
  exact idx_nodup hd (by omega)

end Go.Proofs.Ythdpaakkamccbaa

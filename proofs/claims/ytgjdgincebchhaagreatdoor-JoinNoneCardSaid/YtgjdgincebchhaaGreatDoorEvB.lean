/-
  More of the model's operations: what is reckoned is what happens. No program in sight.
  Lists and structs that are made and cut; ranges over maps. No program in sight.
  A step of a range; a list cut; nil compared. No program in sight.
  A list, an array, a text cut; nil compared with what is there. No program in sight.
  An operation as the model carries it out: what is reckoned is what happens. No program in sight.
  Each operation that is carried out as the model says: what is reckoned is what happens. No program in sight.
  'execOp', wherever the reckoning takes it: what is reckoned is what happens. No program in sight.
-/
import Derived.Test.YtgjdgincebchhaaGreatDoorEvA
namespace Go.Proofs.YtgjdgincebchhaaGreatDoor.Ev
open Go Go.RowKit

section
variable {P : Program} {p : Ph}

theorem RVa.get {c c' : Array Value} (h : RVa p c c') (i : Nat) : (c[i]? = none ∧ c'[i]? = none) ∨ ∃ v v', c[i]? = some v ∧ c'[i]? = some v' ∧ RV p v v' := by
  have hs := RVa.size h
  cases h0 : c[i]? with
  | none =>
    refine .inl ⟨rfl, ?_⟩
    rw [Array.getElem?_eq_none_iff] at h0 ⊢
    omega
  | some v =>
    obtain ⟨v', hv', hr⟩ := RVl.get (i := i) (v := v) h (by rw [Array.getElem?_toList]; exact h0)
    rw [Array.getElem?_toList] at hv'
    exact .inr ⟨v, v', rfl, hv', hr⟩

theorem Sim.delete {at_ : Array TypeId} {ty : TypeId} {c c' : Array Value} (h : RVa p c c') (hk : ∀ k, c[1]? = some k → pureV k = true) : Sim P p RV (Builtin.delete_ at_ ty c) (Builtin.delete_ at_ ty c') := by
  unfold Builtin.delete_
  cases at_[0]? with
  | none => exact Sim.halt
  | some mt =>
    rcases RVa.get h 0 with ⟨h1, h2⟩ | ⟨m, m', h1, h2, hm⟩
    · rw [h1, h2]; exact Sim.halt
    · rw [h1, h2]
      rcases RVa.get h 1 with ⟨h3, h4⟩ | ⟨k, k', h3, h4, hkk⟩
      · rw [h3, h4]; exact Sim.halt
      · have hpk := hk k h3
        rw [h3, h4]
        obtain rfl := hkk.pure_eq hpk
        simp only
        refine Sim.bind (Sim.underlying mt) (fun q d d' hq hd => ?_)
        obtain ⟨rfl, hu⟩ := hd
        have hend : ∀ q : Ph, Sim P q RV (Pure.pure (.tuple #[]) : Sem Value) (Pure.pure (.tuple #[])) := fun q => Sim.pure fun _ _ => .tuple .nil
        cases d' with
        | map a e =>
          simp only
          cases hm.mono hq with
          | mnil => exact Sim.bind (NM.sim (NM.checkKey _ _ _ _ hpk)) (fun q2 _ _ _ _ => hend q2)
          | map hp =>
            refine Sim.bind (Sim.getObj hp) (fun q2 o o' hq2 ho => ?_)
            cases ho with
            | @map es es' n h =>
              have hem : es'.isEmpty = es.isEmpty := by
                have := h.length
                simp only [Array.length_toList] at this
                simp [Array.isEmpty, this]
              simp only
              rw [hem]
              refine Sim.bind (NM.sim (NM.checkKey _ _ _ _ hpk)) (fun q3 _ _ hq3 _ => ?_)
              refine Sim.bind (Sim.findKey a hpk (h.mono hq3)) (fun q4 r r' hq4 hr => ?_)
              have hle := Ph.le_trans (Ph.le_trans hq2 hq3) hq4
              have hh := (h.mono hq3).mono hq4
              cases r with
              | none =>
                cases r' with
                | some _ => exact hr.elim
                | none => exact Sim.bind (Sim.setObj (hle _ _ hp) (.map _ hh)) (fun q2 _ _ _ _ => hend q2)
              | some x =>
                cases r' with
                | none => exact hr.elim
                | some y =>
                  obtain ⟨xi, xv⟩ := x
                  obtain ⟨yi, yv⟩ := y
                  obtain ⟨h1, _⟩ := hr
                  simp only at h1
                  subst h1
                  refine Sim.bind (Sim.setObj (hle _ _ hp) (.map _ ?_)) (fun q2 _ _ _ _ => hend q2)
                  have e1 : ∀ z : Array MapEntry, (z.eraseIdxIfInBounds yi).toList = z.toList.eraseIdx yi := fun z => by
                    unfold Array.eraseIdxIfInBounds
                    split
                    · simp
                    · rw [List.eraseIdx_of_length_le (by simp; omega)]
                  rw [e1, e1]
                  exact hh.erase yi
            | _ => exact Sim.bindHalt fun _ => rfl
          | _ => exact Sim.bindHalt fun _ => rfl
        | _ => exact Sim.halt

theorem Sim.clear {at_ : Array TypeId} {ty : TypeId} {c c' : Array Value} (h : RVa p c c') (hz : ∀ t e, at_[0]? = some t → P.underlying t = some (.slice e) → (∃ a n k, c[0]? = some (.slice a n k)) → pureZero P e = true) : Sim P p RV (Builtin.clear_ at_ ty c) (Builtin.clear_ at_ ty c') := by
  unfold Builtin.clear_
  cases h0 : at_[0]? with
  | none => exact Sim.halt
  | some mt =>
    rcases RVa.get h 0 with ⟨h1, h2⟩ | ⟨m, m', h1, h2, hm⟩
    · rw [h1, h2]; exact Sim.halt
    · rw [h1, h2]
      simp only
      refine Sim.bind (Sim.underlying mt) (fun q d d' hq hd => ?_)
      obtain ⟨rfl, hu⟩ := hd
      have hend : ∀ q : Ph, Sim P q RV (Pure.pure (.tuple #[]) : Sem Value) (Pure.pure (.tuple #[])) := fun q => Sim.pure fun _ _ => .tuple .nil
      have hunit : ∀ q : Ph, Sim P q RV ((Pure.pure () : Sem Unit) >>= fun _ => Pure.pure (.tuple #[])) ((Pure.pure () : Sem Unit) >>= fun _ => Pure.pure (.tuple #[])) := fun q => Sim.bind (R := fun _ _ _ => True) (Sim.pure fun _ _ => trivial) (fun q2 _ _ _ _ => hend q2)
      have hput : ∀ {a a' : Addr} {q1 : Ph} (n : Nat) (e : TypeId), q.le q1 → RA q1 a a' → pureZero P e = true → Sim P q1 RV
          (do Go.storeCells a (Builtin.zeroCells (← Go.zeroValue e).cells n).toList; Pure.pure (.tuple #[]))
          (do Go.storeCells a' (Builtin.zeroCells (← Go.zeroValue e).cells n).toList; Pure.pure (.tuple #[])) := by
        intro a a' q1 n e _ ha hze
        refine Sim.bind (Sim.zeroValue hze) (fun q2 z z' hq2 hzz => ?_)
        obtain ⟨rfl, hpz⟩ := hzz
        refine Sim.bind (Sim.storeCells (ha.mono hq2) _ _ 0 (Ph.le_refl _) (RVl.refl_of fun v hv => ?_)) (fun q3 _ _ _ _ => hend q3)
        unfold Builtin.zeroCells at hv
        simp only [Array.toList_map, List.mem_map] at hv
        obtain ⟨i, _, rfl⟩ := hv
        have hc : RVa q2 z'.cells z'.cells := (RV.of_pure hpz).cells
        by_cases hi : i % z'.cells.size < z'.cells.size
        · rw [getElem!_pos z'.cells _ hi]
          rcases RVa.get hc (i % z'.cells.size) with ⟨h3, _⟩ | ⟨v, v', h3, h4, hv⟩
          · rw [Array.getElem?_eq_none_iff] at h3; omega
          · rw [Array.getElem?_eq_getElem hi] at h3 h4
            injection h3 with h3
            injection h4 with h4
            subst h3
            exact h4 ▸ hv
        · rw [getElem!_neg z'.cells _ hi]
          exact .bool _
      have hmq := hm.mono hq
      cases d' with
      | slice e =>
        have hze := hz mt e h0 hu
        cases hmq with
        | mnil => exact hunit q
        | snil n k => exact hunit q
        | @slice a a' ha n k hc =>
          cases n with
          | zero => exact hunit q
          | succ n => exact hput (n + 1) e (Ph.le_refl _) ha (hze ⟨_, _, _, h1⟩)
        | @sopen b b' r hp o n k k' g1 g2 g3 g4 =>
          cases n with
          | zero => exact hunit q
          | succ n => exact hput (n + 1) e (Ph.le_refl _) (.mk hp o) (hze ⟨_, _, _, h1⟩)
        | sempty hp o o' c h1 h2 => exact hunit q
        | map hp =>
          refine Sim.bind (Sim.getObj hp) (fun q2 o o' hq2 ho => ?_)
          cases ho with
          | map k h => exact Sim.bind (Sim.setObj (hq2 _ _ hp) (.map _ .nil)) (fun q2 _ _ _ _ => hend q2)
          | _ => exact Sim.bindHalt fun _ => rfl
        | _ => exact Sim.bindHalt fun _ => rfl
      | _ =>
        cases hmq with
        | mnil => exact hunit q
        | snil n k => exact hunit q
        | @slice a a' ha n k hc =>
          cases n with
          | zero => exact hunit q
          | succ n => exact Sim.bindHalt fun _ => rfl
        | @sopen b b' r hp o n k k' h1 h2 h3 h4 =>
          cases n with
          | zero => exact hunit q
          | succ n => exact Sim.bindHalt fun _ => rfl
        | sempty hp o o' c h1 h2 => exact hunit q
        | map hp =>
          refine Sim.bind (Sim.getObj hp) (fun q2 o o' hq2 ho => ?_)
          cases ho with
          | map k h => exact Sim.bind (Sim.setObj (hq2 _ _ hp) (.map _ .nil)) (fun q2 _ _ _ _ => hend q2)
          | _ => exact Sim.bindHalt fun _ => rfl
        | _ => exact Sim.bindHalt fun _ => rfl

theorem Sim.len {at_ : Array TypeId} {ty : TypeId} {c c' : Array Value} (h : RVa p c c') : Sim P p RV (Builtin.len_ at_ ty c) (Builtin.len_ at_ ty c') := by
  unfold Builtin.len_
  cases at_[0]? with
  | none => exact Sim.halt
  | some mt =>
    rcases RVa.get h 0 with ⟨h1, h2⟩ | ⟨m, m', h1, h2, hm⟩
    · rw [h1, h2]; exact Sim.halt
    · rw [h1, h2]
      simp only
      refine Sim.bind (Sim.underlying mt) (fun q d d' hq hd => ?_)
      obtain ⟨rfl, hu⟩ := hd
      have hi : ∀ (q : Ph) (n : Int), Sim P q RV (Pure.pure (goInt n) : Sem Value) (Pure.pure (goInt n)) := fun q n => Sim.pure fun _ _ => .int _ _
      have hmq := hm.mono hq
      cases d' with
      | array n e => cases hmq <;> exact hi q n
      | pointer e =>
        have hp2 : Sim P q RV (Go.underlying e >>= fun d => match d with | .array n _ => Pure.pure (goInt n) | _ => stuck "len: pointer to array expected") (Go.underlying e >>= fun d => match d with | .array n _ => Pure.pure (goInt n) | _ => stuck "len: pointer to array expected") := by
          refine Sim.bind (Sim.underlying e) (fun q2 d d' hq2 hd => ?_)
          obtain ⟨rfl, _⟩ := hd
          cases d' with
          | array n _ => exact hi q2 n
          | _ => exact Sim.halt
        cases hmq <;> exact hp2
      | slice e =>
        cases hmq with
        | snil n k => exact hi q n
        | slice ha n k hc => exact hi q n
        | sopen hp o n k k' h1 h2 h3 h4 => exact hi q n
        | sempty hp o o' c h1 h2 => exact hi q 0
        | _ => exact Sim.halt
      | string =>
        cases hmq with
        | string s => exact hi q s.size
        | _ => exact Sim.halt
      | map a e =>
        cases hmq with
        | mnil => exact hi q 0
        | map hp =>
          refine Sim.bind (Sim.getObj hp) (fun q2 o o' hq2 ho => ?_)
          cases ho with
          | @map es es' k h =>
            have := h.length
            simp only [Array.length_toList] at this
            simp only
            rw [this]
            exact hi q2 es.size
          | _ => exact Sim.halt
        | _ => exact Sim.halt
      | chan a e => cases hmq <;> exact Sim.halt
      | _ => cases hmq <;> exact Sim.halt

theorem Sim.typeAssert {v v' : Value} (h : RV p v v') (xt as : TypeId) (ok : Bool) (hz : ok = true → pureZero P as = true) : Sim P p RV (Instr.typeAssert v xt as ok) (Instr.typeAssert v' xt as ok) := by
  unfold Instr.typeAssert
  have hholds : ∀ {q : Ph} {u u' : Value}, RV q u u' → Sim P q RV (Pure.pure (if ok then .tuple #[u, .bool true] else u) : Sem Value) (Pure.pure (if ok then .tuple #[u', .bool true] else u')) := by
    intro q u u' hu
    refine Sim.pure fun s hs => ?_
    cases ok with
    | true => exact .tuple (.cons (hu.mono hs) (.cons (.bool _) .nil))
    | false => exact hu.mono hs
  have hfails : ∀ (q : Ph) (s d : Option TypeId) (m : String), Sim P q RV (do if ok then Pure.pure (.tuple #[← Go.zeroValue as, .bool false]) else runtimePanic (.typeAssertion s d as m)) (do if ok then Pure.pure (.tuple #[← Go.zeroValue as, .bool false]) else runtimePanic (.typeAssertion s d as m)) := by
    intro q s d m
    cases hok : ok with
    | true =>
      refine Sim.bind (Sim.zeroValue (hz hok)) (fun q4 z z' hq4 hzz => ?_)
      obtain ⟨rfl, hpz⟩ := hzz
      exact Sim.pure fun s hs => .tuple (.cons (RV.of_pure hpz) (.cons (.bool _) .nil))
    | false =>
      simp only [Bool.false_eq_true, if_false]
      exact Sim.none_ (runC_runtimePanic _)
  refine Sim.bind (Sim.underlying as) (fun q d d' hq hd => ?_)
  obtain ⟨rfl, hu⟩ := hd
  have hvq := h.mono hq
  cases d' with
  | interface want =>
    cases hvq with
    | nilIface => exact hfails q _ _ _
    | iface t hv =>
      refine Sim.bind (Sim.typeInfo t) (fun q2 d d' hq2 hd => ?_)
      obtain ⟨rfl, _⟩ := hd
      cases Instr.missingMethod want d'.methods with
      | none => exact hholds (.iface t (hv.mono hq2))
      | some m => exact hfails q2 _ _ _
    | _ => exact Sim.halt
  | _ =>
    cases hvq with
    | nilIface => exact hfails q _ _ _
    | iface t hv => exact Sim.ite (fun _ => hholds hv) (fun _ => hfails q _ _ _)
    | _ => exact Sim.halt
end

end Go.Proofs.YtgjdgincebchhaaGreatDoor.Ev
namespace Go.Proofs.YtgjdgincebchhaaGreatDoor.Ev
open Go Go.RowKit
noncomputable section

/-! ### parts that are put together -/
inductive RPl (p : Ph) : List (Nat × Value) → List (Nat × Value) → Prop
  | nil : RPl p [] []
  | cons (i : Nat) {v v' : Value} {l l' : List (Nat × Value)} (h : RV p v v') (hs : RPl p l l') : RPl p ((i, v) :: l) ((i, v') :: l')

section
variable {P : Program} {p : Ph}

theorem RPl.mono {q : Ph} (hq : p.le q) : ∀ {l l' : List (Nat × Value)}, RPl p l l' → RPl q l l'
  | _, _, .nil => .nil
  | _, _, .cons i h hs => .cons i (h.mono hq) (hs.mono hq)

theorem fold_rel (off : Nat) : ∀ {xs xs' : List Value}, RVl p xs xs' → ∀ (k : Nat) {c c' : Array Value}, RVa p c c' →
    RVa p ((xs.zipIdx k).foldl (fun cs (x : Value × Nat) => cs.setIfInBounds (off + x.2) x.1) c) ((xs'.zipIdx k).foldl (fun cs (x : Value × Nat) => cs.setIfInBounds (off + x.2) x.1) c')
  | _, _, .nil, k, c, c', hc => hc
  | _, _, .cons h hs, k, c, c', hc => by
    simp only [List.zipIdx_cons, List.foldl_cons]
    refine fold_rel off hs (k + 1) ?_
    show RVl p (c.setIfInBounds _ _).toList (c'.setIfInBounds _ _).toList
    rw [Array.toList_setIfInBounds, Array.toList_setIfInBounds]
    exact RVl.set hc _ h

theorem fill_rel (place : Nat → Option (Nat × Nat)) : ∀ {l l' : List (Nat × Value)}, RPl p l l' → ∀ {c c' : Array Value}, RVa p c c' →
    (Instr.fill place c l = none) ∨ ∃ r r', Instr.fill place c l = some r ∧ Instr.fill place c' l' = some r' ∧ RVa p r r'
  | _, _, .nil, c, c', hc => .inr ⟨c, c', rfl, rfl, hc⟩
  | _, _, .cons i h hs, c, c', hc => by
    simp only [Instr.fill]
    cases place i with
    | none => exact .inl rfl
    | some os =>
      obtain ⟨off, size⟩ := os
      have hcells := h.cells
      have hsz := RVa.size hcells
      have hcs := RVa.size hc
      simp only [hsz, hcs]
      split
      · exact .inl rfl
      · refine fill_rel place hs ?_
        rw [← Array.foldl_toList, ← Array.foldl_toList, Array.toList_zipIdx, Array.toList_zipIdx]
        exact fold_rel off hcells 0 hc

theorem runP_sim {α : Type} {t : Sem α} {a : α} (h : runP P t = some a) : Sim P p (fun _ x y => x = a ∧ y = a) t t := fun q hq hp w hr a0 h1 hc => by
  rw [runP_runC P t h] at hc
  simp only [Option.some.injEq, Prod.mk.injEq] at hc
  obtain ⟨rfl, rfl⟩ := hc
  exact ⟨q, a, w, Stp.refl _ _ _, runP_run P t h w, hr, ⟨rfl, rfl⟩, fun h => h⟩

def placesOf (fields : Array Field) : Sem (Array (Nat × Nat)) := fields.mapM fun f => do pure (f.offset, ← sizeOf f.type)
def okBuild (P : Program) (t : TypeId) : Bool := match P.underlying t with
  | some (.struct fields) => (runP P (placesOf fields)).isSome
  | some (.array _ _) => true
  | _ => false

theorem Sim.build {t : TypeId} {l l' : Array (Nat × Value)} (h : RPl p l.toList l'.toList) (hz : pureZero P t = true) (hb : okBuild P t = true) : Sim P p RV (Instr.build t l) (Instr.build t l') := by
  unfold Instr.build
  refine Sim.bind (Sim.zeroValue hz) (fun q z z' hq hzz => ?_)
  obtain ⟨rfl, hpz⟩ := hzz
  refine Sim.bind (Sim.underlying t) (fun q2 d d' hq2 hd => ?_)
  obtain ⟨rfl, hu⟩ := hd
  have hc : RVa q2 z'.cells z'.cells := (RV.of_pure hpz).cells
  have hl := (h.mono hq).mono hq2
  cases d' with
  | struct fields =>
    unfold okBuild at hb
    rw [hu] at hb
    simp only at hb
    obtain ⟨ps, hps⟩ := Option.isSome_iff_exists.1 hb
    refine Sim.bind (runP_sim hps) (fun q3 x y hq3 hxy => ?_)
    obtain ⟨rfl, rfl⟩ := hxy
    rcases fill_rel (y[·]?) (hl.mono hq3) (hc.mono hq3) with h1 | ⟨r, r', h1, h2, h3⟩
    · rw [h1]; exact Sim.halt
    · rw [h1, h2]; exact Sim.pure fun s hs => .agg (h3.mono hs)
  | array n e =>
    refine Sim.bind (Sim.sizeOf e) (fun q3 x y hq3 hxy => ?_)
    obtain ⟨rfl, _⟩ := hxy
    rcases fill_rel (fun i => some (i * y, y)) (hl.mono hq3) (hc.mono hq3) with h1 | ⟨r, r', h1, h2, h3⟩
    · rw [h1]; exact Sim.halt
    · rw [h1, h2]; exact Sim.pure fun s hs => .agg (h3.mono hs)
  | _ => exact Sim.halt

theorem zeros_rel {z : Array Value} (hz : RVa p z z) (n : Nat) : RVa p ((Array.range n).map (z[· % z.size]!)) ((Array.range n).map (z[· % z.size]!)) := by
  refine RVl.refl_of fun v hv => ?_
  simp only [Array.toList_map, List.mem_map] at hv
  obtain ⟨i, _, rfl⟩ := hv
  by_cases hi : i % z.size < z.size
  · rw [getElem!_pos z _ hi]
    rcases RVa.get hz (i % z.size) with ⟨h3, _⟩ | ⟨v, v', h3, h4, hv⟩
    · rw [Array.getElem?_eq_none_iff] at h3; omega
    · rw [Array.getElem?_eq_getElem hi] at h3 h4
      injection h3 with h3
      injection h4 with h4
      subst h3
      exact h4 ▸ hv
  · rw [getElem!_neg z _ hi]
    exact .bool _

def elemOf (P : Program) (t : TypeId) : TypeId := match P.underlying t with
  | some (.slice e) => e
  | some (.map _ e) => e
  | _ => 0
theorem elemOf_slice {t e : TypeId} (h : P.underlying t = some (.slice e)) : elemOf P t = e := by unfold elemOf; rw [h]
theorem elemOf_map {t a e : TypeId} (h : P.underlying t = some (.map a e)) : elemOf P t = e := by unfold elemOf; rw [h]

theorem half_lt {n : Nat} (h : n < 2 ^ 41) : n < HALF := Nat.lt_trans h (by unfold HALF; exact Nat.pow_lt_pow_right (by omega) (by omega))

theorem Sim.buildSlice {t : TypeId} {n : Nat} {l l' : Array (Nat × Value)} (h : RPl p l.toList l'.toList) (hn : n < 2 ^ 40) (hz : pureZero P (elemOf P t) = true) : Sim P p RV (Instr.buildSlice t n l) (Instr.buildSlice t n l') := by
  unfold Instr.buildSlice
  refine Sim.bind (Sim.underlying t) (fun q2 d d' hq2 hd => ?_)
  obtain ⟨rfl, hu⟩ := hd
  cases d' with
  | slice e =>
    rw [elemOf_slice hu] at hz
    refine Sim.bind (Sim.sizeOf e) (fun q3 x y hq3 hxy => ?_)
    obtain ⟨rfl, _⟩ := hxy
    dsimp only
    refine Sim.ite (fun _ => Sim.bindHalt fun _ => rfl) (fun _ => ?_)
    have hend : ∀ {q4 : Ph} {z : Array Value}, q3.le q4 → RVa q4 z z → Sim P q4 RV
        (match Instr.fill (fun i => some (i * y, y)) ((Array.range (n * y)).map (z[· % z.size]!)) l.toList with
          | some cells => do Pure.pure (.slice (some (← Go.newRow e cells)) n n)
          | _ => stuck "buildSlice: a part of the wrong size")
        (match Instr.fill (fun i => some (i * y, y)) ((Array.range (n * y)).map (z[· % z.size]!)) l'.toList with
          | some cells => do Pure.pure (.slice (some (← Go.newRow e cells)) n n)
          | _ => stuck "buildSlice: a part of the wrong size") := by
      intro q4 z hq4 hzz
      rcases fill_rel (fun i => some (i * y, y)) (((h.mono hq2).mono hq3).mono hq4) (zeros_rel hzz (n * y)) with h1 | ⟨r, r', h1, h2, h3⟩
      · rw [h1]; exact Sim.halt
      · rw [h1, h2]
        exact Sim.bind (Sim.newRow e h3) (fun q5 a a' hq5 ha => Sim.pure fun s hs => .slice (ha.mono hs) n n (half_lt (Nat.lt_of_lt_of_le hn (by omega))))
    refine Sim.ite (fun _ => ?_) (fun _ => ?_)
    · exact Sim.bind (R := fun _ x y => x = #[] ∧ y = #[]) (Sim.pure fun _ _ => ⟨rfl, rfl⟩) (fun q4 x y hq4 hxy => by
        obtain ⟨rfl, rfl⟩ := hxy
        exact hend hq4 .nil)
    · refine Sim.bind (Sim.zeroValue hz) (fun q4 z z' hq4 hzz => ?_)
      obtain ⟨rfl, hpz⟩ := hzz
      exact Sim.bind (R := fun _ x y => x = z'.cells ∧ y = z'.cells) (Sim.pure fun _ _ => ⟨rfl, rfl⟩) (fun q5 x y hq5 hxy => by
        obtain ⟨rfl, rfl⟩ := hxy
        exact hend (Ph.le_trans hq4 hq5) (RV.of_pure hpz).cells)
  | _ => exact Sim.halt

theorem Sim.askRoom (n : Nat) : Sim P p (fun _ _ _ => True) (Go.askRoom n) (Go.askRoom n) := by
  unfold Go.askRoom
  exact Sim.ite (fun _ => Sim.mark) (fun _ => Sim.pure fun _ _ => trivial)

theorem Sim.makeSlice {t : TypeId} {k k2 : IntKind} {a b : Int} (ha : 0 ≤ a ∧ a ≤ 2 ^ 40) (hb : 0 ≤ b ∧ b ≤ 2 ^ 40) (hz : pureZero P (elemOf P t) = true) : Sim P p RV (Instr.makeSlice t (.int k a) (.int k2 b)) (Instr.makeSlice t (.int k a) (.int k2 b)) := by
  have wrap : ∀ x : Int, 0 ≤ x → x ≤ 2 ^ 40 → IntKind.i64.wrap x = x := by
    intro x h1 h2
    have e1 : IntKind.i64.signed = true := rfl
    have e2 : IntKind.i64.bits = 64 := rfl
    unfold IntKind.wrap
    simp only [e1, e2, Bool.true_and]
    have h3 : x % 2 ^ 64 = x := Int.emod_eq_of_lt h1 (by omega)
    rw [h3]
    rw [if_neg (by simp; omega)]
  unfold Instr.makeSlice
  refine Sim.bind (Sim.underlying t) (fun q2 d d' hq2 hd => ?_)
  obtain ⟨rfl, hu⟩ := hd
  cases d' with
  | slice e =>
    rw [elemOf_slice hu] at hz
    refine Sim.bind (R := fun _ x y => x = a ∧ y = a) (Sim.bind (Sim.asIntOf (.int k a)) (fun q3 x y hq3 hxy => Sim.pure fun _ _ => ?_)) (fun q3 x y hq3 hxy => ?_)
    · obtain ⟨rfl, h2, _⟩ := hxy
      simp only [Value.int.injEq] at h2
      exact ⟨h2.2.symm, h2.2.symm⟩
    obtain ⟨rfl, rfl⟩ := hxy
    refine Sim.bind (R := fun _ x y => x = b ∧ y = b) (Sim.bind (Sim.asIntOf (.int k2 b)) (fun q3 x y hq3 hxy => Sim.pure fun _ _ => ?_)) (fun q4 x2 y2 hq4 hxy => ?_)
    · obtain ⟨rfl, h2, _⟩ := hxy
      simp only [Value.int.injEq] at h2
      exact ⟨h2.2.symm, h2.2.symm⟩
    obtain ⟨rfl, rfl⟩ := hxy
    refine Sim.bind (Sim.typeInfo e) (fun q5 i i' hq5 hi => ?_)
    obtain ⟨rfl, _⟩ := hi
    dsimp only
    rw [wrap y ha.1 ha.2, wrap y2 hb.1 hb.2]
    have hend : ∀ {q6 : Ph}, q5.le q6 → Sim P q6 RV
        (Go.sizeOf e >>= fun s => if y2.toNat * s = 0 then ((Pure.pure #[] : Sem (Array Value)) >>= fun zero => Go.newRow e ((Array.range (y2.toNat * s)).map (zero[· % zero.size]!)) >>= fun r => Pure.pure (.slice (some r) y.toNat y2.toNat))
          else (Go.zeroValue e >>= fun v => (Pure.pure v.cells : Sem (Array Value)) >>= fun zero => Go.newRow e ((Array.range (y2.toNat * s)).map (zero[· % zero.size]!)) >>= fun r => Pure.pure (.slice (some r) y.toNat y2.toNat)))
        (Go.sizeOf e >>= fun s => if y2.toNat * s = 0 then ((Pure.pure #[] : Sem (Array Value)) >>= fun zero => Go.newRow e ((Array.range (y2.toNat * s)).map (zero[· % zero.size]!)) >>= fun r => Pure.pure (.slice (some r) y.toNat y2.toNat))
          else (Go.zeroValue e >>= fun v => (Pure.pure v.cells : Sem (Array Value)) >>= fun zero => Go.newRow e ((Array.range (y2.toNat * s)).map (zero[· % zero.size]!)) >>= fun r => Pure.pure (.slice (some r) y.toNat y2.toNat))) := by
      intro q6 hq6
      refine Sim.bind (Sim.sizeOf e) (fun q7 s s' hq7 hs => ?_)
      obtain ⟨rfl, _⟩ := hs
      have hrow : ∀ {q8 : Ph} {z : Array Value}, RVa q8 z z → Sim P q8 RV (Go.newRow e ((Array.range (y2.toNat * s')).map (z[· % z.size]!)) >>= fun r => Pure.pure (.slice (some r) y.toNat y2.toNat)) (Go.newRow e ((Array.range (y2.toNat * s')).map (z[· % z.size]!)) >>= fun r => Pure.pure (.slice (some r) y.toNat y2.toNat)) := by
        intro q8 z hzz
        exact Sim.bind (Sim.newRow e (zeros_rel hzz _)) (fun q9 a a' hq9 ha => Sim.pure fun s hs => .slice (ha.mono hs) _ _ (half_lt (by have := hb.2; omega)))
      refine Sim.ite (fun _ => ?_) (fun _ => ?_)
      · exact Sim.bind (R := fun _ x y => x = #[] ∧ y = #[]) (Sim.pure fun _ _ => ⟨rfl, rfl⟩) (fun q4 x y hq4 hxy => by
          obtain ⟨rfl, rfl⟩ := hxy
          exact hrow .nil)
      · refine Sim.bind (Sim.zeroValue hz) (fun q4 z z' hq4 hzz => ?_)
        obtain ⟨rfl, hpz⟩ := hzz
        exact Sim.bind (R := fun _ x y => x = z'.cells ∧ y = z'.cells) (Sim.pure fun _ _ => ⟨rfl, rfl⟩) (fun q5 x y hq5 hxy => by
          obtain ⟨rfl, rfl⟩ := hxy
          exact hrow (RV.of_pure hpz).cells)
    exact Sim.ite (fun _ => Sim.ite (fun _ => Sim.bindHalt (runC_runtimePanic _)) (fun _ => Sim.ite (fun _ => Sim.bindHalt (runC_runtimePanic _)) (fun _ => Sim.bindHalt fun _ => rfl))) (fun _ => Sim.bind (Sim.askRoom _) (fun q6 _ _ hq6 _ => hend hq6))
  | _ => exact Sim.halt

/-! ### a range over a map -/
theorem Sim.range (t : TypeId) {v v' : Value} (h : RV p v v') : Sim P p RV (Instr.range t v) (Instr.range t v') := by
  unfold Instr.range
  refine Sim.bind (Sim.underlying t) (fun q d d' hq hd => ?_)
  obtain ⟨rfl, hu⟩ := hd
  have hnew : ∀ {q1 : Ph} {o o' : Obj} {K0 K : Obj → Sem Value}, RO P q1 none o o' → (∀ o, K0 o = (newObj o >>= fun r => Pure.pure (.pointer (some ⟨r, 0, none⟩)))) → K = K0 → Sim P q1 RV ((Pure.pure o : Sem Obj) >>= K0) ((Pure.pure o' : Sem Obj) >>= K) := by
    intro q1 o o' K0 K ho hK hKK
    subst hKK
    refine Sim.bind (R := fun q x y => RO P q none x y) (Sim.pure fun s hs => ho.mono hs) (fun q2 x y hq2 hxy => ?_)
    rw [hK, hK]
    exact Sim.bind (Sim.new hxy) (fun q3 a b hq3 hab => Sim.pure fun s hs => .ptr (.mk (hs _ _ hab) 0))
  have hvq := h.mono hq
  cases d' with
  | string =>
    cases hvq with
    | string s => exact hnew (.siter s 0) (fun _ => rfl) rfl
    | _ => exact Sim.bindHalt fun _ => rfl
  | map a e =>
    cases hvq with
    | mnil => exact hnew (.iter0 0 #[] 0) (fun _ => rfl) rfl
    | map hp =>
      refine Sim.bind (Sim.getObj hp) (fun q2 o o' hq2 ho => ?_)
      cases ho with
      | map c h => exact hnew (.iter (hq2 _ _ hp) c #[] c) (fun _ => rfl) rfl
      | _ => exact Sim.bindHalt fun _ => rfl
    | _ => exact Sim.bindHalt fun _ => rfl
  | _ => cases hvq <;> exact Sim.bindHalt fun _ => rfl
end

end

end Go.Proofs.YtgjdgincebchhaaGreatDoor.Ev
namespace Go.Proofs.YtgjdgincebchhaaGreatDoor.Ev
open Go Go.RowKit
noncomputable section

section
variable {P : Program} {p : Ph}

theorem REa.filter {es es' : Array MapEntry} (h : REa p es es') (f : Nat → Bool) : REa p (es.filter fun e => f e.born) (es'.filter fun e => f e.born) := by
  show REl p _ _
  rw [Array.toList_filter, Array.toList_filter]
  exact REl.filter f h
theorem REa.size {es es' : Array MapEntry} (h : REa p es es') : es'.size = es.size := by
  have := REl.length h
  simpa using this
theorem REa.empty {es es' : Array MapEntry} (h : REa p es es') : es'.isEmpty = es.isEmpty := by simp [Array.isEmpty, h.size]
theorem REa.all {es es' : Array MapEntry} (h : REa p es es') (f : Nat → Bool) : (es'.all fun e => f e.born) = (es.all fun e => f e.born) := by
  rw [← Array.all_toList, ← Array.all_toList]
  exact REl.all f h
theorem REa.append {a a' b b' : Array MapEntry} (h : REa p a a') (k : REa p b b') : REa p (a ++ b) (a' ++ b') := by
  show REl p _ _
  rw [Array.toList_append, Array.toList_append]
  exact REl.append h k
theorem REa.get {es es' : Array MapEntry} (h : REa p es es') (i : Nat) : (es[i]? = none ∧ es'[i]? = none) ∨ ∃ e e', es[i]? = some e ∧ es'[i]? = some e' ∧ e'.key = e.key ∧ pureV e.key = true ∧ e'.born = e.born ∧ RV p e.val e'.val := by
  have hs := h.size
  cases h0 : es[i]? with
  | none =>
    refine .inl ⟨rfl, ?_⟩
    rw [Array.getElem?_eq_none_iff] at h0 ⊢
    omega
  | some e =>
    obtain ⟨e', he', h1⟩ := REl.get h (i := i) (e := e) (by rw [Array.getElem?_toList]; exact h0)
    rw [Array.getElem?_toList] at he'
    exact .inr ⟨e, e', rfl, he', h1⟩

theorem Sim.over (q : Ph) : Sim P q RV (Pure.pure (.tuple #[.bool false]) : Sem Value) (Pure.pure (.tuple #[.bool false])) := Sim.pure fun _ _ => .tuple (.cons (.bool _) .nil)

theorem Sim.next {v v' : Value} (h : RV p v v') (s : Bool) (t : TypeId) : Sim P p RV (Instr.next v s t) (Instr.next v' s t) := by
  unfold Instr.next
  cases h with
  | @ptr a a' ha =>
    cases ha with
    | @mk b b' r hp o =>
      cases o with
      | succ o => exact Sim.halt
      | zero =>
        simp only
        refine Sim.bind (Sim.getObj_ hp) (fun q o o' hq hoo => ?_)
        obtain ⟨rfl, ho⟩ := hoo
        cases ho with
        | siter str pos =>
          cases s with
          | false => exact Sim.halt
          | true =>
            simp only
            refine Sim.ite (fun _ => ?_) (fun _ => Sim.over q)
            exact Sim.bind (Sim.setObj (hq _ _ hp) (.siter _ _)) (fun q2 _ _ _ _ => Sim.pure fun _ _ => .tuple (.cons (.bool _) (.cons (.int _ _) (.cons (.int _ _) .nil))))
        | iter0 a b c =>
          cases s with
          | true => exact Sim.halt
          | false => exact Sim.over q
        | @iter m m' hm since seen last =>
          cases s with
          | true => exact Sim.halt
          | false =>
            simp only
            refine Sim.bind (Sim.getObj hm) (fun q2 o o' hq2 ho => ?_)
            cases ho with
            | @map es es' clock hes =>
              simp only
              have hem := REa.empty hes
              have hall := REa.all hes (fun b => decide (b ≥ last))
              rw [hem, hall]
              refine Sim.ite (fun _ => Sim.bindHalt fun _ => rfl) (fun _ => ?_)
              have hleft := REa.filter hes (fun b => !seen.contains b)
              have hold := REa.filter hleft (fun b => decide (b < since))
              have hnew := REa.filter hleft (fun b => decide (b ≥ since))
              have hboth := REa.append hold hnew
              have hoe := REa.empty hold
              have hsz := REa.size hboth
              rw [hoe]
              generalize (Array.filter (fun e => decide (e.born < since)) (Array.filter (fun e => !seen.contains e.born) es) ++ Array.filter (fun e => decide (e.born ≥ since)) (Array.filter (fun e => !seen.contains e.born) es)) = A at hboth hsz ⊢
              generalize (Array.filter (fun e => decide (e.born < since)) (Array.filter (fun e => !seen.contains e.born) es') ++ Array.filter (fun e => decide (e.born ≥ since)) (Array.filter (fun e => !seen.contains e.born) es')) = A' at hboth hsz ⊢
              generalize (Array.filter (fun e => decide (e.born < since)) (Array.filter (fun e => !seen.contains e.born) es)).isEmpty = fl
              have hcs : ((if fl = true then #[none] else #[]) ++ Array.map some A').size = ((if fl = true then #[none] else #[]) ++ Array.map some A).size := by
                rw [Array.size_append, Array.size_append, Array.size_map, Array.size_map, hsz]
              rw [hcs]
              refine Sim.bind Sim.choose (fun q3 x y hq3 hxy => ?_)
              obtain ⟨rfl, rfl⟩ := hxy
              have hle := Ph.le_trans (Ph.le_trans hq hq2) hq3
              cases fl with
              | true =>
                have e1 : ∀ Z : Array MapEntry, ((if true = true then #[none] else #[]) ++ Array.map some Z)[0]? = some none := fun Z => by
                  rw [if_pos rfl, Array.getElem?_append_left (by simp)]
                  rfl
                rw [e1, e1]
                exact Sim.over q3
              | false =>
                have e1 : ∀ Z : Array MapEntry, ((if false = true then #[none] else #[]) ++ Array.map some Z)[0]? = (Z[0]?).map some := fun Z => by simp
                rw [e1, e1]
                rcases REa.get hboth 0 with ⟨h1, h2⟩ | ⟨e, e', h1, h2, h3, h4, h5, h6⟩
                · rw [h1, h2]; exact Sim.halt
                · rw [h1, h2]
                  simp only [Option.map_some]
                  rw [h3, h5]
                  exact Sim.bind (Sim.setObj (hle _ _ hp) (.iter ((Ph.le_trans hq2 hq3) _ _ hm) _ _ _)) (fun q4 _ _ hq4 _ => Sim.pure fun r hr => .tuple (.cons (.bool _) (.cons (RV.of_pure h4) (.cons (((h6.mono hq3).mono hq4).mono hr) .nil))))
            | _ => exact Sim.halt
        | _ => cases s <;> exact Sim.halt
  | _ => exact Sim.halt

theorem Sim.entry {v v' : Value} (h : RV p v v') : Sim P p RV (Instr.entry v) (Instr.entry v') := by
  unfold Instr.entry
  cases h with
  | @ptr a a' ha =>
    cases ha with
    | @mk b b' r hp o =>
      cases o with
      | succ o => exact Sim.halt
      | zero =>
        simp only
        refine Sim.bind (Sim.getObj_ hp) (fun q o o' hq hoo => ?_)
        obtain ⟨rfl, ho⟩ := hoo
        cases ho with
        | @iter m m' hm since seen last =>
          simp only
          cases seen.back? with
          | none => exact Sim.halt
          | some stamp =>
            simp only
            refine Sim.bind (Sim.getObj hm) (fun q2 o o' hq2 ho => ?_)
            cases ho with
            | @map es es' clock hes =>
              simp only
              refine Sim.ite (fun _ => Sim.bindHalt fun _ => rfl) (fun _ => ?_)
              have hf : (es.find? (·.born == stamp) = none ∧ es'.find? (·.born == stamp) = none) ∨ ∃ e e', es.find? (·.born == stamp) = some e ∧ es'.find? (·.born == stamp) = some e' ∧ e'.key = e.key ∧ pureV e.key = true ∧ RV q2 e.val e'.val := by
                rw [← Array.find?_toList, ← Array.find?_toList]
                have key : ∀ {l l' : List MapEntry}, REl q2 l l' → (l.find? (·.born == stamp) = none ∧ l'.find? (·.born == stamp) = none) ∨ ∃ e e', l.find? (·.born == stamp) = some e ∧ l'.find? (·.born == stamp) = some e' ∧ e'.key = e.key ∧ pureV e.key = true ∧ RV q2 e.val e'.val := by
                  intro l l' h
                  induction h with
                  | nil => exact .inl ⟨rfl, rfl⟩
                  | cons k hk n hv hs ih =>
                    simp only [List.find?_cons]
                    cases n == stamp with
                    | true => exact .inr ⟨_, _, rfl, rfl, rfl, hk, hv⟩
                    | false => exact ih
                exact key hes
              rcases hf with ⟨h1, h2⟩ | ⟨e, e', h1, h2, h3, h4, h5⟩
              · rw [h1, h2]; exact Sim.halt
              · rw [h1, h2]
                simp only
                rw [h3]
                exact Sim.pure fun r hr => .tuple (.cons (RV.of_pure h4) (.cons (h5.mono hr) .nil))
            | _ => exact Sim.halt
        | _ => exact Sim.halt
  | _ => exact Sim.halt

/-! ### a list cut -/
theorem Sim.sliceBound {x x' : Value} (h : RV p x x') (y y' : Nat) (code code' : BoundsCode) (hb : ∀ k i, x = .int k i → 0 ≤ i → i ≤ y → i ≤ y') : Sim P p (fun _ a b => b = a ∧ a ≤ y ∧ a ≤ y' ∧ ∃ k i, x = .int k i ∧ i.toNat = a) (Instr.sliceBound x y code) (Instr.sliceBound x' y' code') := by
  unfold Instr.sliceBound
  refine Sim.bind (Sim.asIntOf h) (fun q a a' hq e => ?_)
  obtain ⟨rfl, hx, rfl⟩ := e
  obtain ⟨k, i⟩ := a'
  simp only
  by_cases h1 : 0 ≤ i ∧ i ≤ (y : Int)
  · rw [if_pos h1, if_pos ⟨h1.1, hb k i hx h1.1 h1.2⟩]
    have := hb k i hx h1.1 h1.2
    exact Sim.pure fun _ _ => ⟨rfl, by omega, by omega, k, i, hx, rfl⟩
  · rw [if_neg h1]
    exact Sim.none_ (runC_bounds _ _ _ _)

theorem NM.bounds {α : Type} {Q : α → Prop} (k : IntKind) (x y : Int) (c : BoundsCode) : NM P Q (boundsPanic k x y c) := by
  unfold boundsPanic
  dsimp only
  split
  · exact NM.bind (Q := fun _ => True) (NM.bind (Q := fun _ => True) (.choose _ fun _ => .pure trivial) fun _ _ => .pure trivial) fun _ _ => NM.panic _ trivial
  · exact NM.bind (Q := fun _ => True) (.pure trivial) fun _ _ => NM.panic _ trivial
theorem NM.sliceBound (k : IntKind) (i : Int) (y : Nat) (c : BoundsCode) : NM P (fun a => a ≤ y) (Instr.sliceBound (.int k i) y c) := by
  unfold Instr.sliceBound
  refine NM.bind (Q := fun x => x = (k, i)) (.pure rfl) (fun x hx => ?_)
  subst hx
  dsimp only
  split
  · exact .pure (by omega)
  · exact NM.bounds _ _ _ _

def isIntO : Option Value → Prop
  | none => True
  | some (.int _ _) => True
  | some _ => False

theorem NM.sliceBounds (s : Bool) (len cap : Nat) {lo hi mx : Option Value} (hl : isIntO lo) (hh : isIntO hi) (hm : isIntO mx) : NM P (fun x => x.2.2 ≤ cap ∧ x.1 ≤ x.2.1 ∧ (x.2.1 ≤ x.2.2 ∨ x.2.1 = len)) (Instr.sliceBounds s len cap lo hi mx) := by
  have hlast : ∀ (lo : Option Value) (h m : Nat) (c : BoundsCode), isIntO lo → m ≤ cap → (h ≤ m ∨ h = len) → NM P (fun x : Nat × Nat × Nat => x.2.2 ≤ cap ∧ x.1 ≤ x.2.1 ∧ (x.2.1 ≤ x.2.2 ∨ x.2.1 = len)) (match lo with | some v => Instr.sliceBound v h c >>= fun l => Pure.pure (l, h, m) | none => (Pure.pure 0 : Sem Nat) >>= fun l => Pure.pure (l, h, m)) := by
    intro lo h m c hl hmc hhm
    cases lo with
    | none => exact NM.bind (Q := fun x => x = 0) (.pure rfl) fun x hx => .pure ⟨hmc, by subst hx; exact Nat.zero_le _, hhm⟩
    | some v =>
      cases v with
      | int k i => exact NM.bind (NM.sliceBound _ _ _ _) fun _ hx => .pure ⟨hmc, hx, hhm⟩
      | _ => exact hl.elim
  unfold Instr.sliceBounds
  dsimp only
  cases mx with
  | none =>
    refine NM.bind (Q := fun m => m ≤ cap) (.pure (Nat.le_refl _)) (fun m hmc => ?_)
    cases hi with
    | none => exact NM.bind (Q := fun x => x = len) (.pure rfl) fun h hx => hlast lo h m _ hl hmc (.inr hx)
    | some v =>
      cases v with
      | int k i => exact NM.bind (NM.sliceBound _ _ _ _) fun h hx => hlast lo h m _ hl hmc (.inl hx)
      | _ => exact hh.elim
  | some u =>
    cases u with
    | int k i =>
      refine NM.bind (NM.sliceBound _ _ _ _) (fun m hmc => ?_)
      cases hi with
      | none => exact NM.stop _ _
      | some v =>
        cases v with
        | int k i => exact NM.bind (NM.sliceBound _ _ _ _) fun h hx => hlast lo h m _ hl hmc (.inl hx)
        | _ => exact hh.elim
    | _ => exact hm.elim

/-- the bounds of a list that may grow: nothing beyond its length is asked for. -/
theorem Sim.boundsOpen {len cap cap' : Nat} {lo hi mx : Option Value} (hl : isIntO lo) (hh : ∀ v, hi = some v → ∃ k i, v = .int k i ∧ i ≤ len) (hm : ∀ v, mx = some v → ∃ k i, v = .int k i ∧ i ≤ len) (hc : len ≤ cap) (hc' : len ≤ cap') :
    Sim P p (fun _ x y => y.1 = x.1 ∧ y.2.1 = x.2.1 ∧ x.1 ≤ x.2.1 ∧ x.2.1 ≤ len ∧ ((mx = none ∧ x.2.2 = cap ∧ y.2.2 = cap') ∨ (mx ≠ none ∧ y.2.2 = x.2.2 ∧ x.2.2 ≤ len))) (Instr.sliceBounds true len cap lo hi mx) (Instr.sliceBounds true len cap' lo hi mx) := by
  have hlast : ∀ {q : Ph} (lo : Option Value) (h m m' : Nat) (c : BoundsCode), isIntO lo → h ≤ len → ((mx = none ∧ m = cap ∧ m' = cap') ∨ (mx ≠ none ∧ m' = m ∧ m ≤ len)) → Sim P q (fun _ (x y : Nat × Nat × Nat) => y.1 = x.1 ∧ y.2.1 = x.2.1 ∧ x.1 ≤ x.2.1 ∧ x.2.1 ≤ len ∧ ((mx = none ∧ x.2.2 = cap ∧ y.2.2 = cap') ∨ (mx ≠ none ∧ y.2.2 = x.2.2 ∧ x.2.2 ≤ len)))
      (match lo with | some v => Instr.sliceBound v h c >>= fun l => Pure.pure (l, h, m) | none => (Pure.pure 0 : Sem Nat) >>= fun l => Pure.pure (l, h, m))
      (match lo with | some v => Instr.sliceBound v h c >>= fun l => Pure.pure (l, h, m') | none => (Pure.pure 0 : Sem Nat) >>= fun l => Pure.pure (l, h, m')) := by
    intro q lo h m m' c hl hle hcase
    cases lo with
    | none => exact Sim.bind (R := fun _ x y => x = 0 ∧ y = 0) (Sim.pure fun _ _ => ⟨rfl, rfl⟩) (fun q2 x y _ hxy => by
        obtain ⟨rfl, rfl⟩ := hxy
        exact Sim.pure fun _ _ => ⟨rfl, rfl, Nat.zero_le _, hle, hcase⟩)
    | some v =>
      cases v with
      | int k i => exact Sim.bind (NM.sim (NM.sliceBound _ _ _ _)) (fun q2 x y _ hxy => by
          obtain ⟨rfl, hx⟩ := hxy
          exact Sim.pure fun _ _ => ⟨rfl, rfl, hx, hle, hcase⟩)
      | _ => exact hl.elim
  unfold Instr.sliceBounds
  dsimp only
  cases mx with
  | none =>
    refine Sim.bind (R := fun _ x y => x = cap ∧ y = cap') (Sim.pure fun _ _ => ⟨rfl, rfl⟩) (fun q2 m m' _ hmm => ?_)
    obtain ⟨rfl, rfl⟩ := hmm
    cases hi with
    | none => exact Sim.bind (R := fun _ x y => x = len ∧ y = len) (Sim.pure fun _ _ => ⟨rfl, rfl⟩) (fun q2 x y _ hxy => by
        obtain ⟨rfl, rfl⟩ := hxy
        exact hlast lo _ _ _ _ hl (Nat.le_refl _) (.inl ⟨rfl, rfl, rfl⟩))
    | some v =>
      obtain ⟨k, i, rfl, hi⟩ := hh v rfl
      refine Sim.bind (Sim.sliceBound (.int k i) m m' _ _ (fun k2 i2 e h0 _ => by cases e; omega)) (fun q2 x y _ hxy => ?_)
      obtain ⟨rfl, h1, h2, k2, i2, e, h3⟩ := hxy
      cases e
      exact hlast lo _ _ _ _ hl (by omega) (.inl ⟨rfl, rfl, rfl⟩)
  | some u =>
    obtain ⟨k, i, rfl, hi1⟩ := hm u rfl
    refine Sim.bind (Sim.sliceBound (.int k i) cap cap' _ _ (fun k2 i2 e h0 _ => by cases e; omega)) (fun q2 x y _ hxy => ?_)
    obtain ⟨rfl, h1, h2, k2, i2, e, h3⟩ := hxy
    cases e
    cases hi with
    | none => exact Sim.bindHalt fun _ => rfl
    | some v =>
      obtain ⟨k3, i3, rfl, hi3⟩ := hh v rfl
      refine Sim.bind (NM.sim (NM.sliceBound k3 i3 _ _)) (fun q2 x y _ hxy => ?_)
      obtain ⟨rfl, h4⟩ := hxy
      exact hlast lo _ _ _ _ hl (by omega) (.inr ⟨by simp, rfl, by omega⟩)
end

end

end Go.Proofs.YtgjdgincebchhaaGreatDoor.Ev
namespace Go.Proofs.YtgjdgincebchhaaGreatDoor.Ev
open Go Go.RowKit
noncomputable section

/-- a cut of a list that may grow asks for nothing beyond its length. -/
def okSlice (x : Value) (hi mx : Option Value) : Bool := match x with
  | .slice (some _) n c =>
    if HALF ≤ c then decide (n < HALF) && decide (HALF + n ≤ c) && (match hi with | some (.int _ i) => decide (i ≤ n) | none => true | _ => false) && (match mx with | some (.int _ i) => decide (i ≤ n) | none => true | _ => false) else true
  | _ => true

section
variable {P : Program} {p : Ph}

theorem okSlice_open {a : Addr} {n c : Nat} {hi mx : Option Value} (hc : HALF ≤ c) (h : okSlice (.slice (some a) n c) hi mx = true) : n < HALF ∧ HALF + n ≤ c ∧ (∀ v, hi = some v → ∃ k i, v = .int k i ∧ i ≤ n) ∧ (∀ v, mx = some v → ∃ k i, v = .int k i ∧ i ≤ n) := by
  unfold okSlice at h
  simp only [if_pos hc, Bool.and_eq_true, decide_eq_true_eq] at h
  obtain ⟨⟨⟨h1, h2⟩, h3⟩, h4⟩ := h
  refine ⟨h1, h2, fun v hv => ?_, fun v hv => ?_⟩
  · subst hv
    cases v with
    | int k i => exact ⟨k, i, rfl, by simpa using h3⟩
    | _ => simp at h3
  · subst hv
    cases v with
    | int k i => exact ⟨k, i, rfl, by simpa using h4⟩
    | _ => simp at h4

theorem Sim.slice (t : TypeId) {x x' : Value} (hx : RV p x x') {lo hi mx : Option Value} (hl : isIntO lo) (hh : isIntO hi) (hm : isIntO mx) (hok : okSlice x hi mx = true) (harr : ∀ e, P.underlying t ≠ some (.pointer e)) : Sim P p RV (Instr.slice t x lo hi mx) (Instr.slice t x' lo hi mx) := by
  unfold Instr.slice
  refine Sim.bind (Sim.underlying t) (fun q d d' hq hd => ?_)
  obtain ⟨rfl, hu⟩ := hd
  cases d' with
  | pointer e => exact absurd hu (harr e)
  | string =>
    cases hx with
    | string s =>
      simp only
      refine Sim.ite (fun _ => Sim.bindHalt fun _ => rfl) (fun _ => ?_)
      refine Sim.bind (NM.sim (NM.sliceBounds _ _ _ hl hh trivial)) (fun q2 y z hq2 hyz => ?_)
      obtain ⟨rfl, _⟩ := hyz
      exact Sim.pure fun _ _ => .string _
    | _ => exact Sim.halt
  | slice e =>
    cases hx with
    | snil n c =>
      simp only
      refine Sim.bind (NM.sim (NM.sliceBounds _ _ _ hl hh hm)) (fun q2 y z hq2 hyz => ?_)
      obtain ⟨rfl, _⟩ := hyz
      refine Sim.bind (Sim.sizeOf e) (fun q3 s s' hq3 hs => ?_)
      obtain ⟨rfl, _⟩ := hs
      refine Sim.pure fun _ _ => ?_
      simp only [Option.map_none]
      split <;> exact .snil _ _
    | @slice a a' ha n c hc =>
      simp only
      refine Sim.bind (NM.sim (NM.sliceBounds _ _ _ hl hh hm)) (fun q2 y z hq2 hyz => ?_)
      obtain ⟨rfl, hz⟩ := hyz
      obtain ⟨l, h, m⟩ := z
      refine Sim.bind (Sim.sizeOf e) (fun q3 s s' hq3 hs => ?_)
      obtain ⟨rfl, _⟩ := hs
      refine Sim.pure fun q4 hq4 => ?_
      have ha4 := (((ha.mono hq).mono hq2).mono hq3).mono hq4
      have hlt : m - l < HALF := by
        have : m ≤ c := hz.1
        omega
      simp only
      by_cases hml : m = l
      · rw [if_pos hml, if_pos hml]
        exact .slice ha4 _ _ hlt
      · rw [if_neg hml, if_neg hml]
        exact .slice (ha4.add _) _ _ hlt
    | @sopen b b' r hp o n c c' hc hle he hn =>
      obtain ⟨h1, h2, h3, h4⟩ := okSlice_open hc hok
      simp only
      refine Sim.bind (Sim.boundsOpen hl h3 h4 (by omega) hn) (fun q2 y z hq2 hyz => ?_)
      obtain ⟨l, h, m⟩ := y
      obtain ⟨l', h', m'⟩ := z
      simp only at hyz
      obtain ⟨rfl, rfl, hlh, hhn, hcase⟩ := hyz
      refine Sim.bind (Sim.sizeOf e) (fun q3 s s' hq3 hs => ?_)
      obtain ⟨rfl, _⟩ := hs
      refine Sim.pure fun q4 hq4 => ?_
      have hp4 := hq4 _ _ (hq3 _ _ (hq2 _ _ (hq _ _ hp)))
      simp only
      rcases hcase with ⟨_, rfl, rfl⟩ | ⟨_, rfl, hmn⟩
      · rw [if_neg (by omega : ¬ m = l')]
        by_cases hml : m' = l'
        · rw [if_pos hml]
          have e1 : h' - l' = 0 := by omega
          have e2 : m' - l' = 0 := by omega
          rw [e1, e2]
          have e3 : ∀ k, ((some (⟨b, o, none⟩ : Addr)).map (·.add k)) = some ⟨b, o + k, none⟩ := fun k => by
            simp only [Option.map_some, Addr.add]
            split
            · subst_vars; rfl
            · rfl
          rw [e3]
          exact .sempty hp4 _ _ _ (.inr (by omega)) (by omega)
        · rw [if_neg hml]
          have e3 : ∀ (g k : Nat), ((some (⟨g, o, none⟩ : Addr)).map (·.add k)) = some ⟨g, o + k, none⟩ := fun g k => by
            simp only [Option.map_some, Addr.add]
            split
            · subst_vars; rfl
            · rfl
          rw [e3, e3]
          exact .sopen hp4 _ _ _ _ (by omega) (by omega) (by omega) (by omega)
      · have hlt : m' - l' < HALF := by omega
        by_cases hml : m' = l'
        · rw [if_pos hml, if_pos hml]
          exact .slice (.mk hp4 o) _ _ hlt
        · rw [if_neg hml, if_neg hml]
          exact .slice ((RA.mk hp4 o).add _) _ _ hlt
    | @sempty b b' r hp o o' c hc hle =>
      have hb : (∀ v, hi = some v → ∃ k i, v = .int k i ∧ i ≤ (0 : Nat)) ∧ (∀ v, mx = some v → ∃ k i, v = .int k i ∧ i ≤ (0 : Nat)) ∨ c = 0 := by
        rcases hc with h0 | hc
        · exact .inr h0
        · obtain ⟨_, _, h3, h4⟩ := okSlice_open hc hok
          exact .inl ⟨h3, h4⟩
      simp only
      rcases hb with ⟨h3, h4⟩ | rfl
      · refine Sim.bind (Sim.boundsOpen hl h3 h4 (Nat.zero_le _) (Nat.zero_le _)) (fun q2 y z hq2 hyz => ?_)
        obtain ⟨l, h, m⟩ := y
        obtain ⟨l', h', m'⟩ := z
        simp only at hyz
        obtain ⟨rfl, rfl, hlh, hhn, hcase⟩ := hyz
        obtain rfl : h' = 0 := by omega
        obtain rfl : l' = 0 := by omega
        refine Sim.bind (Sim.sizeOf e) (fun q3 s s' hq3 hs => ?_)
        obtain ⟨rfl, _⟩ := hs
        refine Sim.pure fun q4 hq4 => ?_
        have hp4 := hq4 _ _ (hq3 _ _ (hq2 _ _ (hq _ _ hp)))
        have e3 : ∀ (a : Addr), ((some a).map (·.add (0 * s'))) = some a := fun a => by simp [Addr.add]
        simp only [e3, ite_self, Nat.sub_zero]
        rcases hcase with ⟨_, rfl, rfl⟩ | ⟨_, rfl, hmn⟩
        · exact .sempty hp4 _ _ _ hc hle
        · obtain rfl : m' = 0 := by omega
          exact .sempty hp4 _ _ _ (.inl rfl) (Nat.zero_le _)
      · refine Sim.bind (NM.sim (NM.sliceBounds _ _ _ hl hh hm)) (fun q2 y z hq2 hyz => ?_)
        obtain ⟨rfl, hz⟩ := hyz
        obtain ⟨l, h, m⟩ := z
        simp only at hz
        obtain rfl : m = 0 := by omega
        obtain rfl : h = 0 := by omega
        obtain rfl : l = 0 := by omega
        refine Sim.bind (Sim.sizeOf e) (fun q3 s s' hq3 hs => ?_)
        obtain ⟨rfl, _⟩ := hs
        refine Sim.pure fun q4 hq4 => ?_
        have hp4 := hq4 _ _ (hq3 _ _ (hq2 _ _ (hq _ _ hp)))
        simp only [if_true]
        exact .sempty hp4 _ _ _ (.inl rfl) (Nat.zero_le _)
    | _ => exact Sim.halt
  | _ => cases hx <;> exact Sim.halt
end

end

end Go.Proofs.YtgjdgincebchhaaGreatDoor.Ev
namespace Go.Proofs.YtgjdgincebchhaaGreatDoor.Ev
open Go Go.RowKit
noncomputable section

def nth : List Value → Nat → Value
  | [], _ => undef
  | v :: _, 0 => v
  | _ :: l, i + 1 => nth l i

def evO (tm : List Value) : Operand → Value
  | .tmp t => nth tm t
  | .const v => v
  | .global g => if g < NG then .pointer (some ⟨g, 0, none⟩) else undef
  | .func f => .func (.func f) #[] #[]

def okX : Operand → Bool
  | .const v => pureV v
  | .global g => decide (g < NG)
  | _ => true

def isInt : Value → Bool
  | .int _ _ => true
  | _ => false
def pureInt (lo hi : Int) : Value → Bool
  | .int _ n => decide (lo ≤ n) && decide (n ≤ hi)
  | _ => false

/-- one of the two is nil, and the other is not. -/
def nilEq : Value → Value → Bool
  | .pointer none, .pointer (some _) | .pointer (some _), .pointer none => true
  | .slice none _ _, .slice (some _) _ _ | .slice (some _) _ _, .slice none _ _ => true
  | .map none, .map (some _) | .map (some _), .map none => true
  | .nilFunc, .func .. | .func .., .nilFunc => true
  | .nilIface, .iface .. | .iface .., .nilIface => true
  | _, _ => false



def okFn : Fn → Bool
  | .func _ => true
  | .method _ => true
  | _ => false


/-- an array that may be cut. -/
def okArr (P : Program) (t : TypeId) : Bool := match P.underlying t with
  | some (.array n _) => decide (n < HALF)
  | some (.pointer _) => false
  | _ => true

/-- an operation on values without an address. -/
def okPure (P : Program) (ρ0 : Operand → Value) (o : Oper) : Bool := match o.op with
  | .binOp _ _ x y _ => okX x && okX y && pureV (ρ0 x) && pureV (ρ0 y)
  | .unOp _ _ x => okX x && pureV (ρ0 x)
  | .convert _ dst x => okX x && pureV (ρ0 x) && (match P.underlying dst with | some (.slice _) => false | _ => true)
  | .call { callee := .builtin b, args, .. } => (match b with | .min | .max => true | _ => false) && args.toList.all fun x => okX x && pureV (ρ0 x)
  | _ => false

/-- an operation that is carried out as the model says. -/
def okOp (P : Program) (ρ0 : Operand → Value) (o : Oper) : Bool := match o.op with
  | .move x | .assign x => okX x
  | .pick c a b => okX c && okX a && okX b
  | .alloc t => pureZero P t
  | .box _ x => okX x
  | .build t parts => parts.toList.all (fun x => okX x.2) && pureZero P t && okBuild P t
  | .buildSlice t len parts => parts.toList.all (fun x => okX x.2) && decide (len < 2 ^ 40) && pureZero P (elemOf P t)
  | .load _ a => okX a
  | .store _ a v => okX a && okX v
  | .nilCheck x => okX x && (match ρ0 x with | .func (.method _) _ _ => false | _ => true)
  | .binOp op _ x y _ => okX x && okX y && (match op with | .eql | .neq => true | _ => false) && nilEq (ρ0 x) (ρ0 y)
  | .makeInterface _ x => okX x
  | .makeFunc fn first captured => okFn fn && first.toList.all okX && captured.toList.all okX
  | .makeMap _ r => match r with | some x => okX x && isInt (ρ0 x) | none => true
  | .makeSlice t l c => okX l && okX c && pureInt 0 (2 ^ 40) (ρ0 l) && pureInt 0 (2 ^ 40) (ρ0 c) && pureZero P (elemOf P t)
  | .slice t x lo hi mx => okX x && lo.all okX && hi.all okX && mx.all okX && lo.all (fun y => isInt (ρ0 y)) && hi.all (fun y => isInt (ρ0 y)) && mx.all (fun y => isInt (ρ0 y)) && okSlice (ρ0 x) (hi.map (ρ0)) (mx.map (ρ0)) && okArr P t
  | .sliceToArrayPointer _ x => okX x && (match ρ0 x with | .slice (some _) 0 _ => false | _ => true)
  | .fieldAddr _ x _ => okX x
  | .field _ x _ => okX x
  | .indexAddr _ x i => okX x && okX i
  | .index _ x i => okX x && okX i && pureV (ρ0 i)
  | .lookup t x i _ => okX x && okX i && pureV (ρ0 i) && pureZero P (elemOf P t)
  | .mapUpdate _ m k v | .insert _ m k v => okX m && okX k && okX v && pureV (ρ0 k)
  | .mapEntry t m k => okX m && okX k && pureV (ρ0 k) && pureZero P (elemOf P t)
  | .entryStore _ m s v => okX m && okX s && okX v && isInt (ρ0 s)
  | .range _ x => okX x
  | .next it _ => okX it
  | .entry it => okX it
  | .typeAssert x _ as ok => okX x && (!ok || pureZero P as)
  | .extract t _ => okX t
  | .call { callee := .builtin b, args, argTypes } => args.toList.all okX && (match b with
    | .len => true
    | .delete => (match args[1]? with | some x => pureV (ρ0 x) | none => false)
    | .clear => (match args[0]? with | some x => (match ρ0 x with | .map _ => true | .slice _ _ _ => pureZero P (elemOf P (argTypes.getD 0 0)) | _ => false) | none => false)
    | _ => false)
  | _ => false


end

end Go.Proofs.YtgjdgincebchhaaGreatDoor.Ev
namespace Go.Proofs.YtgjdgincebchhaaGreatDoor.Ev
open Go Go.RowKit

/-- what an operation yields. -/
inductive RN (p : Ph) : Next → Next → Prop
  | value {v v' : Value} (h : RV p v v') : RN p (.value v) (.value v')
  | skip : RN p .skip .skip
  | enter (f : FuncId) {a a' : Array Value} (h : RVa p a a') : RN p (.enter f a) (.enter f a')
  | round {l l' : Nat} (hl : p l = some (l', none)) (f f' : FuncId) {a a' : Array Value} (h : RVa p a a') (x y : Code) : RN p (.round l f a x y) (.round l' f' a' x y)

section
variable {P : Program} {p : Ph}

theorem Sim.val {s s' : Sem Value} (h : Sim P p RV s s') : Sim P p RN (do Pure.pure (.value (← s))) (do Pure.pure (.value (← s'))) := Sim.bind h (fun _ _ _ _ hv => Sim.pure fun _ hq => .value (hv.mono hq))
theorem Sim.unt {s s' : Sem Unit} (h : Sim P p (fun _ _ _ => True) s s') : Sim P p RN (do s; Pure.pure .skip) (do s'; Pure.pure .skip) := Sim.bind h (fun _ _ _ _ _ => Sim.pure fun _ _ => .skip)

theorem Sim.sliceAt (t : TypeId) {x x' : Value} (hx : RV p x x') {lo hi mx : Option Value} (hl : isIntO lo) (hh : isIntO hi) (hm : isIntO mx) (hok : okSlice x hi mx = true) (harr : okArr P t = true) : Sim P p RV (Instr.sliceAt t x lo hi mx) (Instr.sliceAt t x' lo hi mx) := by
  unfold Instr.sliceAt
  refine Sim.bind (Sim.underlying t) (fun q d d' hq hd => ?_)
  obtain ⟨rfl, hu⟩ := hd
  have hsl := (Sim.slice (P := P) t hx hl hh hm hok (fun e he => by unfold okArr at harr; rw [he] at harr; simp at harr)).mono hq
  cases d' with
  | array n e =>
    simp only
    have hn : n < HALF := by unfold okArr at harr; rw [hu] at harr; simpa using harr
    refine Sim.bind (Sim.sureAddr (hx.mono hq)) (fun q1 a a' hq1 ha => ?_)
    refine Sim.bind (NM.sim (NM.sliceBounds _ _ _ hl hh hm)) (fun q2 y z hq2 hyz => ?_)
    obtain ⟨rfl, hz⟩ := hyz
    obtain ⟨l, h, m⟩ := z
    refine Sim.bind (Sim.sizeOf e) (fun q3 s s' hq3 hs => ?_)
    obtain ⟨rfl, _⟩ := hs
    refine Sim.pure fun q4 hq4 => ?_
    have ha4 := ((ha.mono hq2).mono hq3).mono hq4
    have hlt : m - l < HALF := by
      have : m ≤ n := hz.1
      omega
    simp only
    by_cases hml : m = l
    · rw [if_pos hml, if_pos hml]
      exact .slice ha4 _ _ hlt
    · rw [if_neg hml, if_neg hml]
      exact .slice (ha4.add _) _ _ hlt
  | _ => exact hsl

theorem Sim.index (t : TypeId) {v v' i i' : Value} (h : RV p v v') (hi : RV p i i') : Sim P p RV (Instr.index t v i) (Instr.index t v' i') := by
  unfold Instr.index
  refine Sim.bind (Sim.asIntOf hi) (fun q x x' hq e => ?_)
  obtain ⟨rfl, _, _⟩ := e
  obtain ⟨k, n⟩ := x'
  simp only
  refine Sim.bind (Sim.underlying t) (fun r d d' hr hd => ?_)
  obtain ⟨rfl, _⟩ := hd
  have hv := (h.mono hq).mono hr
  cases d' with
  | array len e =>
    cases hv with
    | agg hc =>
      simp only
      refine Sim.ite (fun _ => Sim.bind (Sim.sizeOf e) (fun q3 s s' hq3 hs => ?_)) (fun _ => Sim.none_ (runC_bounds _ _ _ _))
      obtain ⟨rfl, _⟩ := hs
      exact Sim.part e (RVl.mono hq3 hc) _
    | _ => exact Sim.halt
  | string =>
    cases hv with
    | string s =>
      simp only
      split
      · exact Sim.pure fun _ _ => .int _ _
      · exact Sim.none_ (runC_bounds _ _ _ _)
    | _ => exact Sim.halt
  | _ => cases hv <;> exact Sim.halt

theorem Sim.asBool {v v' : Value} (h : RV p v v') : Sim P p (fun _ x y => y = x) (asBool v) (asBool v') := by
  cases h with
  | bool b => exact Sim.pure fun _ _ => rfl
  | _ => exact Sim.halt

theorem Sim.nilEqual (t : TypeId) {x x' y y' : Value} (hx : RV p x x') (hy : RV p y y') (hn : nilEq x y = true) : Sim P p (fun _ a b => b = a) (Op.equal t x y) (Op.equal t x' y') := by
  unfold Op.equal Op.maxDepth
  rw [show (10000 : Nat) = 9999 + 1 from rfl]
  unfold Op.equalIn
  refine Sim.bind (Sim.underlying t) (fun r d d' hr hd => ?_)
  obtain ⟨rfl, _⟩ := hd
  cases hx <;> cases hy <;> first
    | (simp [nilEq] at hn; done)
    | (cases d' <;> first | exact Sim.halt | exact Sim.pure fun _ _ => rfl)

theorem Sim.nilBin {op : BinOp} (ho : (match op with | .eql | .neq => true | _ => false) = true) (t : TypeId) (X Y : Operand) {x x' y y' : Value} (hx : RV p x x') (hy : RV p y y') (hn : nilEq x y = true) :
    Sim P p RV (do eqGuard op t X Y x y; binOp op t x y) (do eqGuard op t X Y x' y'; binOp op t x' y') := by
  have hg : eqGuard op t X Y x y = Pure.pure () ∧ eqGuard op t X Y x' y' = Pure.pure () := by
    cases op <;> simp at ho <;> cases hx <;> cases hy <;> first
      | (simp [nilEq] at hn; done)
      | exact ⟨rfl, rfl⟩
  rw [hg.1, hg.2]
  refine Sim.bind (R := fun _ _ _ => True) (Sim.pure fun _ _ => trivial) (fun q _ _ hq _ => ?_)
  have he := (Sim.nilEqual (P := P) t hx hy hn).mono hq
  cases op with
  | eql =>
    have h1 : ∀ a b : Value, nilEq x y = true → (RV p x a) → (RV p y b) → binOp .eql t a b = (do Pure.pure (.bool (← Op.equal t a b))) := by
      intro a b hn ha hb
      cases ha <;> cases hb <;> first
        | (simp [nilEq] at hn; done)
        | rfl
    have h2 : binOp .eql t x y = (do Pure.pure (.bool (← Op.equal t x y))) := by
      cases hx <;> cases hy <;> first
        | (simp [nilEq] at hn; done)
        | rfl
    rw [h1 x' y' hn hx hy, h2]
    exact Sim.bind he (fun q2 a b hq2 hab => by subst hab; exact Sim.pure fun _ _ => .bool _)
  | neq =>
    have h1 : ∀ a b : Value, nilEq x y = true → (RV p x a) → (RV p y b) → binOp .neq t a b = (do Pure.pure (.bool (!(← Op.equal t a b)))) := by
      intro a b hn ha hb
      cases ha <;> cases hb <;> first
        | (simp [nilEq] at hn; done)
        | rfl
    have h2 : binOp .neq t x y = (do Pure.pure (.bool (!(← Op.equal t x y)))) := by
      cases hx <;> cases hy <;> first
        | (simp [nilEq] at hn; done)
        | rfl
    rw [h1 x' y' hn hx hy, h2]
    exact Sim.bind he (fun q2 a b hq2 hab => by subst hab; exact Sim.pure fun _ _ => .bool _)
  | _ => simp at ho
end

end Go.Proofs.YtgjdgincebchhaaGreatDoor.Ev
namespace Go.Proofs.YtgjdgincebchhaaGreatDoor.Ev
open Go Go.RowKit

section
variable {P : Program} {p : Ph} {ρ0 : Operand → Value} {ρ : Operand → Value}

theorem maps_rel (hρ : ∀ x, okX x = true → RV p (ρ0 x) (ρ x)) : ∀ {l : List Operand}, l.all okX = true → RVl p (l.map (ρ0)) (l.map ρ)
  | [], _ => .nil
  | x :: l, h => by
    simp only [List.all_cons, Bool.and_eq_true] at h
    exact .cons (hρ x h.1) (maps_rel hρ h.2)
theorem mapa_rel (hρ : ∀ x, okX x = true → RV p (ρ0 x) (ρ x)) {l : Array Operand} (h : l.toList.all okX = true) : RVa p (l.map (ρ0)) (l.map ρ) := by
  show RVl p _ _
  rw [Array.toList_map, Array.toList_map]
  exact maps_rel hρ h
theorem parts_rel (hρ : ∀ x, okX x = true → RV p (ρ0 x) (ρ x)) : ∀ {l : List (Nat × Operand)}, l.all (fun x => okX x.2) = true → RPl p (l.map fun x => (x.1, ρ0 x.2)) (l.map fun x => (x.1, ρ x.2))
  | [], _ => .nil
  | x :: l, h => by
    simp only [List.all_cons, Bool.and_eq_true] at h
    exact .cons x.1 (hρ x.2 h.1) (parts_rel hρ h.2)
theorem opt_rel (hρ : ∀ x, okX x = true → RV p (ρ0 x) (ρ x)) {o : Option Operand} (h : o.all okX = true) (hi : o.all (fun y => isInt (ρ0 y)) = true) : o.map ρ = o.map (ρ0) ∧ isIntO (o.map (ρ0)) := by
  cases o with
  | none => exact ⟨rfl, trivial⟩
  | some x =>
    have hx := hρ x (by simpa using h)
    have hxi : isInt (ρ0 x) = true := by simpa using hi
    simp only [Option.map_some]
    generalize ρ0 x = v at hx hxi ⊢
    generalize ρ x = v' at hx ⊢
    cases hx with
    | int k n => exact ⟨rfl, trivial⟩
    | _ => simp [isInt] at hxi

theorem int_rel {v v' : Value} (h : RV p v v') (hi : isInt v = true) : ∃ k n, v = .int k n ∧ v' = .int k n := by
  cases h with
  | int k n => exact ⟨k, n, rfl, rfl⟩
  | _ => simp [isInt] at hi

theorem sim_exec (hρ : ∀ x, okX x = true → RV p (ρ0 x) (ρ x)) {o : Oper} (hok : okOp P ρ0 o = true) : Sim P p RN (execOp (ρ0) o) (execOp ρ o) := by
  obtain ⟨dst, op, ty, pos, after, guard⟩ := o
  cases op with
  | move x => exact Sim.pure fun q hq => .value ((hρ x hok).mono hq)
  | assign x => exact Sim.pure fun q hq => .value ((hρ x hok).mono hq)
  | pick c a b =>
    simp only [okOp, Bool.and_eq_true] at hok
    refine Sim.bind (Sim.asBool (hρ c hok.1.1)) (fun q x y hq h => ?_)
    subst h
    refine Sim.pure fun r hr => .value ?_
    split
    · exact ((hρ a hok.1.2).mono hq).mono hr
    · exact ((hρ b hok.2).mono hq).mono hr
  | alloc t => exact Sim.val (Sim.alloc hok)
  | box t x => exact Sim.val (Sim.box t (hρ x hok))
  | build t parts =>
    simp only [okOp, Bool.and_eq_true] at hok
    refine Sim.val (Sim.build ?_ hok.1.2 hok.2)
    rw [Array.toList_map, Array.toList_map]
    exact parts_rel hρ hok.1.1
  | buildSlice t len parts =>
    simp only [okOp, Bool.and_eq_true, decide_eq_true_eq] at hok
    refine Sim.val (Sim.buildSlice ?_ hok.1.2 hok.2)
    rw [Array.toList_map, Array.toList_map]
    exact parts_rel hρ hok.1.1
  | insert t m k v =>
    simp only [okOp, Bool.and_eq_true] at hok
    exact Sim.unt (Sim.mapUpdate (hρ m hok.1.1.1) (hρ k hok.1.1.2) hok.2 (hρ v hok.1.2))
  | load t a => exact Sim.val (Sim.loadAt t (hρ a hok))
  | store t a v =>
    simp only [okOp, Bool.and_eq_true] at hok
    exact Sim.unt (Sim.storeAt t (hρ a hok.1) (hρ v hok.2))
  | ready g => simp [okOp] at hok
  | waits g => simp [okOp] at hok
  | nilCheck x =>
    simp only [okOp, Bool.and_eq_true] at hok
    have hx := hρ x hok.1
    have h2 := hok.2
    unfold execOp
    simp only
    generalize ρ0 x = v at hx h2 ⊢
    generalize ρ x = v' at hx ⊢
    have hx' := hx
    cases hx <;> first
      | exact Sim.none_ (runC_runtimePanic _)
      | (simp at h2; done)
      | exact Sim.pure fun q hq => .value (RV.mono hq hx')
  | binOp bo t x y yt =>
    simp only [okOp, Bool.and_eq_true] at hok
    exact Sim.val (Sim.nilBin hok.1.2 t x y (hρ x hok.1.1.1) (hρ y hok.1.1.2) hok.2)
  | unOp u t x => simp [okOp] at hok
  | convert s d x => simp [okOp] at hok
  | sliceToArrayPointer t x =>
    simp only [okOp, Bool.and_eq_true] at hok
    refine Sim.val (Sim.arrayAt t (hρ x hok.1) (fun a c e => ?_))
    rw [e] at hok
    simp at hok
  | makeInterface t x => exact Sim.val (Sim.makeInterface t (hρ x hok))
  | makeFunc fn first captured =>
    simp only [okOp, Bool.and_eq_true] at hok
    refine Sim.val (Sim.pure fun q hq => ?_)
    have h1 := RVl.mono hq (mapa_rel hρ hok.1.2)
    have h2 := RVl.mono hq (mapa_rel hρ hok.2)
    cases fn with
    | func f => exact .func f h1 h2
    | method s => exact .meth s h1 h2
    | _ => simp [okFn] at hok
  | makeMap t r =>
    refine Sim.val (Sim.makeMap t ?_)
    cases r with
    | none => exact .inl ⟨rfl, rfl⟩
    | some x =>
      simp only [okOp, Bool.and_eq_true] at hok
      obtain ⟨k, n, h1, h2⟩ := int_rel (hρ x hok.1) hok.2
      exact .inr ⟨k, n, by simp [h1], by simp [h2]⟩
  | makeChan t x => simp [okOp] at hok
  | makeSlice t l c =>
    simp only [okOp, Bool.and_eq_true] at hok
    obtain ⟨⟨⟨⟨h1, h2⟩, h3⟩, h4⟩, h5⟩ := hok
    have hl := hρ l h1
    have hc := hρ c h2
    unfold execOp
    simp only
    generalize ρ0 l = v at hl h3 ⊢
    generalize ρ0 c = u at hc h4 ⊢
    generalize ρ l = v' at hl ⊢
    generalize ρ c = u' at hc ⊢
    cases hl with
    | int k n =>
      cases hc with
      | int k2 n2 =>
        simp only [pureInt, Bool.and_eq_true, decide_eq_true_eq] at h3 h4
        exact Sim.val (Sim.makeSlice h3 h4 h5)
      | _ => simp [pureInt] at h4
    | _ => simp [pureInt] at h3
  | slice t x lo hi mx =>
    simp only [okOp, Bool.and_eq_true] at hok
    obtain ⟨⟨⟨⟨⟨⟨⟨⟨h1, h2⟩, h3⟩, h4⟩, h5⟩, h6⟩, h7⟩, h8⟩, h9⟩ := hok
    obtain ⟨e1, i1⟩ := opt_rel hρ h2 h5
    obtain ⟨e2, i2⟩ := opt_rel hρ h3 h6
    obtain ⟨e3, i3⟩ := opt_rel hρ h4 h7
    unfold execOp
    simp only
    rw [e1, e2, e3]
    exact Sim.val (Sim.sliceAt t (hρ x h1) i1 i2 i3 h8 h9)
  | fieldAddr s x f => exact Sim.val (Sim.fieldAt s (hρ x hok) f)
  | field t x f => exact Sim.val (Sim.field t (hρ x hok) f)
  | indexAddr t x i =>
    simp only [okOp, Bool.and_eq_true] at hok
    exact Sim.val (Sim.indexAt t (hρ x hok.1) (hρ i hok.2))
  | index t x i =>
    simp only [okOp, Bool.and_eq_true] at hok
    exact Sim.val (Sim.index t (hρ x hok.1.1) (hρ i hok.1.2))
  | lookup t x i ok =>
    simp only [okOp, Bool.and_eq_true] at hok
    exact Sim.val (Sim.lookup (hρ x hok.1.1.1) (hρ i hok.1.1.2) hok.1.2 (fun a e h => by have := hok.2; rwa [elemOf_map h] at this) ok)
  | mapUpdate t m k v =>
    simp only [okOp, Bool.and_eq_true] at hok
    exact Sim.unt (Sim.mapUpdate (hρ m hok.1.1.1) (hρ k hok.1.1.2) hok.2 (hρ v hok.1.2))
  | mapEntry t m k =>
    simp only [okOp, Bool.and_eq_true] at hok
    exact Sim.val (Sim.mapEntry (hρ m hok.1.1.1) (hρ k hok.1.1.2) hok.1.2 (fun a e h => by have := hok.2; rwa [elemOf_map h] at this))
  | entryStore t m s v =>
    simp only [okOp, Bool.and_eq_true] at hok
    obtain ⟨k, n, h1, h2⟩ := int_rel (hρ s hok.1.1.2) hok.2
    unfold execOp
    simp only
    rw [h1, h2]
    exact Sim.unt (Sim.entryStore (hρ m hok.1.1.1) (hρ v hok.1.2))
  | range t x => exact Sim.val (Sim.range t (hρ x hok))
  | next it s => exact Sim.val (Sim.next (hρ it hok) s ty)
  | entry it => exact Sim.val (Sim.entry (hρ it hok))
  | typeAssert x xt as ok =>
    simp only [okOp, Bool.and_eq_true] at hok
    refine Sim.val (Sim.typeAssert (hρ x hok.1) xt as ok (fun h => ?_))
    have := hok.2
    rw [h] at this
    simpa using this
  | extract t ix => exact Sim.val (Sim.extract (hρ t hok) ix)
  | call c =>
    obtain ⟨callee, args, argTypes⟩ := c
    cases callee with
    | value f => simp [okOp] at hok
    | invoke r n => simp [okOp] at hok
    | builtin b =>
      simp only [okOp, Bool.and_eq_true] at hok
      obtain ⟨h1, h2⟩ := hok
      have ha := mapa_rel hρ h1
      have hbi : ∀ {at_ : Array TypeId} {s s' : Sem Value} {cs cs' : Array Bool} (hb : builtin b at_ ty cs (args.map (ρ0)) = (do Pure.pure (.value (← s)))) (hb' : builtin b at_ ty cs' (args.map ρ) = (do Pure.pure (.value (← s')))), Sim P p RV s s' → Sim P p RN (builtin b at_ ty cs (args.map (ρ0))) (builtin b at_ ty cs' (args.map ρ)) := fun hb hb' h => by
        rw [hb, hb']
        exact Sim.val h
      have hget : ∀ i, (args.map (ρ0))[i]? = (args[i]?).map (ρ0) := fun i => Array.getElem?_map
      cases b with
      | len => exact hbi (cs := #[]) (cs' := #[]) (s := Builtin.len_ argTypes ty _) (s' := Builtin.len_ argTypes ty _) rfl rfl (Sim.len ha)
      | delete =>
        refine hbi (cs := #[]) (cs' := #[]) (s := Builtin.delete_ argTypes ty _) (s' := Builtin.delete_ argTypes ty _) rfl rfl (Sim.delete ha (fun k hk => ?_))
        rw [hget] at hk
        cases h0 : args[1]? with
        | none => rw [h0] at hk; cases hk
        | some x =>
          rw [h0] at hk h2
          simp only [Option.map_some, Option.some.injEq] at hk
          subst hk
          simpa using h2
      | clear =>
        refine hbi (cs := #[]) (cs' := #[]) (s := Builtin.clear_ argTypes ty _) (s' := Builtin.clear_ argTypes ty _) rfl rfl (Sim.clear ha (fun t e ht he hex => ?_))
        obtain ⟨a, n, k, hk⟩ := hex
        rw [hget] at hk
        cases h0 : args[0]? with
        | none => rw [h0] at hk; cases hk
        | some x =>
          rw [h0] at hk h2
          simp only [Option.map_some, Option.some.injEq] at hk
          simp only [hk] at h2
          have : argTypes.getD 0 0 = t := by simp [Array.getD_eq_getD_getElem?, ht]
          rw [this, elemOf_slice he] at h2
          exact h2
      | _ => simp at h2
  | go c => simp [okOp] at hok
  | defer c => simp [okOp] at hok
  | panic x => simp [okOp] at hok
  | send a b => simp [okOp] at hok
  | recv a b c => simp [okOp] at hok
  | select a b => simp [okOp] at hok
end

end Go.Proofs.YtgjdgincebchhaaGreatDoor.Ev

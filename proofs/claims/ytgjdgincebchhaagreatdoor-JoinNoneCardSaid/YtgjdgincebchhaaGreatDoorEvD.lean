/-
  Soundness: the words of a range over a function; slots; what is asked of the reckoning of calls. No program in sight.
  Soundness: an operation that may call. No program in sight.
  Soundness: the texts. No program in sight.
  Soundness: a whole call. No program in sight.
  Soundness: a whole call, its deferred calls too. No program in sight.
  Soundness: the reckoning, by its depth. No program in sight.
-/
import Derived.Test.YtgjdgincebchhaaGreatDoorEvC
import Derived.LoopNIn
import Derived.DefersIn
import Derived.RangeFuncLeaves
namespace Go.Proofs.YtgjdgincebchhaaGreatDoor.Ev
open Go Go.RowKit

inductive RD (p : Ph) : Deferred → Deferred → Prop
  | mark {r r' : Nat} (h : p r = some (r', none)) (x y : Array Value) : RD p ⟨.collected r, x⟩ ⟨.collected r', y⟩
  | fn (f : FuncId) {c c' x x' : Array Value} (hc : RVa p c c') (hx : RVa p x x') : RD p ⟨.fn (.func f) c, x⟩ ⟨.fn (.func f) c', x'⟩
inductive RDs (p : Ph) : List Deferred → List Deferred → Prop
  | nil : RDs p [] []
  | cons {d d' : Deferred} {l l' : List Deferred} (h : RD p d d') (hs : RDs p l l') : RDs p (d :: l) (d' :: l')

section
variable {P : Program} {p : Ph}

theorem RD.mono {q : Ph} (hq : p.le q) {d d' : Deferred} (h : RD p d d') : RD q d d' := by
  cases h with
  | mark h x y => exact .mark (hq _ _ h) x y
  | fn f hc hx => exact .fn f (RVl.mono hq hc) (RVl.mono hq hx)
theorem RDs.mono {q : Ph} (hq : p.le q) : ∀ {l l' : List Deferred}, RDs p l l' → RDs q l l'
  | _, _, .nil => .nil
  | _, _, .cons h hs => .cons (h.mono hq) (hs.mono hq)
theorem RDs.append : ∀ {l l' m m' : List Deferred}, RDs p l l' → RDs p m m' → RDs p (l ++ m) (l' ++ m')
  | _, _, _, _, .nil, h => h
  | _, _, _, _, .cons h hs, k => .cons h (hs.append k)

/-- an activation is like the reckoned one. -/
structure RAct (p : Ph) (s : St) (a : Act) : Prop where
  tmps : RVl p s.tm a.tmps.toList
  defers : RDs p s.ds a.defers

theorem RAct.mono {q : Ph} (hq : p.le q) {s : St} {a : Act} (h : RAct p s a) : RAct q s a := ⟨h.tmps.mono hq, h.defers.mono hq⟩

theorem nth_rel : ∀ {l l' : List Value}, RVl p l l' → ∀ i : Nat, RV p (nth l i) ((l'[i]?).getD undef)
  | _, _, .nil, i => by
    cases i <;> exact RV.undef
  | _, _, .cons h _, 0 => h
  | _, _, .cons _ hs, i + 1 => by
    simp only [List.getElem?_cons_succ]
    exact nth_rel hs i

theorem act_eval {tm : List Value} {a : Act} (h : RVl p tm a.tmps.toList) (t : Nat) : RV p (nth tm t) (a.eval (.tmp t)) := by
  show RV p (nth tm t) (a.tmps.getD t undef)
  have := nth_rel h t
  rw [Array.getElem?_toList] at this
  rw [Array.getD_eq_getD_getElem?]
  exact this

theorem eval_rel {tm : List Value} {a : Act} (h : RVl p tm a.tmps.toList) (hG : Glob p) : ∀ x, okX x = true → RV p (evO tm x) (a.eval x) := by
  intro x hx
  cases x with
  | tmp t => exact act_eval h t
  | const v => exact RV.of_pure hx
  | global g =>
    simp only [okX, decide_eq_true_eq] at hx
    show RV p (if g < NG then _ else _) (.pointer (some ⟨g, 0, none⟩))
    rw [if_pos hx]
    exact .ptr (.mk (hG g hx) 0)
  | func f => exact .func f .nil .nil

theorem put_rel {tm : List Value} {a : Act} (h : RVl p tm a.tmps.toList) {v v' : Value} (hv : RV p v v') (d : Option Nat) : RVl p (putT tm d v) (a.put d v').tmps.toList := by
  cases d with
  | none => exact h
  | some i =>
    show RVl p (tm.set i v) (a.tmps.setIfInBounds i v').toList
    rw [Array.toList_setIfInBounds]
    exact h.set i hv
theorem put_defers (a : Act) (d : Option Nat) (v : Value) : (a.put d v).defers = a.defers := by cases d <;> rfl

theorem wanted_rel {ops : Array Oper} {tm : List Value} {a : Act} (h : RVl p tm a.tmps.toList) (o : Oper) : wantedC ops tm o = Region.wanted o (yielded ops a.tmps) := by
  unfold wantedC Region.wanted
  cases o.guard with
  | none => rfl
  | some g =>
    obtain ⟨j, want⟩ := g
    simp only
    unfold yielded
    cases (ops[j]?).bind (·.dst) with
    | none => simp
    | some d =>
      simp only [Option.bind_some]
      have hr := nth_rel h d
      rw [Array.getElem?_toList] at hr
      generalize nth tm d = u at hr ⊢
      cases h0 : a.tmps[d]? with
      | none =>
        rw [h0] at hr
        cases hr <;> simp
      | some v =>
        rw [h0] at hr
        simp only [Option.getD_some] at hr
        cases hr <;> simp

/-! ### the words of a range over a function -/
theorem Sim.beginRound {l l' : Nat} (hp : p l = some (l', none)) : Sim P p (fun _ _ _ => True) (Instr.beginRound l) (Instr.beginRound l') := by
  unfold Instr.beginRound
  refine Sim.bind (Sim.getLoop hp) (fun q a b hq hab => ?_)
  obtain ⟨_, h⟩ := hab
  refine Sim.bind (Sim.setObj (hq _ _ hp) (.loop ⟨rfl, h.pending, h.tmps, h.params, h.assign, h.body, h.defers⟩)) (fun q2 _ _ hq2 _ => ?_)
  rw [h.state]
  cases a.state with
  | ready => exact Sim.pure fun _ _ => trivial
  | _ => exact Sim.none_ (runC_runtimePanic _)

theorem Sim.endRound {l l' : Nat} (hp : p l = some (l', none)) (j : Option Code) : Sim P p RV (Instr.endRound l j) (Instr.endRound l' j) := by
  unfold Instr.endRound
  refine Sim.bind (Sim.getLoop hp) (fun q a b hq hab => ?_)
  obtain ⟨_, h⟩ := hab
  exact Sim.bind (Sim.setObj (hq _ _ hp) (.loop ⟨rfl, rfl, h.tmps, h.params, h.assign, h.body, h.defers⟩)) (fun q2 _ _ hq2 _ => Sim.pure fun _ _ => .bool _)

theorem Sim.endLoop {l l' : Nat} (hp : p l = some (l', none)) : Sim P p (fun _ x y => y = x) (Instr.endLoop l) (Instr.endLoop l') := by
  unfold Instr.endLoop
  refine Sim.bind (Sim.getLoop hp) (fun q a b hq hab => ?_)
  obtain ⟨_, h⟩ := hab
  rw [h.state, h.pending]
  refine Sim.ite (fun _ => Sim.bindHalt (runC_runtimePanic _)) (fun _ => ?_)
  exact Sim.bind (Sim.setObj (hq _ _ hp) (.loop ⟨rfl, rfl, h.tmps, h.params, h.assign, h.body, h.defers⟩)) (fun q2 _ _ hq2 _ => Sim.pure fun _ _ => rfl)

theorem Sim.takeDeferred {r r' : Nat} (hp : p r = some (r', none)) : Sim P p (fun _ x y => x = [] ∧ y = []) (Instr.takeDeferred r) (Instr.takeDeferred r') := by
  unfold Instr.takeDeferred
  refine Sim.bind (Sim.getObj hp) (fun q o o' hq ho => ?_)
  cases ho with
  | some_ => exact Sim.bind (Sim.setObj (hq _ _ hp) .none_) (fun q2 _ _ hq2 _ => Sim.pure fun _ _ => ⟨rfl, rfl⟩)
  | _ => exact Sim.halt

theorem Sim.enterLoop {f f' : FuncId} {t t' : Array Value} (ht : RVa p t t') (ps : Array Tmp) (assign body : Code) {ro ro' : Option Nat} (hro : (ro = none ∧ ro' = none) ∨ ∃ l l', ro = some l ∧ ro' = some l' ∧ p l = some (l', none)) :
    Sim P p (fun q x y => q x.1 = some (y.1, none) ∧ RDs q x.2 y.2) (Instr.enterLoop f t ps assign body ro) (Instr.enterLoop f' t' ps assign body ro') := by
  have hend : ∀ {q : Ph} {r r' : Nat} {mk mk' : List Deferred}, p.le q → q r = some (r', none) → RDs q mk mk' → Sim P q (fun q x y => q x.1 = some (y.1, none) ∧ RDs q x.2 y.2)
      (do Pure.pure (← newObj (.loop { state := .ready, pending := none, fn := f, tmps := t, params := ps, assign, body, defers := r }), mk))
      (do Pure.pure (← newObj (.loop { state := .ready, pending := none, fn := f', tmps := t', params := ps, assign, body, defers := r' }), mk')) := by
    intro q r r' mk mk' hq hr hmk
    exact Sim.bind (Sim.new (.loop ⟨rfl, rfl, RVl.mono hq ht, rfl, rfl, rfl, hr⟩)) (fun q2 x y hq2 hxy => Sim.pure fun s hs => ⟨hs _ _ hxy, (hmk.mono hq2).mono hs⟩)
  unfold Instr.enterLoop
  rcases hro with ⟨rfl, rfl⟩ | ⟨l, l', rfl, rfl, hp⟩
  · simp only
    refine Sim.bind (Sim.new .some_) (fun q r r' hq hr => ?_)
    refine Sim.bind (R := fun q x y => q x.1 = some (y.1, none) ∧ RDs q x.2 y.2) (Sim.pure fun s hs => ⟨hs _ _ hr, .cons (.mark (hs _ _ hr) _ _) .nil⟩) (fun q2 x y hq2 hxy => ?_)
    exact hend (Ph.le_trans hq hq2) hxy.1 hxy.2
  · simp only
    refine Sim.bind (Sim.getLoop hp) (fun q a b hq hab => ?_)
    obtain ⟨_, h⟩ := hab
    refine Sim.bind (R := fun q x y => q x.1 = some (y.1, none) ∧ RDs q x.2 y.2) (Sim.pure fun s hs => ⟨hs _ _ h.defers, .nil⟩) (fun q2 x y hq2 hxy => ?_)
    exact hend (Ph.le_trans hq hq2) hxy.1 hxy.2
end

end Go.Proofs.YtgjdgincebchhaaGreatDoor.Ev
namespace Go.Proofs.YtgjdgincebchhaaGreatDoor.Ev
open Go Go.RowKit
noncomputable section

abbrev wideR (r : Option Nat) : Fence := { Fence.wide with round := r }

inductive RRo (p : Ph) : Option Nat → Option Nat → Prop
  | none : RRo p none none
  | some {l l' : Nat} (h : p l = some (l', none)) : RRo p (some l) (some l')

def exOf : Ex → Exit
  | .normal => .normal
  | .exit id => .exit id
  | .ret => .ret

/-- what is asked of the reckoning of calls and loops. -/
structure Good (P : Program) (rec : Req → Option Res) (m : Nat) : Prop where
  call : ∀ {f : FuncId} {args : List Value} {h : CH} {v : Value} {h1 : CH}, rec (.call f args h) = some (.value v h1) → ∀ {p : Ph} {w : World} {args' : Array Value}, RVl p args args'.toList → RH P p h w →
    ∀ R : Ending → World → Prop, (∀ q v' w1, Stp p h w q h1 w1 → RH P q h1 w1 → RV q v v' → R (.returned v') w1) → Calls P f args' w R
  callD : ∀ {f : FuncId} {args : List Value} {h : CH} {v : Value} {h1 : CH}, rec (.callD f args h) = some (.value v h1) → ∀ {p : Ph} {w : World} {args' : Array Value}, RVl p args args'.toList → RH P p h w →
    ∀ (u : FrameMode) (n : Nat) (R : Ending → World → Prop), (∀ q v' w1, Stp p h w q h1 w1 → RH P q h1 w1 → RV q v v' → R (.returned v') w1) → CallsDIn Fence.wide n P f args' u w fun e u' w' => u' = u ∧ R e w'
  code : ∀ {f : FuncId} {ro : Option Nat} {c : Code} {s : St} {e : Ex} {s1 : St}, rec (.loop f ro c s) = some (.code e s1) → ∀ {p : Ph} {a : Act} {w : World} {ro' : Option Nat}, RRo p ro ro' → RAct p s a → RH P p s.h w →
    ∀ {n : Nat} {Q : Exit → Act → World → Prop}, (∀ q a' w1, Stp p s.h w q s1.h w1 → RH P q s1.h w1 → RAct q s1 a' → Q (exOf e) a' w1) → c.wpIn (wideR ro') n P Q a w
  rounds : ∀ {f : FuncId} {ro : Option Nat} {c : Code} {s : St} {e : Ex} {s1 : St}, rec (.loop f ro (.loop c) s) = some (.code e s1) → ∀ {p : Ph} {a : Act} {w : World} {ro' : Option Nat}, RRo p ro ro' → RAct p s a → RH P p s.h w →
    ∀ {n : Nat} {Q : Exit → Act → World → Prop}, (∀ q a' w1, Stp p s.h w q s1.h w1 → RH P q s1.h w1 → RAct q s1 a' → Q (exOf e) a' w1) → Code.roundsIn (wideR ro') n P c Q m a w

section
variable {P : Program} {p : Ph} {rec : Req → Option Res}

theorem RRo.mono {q : Ph} (hq : p.le q) {r r' : Option Nat} (h : RRo p r r') : RRo q r r' := by
  cases h with
  | none => exact .none
  | some h => exact .some (hq _ _ h)

theorem calls_in {f : FuncId} {args : Array Value} {w : World} {R : Ending → World → Prop} (h : Calls P f args w R) (r : Option Nat) (n : Nat) : CallsIn (wideR r) n P f args w R := (callsIn_wide (n := n)).2 h

/-- a round. -/
theorem round_sound {m : Nat} (G : Good P rec m) {f : FuncId} {l : Nat} {tmps : List Value} {assign body : Code} {h : CH} {v : Value} {h1 : CH}
    (hev : evRound P (fun ro c s => match rec (.loop f ro c s) with | some (.code e s') => some (e, s') | _ => none) l tmps assign body h = some (v, h1))
    {w : World} {l' : Nat} {f' : FuncId} {tmps' : Array Value} (hl : p l = some (l', none)) (ht : RVl p tmps tmps'.toList) (hh : RH P p h w) (r : Option Nat) (n : Nat) (R : Ending → World → Prop)
    (hR : ∀ q v' w1, Stp p h w q h1 w1 → RH P q h1 w1 → RV q v v' → R (.returned v') w1) : RoundIn (wideR r) n P l' f' tmps' assign body w R := by
  unfold evRound at hev
  split at hev
  · rename_i s1 hass
    simp only at hass hev
    split at hass
    · rename_i e0 s0 hrec
      simp only [Option.some.injEq, Prod.mk.injEq] at hass
      obtain ⟨rfl, rfl⟩ := hass
      split at hev
      · rename_i u h2 hbeg
        split at hev
        · rename_i e s3 hbody
          split at hbody
          · rename_i e1 s4 hrec2
            simp only [Option.some.injEq, Prod.mk.injEq] at hbody
            obtain ⟨rfl, rfl⟩ := hbody
            refine roundIn_of_wpIn trivial ?_
            refine G.code hrec (ro' := some l') (.some hl) (a := { tmps := tmps', defers := [] }) ⟨ht, .nil⟩ hh (fun q a1 w1 hst hr1 hact => ?_)
            have hlq := hst.le _ _ hl
            obtain ⟨q2, _, w2, t1, t2, t3, _, _⟩ := Sim.beginRound (P := P) hlq q (Ph.le_refl _) s0.h w1 hr1 _ _ hbeg
            refine ⟨w2, t2, ?_⟩
            refine G.code hrec2 (ro' := some l') (.some (t1.le _ _ hlq)) (a := a1) ⟨hact.tmps.mono t1.le, hact.defers.mono t1.le⟩ t3 (fun q3 a3 w3 hst3 hr3 _ => ?_)
            have hl3 := hst3.le _ _ (t1.le _ _ hlq)
            obtain ⟨q4, v', w4, z1, z2, z3, z4, _⟩ := Sim.endRound (P := P) hl3 (jumpOf e1) q3 (Ph.le_refl _) s4.h w3 hr3 _ _ hev
            have hfin := hR q4 v' w4 (((hst.trans t1).trans hst3).trans z1) z3 z4
            cases e1 with
            | normal => exact ⟨v', w4, z2, hfin⟩
            | exit id => exact ⟨v', w4, z2, hfin⟩
            | ret => exact ⟨v', w4, z2, hfin⟩
          · cases hbody
        · cases hev
      · cases hev
    · cases hass
  · cases hev

theorem isCall_op {o : Oper} (h : isCall o = true) : ∀ c, o.op ≠ .defer c := by
  intro c hc
  unfold isCall at h
  rw [hc] at h
  cases h

/-- one operation. -/
theorem oper_sound {m : Nat} (G : Good P rec m) {ρ0 : Operand → Value} {ds ds1 : List Deferred} {h h1 : CH} {ro ro' : Option Nat} {o : Oper} {v : Value} (hev : evOper P rec ρ0 ds h ro o = some (v, ds1, h1))
    {a : Act} {w : World} (hro : RRo p ro ro') (hρ : ∀ x, okX x = true → RV p (ρ0 x) (a.eval x)) (hd : RDs p ds a.defers) (hh : RH P p h w) {n : Nat} {next : Act → World → Prop} {Q : Exit → Act → World → Prop}
    (hnext : ∀ (q : Ph) (v' : Value) (a' : Act) (w1 : World), Stp p h w q h1 w1 → RH P q h1 w1 → RV q v v' → a'.tmps = a.tmps → RDs q ds1 a'.defers → next (a'.put o.dst v') w1) : o.wpIn (wideR ro') n P a w next Q := by
  refine ⟨fun _ _ => trivial, ?_⟩
  unfold evOper at hev
  split at hev
  · rename_i hcall
    rw [Oper.semAt_eq _ _ _ (isCall_op hcall)]
    split at hev
    · rename_i f args h' htar
      obtain ⟨q, nx', w1, s1, s2, s3, s4⟩ := target_run hρ htar hh
      cases s4 with
      | @enter _ _ args' ha =>
        rw [s2]
        split at hev
        · rename_i v0 h2 hrec
          simp only [Option.some.injEq, Prod.mk.injEq] at hev
          obtain ⟨rfl, rfl, rfl⟩ := hev
          refine ⟨(fun hx => by cases hx), calls_in (G.call hrec ha s3 _ (fun q2 v' w2 t1 t2 t3 => ?_)) _ _⟩
          exact hnext q2 v' a w2 (s1.trans t1) t2 t3 rfl (hd.mono (s1.trans t1).le)
        · cases hev
    · rename_i l f tmps assign body h' htar
      obtain ⟨q, nx', w1, s1, s2, s3, s4⟩ := target_run hρ htar hh
      cases s4 with
      | @round _ l' hl _ f' _ tmps' ha _ _ =>
        rw [s2]
        split at hev
        · rename_i v0 h2 hrnd
          simp only [Option.some.injEq, Prod.mk.injEq] at hev
          obtain ⟨rfl, rfl, rfl⟩ := hev
          refine ⟨(fun hx => by cases hx), round_sound G hrnd hl ha s3 _ _ _ (fun q2 v' w2 t1 t2 t3 => ?_)⟩
          exact hnext q2 v' a w2 (s1.trans t1) t2 t3 rfl (hd.mono (s1.trans t1).le)
        · cases hev
    · cases hev
  · split at hev
    · rename_i c hop
      split at hev
      · rename_i hok
        unfold okDefC at hok
        simp only [Bool.and_eq_true] at hok
        obtain ⟨⟨hr0, hargs⟩, hcal⟩ := hok
        cases hro with
        | some _ => cases hr0
        | none =>
          split at hev
          · rename_i d h' hres
            split at hev
            · rename_i hdok
              simp only [Option.some.injEq, Prod.mk.injEq] at hev
              obtain ⟨rfl, rfl, rfl⟩ := hev
              obtain ⟨callee, args, at_⟩ := c
              cases callee with
              | value f =>
                simp only at hcal hargs
                have hf := hρ f hcal
                have ham := mapa_rel hρ hargs
                unfold resolve at hres
                simp only at hres
                generalize hfe : ρ0 f = fv at hres hf
                generalize hfe' : a.eval f = fv' at hf
                cases hf with
                | @func g x x' cc cc' hx hc =>
                  simp only [Deferred.ofValue] at hres
                  have hres2 : (⟨.fn (.func g) cc, x ++ args.map (ρ0)⟩ : Deferred) = d ∧ h = h' := by
                    have h0 : some ((⟨.fn (.func g) cc, x ++ args.map (ρ0)⟩ : Deferred), h) = some (d, h') := hres
                    simp only [Option.some.injEq, Prod.mk.injEq] at h0
                    exact h0
                  obtain ⟨rfl, rfl⟩ := hres2
                  have hrun : (Oper.semAt (wideR none).round a.eval o).run P w = .ok (.defer ⟨.fn (.func g) cc', x' ++ args.map a.eval⟩) w := by
                    show (execOp a.eval o).run P w = _
                    unfold execOp
                    rw [hop]
                    simp only [resolve]
                    rw [hfe']
                    rfl
                  rw [hrun]
                  refine hnext p undef { a with defers := ⟨.fn (.func g) cc', x' ++ args.map a.eval⟩ :: a.defers } w (Stp.refl _ _ _) hh RV.undef rfl (.cons (.fn g hc ?_) hd)
                  show RVl p _ _
                  rw [Array.toList_append, Array.toList_append]
                  exact hx.append ham
                | nilFunc =>
                  simp only [Deferred.ofValue] at hres
                  have h0 : some ((⟨.nil, args.map (ρ0)⟩ : Deferred), h) = some (d, h') := hres
                  simp only [Option.some.injEq, Prod.mk.injEq] at h0
                  obtain ⟨rfl, rfl⟩ := h0
                  cases hdok
                | meth s hx hc =>
                  simp only [Deferred.ofValue] at hres
                  have h0 := hres
                  cases h0
                  cases hdok
                | yield hp =>
                  simp only [Deferred.ofValue] at hres
                  have h0 := hres
                  cases h0
                  cases hdok
                | _ => cases hres
              | _ => simp at hcal
            · cases hev
          · cases hev
      · cases hev
    · rename_i hnd
      split at hev
      · rename_i v0 h' hevop
        simp only [Option.some.injEq, Prod.mk.injEq] at hev
        obtain ⟨rfl, rfl, rfl⟩ := hev
        obtain ⟨q, nx, v', w1, s1, s2, s3, s4, s5⟩ := evOp_run hρ hevop hh
        rw [Oper.semAt_eq _ _ _ (fun c hc => hnd c hc), s2]
        have hfin := hnext q v' a w1 s1 s4 s5 rfl (hd.mono s1.le)
        rcases s3 with rfl | ⟨rfl, rfl⟩
        · exact hfin
        · exact hfin
      · cases hev
end

end

end Go.Proofs.YtgjdgincebchhaaGreatDoor.Ev
namespace Go.Proofs.YtgjdgincebchhaaGreatDoor.Ev
open Go Go.RowKit

/-- what is asked of the regions that draw their order. -/
structure DrawnOk (P : Program) (tab : FuncId → Nat → List (Nat × Bool)) (rec : Req → Option Res) : Prop where
  ok : ∀ {f : FuncId} {id : Nat} {ops : Array Oper} {ro : Option Nat} {s s1 : St}, evDrawn P rec ops ro (tab f id) s = some s1 → ∀ {p : Ph} {a : Act} {w : World} {ro' : Option Nat}, RRo p ro ro' → RAct p s a → RH P p s.h w →
    ∀ {n : Nat} {Q : Exit → Act → World → Prop}, (∀ q a' w1, Stp p s.h w q s1.h w1 → RH P q s1.h w1 → RAct q s1 a' → Q .normal a' w1) → (Code.region id ops true).wpIn (wideR ro') n P Q a w

section
variable {P : Program} {p : Ph} {rec : Req → Option Res} {m : Nat} {tab : FuncId → Nat → List (Nat × Bool)}

theorem ops_sound (G : Good P rec m) {ops : Array Oper} {ro ro' : Option Nat} : ∀ (l : List Oper) (k : Nat), ops.toList.drop k = l → ∀ {p : Ph} {s s1 : St} {a : Act} {w : World}, evOps P rec ops ro l s = some s1 → RRo p ro ro' → RAct p s a → RH P p s.h w →
    ∀ {n : Nat} {Q : Exit → Act → World → Prop}, (∀ q a' w1, Stp p s.h w q s1.h w1 → RH P q s1.h w1 → RAct q s1 a' → Q .normal a' w1) → wpOpsIn (wideR ro') n P ops Q (List.range' k l.length) a w
  | [], k, hd, p, s, s1, a, w, hev, hro, hact, hh, n, Q, hQ => by
    simp only [evOps, Option.some.injEq] at hev
    subst hev
    exact hQ p a w (Stp.refl _ _ _) hh hact
  | o :: rest, k, hd, p, s, s1, a, w, hev, hro, hact, hh, n, Q, hQ => by
    have hk : ops[k]? = some o := by
      have h0 : (ops.toList.drop k)[0]? = some o := by rw [hd]; rfl
      rw [List.getElem?_drop, Nat.add_zero, Array.getElem?_toList] at h0
      exact h0
    have hd2 : ops.toList.drop (k + 1) = rest := by
      rw [← List.drop_drop, hd]
      rfl
    rw [List.length_cons, List.range'_succ]
    simp only [wpOpsIn, hk]
    rw [← wanted_rel hact.tmps o]
    simp only [evOps] at hev
    split at hev
    · rename_i hw
      rw [if_pos hw]
      split at hev
      · rename_i v ds h1 hop
        refine oper_sound G hop hro (eval_rel hact.tmps hh.glob) hact.defers hh (fun q v' a' w1 t1 t2 t3 t4 t5 => ?_)
        refine ops_sound G rest (k + 1) hd2 hev (hro.mono t1.le) (a := a'.put o.dst v') ⟨?_, ?_⟩ t2 (fun q2 a2 w2 z1 z2 z3 => hQ q2 a2 w2 (t1.trans z1) z2 z3)
        · refine put_rel ?_ t3 o.dst
          rw [t4]
          exact hact.tmps.mono t1.le
        · rw [put_defers]
          exact t5
      · cases hev
    · rename_i hw
      rw [if_neg hw]
      refine ⟨fun _ _ => trivial, ?_⟩
      exact ops_sound G rest (k + 1) hd2 hev hro ⟨put_rel hact.tmps RV.undef o.dst, by rw [put_defers]; exact hact.defers⟩ hh hQ

set_option maxHeartbeats 800000 in
theorem code_sound (G : Good P rec m) (hD : DrawnOk P tab rec) {f : FuncId} {ro ro' : Option Nat} : ∀ (c : Code) {p : Ph} {s s1 : St} {e : Ex} {a : Act} {w : World}, evCode P tab rec f ro c s = some (e, s1) → RRo p ro ro' → RAct p s a → RH P p s.h w →
    ∀ {n : Nat} {Q : Exit → Act → World → Prop}, (∀ q a' w1, Stp p s.h w q s1.h w1 → RH P q s1.h w1 → RAct q s1 a' → Q (exOf e) a' w1) → c.wpIn (wideR ro') n P Q a w
  | .skip, p, s, s1, e, a, w, hev, hro, hact, hh, n, Q, hQ => by
    simp only [evCode, Option.some.injEq, Prod.mk.injEq] at hev
    obtain ⟨rfl, rfl⟩ := hev
    exact wpIn_skip (hQ p a w (Stp.refl _ _ _) hh hact)
  | .label l, p, s, s1, e, a, w, hev, hro, hact, hh, n, Q, hQ => by
    simp only [evCode, Option.some.injEq, Prod.mk.injEq] at hev
    obtain ⟨rfl, rfl⟩ := hev
    exact wpIn_label (hQ p a w (Stp.refl _ _ _) hh hact)
  | .exit id, p, s, s1, e, a, w, hev, hro, hact, hh, n, Q, hQ => by
    simp only [evCode, Option.some.injEq, Prod.mk.injEq] at hev
    obtain ⟨rfl, rfl⟩ := hev
    exact wpIn_exit (hQ p a w (Stp.refl _ _ _) hh hact)
  | .ret, p, s, s1, e, a, w, hev, hro, hact, hh, n, Q, hQ => by
    simp only [evCode, Option.some.injEq, Prod.mk.injEq] at hev
    obtain ⟨rfl, rfl⟩ := hev
    exact wpIn_ret (hQ p a w (Stp.refl _ _ _) hh hact)
  | .seq x y, p, s, s1, e, a, w, hev, hro, hact, hh, n, Q, hQ => by
    simp only [evCode] at hev
    refine wpIn_seq ?_
    split at hev
    · rename_i s' hx
      refine code_sound G hD x hx hro hact hh (fun q a' w1 t1 t2 t3 => ?_)
      exact code_sound G hD y hev (hro.mono t1.le) t3 t2 (fun q2 a2 w2 z1 z2 z3 => hQ q2 a2 w2 (t1.trans z1) z2 z3)
    · rename_i hne
      refine code_sound G hD x hev hro hact hh (fun q a' w1 t1 t2 t3 => ?_)
      have h0 := hQ q a' w1 t1 t2 t3
      cases e with
      | normal => exact absurd hev (fun h => hne _ h)
      | exit id => exact h0
      | ret => exact h0
  | .cond c x y, p, s, s1, e, a, w, hev, hro, hact, hh, n, Q, hQ => by
    simp only [evCode] at hev
    have hc : ∀ b, evO s.tm c = .bool b → a.eval c = .bool b := by
      intro b hb
      have hok : okX c = true := by
        cases c with
        | tmp t => rfl
        | const v => simp only [evO] at hb; subst hb; rfl
        | global g =>
          simp only [evO] at hb
          split at hb
          · cases hb
          · simp [undef] at hb
        | func f => rfl
      exact ((eval_rel hact.tmps hh.glob c hok).pure_eq (by rw [hb]; rfl)).trans hb
    split at hev
    · rename_i hb
      exact wpIn_cond_true (hc _ hb) (code_sound G hD x hev hro hact hh hQ)
    · rename_i hb
      exact wpIn_cond_false (hc _ hb) (code_sound G hD y hev hro hact hh hQ)
    · cases hev
  | .block id c, p, s, s1, e, a, w, hev, hro, hact, hh, n, Q, hQ => by
    simp only [evCode] at hev
    refine wpIn_block ?_
    split at hev
    · rename_i id' s' hx
      refine code_sound G hD c hx hro hact hh (fun q a' w1 t1 t2 t3 => ?_)
      show Exit.inBlock id Q (.exit id') a' w1
      unfold Exit.inBlock
      simp only
      split at hev
      · rename_i hid
        simp only [Option.some.injEq, Prod.mk.injEq] at hev
        obtain ⟨rfl, rfl⟩ := hev
        rw [if_pos hid]
        exact hQ q a' w1 t1 t2 t3
      · rename_i hid
        simp only [Option.some.injEq, Prod.mk.injEq] at hev
        obtain ⟨rfl, rfl⟩ := hev
        rw [if_neg hid]
        exact hQ q a' w1 t1 t2 t3
    · rename_i hne
      refine code_sound G hD c hev hro hact hh (fun q a' w1 t1 t2 t3 => ?_)
      have h0 := hQ q a' w1 t1 t2 t3
      cases e with
      | normal => exact h0
      | exit id' => exact absurd hev (fun h => hne _ _ h)
      | ret => exact h0
  | .loop c, p, s, s1, e, a, w, hev, hro, hact, hh, n, Q, hQ => by
    simp only [evCode] at hev
    refine wpIn_loop_rounds (m + 1) ?_
    rw [roundsIn_succ]
    split at hev
    · rename_i s' hx
      split at hev
      · rename_i e2 s2 hrec
        simp only [Option.some.injEq, Prod.mk.injEq] at hev
        obtain ⟨rfl, rfl⟩ := hev
        refine code_sound G hD c hx hro hact hh (fun q a' w1 t1 t2 t3 => ?_)
        exact G.rounds hrec (hro.mono t1.le) t3 t2 (fun q2 a2 w2 z1 z2 z3 => hQ q2 a2 w2 (t1.trans z1) z2 z3)
      · cases hev
    · rename_i hne
      refine code_sound G hD c hev hro hact hh (fun q a' w1 t1 t2 t3 => ?_)
      have h0 := hQ q a' w1 t1 t2 t3
      cases e with
      | normal => exact absurd hev (fun h => hne _ h)
      | exit id => exact h0
      | ret => exact h0
  | .region id ops draw, p, s, s1, e, a, w, hev, hro, hact, hh, n, Q, hQ => by
    simp only [evCode] at hev
    cases draw with
    | true =>
      simp only [if_true, Option.map_eq_some_iff, Prod.mk.injEq] at hev
      obtain ⟨s', hx, rfl, rfl⟩ := hev
      exact hD.ok hx hro hact hh hQ
    | false =>
      simp only [Bool.false_eq_true, if_false, Option.map_eq_some_iff, Prod.mk.injEq] at hev
      obtain ⟨s', hx, rfl, rfl⟩ := hev
      refine wpIn_region ?_
      have := ops_sound G (n := n) (Q := Q) ops.toList 0 rfl hx hro hact hh hQ
      rw [Array.length_toList] at this
      rw [List.range_eq_range']
      exact this
  | .rangeFunc g ps assign body, p, s, s1, e, a, w, hev, hro, hact, hh, n, Q, hQ => by
    simp only [evCode] at hev
    split at hev
    · rename_i hok
      have hg := eval_rel hact.tmps hh.glob g hok
      split at hev
      · rename_i l mark h1 hent
        generalize hge : evO s.tm g = gv at hev hg
        generalize hge' : a.eval g = gv' at hg
        split at hev
        · rename_i f' first cap
          split at hev
          · cases hev
          · rename_i hb
            simp only [Bool.not_eq_true, Bool.not_eq_false'] at hb
            cases hg with
            | @func _ _ first' _ cap' hx hc =>
              split at hev
              · rename_i v0 h3 hrec
                refine wpIn_rangeFunc (fun fn _ => ?_)
                obtain ⟨q, lm, w1, t1, t2, t3, t4, _⟩ := Sim.enterLoop (P := P) (p := p) (f := f) (f' := fn) (t := s.tm.toArray) (t' := a.tmps) hact.tmps ps assign body (ro := ro) (ro' := ro') (by
                  cases hro with
                  | none => exact .inl ⟨rfl, rfl⟩
                  | some h => exact .inr ⟨_, _, rfl, rfl, h⟩) p (Ph.le_refl _) s.h w hh _ _ hent
                obtain ⟨l', mark'⟩ := lm
                obtain ⟨hl, hmk⟩ := t4
                simp only at hl hmk
                have hargs : (#[Operand.const (.func (.yield l') #[] #[])] : Array Operand).map a.eval = #[.func (.yield l') #[] #[]] := by
                  apply Array.ext'
                  rw [Array.toList_map]
                  rfl
                have hres : (resolve a.eval (rangeCall g l') 0).run P w1 = .ok ⟨.fn (.func f') cap', first' ++ #[.func (.yield l') #[] #[]]⟩ w1 := by
                  simp only [resolve]
                  rw [hge', hargs]
                  rfl
                have hinv : (invoke (.fn (.func f') cap') (first' ++ #[.func (.yield l') #[] #[]])).run P w1 = .ok (.enter f' ((first' ++ #[.func (.yield l') #[] #[]]) ++ cap')) w1 := by
                  unfold invoke
                  exact callFunc_run hb _ _
                have hrel : RVl q (first.toList ++ [.func (.yield l) #[] #[]] ++ cap.toList) ((first' ++ #[Value.func (.yield l') #[] #[]]) ++ cap').toList := by
                  rw [Array.toList_append, Array.toList_append]
                  exact ((hx.mono t1.le).append (.cons (.yield hl) .nil)).append (hc.mono t1.le)
                obtain ⟨Y, hY⟩ : ∃ Y : Array Value, first' ++ #[Value.func (.yield l') #[] #[]] = Y := ⟨_, rfl⟩
                rw [hY] at hrel hinv hres
                obtain ⟨X, hX⟩ : ∃ X : Array Value, Y ++ cap' = X := ⟨_, rfl⟩
                rw [hX] at hrel hinv
                clear hY hX hargs hge hge' hent hx hc
                have hcall : Calls P f' X w1 (rangePost (wideR ro') n P l' Q { a with defers := mark' ++ a.defers }) := by
                  refine G.call hrec hrel t3 (rangePost (wideR ro') n P l' Q { a with defers := mark' ++ a.defers }) (fun q2 v' w2 z1 z2 z3 => ?_)
                  show ∃ jump w₄, (Instr.endLoop l').run P w2 = .ok jump w₄ ∧ _
                  clear hrel hinv hres t2
                  split at hev
                  · rename_i h4 hend
                    simp only [Option.some.injEq, Prod.mk.injEq] at hev
                    obtain ⟨rfl, rfl⟩ := hev
                    obtain ⟨q3, j, w3, y1, y2, y3, y4, _⟩ := Sim.endLoop (P := P) (z1.le _ _ hl) q2 (Ph.le_refl _) h3 w2 z2 _ _ hend
                    subst y4
                    exact ⟨none, w3, y2, hQ q3 _ w3 ((t1.trans z1).trans y1) y3 ⟨hact.tmps.mono ((t1.trans z1).trans y1).le, (hmk.mono (z1.trans y1).le).append (hact.defers.mono ((t1.trans z1).trans y1).le)⟩⟩
                  · rename_i h4 hend
                    simp only [Option.some.injEq, Prod.mk.injEq] at hev
                    obtain ⟨rfl, rfl⟩ := hev
                    obtain ⟨q3, j, w3, y1, y2, y3, y4, _⟩ := Sim.endLoop (P := P) (z1.le _ _ hl) q2 (Ph.le_refl _) h3 w2 z2 _ _ hend
                    subst y4
                    exact ⟨some .ret, w3, y2, wpIn_ret (hQ q3 _ w3 ((t1.trans z1).trans y1) y3 ⟨hact.tmps.mono ((t1.trans z1).trans y1).le, (hmk.mono (z1.trans y1).le).append (hact.defers.mono ((t1.trans z1).trans y1).le)⟩)⟩
                  · rename_i id h4 hend
                    simp only [Option.some.injEq, Prod.mk.injEq] at hev
                    obtain ⟨rfl, rfl⟩ := hev
                    obtain ⟨q3, j, w3, y1, y2, y3, y4, _⟩ := Sim.endLoop (P := P) (z1.le _ _ hl) q2 (Ph.le_refl _) h3 w2 z2 _ _ hend
                    subst y4
                    exact ⟨some (.exit id), w3, y2, wpIn_exit (hQ q3 _ w3 ((t1.trans z1).trans y1) y3 ⟨hact.tmps.mono ((t1.trans z1).trans y1).le, (hmk.mono (z1.trans y1).le).append (hact.defers.mono ((t1.trans z1).trans y1).le)⟩)⟩
                  · cases hev
                exact ⟨l', mark', w1, ⟨.fn (.func f') cap', Y⟩, w1, f', X, w1, t2, hres, fun _ _ => trivial, hinv, (fun hx => by cases hx), calls_in hcall ro' (n - 1)⟩
              · cases hev
        · cases hev
      · cases hev
    · cases hev
  | .scope c, p, s, s1, e, a, w, hev, hro, hact, hh, n, Q, hQ => by simp [evCode] at hev
  | .goto l, p, s, s1, e, a, w, hev, hro, hact, hh, n, Q, hQ => by simp [evCode] at hev
  | .refuse y, p, s, s1, e, a, w, hev, hro, hact, hh, n, Q, hQ => by simp [evCode] at hev
end

end Go.Proofs.YtgjdgincebchhaaGreatDoor.Ev
namespace Go.Proofs.YtgjdgincebchhaaGreatDoor.Ev
open Go Go.RowKit
noncomputable section

/-- a term that leaves the world as it is. -/
def Quiet {α : Type} (P : Program) (t : Sem α) : Prop := ∀ w a w1, t.run P w = .ok a w1 → w1 = w

section
variable {P : Program} {p : Ph} {rec : Req → Option Res} {m : Nat} {tab : FuncId → Nat → List (Nat × Bool)}

theorem Quiet.pure {α : Type} (a : α) : Quiet P (Pure.pure a : Sem α) := fun w a' w1 h => by
  simp only [Sem.run_pure, Result.ok.injEq] at h
  exact h.2.symm
theorem Quiet.halt {α : Type} (e : Halt) : Quiet P (Sem.halt e : Sem α) := fun w a' w1 h => by cases h
theorem Quiet.bind {α β : Type} {t : Sem α} {f : α → Sem β} (ht : Quiet P t) (hf : ∀ a, Quiet P (f a)) : Quiet P (t >>= f) := fun w a' w1 h => by
  rw [Sem.run_bind] at h
  cases hr : t.run P w with
  | ok a w2 =>
    rw [hr] at h
    obtain rfl := ht _ _ _ hr
    exact hf a _ _ _ h
  | halt e w2 => rw [hr] at h; cases h
theorem Quiet.prog : Quiet P Go.program := fun w a' w1 h => by
  simp only [Go.program, Sem.run, Result.ok.injEq] at h
  exact h.2.symm
theorem Quiet.load (a : Addr) (m : Mode) : Quiet P (Go.load a m) := fun w a' w1 h => by
  simp only [Go.load, Sem.run] at h
  split at h
  · simp only [Result.ok.injEq] at h
    exact h.2.symm
  · split at h
    · simp only [Result.ok.injEq] at h
      exact h.2.symm
    · cases h
theorem Quiet.info (t : TypeId) : Quiet P (Go.typeInfo t) := Quiet.bind Quiet.prog fun a => by
  cases a.info? t with
  | none => exact Quiet.halt _
  | some d => exact Quiet.pure d
theorem Quiet.under (t : TypeId) : Quiet P (Go.underlying t) := Quiet.bind Quiet.prog fun a => by
  cases a.underlying t with
  | none => exact Quiet.halt _
  | some d => exact Quiet.pure d
theorem Quiet.agg (t : TypeId) : Quiet P (Go.isAgg t) := Quiet.bind (Quiet.under t) fun d => by cases d <;> exact Quiet.pure _
theorem Quiet.cellsFrom (a : Addr) : ∀ (n i : Nat) (acc : Array Value), Quiet P (Go.loadCellsFrom a i n acc)
  | 0, _, _ => Quiet.pure _
  | n + 1, i, _ => Quiet.bind (Quiet.load _ _) fun _ => Quiet.cellsFrom a n (i + 1) _
theorem Quiet.var (t : TypeId) (a : Addr) : Quiet P (Go.loadVar t a) := Quiet.bind (Quiet.agg t) fun b => by
  cases b with
  | true => exact Quiet.bind (Quiet.bind (Quiet.info t) fun _ => Quiet.pure _) fun n => Quiet.bind (Quiet.cellsFrom a _ _ _) fun _ => Quiet.pure _
  | false => exact Quiet.load _ _
theorem Quiet.addr (v : Value) : Quiet P (Go.asAddr v) := by
  unfold Go.asAddr
  split
  · exact Quiet.pure _
  · exact Quiet.bind Quiet.prog fun _ => Quiet.halt _
  · exact Quiet.halt _

/-- one result. -/
def resOf (tmps : Array Value) : ResultVar → Sem Value
  | .tmp t => Pure.pure (tmps.getD t undef)
  | .cell a t => do loadVar t (← asAddr (tmps.getD a undef))

theorem results_eq (fn : Func) (tmps : Array Value) : results fn tmps = (fn.results.mapM (resOf tmps) >>= fun vs => Pure.pure (if h : vs.size = 1 then vs[0] else .tuple vs)) := by
  unfold results
  congr 1

theorem mapM_list {α : Type} (f : α → Sem Value) (xs : Array α) : xs.mapM f = (xs.toList.mapM f >>= fun l => Pure.pure l.toArray) := by
  rw [Array.mapM_eq_mapM_toList, map_eq_pure_bind]

theorem Quiet.mapL {α : Type} {f : α → Sem Value} (hf : ∀ x, Quiet P (f x)) : ∀ l : List α, Quiet P (l.mapM f)
  | [] => Quiet.pure _
  | x :: l => by
    rw [List.mapM_cons]
    exact Quiet.bind (hf x) fun _ => Quiet.bind (Quiet.mapL hf l) fun _ => Quiet.pure _

theorem Sim.mapL {α : Type} {f f' : α → Sem Value} (hf : ∀ x, Sim P p RV (f x) (f' x)) : ∀ l : List α, Sim P p (fun q x y => RVl q x y) (l.mapM f) (l.mapM f')
  | [] => Sim.pure fun _ _ => .nil
  | x :: l => by
    rw [List.mapM_cons, List.mapM_cons]
    refine Sim.bind (hf x) fun q v v' hq hv => ?_
    refine Sim.bind ((Sim.mapL hf l).mono hq) fun q2 vs vs' hq2 hvs => ?_
    exact Sim.pure fun s hs => .cons (hv.mono (Ph.le_trans hq2 hs)) (hvs.mono hs)

theorem Quiet.resOf (tmps : Array Value) (x : ResultVar) : Quiet P (resOf tmps x) := by
  cases x with
  | tmp t => exact Quiet.pure _
  | cell a t => exact Quiet.bind (Quiet.addr _) fun _ => Quiet.var _ _

theorem getD_rel {t t' : Array Value} (h : RVl p t.toList t'.toList) (i : Nat) : RV p (t.getD i undef) (t'.getD i undef) := by
  have := nth_rel h i
  rw [Array.getElem?_toList] at this
  rw [Array.getD_eq_getD_getElem?, Array.getD_eq_getD_getElem?]
  have h2 : nth t.toList i = (t[i]?).getD undef := by
    rw [← Array.getElem?_toList]
    generalize t.toList = l
    clear this h
    induction l generalizing i with
    | nil => cases i <;> rfl
    | cons v l ih =>
      cases i with
      | zero => rfl
      | succ i =>
        rw [List.getElem?_cons_succ]
        exact ih i
  rw [← h2]
  exact this

theorem Sim.resOf {t t' : Array Value} (h : RVl p t.toList t'.toList) (x : ResultVar) : Sim P p RV (resOf t x) (resOf t' x) := by
  cases x with
  | tmp i => exact Sim.pure fun q hq => (getD_rel h i).mono hq
  | cell a ty => exact Sim.bind (Sim.asAddr (getD_rel h a)) fun q x y _ hxy => Sim.loadVar ty hxy

theorem results_run {fn : Func} {t t' : Array Value} {h h1 : CH} {v : Value} (hev : runC P (results fn t) h = some (v, h1)) {w : World} (ht : RVl p t.toList t'.toList) (hh : RH P p h w) :
    ∃ q v', Stp p h w q h1 w ∧ (results fn t').run P w = .ok v' w ∧ RH P q h1 w ∧ RV q v v' := by
  have hs : Sim P p RV (results fn t) (results fn t') := by
    rw [results_eq, results_eq, mapM_list, mapM_list]
    simp only [bind_assoc, pure_bind]
    refine Sim.bind (Sim.mapL (Sim.resOf ht) _) fun q vs vs' _ hvs => Sim.pure fun s hs => ?_
    have hl := hvs.length
    have hvs := hvs.mono hs
    by_cases h1 : vs.length = 1
    · rw [dif_pos (by simpa using h1), dif_pos (by simpa [← hl] using h1)]
      cases hvs with
      | nil => cases h1
      | cons h0 _ => exact h0
    · rw [dif_neg (by simpa using h1), dif_neg (by simpa [← hl] using h1)]
      exact .tuple hvs
  have hq : Quiet P (results fn t') := by
    rw [results_eq, mapM_list]
    exact Quiet.bind (Quiet.bind (Quiet.mapL (Quiet.resOf _) _) fun _ => Quiet.pure _) fun _ => Quiet.pure _
  obtain ⟨q, v', w1, s1, s2, s3, s4, _⟩ := hs p (Ph.le_refl _) h w hh v h1 hev
  obtain rfl := hq _ _ _ s2
  exact ⟨q, v', s1, s2, s3, s4⟩
end

end

end Go.Proofs.YtgjdgincebchhaaGreatDoor.Ev
namespace Go.Proofs.YtgjdgincebchhaaGreatDoor.Ev
open Go Go.RowKit

section
variable {P : Program} {p : Ph} {rec : Req → Option Res} {m : Nat} {tab : FuncId → Nat → List (Nat × Bool)}

theorem leaves_sound (G : Good P rec m) {fn : Func} {t t' : Array Value} {hz : CH} {v : Value} : ∀ (ds ds' : List Deferred) {p : Ph} {h h1 : CH} {w : World}, evDefers P rec ds h = some h1 → runC P (results fn t) h1 = some (v, hz) →
    RDs p ds ds' → RVl p t.toList t'.toList → RH P p h w → ∀ {R : Ending → World → Prop}, (∀ q v' w1, Stp p h w q hz w1 → RH P q hz w1 → RV q v v' → R (.returned v') w1) → LeavesInM Fence.wide 0 P fn t' R ds' .returning w
  | [], ds', p, h, h1, w, hev, hres, hds, ht, hh, R, hR => by
    cases hds
    simp only [evDefers, Option.some.injEq] at hev
    subst hev
    obtain ⟨q, v', s1, s2, s3, s4⟩ := results_run hres ht hh
    exact ⟨v', s2, hR q v' w s1 s3 s4⟩
  | d :: ds, ds', p, h, h1, w, hev, hres, hds, ht, hh, R, hR => by
    cases hds with
    | @cons _ d' _ l' hd hs =>
      refine ⟨by simp, ?_⟩
      cases hd with
      | @mark r r' hr x y =>
        left
        simp only [evDefers] at hev
        split at hev
        · rename_i h2 htk
          obtain ⟨q, a, w1, s1, s2, s3, s4, _⟩ := Sim.takeDeferred (P := P) hr p (Ph.le_refl _) h w hh _ _ htk
          obtain ⟨_, rfl⟩ := s4
          refine ⟨r', w1, rfl, s2, ?_⟩
          exact leaves_sound G ds l' hev hres (hs.mono s1.le) (ht.mono s1.le) s3 (fun q2 v' w2 z1 z2 z3 => hR q2 v' w2 (s1.trans z1) z2 z3)
        · cases hev
      | @fn f c c' x x' hc hx =>
        right
        simp only [evDefers] at hev
        split at hev
        · cases hev
        · rename_i hb
          simp only [Bool.not_eq_true, Bool.not_eq_false'] at hb
          split at hev
          · rename_i v0 h2 hrec
            refine ⟨(fun hx => by cases hx), .func f, c', f, x' ++ c', rfl, ?_, fun _ _ => trivial, ?_⟩
            · show (invoke (.fn (.func f) c') x').run P w = _
              unfold invoke
              exact callFunc_run hb _ _
            · have hrel : RVl p (x ++ c).toList (x' ++ c').toList := by
                rw [Array.toList_append, Array.toList_append]
                exact RVl.append hx hc
              refine (G.callD hrec hrel hh .returning 0 (fun e w' => ∃ v', e = .returned v' ∧ ∃ q, Stp p h w q h2 w' ∧ RH P q h2 w') (fun q v' w1 t1 t2 _ => ⟨v', rfl, q, t1, t2⟩)).mono ?_
              rintro e u' w' ⟨rfl, v', rfl, q, t1, t2⟩
              exact leaves_sound G ds l' hev hres (hs.mono t1.le) (ht.mono t1.le) t2 (fun q2 v' w2 z1 z2 z3 => hR q2 v' w2 (t1.trans z1) z2 z3)
          · cases hev

theorem undefs_rel : ∀ n : Nat, RVl p (List.replicate n undef) (List.replicate n undef)
  | 0 => .nil
  | n + 1 => .cons RV.undef (undefs_rel n)

theorem entry_rel {args : List Value} {args' : Array Value} (ha : RVl p args args'.toList) (k : Nat) :
    RAct p ⟨args ++ List.replicate (k - args.length) undef, [], CH.empty⟩ { tmps := args' ++ Array.replicate (k - args'.size) undef, defers := [] } := by
  refine ⟨?_, .nil⟩
  have hl : args.length = args'.size := by simpa using ha.length
  rw [Array.toList_append, Array.toList_replicate, ← hl]
  exact ha.append (undefs_rel _)

theorem call_sound (G : Good P rec m) (hD : DrawnOk P tab rec) {f : FuncId} {args : List Value} {h : CH} {v : Value} {h1 : CH} (hev : evCall P tab rec f args h = some (v, h1)) {p : Ph} {w : World} {args' : Array Value} (ha : RVl p args args'.toList) (hh : RH P p h w)
    (R : Ending → World → Prop) (hR : ∀ q v' w1, Stp p h w q h1 w1 → RH P q h1 w1 → RV q v v' → R (.returned v') w1) : Calls P f args' w R := by
  unfold evCall at hev
  split at hev
  · cases hev
  · rename_i fn hf
    split at hev
    · cases hev
    · rename_i c hc
      split at hev
      · cases hev
      · cases hev
      · rename_i x e s hne hcode
        split at hev
        · rename_i h2 hdef
          refine callsIn_wide.1 (callsIn_of_wp_marks (n := 0) hf hc trivial ?_)
          have ha2 := entry_rel ha fn.ntmps
          refine code_sound (ro' := none) G hD c hcode .none ⟨ha2.tmps, ha2.defers⟩ hh (fun q a' w1 t1 t2 t3 => ?_)
          have key : LeavesInM Fence.wide 0 P fn a'.tmps R a'.defers .returning w1 :=
            leaves_sound G s.ds a'.defers (t := s.tm.toArray) hdef hev t3.defers t3.tmps t2 (fun q2 v' w2 z1 z2 z3 => hR q2 v' w2 (t1.trans z1) z2 z3)
          cases e with
          | normal => exact key
          | ret => exact key
          | exit id => exact absurd rfl (hne id)
        · cases hev

theorem callD_sound (G : Good P rec m) (hD : DrawnOk P tab rec) {f : FuncId} {args : List Value} {h : CH} {v : Value} {h1 : CH} (hev : evCallD P tab rec f args h = some (v, h1)) {p : Ph} {w : World} {args' : Array Value} (ha : RVl p args args'.toList) (hh : RH P p h w)
    (u : FrameMode) (n : Nat) (R : Ending → World → Prop) (hR : ∀ q v' w1, Stp p h w q h1 w1 → RH P q h1 w1 → RV q v v' → R (.returned v') w1) : CallsDIn Fence.wide n P f args' u w fun e u' w' => u' = u ∧ R e w' := by
  unfold evCallD at hev
  split at hev
  · cases hev
  · rename_i fn hf
    split at hev
    · cases hev
    · rename_i c hc
      split at hev
      · cases hev
      · cases hev
      · rename_i x e s hne hcode
        split at hev
        · rename_i hds
          refine callsDIn_of_wp hf hc trivial ?_
          have ha2 := entry_rel ha fn.ntmps
          refine code_sound (ro' := none) G hD c hcode .none ⟨ha2.tmps, ha2.defers⟩ hh (fun q a' w1 t1 t2 t3 => ?_)
          have key : a'.defers = [] ∧ ∃ v, (results fn a'.tmps).run P w1 = .ok v w1 ∧ R (.returned v) w1 := by
            have hd := t3.defers
            rw [List.isEmpty_iff.1 hds] at hd
            obtain ⟨q2, v', s1, s2, s3, s4⟩ := results_run hev t3.tmps t2
            refine ⟨?_, v', s2, hR q2 v' w1 (t1.trans s1) s3 s4⟩
            generalize a'.defers = l at hd
            cases hd
            rfl
          cases e with
          | normal => exact key
          | ret => exact key
          | exit id => exact absurd rfl (hne id)
        · cases hev
end

end Go.Proofs.YtgjdgincebchhaaGreatDoor.Ev
namespace Go.Proofs.YtgjdgincebchhaaGreatDoor.Ev
open Go Go.RowKit

section
variable {P : Program} {tab : FuncId → Nat → List (Nat × Bool)}

theorem step_call {rec : Req → Option Res} {f : FuncId} {args : List Value} {h : CH} {v : Value} {h1 : CH} (hev : evStep P tab rec (.call f args h) = some (.value v h1)) : evCall P tab rec f args h = some (v, h1) := by
  unfold evStep at hev
  simp only at hev
  split at hev
  · rename_i v' h' he
    simp only [Option.some.injEq, Res.value.injEq] at hev
    obtain ⟨rfl, rfl⟩ := hev
    exact he
  · cases hev
theorem step_callD {rec : Req → Option Res} {f : FuncId} {args : List Value} {h : CH} {v : Value} {h1 : CH} (hev : evStep P tab rec (.callD f args h) = some (.value v h1)) : evCallD P tab rec f args h = some (v, h1) := by
  unfold evStep at hev
  simp only at hev
  split at hev
  · rename_i v' h' he
    simp only [Option.some.injEq, Res.value.injEq] at hev
    obtain ⟨rfl, rfl⟩ := hev
    exact he
  · cases hev
theorem step_loop {rec : Req → Option Res} {f : FuncId} {ro : Option Nat} {c : Code} {s s1 : St} {e : Ex} (hev : evStep P tab rec (.loop f ro c s) = some (.code e s1)) : evCode P tab rec f ro c s = some (e, s1) := by
  unfold evStep at hev
  simp only at hev
  split at hev
  · rename_i v' h' he
    simp only [Option.some.injEq, Res.code.injEq] at hev
    obtain ⟨rfl, rfl⟩ := hev
    exact he
  · cases hev

theorem good (hD : ∀ (rec : Req → Option Res) (m : Nat), Good P rec m → DrawnOk P tab rec) : ∀ k, Good P (ev P tab k) k
  | 0 => ⟨(fun h => by cases h), (fun h => by cases h), (fun h => by cases h), (fun h => by cases h)⟩
  | k + 1 =>
    have G : Good P (ev P tab k) k := good hD k
    have D : DrawnOk P tab (ev P tab k) := hD _ k G
    ⟨fun hev _ _ _ ha hh R hR => call_sound G D (step_call hev) ha hh R hR,
     fun hev _ _ _ ha hh u n R hR => callD_sound G D (step_callD hev) ha hh u n R hR,
     fun hev _ _ _ _ hro hact hh _ _ hQ => code_sound G D _ (step_loop hev) hro hact hh hQ,
     fun {f ro c s e s1} hev p a w ro' hro hact hh n Q hQ => by
      have h0 := step_loop hev
      simp only [evCode] at h0
      rw [roundsIn_succ]
      split at h0
      · rename_i s' hx
        split at h0
        · rename_i e2 s2 hrec
          simp only [Option.some.injEq, Prod.mk.injEq] at h0
          obtain ⟨rfl, rfl⟩ := h0
          refine code_sound G D c hx hro hact hh (fun q a' w1 t1 t2 t3 => ?_)
          exact G.rounds hrec (hro.mono t1.le) t3 t2 (fun q2 a2 w2 z1 z2 z3 => hQ q2 a2 w2 (t1.trans z1) z2 z3)
        · cases h0
      · rename_i hne
        refine code_sound G D c h0 hro hact hh (fun q a' w1 t1 t2 t3 => ?_)
        have h1 := hQ q a' w1 t1 t2 t3
        cases e with
        | normal => exact absurd h0 (fun h => hne _ h)
        | exit id => exact h1
        | ret => exact h1⟩
end

end Go.Proofs.YtgjdgincebchhaaGreatDoor.Ev

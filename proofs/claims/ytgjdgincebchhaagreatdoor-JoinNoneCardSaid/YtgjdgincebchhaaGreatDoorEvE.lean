/-
  Drawn regions: a block that is made at a time that is not known, and taken up later; an operation under its own operands. No program in sight.
  Drawn regions: what the reckoning of one leaves behind. No program in sight.
  Drawn regions: what the check of a region's text says of what was reckoned. No program in sight.
  Drawn regions: the heap behind an operation that came up. No program in sight.
  Drawn regions: whatever order they draw, what is reckoned is what happens. No program in sight.
  Drawn regions: the schedule. No program in sight.
  Drawn regions are sound; and so is the whole reckoning. No program in sight.
-/
import Derived.Test.YtgjdgincebchhaaGreatDoorEvD
import Derived.OrdersIn
namespace Go.Proofs.YtgjdgincebchhaaGreatDoor.Ev
open Go Go.RowKit
noncomputable section

section
variable {P : Program} {p q : Ph} {h : CH} {w : World}

/-! ### an id that is kept back -/
def CH.more (h : CH) : CH := ⟨h.t, h.n + 1⟩

theorem CH.get_more {h : CH} (hg : h.more.get h.n = none) (b : Nat) : h.more.get b = h.get b := by
  rcases Nat.lt_trichotomy b h.n with hb | hb | hb
  · unfold CH.get CH.more
    simp only
    rw [if_pos hb, if_pos (by omega)]
  · subst hb
    rw [hg]
    unfold CH.get
    rw [if_neg (by omega)]
  · unfold CH.get CH.more
    simp only
    rw [if_neg (by omega), if_neg (by omega)]

theorem RH.more (hh : RH P p h w) (hn : h.n + 1 < 2 ^ D) (hg : h.more.get h.n = none) : RH P p h.more w :=
  ⟨hn, fun b o hb => hh.live b o (by rw [← CH.get_more hg]; exact hb), fun b1 b2 o1 o2 x r1 r2 g1 g2 => hh.inj b1 b2 o1 o2 x r1 r2 (by rw [← CH.get_more hg]; exact g1) (by rw [← CH.get_more hg]; exact g2),
   fun b hb => hh.fresh b (by have : h.n + 1 ≤ b := hb; omega), hh.glob⟩

theorem Stp.more (p : Ph) (w : World) (hg : h.more.get h.n = none) : Stp p h w p h.more w :=
  ⟨Ph.le_refl _, Nat.le_succ _, rfl, rfl, rfl, Nat.le_refl _, fun _ _ _ => rfl, fun b o r _ h1 h2 _ => ⟨b, o, r, by rw [← CH.get_more hg]; exact h1, h2⟩, fun _ _ h => h⟩

/-! ### a block that is there and is not yet reckoned with -/
def Pend (P : Program) (z bA : Nat) (oA : Obj) (q : Ph) (h : CH) (w : World) : Prop :=
  ∃ b' r o', q bA = some (b', r) ∧ z ≤ b' ∧ w.heap[b']? = some o' ∧ RO P q r oA o' ∧ ∀ b o r', h.get b = some o → q b ≠ some (b', r')

theorem Pend.stp {z bA : Nat} {oA : Obj} (hp : Pend P z bA oA q h w) {q1 : Ph} {h1 : CH} {w1 : World} (s : Stp q h w q1 h1 w1) : Pend P z bA oA q1 h1 w1 := by
  obtain ⟨b', r, o', h1, h2, h3, h4, h5⟩ := hp
  have hlt := (Array.getElem?_eq_some_iff.1 h3).1
  refine ⟨b', r, o', s.le _ _ h1, h2, ?_, h4.mono s.le, fun b o r' hb e => ?_⟩
  · rw [s.keep b' hlt (fun b o r' hb e => h5 b o r' hb e)]
    exact h3
  · obtain ⟨b0, o0, r0, x, y⟩ := s.from_ b o r' b' hb e hlt
    exact h5 b0 o0 r0 x y

theorem Pend.adopt {w0 : World} {p0 : Ph} {h0 : CH} {bA : Nat} {oA : Obj} (hp : Pend P w0.heap.size bA oA q h w) (hh : RH P q h w) (hb : bA < h.n) (hs : Stp p0 h0 w0 q h w) :
    RH P q (h.set bA (some oA)) w ∧ Stp p0 h0 w0 q (h.set bA (some oA)) w := by
  obtain ⟨b', r, o', h1, h2, h3, h4, h5⟩ := hp
  have hset := fun j => CH.get_set (h := h) (Nat.le_of_lt hh.cap) hb (some oA) j
  refine ⟨⟨hh.cap, fun b o hbo => ?_, fun b1 b2 o1 o2 x r1 r2 g1 g2 q1 q2 => ?_, hh.fresh, hh.glob⟩, ⟨hs.le, hs.n, hs.os, hs.tape, hs.output, hs.size, hs.keep, fun b o r2 k g2 q2 hk => ?_, hs.old⟩⟩
  · rw [hset] at hbo
    by_cases hbe : b = bA
    · subst hbe
      rw [if_pos rfl] at hbo
      injection hbo with hbo
      subst hbo
      exact ⟨b', r, o', h1, h3, h4⟩
    · rw [if_neg hbe] at hbo
      exact hh.live b o hbo
  · rw [hset] at g1 g2
    by_cases e1 : b1 = bA
    · by_cases e2 : b2 = bA
      · rw [e1, e2]
      · rw [if_neg e2] at g2
        rw [e1, h1] at q1
        injection q1 with q1
        injection q1 with q11 q12
        subst q11
        exact absurd q2 (h5 _ _ _ g2)
    · rw [if_neg e1] at g1
      by_cases e2 : b2 = bA
      · rw [e2, h1] at q2
        injection q2 with q2
        injection q2 with q21 q22
        subst q21
        exact absurd q1 (h5 _ _ _ g1)
      · rw [if_neg e2] at g2
        exact hh.inj _ _ _ _ x _ _ g1 g2 q1 q2
  · rw [hset] at g2
    by_cases e2 : b = bA
    · rw [e2, h1] at q2
      injection q2 with q2
      injection q2 with q21 q22
      omega
    · rw [if_neg e2] at g2
      exact hs.from_ b o r2 k g2 q2 hk

theorem Tr.get_e (d i : Nat) : Tr.get d .e i = none := by cases d <;> rfl

theorem hollow {w0 : World} {p0 : Ph} {h0 : CH} {bA : Nat} {oA : Obj} {ρ0 ρ : Operand → Value} {o : Oper} {v : Value} {hA : CH} (hρ : ∀ x, okX x = true → RV (q.cut bA) (ρ0 x) (ρ x)) (hev : evOp P ρ0 ⟨.e, bA⟩ o = some (v, hA))
    (hg : hA.get bA = some oA) (hn : hA.n = bA + 1) (hh : RH P q h w) (hq : q bA = none) (hbn : bA < h.n) (hb0 : h0.n ≤ bA) (hs : Stp p0 h0 w0 q h w) :
    ∃ q1 nx v' w1, (execOp ρ o).run P w = .ok nx w1 ∧ Laid nx v' ∧ RV q1 v v' ∧ q.le q1 ∧ Stp p0 h0 w0 q1 h w1 ∧ RH P q1 h w1 ∧ Pend P w0.heap.size bA oA q1 h w1 := by
  have hG := hh.glob
  have hE : ∀ b, (⟨.e, bA⟩ : CH).get b = none := fun b => by
    unfold CH.get
    split
    · exact Tr.get_e _ _
    · rfl
  have hr0 : RH P (q.cut bA) ⟨.e, bA⟩ w := ⟨Nat.lt_trans hbn hh.cap, (fun b o hb => by rw [hE] at hb; cases hb), (fun b1 b2 o1 o2 x r1 r2 g1 => by rw [hE] at g1; cases g1), fun b hb => if_neg (by have : bA ≤ b := hb; omega), hG.cut hq⟩
  obtain ⟨r, nx, v', w1, s1, s2, s3, s4, s5⟩ := evOp_run hρ hev hr0
  obtain ⟨b', rr, o', t1, t2, t3⟩ := s4.live bA oA hg
  have hb' : w.heap.size ≤ b' := by
    rcases Nat.lt_or_ge b' w.heap.size with hlt | hge
    · obtain ⟨b0, o0, r0, x, y⟩ := s1.from_ bA oA rr b' hg t1 hlt
      rw [hE] at x
      cases x
    · exact hge
  have hkeep : ∀ k, k < w.heap.size → w1.heap[k]? = w.heap[k]? := fun k hk => s1.keep k hk (fun b o r hb => by rw [hE] at hb; cases hb)
  have hqle : q.le (fun b => if b = bA then some (b', rr) else q b) := fun b x hb => by
    show (if b = bA then _ else _) = _
    rw [if_neg (fun e => by rw [e, hq] at hb; cases hb)]
    exact hb
  have hrle : r.le (fun b => if b = bA then some (b', rr) else q b) := fun b x hb => by
    show (if b = bA then _ else _) = _
    rcases Nat.lt_trichotomy b bA with hlt | heq | hgt
    · rw [if_neg (by omega)]
      cases hqb : q b with
      | none =>
        have := s1.old b hlt (by rw [Ph.cut_at hlt]; exact hqb)
        rw [this] at hb
        cases hb
      | some y =>
        have := s1.le b y (by rw [Ph.cut_at hlt]; exact hqb)
        rw [this] at hb
        exact hb
    · subst heq
      rw [if_pos rfl, ← hb, t1]
    · have := s4.fresh b (by omega)
      rw [this] at hb
      cases hb
  have hlive : ∀ b o, h.get b = some o → b ≠ bA := fun b o hb e => by
    obtain ⟨b2, r2, o2, hp2, _⟩ := hh.live b o hb
    rw [e, hq] at hp2
    cases hp2
  refine ⟨fun b => if b = bA then some (b', rr) else q b, nx, v', w1, s2, s3, s5.mono hrle, hqle, ?_, ?_, ?_⟩
  · refine ⟨Ph.le_trans hs.le hqle, hs.n, s1.os.trans hs.os, s1.tape.trans hs.tape, s1.output.trans hs.output, Nat.le_trans hs.size s1.size, fun k hk hnl => (hkeep k (Nat.lt_of_lt_of_le hk hs.size)).trans (hs.keep k hk hnl), fun b o r2 k hb hp hk => ?_, fun b hb hp => ?_⟩
    · simp only [if_neg (hlive b o hb)] at hp
      exact hs.from_ b o r2 k hb hp hk
    · show (if b = bA then _ else _) = _
      rw [if_neg (by omega)]
      exact hs.old b hb hp
  · refine ⟨hh.cap, fun b o hb => ?_, fun b1 b2 o1 o2 x r1 r2 g1 g2 e1 e2 => ?_, fun b hb => ?_, hh.glob.mono hqle⟩
    · obtain ⟨b2, r2, o2, hp2, hw2, ho2⟩ := hh.live b o hb
      refine ⟨b2, r2, o2, hqle _ _ hp2, ?_, ho2.mono hqle⟩
      rw [hkeep b2 (Array.getElem?_eq_some_iff.1 hw2).1]
      exact hw2
    · simp only [if_neg (hlive b1 o1 g1)] at e1
      simp only [if_neg (hlive b2 o2 g2)] at e2
      exact hh.inj _ _ _ _ x _ _ g1 g2 e1 e2
    · show (if b = bA then _ else _) = _
      rw [if_neg (by omega)]
      exact hh.fresh b hb
  · refine ⟨b', rr, o', if_pos rfl, Nat.le_trans hs.size hb', t2, t3.mono hrle, fun b o r' hb e => ?_⟩
    simp only [if_neg (hlive b o hb)] at e
    obtain ⟨b2, r2, o2, hp2, hw2, _⟩ := hh.live b o hb
    rw [e] at hp2
    injection hp2 with hp2
    injection hp2 with hp21 hp22
    have := (Array.getElem?_eq_some_iff.1 hw2).1
    omega
end

section
variable {P : Program} {p : Ph} {rec : Req → Option Res}

theorem calm_defer {o : Oper} (h : calm o = true) : ∀ c, o.op ≠ .defer c := by
  intro c hc
  unfold calm at h
  rw [hc] at h
  cases h
theorem calm_select {o : Oper} (h : calm o = true) : ∀ cs b, o.op ≠ .select cs b := by
  intro c b hc
  unfold calm at h
  rw [hc] at h
  cases h

/-- one operation of a drawn region: by what it looks at. -/
theorem oper_at {m : Nat} (G : Good P rec m) {ρ0 ρ : Operand → Value} {ds ds1 : List Deferred} {h h1 : CH} {ro ro' : Option Nat} {o : Oper} {v : Value} (hev : evOper P rec ρ0 ds h ro o = some (v, ds1, h1)) (hc : calm o = true)
    {a : Act} {w : World} (hρ : ∀ x, okX x = true → RV p (ρ0 x) (ρ x)) (he : execOp a.eval o = execOp ρ o) (hh : RH P p h w) {n : Nat} {next : Act → World → Prop} {Q : Exit → Act → World → Prop}
    (hnext : ∀ (q : Ph) (v' : Value) (w1 : World), Stp p h w q h1 w1 → RH P q h1 w1 → RV q v v' → next (a.put o.dst v') w1) : o.wpIn (wideR ro') n P a w next Q := by
  refine ⟨fun _ _ => trivial, ?_⟩
  rw [Oper.semAt_eq _ _ _ (calm_defer hc), he]
  unfold evOper at hev
  split at hev
  · split at hev
    · rename_i f args h' htar
      obtain ⟨q, nx', w1, s1, s2, s3, s4⟩ := target_run hρ htar hh
      cases s4 with
      | @enter _ _ args' ha =>
        rw [s2]
        split at hev
        · rename_i v0 h2 hrec
          simp only [Option.some.injEq, Prod.mk.injEq] at hev
          obtain ⟨rfl, rfl, rfl⟩ := hev
          refine ⟨(fun hx => by cases hx), calls_in (G.call hrec ha s3 _ (fun q2 v' w2 t1 t2 t3 => ?_)) _ _⟩
          exact hnext q2 v' w2 (s1.trans t1) t2 t3
        · cases hev
    · rename_i l f tmps assign body h' htar
      obtain ⟨q, nx', w1, s1, s2, s3, s4⟩ := target_run hρ htar hh
      cases s4 with
      | @round _ l' hl _ f' _ tmps' ha _ _ =>
        rw [s2]
        split at hev
        · rename_i v0 h2 hrnd
          simp only [Option.some.injEq, Prod.mk.injEq] at hev
          obtain ⟨rfl, rfl, rfl⟩ := hev
          refine ⟨(fun hx => by cases hx), round_sound G hrnd hl ha s3 _ _ _ (fun q2 v' w2 t1 t2 t3 => ?_)⟩
          exact hnext q2 v' w2 (s1.trans t1) t2 t3
        · cases hev
    · cases hev
  · split at hev
    · rename_i c hop
      exact absurd hop (calm_defer hc c)
    · split at hev
      · rename_i v0 h' hevop
        simp only [Option.some.injEq, Prod.mk.injEq] at hev
        obtain ⟨rfl, rfl, rfl⟩ := hev
        obtain ⟨q, nx, v', w1, s1, s2, s3, s4, s5⟩ := evOp_run hρ hevop hh
        rw [s2]
        have hfin := hnext q v' w1 s1 s4 s5
        rcases s3 with rfl | ⟨rfl, rfl⟩
        · exact hfin
        · exact hfin
      · cases hev

/-- a read. -/
theorem read_at {ρ0 ρ : Operand → Value} {h : CH} {ro' : Option Nat} {o : Oper} {v : Value} (hev : evRead P ρ0 h o = some v) (hc : calm o = true)
    {a : Act} {w : World} (hρ : ∀ x, okX x = true → RV p (ρ0 x) (ρ x)) (he : execOp a.eval o = execOp ρ o) (hh : RH P p h w) {n : Nat} {next : Act → World → Prop} {Q : Exit → Act → World → Prop}
    (hnext : ∀ (q : Ph) (v' : Value) (w1 : World), Stp p h w q h w1 → RH P q h w1 → RV q v v' → next (a.put o.dst v') w1) : o.wpIn (wideR ro') n P a w next Q := by
  refine ⟨fun _ _ => trivial, ?_⟩
  rw [Oper.semAt_eq _ _ _ (calm_defer hc), he]
  obtain ⟨q, nx, v', w1, s1, s2, s3, s4, s5⟩ := evOp_run hρ (evRead_op hev) hh
  rw [s2]
  have hfin := hnext q v' w1 s1 s4 s5
  rcases s3 with rfl | ⟨rfl, rfl⟩
  · exact hfin
  · exact hfin
end

end

end Go.Proofs.YtgjdgincebchhaaGreatDoor.Ev
namespace Go.Proofs.YtgjdgincebchhaaGreatDoor.Ev
open Go Go.RowKit
noncomputable section

def valL : List En → (Nat → Bool) → List Value → List Value
  | [], _, tm => tm
  | en :: l, L, tm => valL l L (if L en.i then putT tm en.o.dst en.v else tm)
/-- the heap ahead of the first operation that has not come up, of those that turn it. -/
def stH : List En → (Nat → Bool) → CH → CH
  | [], _, he => he
  | en :: l, L, he => if en.fl && !L en.i then en.s.h else stH l L he

section
variable {P : Program} {rec : Req → Option Res} {ops : Array Oper} {ro : Option Nat} {ms : List Nat} {la : Option Nat} {bA : Nat}

def LgOk (P : Program) (rec : Req → Option Res) (ops : Array Oper) (ro : Option Nat) (ms : List Nat) (la : Option Nat) (bA : Nat) : List En → List En → St → St → Prop
  | _, [], s, s' => s = s'
  | acc, en :: l, s, s' => en.s = s ∧ ops[en.i]? = some en.o ∧ evOne P rec ops ro la bA s en.i en.fl en.o = some en ∧ (en.fl = true → readsStay P (ms.getD en.i 0) en.h1 acc = true) ∧ LgOk P rec ops ro ms la bA (en :: acc) l en.next s'

theorem evOne_eq {s : St} {i : Nat} {fl : Bool} {o : Oper} {en : En} (h : evOne P rec ops ro la bA s i fl o = some en) : en.i = i ∧ en.fl = fl ∧ en.o = o ∧ en.s = s ∧ en.wn = wantedC ops s.tm o := by
  unfold evOne at h
  split at h
  · rename_i hw
    split at h
    · split at h
      · split at h
        · cases h
        · split at h
          · split at h
            · split at h
              · injection h with h
                subst h
                exact ⟨rfl, rfl, rfl, rfl, hw.symm⟩
              · cases h
            · cases h
          · cases h
      · split at h
        · injection h with h
          subst h
          exact ⟨rfl, rfl, rfl, rfl, hw.symm⟩
        · cases h
    · split at h
      · injection h with h
        subst h
        exact ⟨rfl, rfl, rfl, rfl, hw.symm⟩
      · cases h
  · rename_i hw
    injection h with h
    subst h
    exact ⟨rfl, rfl, rfl, rfl, by simpa using hw⟩

theorem evDr_log : ∀ (ord : List (Nat × Bool)) (acc : List En) (s s' : St), evDr P rec ops ro ms la bA ord acc s = some s' → ∃ l, LgOk P rec ops ro ms la bA acc l s s' ∧ l.map (fun en => (en.i, en.fl)) = ord
  | [], acc, s, s', h => by
    simp only [evDr, Option.some.injEq] at h
    exact ⟨[], h, rfl⟩
  | (i, fl) :: rest, acc, s, s', h => by
    simp only [evDr] at h
    split at h
    · cases h
    · rename_i o ho
      split at h
      · cases h
      · rename_i en hen
        obtain ⟨h1, h2, h3, h4, h5⟩ := evOne_eq hen
        split at h
        · cases h
        · rename_i hst
          obtain ⟨l, hl, hm⟩ := evDr_log rest (en :: acc) en.next s' h
          refine ⟨en :: l, ⟨h4, by rw [h1, h3]; exact ho, by rw [h1, h2, h3]; exact hen, fun hf => ?_, hl⟩, by rw [List.map_cons, hm, h1, h2]⟩
          rw [h2] at hf
          rw [h1]
          simpa [hf] using hst

theorem LgOk.split : ∀ (pre : List En) {acc : List En} {en : En} {post : List En} {s s' : St}, LgOk P rec ops ro ms la bA acc (pre ++ en :: post) s s' →
    LgOk P rec ops ro ms la bA acc pre s en.s ∧ ops[en.i]? = some en.o ∧ evOne P rec ops ro la bA en.s en.i en.fl en.o = some en ∧ (en.fl = true → readsStay P (ms.getD en.i 0) en.h1 (pre.reverse ++ acc) = true) ∧ LgOk P rec ops ro ms la bA (en :: (pre.reverse ++ acc)) post en.next s'
  | [], acc, en, post, s, s', h => by
    obtain ⟨h1, h2, h3, h4, h5⟩ := h
    subst h1
    exact ⟨rfl, h2, h3, h4, h5⟩
  | x :: pre, acc, en, post, s, s', h => by
    obtain ⟨h1, h2, h3, h4, h5⟩ := h
    obtain ⟨g1, g2, g3, g4, g5⟩ := LgOk.split pre h5
    refine ⟨⟨h1, h2, h3, h4, g1⟩, g2, g3, ?_, ?_⟩
    · rw [List.reverse_cons, List.append_assoc]
      exact g4
    · rw [List.reverse_cons, List.append_assoc]
      exact g5

/-- a read leaves the heap as it is. -/
theorem evOne_read {s : St} {i : Nat} {o : Oper} {en : En} (h : evOne P rec ops ro la bA s i false o = some en) : en.h1 = s.h := by
  unfold evOne at h
  split at h
  · simp only [Bool.false_eq_true, if_false] at h
    split at h
    · injection h with h
      subst h
      rfl
    · cases h
  · injection h with h
    subst h
    rfl

theorem LgOk.head_read {acc : List En} {en : En} {l : List En} {s s' : St} (h : LgOk P rec ops ro ms la bA acc (en :: l) s s') (hf : en.fl = false) : en.h1 = s.h := by
  obtain ⟨_, _, h3, _⟩ := h
  rw [hf] at h3
  exact evOne_read h3

theorem stH_all {L : Nat → Bool} {he : CH} : ∀ (pre : List En) {l : List En}, (∀ e ∈ pre, e.fl = true → L e.i = true) → stH (pre ++ l) L he = stH l L he
  | [], _, _ => rfl
  | e :: pre, l, h => by
    show (if e.fl && !L e.i then e.s.h else stH (pre ++ l) L he) = _
    have h1 : (e.fl && !L e.i) = false := by
      cases hf : e.fl with
      | false => rfl
      | true => simp [h e List.mem_cons_self hf]
    rw [h1]
    simp only [Bool.false_eq_true, if_false]
    exact stH_all pre (fun x hx => h x (List.mem_cons_of_mem _ hx))

theorem stH_next {L : Nat → Bool} : ∀ (l : List En) {acc : List En} {s s' : St}, LgOk P rec ops ro ms la bA acc l s s' → (∀ e ∈ l, e.fl = true → L e.i = false) → stH l L s'.h = s.h
  | [], acc, s, s', h, _ => by
    have h : s = s' := h
    rw [h]
    rfl
  | e :: l, acc, s, s', h, hL => by
    show (if e.fl && !L e.i then e.s.h else stH l L s'.h) = _
    cases hf : e.fl with
    | true =>
      rw [hL e List.mem_cons_self hf]
      simp only [Bool.not_false, Bool.and_self, if_true]
      rw [h.1]
    | false =>
      simp only [Bool.false_and, Bool.false_eq_true, if_false]
      have h1 := h.head_read hf
      rw [stH_next l h.2.2.2.2 (fun x hx => hL x (List.mem_cons_of_mem _ hx))]
      exact h1

theorem stH_congr {L L' : Nat → Bool} {he : CH} : ∀ (l : List En), (∀ e ∈ l, e.fl = true → L e.i = L' e.i) → stH l L he = stH l L' he
  | [], _ => rfl
  | e :: l, h => by
    show (if e.fl && !L e.i then e.s.h else stH l L he) = (if e.fl && !L' e.i then e.s.h else stH l L' he)
    rw [stH_congr l (fun x hx => h x (List.mem_cons_of_mem _ hx))]
    cases hf : e.fl with
    | false => rfl
    | true => rw [h e List.mem_cons_self hf]

/-- where the first that has not come up stands. -/
theorem stH_split {L : Nat → Bool} {he : CH} : ∀ (l : List En), (∃ pre e post, l = pre ++ e :: post ∧ (∀ x ∈ pre, x.fl = true → L x.i = true) ∧ e.fl = true ∧ L e.i = false ∧ stH l L he = e.s.h) ∨ ((∀ x ∈ l, x.fl = true → L x.i = true) ∧ stH l L he = he)
  | [] => .inr ⟨fun x hx => (by cases hx), rfl⟩
  | e :: l => by
    have hu : stH (e :: l) L he = if e.fl && !L e.i then e.s.h else stH l L he := rfl
    cases hb : (e.fl && !L e.i) with
    | true =>
      rw [hb, if_pos rfl] at hu
      simp only [Bool.and_eq_true, Bool.not_eq_true'] at hb
      exact .inl ⟨[], e, l, rfl, fun x hx => (by cases hx), hb.1, hb.2, hu⟩
    | false =>
      rw [hb] at hu
      simp only [Bool.false_eq_true, if_false] at hu
      have he' : e.fl = true → L e.i = true := fun hf => by simpa [hf] using hb
      rcases stH_split (L := L) (he := he) l with ⟨pre, x, post, h1, h2, h3, h4, h5⟩ | ⟨h1, h2⟩
      · refine .inl ⟨e :: pre, x, post, by rw [h1]; rfl, fun y hy hf => ?_, h3, h4, hu.trans h5⟩
        rcases List.mem_cons.1 hy with rfl | hy
        · exact he' hf
        · exact h2 y hy hf
      · refine .inr ⟨fun y hy hf => ?_, hu.trans h2⟩
        rcases List.mem_cons.1 hy with rfl | hy
        · exact he' hf
        · exact h1 y hy hf

/-! ### the slots -/
theorem putT_length (tm : List Value) (d : Option Nat) (v : Value) : (putT tm d v).length = tm.length := by cases d <;> simp [putT]
theorem nth_set : ∀ (tm : List Value) (d : Nat) (v : Value) (s : Nat), nth (tm.set d v) s = if s = d ∧ d < tm.length then v else nth tm s
  | [], d, v, s => by simp [nth]
  | x :: tm, 0, v, 0 => by simp [nth]
  | x :: tm, 0, v, s + 1 => by simp [nth]
  | x :: tm, d + 1, v, 0 => by simp [nth]
  | x :: tm, d + 1, v, s + 1 => by
    rw [List.set_cons_succ]
    simp only [nth]
    rw [nth_set tm d v s]
    simp only [List.length_cons, Nat.add_right_cancel_iff, Nat.add_lt_add_iff_right]
theorem nth_putT_ne {tm : List Value} {d : Option Nat} {v : Value} {s : Nat} (h : d ≠ some s) : nth (putT tm d v) s = nth tm s := by
  cases d with
  | none => rfl
  | some d =>
    unfold putT
    rw [nth_set, if_neg (fun e => h (by rw [e.1]))]
theorem putT_comm {tm : List Value} {d d' : Option Nat} {v v' : Value} (h : ∀ x, d = some x → d' ≠ some x) : putT (putT tm d v) d' v' = putT (putT tm d' v') d v := by
  cases d with
  | none => rfl
  | some x =>
    cases d' with
    | none => rfl
    | some y =>
      unfold putT
      exact List.set_comm _ _ (fun e => h x rfl (by rw [e]))

theorem valL_length {L : Nat → Bool} : ∀ (l : List En) (tm : List Value), (valL l L tm).length = tm.length
  | [], _ => rfl
  | e :: l, tm => by
    unfold valL
    rw [valL_length l]
    split
    · rw [putT_length]
    · rfl
theorem valL_app {L : Nat → Bool} : ∀ (pre l : List En) (tm : List Value), valL (pre ++ l) L tm = valL l L (valL pre L tm)
  | [], _, _ => rfl
  | _ :: pre, l, _ => valL_app pre l _
theorem valL_congr {L L' : Nat → Bool} : ∀ (l : List En) (tm : List Value), (∀ e ∈ l, L e.i = L' e.i) → valL l L tm = valL l L' tm
  | [], _, _ => rfl
  | e :: l, tm, h => by
    unfold valL
    rw [h e List.mem_cons_self, valL_congr l _ (fun x hx => h x (List.mem_cons_of_mem _ hx))]
theorem valL_put {L : Nat → Bool} : ∀ (l : List En) (tm : List Value) (d : Option Nat) (v : Value), (∀ e ∈ l, ∀ x, d = some x → e.o.dst ≠ some x) → valL l L (putT tm d v) = putT (valL l L tm) d v
  | [], _, _, _, _ => rfl
  | e :: l, tm, d, v, h => by
    unfold valL
    rw [← valL_put l _ d v (fun x hx => h x (List.mem_cons_of_mem _ hx))]
    split
    · rw [putT_comm (h e List.mem_cons_self)]
    · rfl
theorem nthA {L : Nat → Bool} {s : Nat} : ∀ (l : List En) (tm : List Value), (∀ e ∈ l, e.o.dst = some s → L e.i = false) → nth (valL l L tm) s = nth tm s
  | [], _, _ => rfl
  | e :: l, tm, h => by
    unfold valL
    rw [nthA l _ (fun x hx => h x (List.mem_cons_of_mem _ hx))]
    split
    · rename_i hL
      refine nth_putT_ne (fun hd => ?_)
      rw [h e List.mem_cons_self hd] at hL
      cases hL
    · rfl
theorem nthB {L L' : Nat → Bool} {s : Nat} : ∀ (l : List En) (tm tm' : List Value), tm.length = tm'.length → nth tm s = nth tm' s → (∀ e ∈ l, e.o.dst = some s → L e.i = true ∧ L' e.i = true) → nth (valL l L tm) s = nth (valL l L' tm') s
  | [], _, _, _, h, _ => h
  | e :: l, tm, tm', hl, hn, h => by
    unfold valL
    refine nthB l _ _ ?_ ?_ (fun x hx => h x (List.mem_cons_of_mem _ hx))
    · split <;> split <;> simp only [putT_length, hl]
    · by_cases hd : e.o.dst = some s
      · obtain ⟨h1, h2⟩ := h e List.mem_cons_self hd
        rw [if_pos h1, if_pos h2, hd]
        unfold putT
        rw [nth_set, nth_set, hl, hn]
      · have e1 : ∀ b : Bool, ∀ t : List Value, nth (if b then putT t e.o.dst e.v else t) s = nth t s := fun b t => by
          cases b with
          | false => rfl
          | true => exact nth_putT_ne hd
        rw [e1, e1, hn]

/-- the slots ahead of an operation are those of all that came ahead of it. -/
theorem LgOk.tm : ∀ (l : List En) {acc : List En} {s s' : St}, LgOk P rec ops ro ms la bA acc l s s' → s'.tm = valL l (fun _ => true) s.tm ∧ s'.ds = s.ds
  | [], _, s, s', h => by
    have h : s = s' := h
    rw [h]
    exact ⟨rfl, rfl⟩
  | e :: l, acc, s, s', h => by
    obtain ⟨h1, h2⟩ := LgOk.tm l h.2.2.2.2
    have h0 := h.1
    unfold valL
    rw [h1, h2]
    subst h0
    exact ⟨rfl, rfl⟩
end

end

end Go.Proofs.YtgjdgincebchhaaGreatDoor.Ev
namespace Go.Proofs.YtgjdgincebchhaaGreatDoor.Ev
open Go Go.RowKit

section
variable {P : Program} {rec : Req → Option Res} {ops : Array Oper} {ro : Option Nat} {ms : List Nat} {la : Option Nat} {bA : Nat}

structure Sp (ops : Array Oper) (ms : List Nat) (la : Option Nat) (pre : List En) (en : En) : Prop where
  new : ∀ e ∈ pre, e.i ≠ en.i
  anc : ∀ j, (ms.getD en.i 0).testBit j = true → ∃ e ∈ pre, e.i = j
  eff : la ≠ some en.i → ∀ e ∈ pre, e.fl = true → (ms.getD en.i 0).testBit e.i = true
  pair : ∀ e ∈ pre, pairOk ops ms e.i en.i = true
  calm : calm en.o = true
  late : la = some en.i → en.o.guard = none ∧ en.fl = true

theorem sub_bit {m d j : Nat} (h : m &&& d = m) (hj : m.testBit j = true) : d.testBit j = true := by
  have h1 := congrArg (fun x => x.testBit j) h
  simp only [Nat.testBit_and, hj, Bool.true_and] at h1
  exact h1
theorem sup_bit {m d j : Nat} (h : m &&& d = d) (hj : d.testBit j = true) : m.testBit j = true := by
  have h1 := congrArg (fun x => x.testBit j) h
  simp only [Nat.testBit_and, hj, Bool.and_true] at h1
  exact h1
theorem or_bit (d i j : Nat) : (d ||| 1 <<< i).testBit j = (d.testBit j || decide (i = j)) := by
  rw [Nat.testBit_or, Nat.one_shiftLeft, Nat.testBit_two_pow]

theorem okOrd_sp : ∀ (l : List En) (dn ef : Nat) (acc : List Nat) (pr : List En), okOrd ops ms la (l.map (fun en => (en.i, en.fl))) dn ef acc = true → (∀ e ∈ pr, e.i ∈ acc) → (∀ j, dn.testBit j = true ↔ ∃ e ∈ pr, e.i = j) →
    (∀ e ∈ pr, e.fl = true → ef.testBit e.i = true) → (∀ en ∈ l, ops[en.i]? = some en.o) →
    (∀ pre en post, l = pre ++ en :: post → Sp ops ms la (pr ++ pre) en) ∧ (∀ j, j < ops.size → ∃ e ∈ pr ++ l, e.i = j)
  | [], dn, ef, acc, pr, h, _, hdn, _, _ => by
    refine ⟨fun pre en post he => by simp at he, fun j hj => ?_⟩
    simp only [List.map_nil, okOrd, decide_eq_true_eq] at h
    rw [List.append_nil]
    refine (hdn j).1 ?_
    rw [h, Nat.testBit_two_pow_sub_one]
    simpa using hj
  | x :: l, dn, ef, acc, pr, h, hacc, hdn, hef, hops => by
    simp only [List.map_cons, okOrd, Bool.and_eq_true, decide_eq_true_eq, Bool.not_eq_true'] at h
    obtain ⟨⟨⟨⟨⟨h1, h2⟩, h3⟩, h4⟩, h5⟩, h6⟩ := h
    rw [hops x List.mem_cons_self] at h5
    simp only [Bool.and_eq_true, Bool.or_eq_true, Bool.not_eq_true', Option.isNone_iff_eq_none] at h5
    obtain ⟨h5, h7⟩ := h5
    have hx : Sp ops ms la pr x := by
      refine ⟨fun e he heq => ?_, fun j hj => (hdn j).1 (sub_bit h1 hj), fun hla e he hf => ?_, fun e he => ?_, h5, fun hla => ?_⟩
      · have := (hdn x.i).2 ⟨e, he, heq⟩
        rw [this] at h2
        cases h2
      · have h3' : decide (ms.getD x.i 0 &&& ef = ef) = true := by
          rcases Bool.or_eq_true_iff.1 h3 with h | h
          · simp only [Bool.and_eq_true, beq_iff_eq] at h
            exact absurd h.2 hla
          · exact h
        simp only [decide_eq_true_eq] at h3'
        exact sup_bit h3' (hef e he hf)
      · exact List.all_eq_true.1 h4 _ (hacc e he)
      · rcases h7 with h | h
        · rw [hla] at h
          simp at h
        · exact h
    obtain ⟨i1, i2⟩ := okOrd_sp l (dn ||| 1 <<< x.i) (if x.fl then ef ||| 1 <<< x.i else ef) (x.i :: acc) (pr ++ [x]) h6 (fun e he => by
        rcases List.mem_append.1 he with h | h
        · exact List.mem_cons_of_mem _ (hacc e h)
        · simp only [List.mem_singleton] at h
          rw [h]
          exact List.mem_cons_self) (fun j => by
        rw [or_bit, Bool.or_eq_true, hdn j, decide_eq_true_eq]
        constructor
        · rintro (⟨e, he, hj⟩ | hj)
          · exact ⟨e, List.mem_append_left _ he, hj⟩
          · exact ⟨x, by simp, hj⟩
        · rintro ⟨e, he, hj⟩
          rcases List.mem_append.1 he with h | h
          · exact .inl ⟨e, h, hj⟩
          · simp only [List.mem_singleton] at h
            exact .inr (h ▸ hj)) (fun e he hf => by
        rcases List.mem_append.1 he with h | h
        · have := hef e h hf
          split
          · rw [or_bit, this, Bool.true_or]
          · exact this
        · simp only [List.mem_singleton] at h
          subst h
          rw [if_pos hf, or_bit]
          simp) (fun en hen => hops en (List.mem_cons_of_mem _ hen))
    refine ⟨fun pre en post he => ?_, fun j hj => ?_⟩
    · cases pre with
      | nil =>
        simp only [List.nil_append, List.cons.injEq] at he
        obtain ⟨rfl, _⟩ := he
        rw [List.append_nil]
        exact hx
      | cons y pre =>
        simp only [List.cons_append, List.cons.injEq] at he
        obtain ⟨rfl, he⟩ := he
        have := i1 pre en post he
        rw [List.append_assoc] at this
        exact this
    · have := i2 j hj
      rw [List.append_assoc] at this
      exact this

theorem afterM_edge {acc : List Nat} : ∀ {es : List Edge} {e : Edge}, e ∈ es → Region.binds .any e = true → (afterM acc es).testBit e.on = true
  | x :: es, e, he, hb => by
    unfold afterM
    rcases List.mem_cons.1 he with rfl | he
    · rw [if_pos hb]
      simp only [Nat.testBit_or, Bool.or_eq_true]
      left
      right
      rw [Nat.one_shiftLeft, Nat.testBit_two_pow]
      simp
    · have := afterM_edge (acc := acc) he hb
      split
      · simp only [Nat.testBit_or, this, Bool.true_or]
      · exact this

theorem ancs_get : ∀ (l : List Oper) (acc : List Nat) (k : Nat) (o : Oper), l[k]? = some o → ∃ acc', (ancs l acc)[acc.length + k]? = some (afterM acc' o.after.toList)
  | [], acc, k, o, h => by simp at h
  | x :: l, acc, 0, o, h => by
    simp only [List.getElem?_cons_zero, Option.some.injEq] at h
    subst h
    have keep : ∀ (l : List Oper) (acc : List Nat) (j m : Nat), acc[j]? = some m → (ancs l acc)[j]? = some m := by
      intro l
      induction l with
      | nil => intro acc j m h; exact h
      | cons y l ih =>
        intro acc j m h
        unfold ancs
        refine ih _ _ _ ?_
        rw [List.getElem?_append_left (List.getElem?_eq_some_iff.1 h).1]
        exact h
    refine ⟨acc, ?_⟩
    unfold ancs
    refine keep _ _ _ _ ?_
    rw [List.getElem?_append_right (by omega)]
    simp
  | x :: l, acc, k + 1, o, h => by
    simp only [List.getElem?_cons_succ] at h
    obtain ⟨acc', ha⟩ := ancs_get l (acc ++ [afterM acc x.after.toList]) k o h
    refine ⟨acc', ?_⟩
    unfold ancs
    rw [← ha]
    congr 1
    simp
    omega

theorem ancs_edge {i : Nat} {o : Oper} (ho : ops[i]? = some o) {e : Edge} (he : e ∈ o.after.toList) (hb : Region.binds .any e = true) : ((ancs ops.toList []).getD i 0).testBit e.on = true := by
  obtain ⟨acc, h⟩ := ancs_get ops.toList [] i o (by rw [Array.getElem?_toList]; exact ho)
  rw [List.length_nil, Nat.zero_add] at h
  rw [List.getD_eq_getElem?_getD, h]
  exact afterM_edge he hb
end

end Go.Proofs.YtgjdgincebchhaaGreatDoor.Ev
namespace Go.Proofs.YtgjdgincebchhaaGreatDoor.Ev
open Go Go.RowKit
noncomputable section

section
variable {P : Program} {rec : Req → Option Res} {ops : Array Oper} {ro : Option Nat} {ms : List Nat} {la : Option Nat} {bA : Nat}

/-- the block that is made at a time that is not known: it has come up, and one ahead of it in the reckoning has not. -/
def Lt (P : Program) (la : Option Nat) (bA z : Nat) (L : Nat → Bool) (l : List En) (q : Ph) (h : CH) (w : World) : Prop :=
  ∀ c x s, l = c ++ x :: s → la = some x.i → L x.i = true → (∃ y ∈ c, y.fl = true ∧ L y.i = false) → ∃ oA, x.h1 = x.s.h.set bA (some oA) ∧ Pend P z bA oA q h w

theorem app_split {α : Type} {p1 r p2 s2 : List α} {x : α} (h : p1 ++ r = p2 ++ x :: s2) : (∃ s, p1 = p2 ++ x :: s) ∨ (∃ c, p2 = p1 ++ c ∧ r = c ++ x :: s2) := by
  rcases List.append_eq_append_iff.1 h with ⟨c, h1, h2⟩ | ⟨c, h1, h2⟩
  · exact .inr ⟨c, h1, h2⟩
  · cases c with
    | nil => exact .inr ⟨[], by simpa using h1.symm, by simpa using h2.symm⟩
    | cons y c =>
      simp only [List.cons_append, List.cons.injEq] at h2
      obtain ⟨rfl, h2⟩ := h2
      exact .inl ⟨c, h1⟩

theorem Lt.app {z : Nat} {L : Nat → Bool} {p1 r : List En} {q : Ph} {h : CH} {w : World} (hl : ∀ y ∈ p1, y.fl = true → L y.i = true) (ht : Lt P la bA z L r q h w) : Lt P la bA z L (p1 ++ r) q h w := by
  intro c x s he hla hx hy
  obtain ⟨y, hyc, hyf, hyL⟩ := hy
  rcases app_split he with ⟨s', h1⟩ | ⟨c', h1, h2⟩
  · rw [h1] at hl
    rw [hl y (List.mem_append_left _ hyc) hyf] at hyL
    cases hyL
  · rw [h1] at hyc
    rcases List.mem_append.1 hyc with hy1 | hy1
    · rw [hl y hy1 hyf] at hyL
      cases hyL
    · exact ht c' x s h2 hla hx ⟨y, hy1, hyf, hyL⟩

theorem advance {w0 : World} {p0 : Ph} {h0 : CH} {L : Nat → Bool} {q : Ph} {w : World} : ∀ (l : List En) {acc : List En} {s s' : St}, LgOk P rec ops ro ms la bA acc l s s' → (∀ c x r, l = c ++ x :: r → ∀ y ∈ c, y.i ≠ x.i) →
    (∀ e ∈ l, e.fl = true → la ≠ some e.i → L e.i = false) → RH P q s.h w → Stp p0 h0 w0 q s.h w → (la.isSome = true → bA < s.h.n) →
    (∀ e ∈ l, la = some e.i → L e.i = true → ∃ oA, e.h1 = e.s.h.set bA (some oA) ∧ Pend P w0.heap.size bA oA q s.h w) →
    RH P q (stH l L s'.h) w ∧ Stp p0 h0 w0 q (stH l L s'.h) w ∧ (la.isSome = true → bA < (stH l L s'.h).n) ∧ Lt P la bA w0.heap.size L l q (stH l L s'.h) w
  | [], acc, s, s', hl, _, _, hr, hs, hb, _ => by
    have hl : s = s' := hl
    subst hl
    exact ⟨hr, hs, hb, fun c x r he => by simp at he⟩
  | e :: l, acc, s, s', hl, hnew, hL, hr, hs, hb, hp => by
    have hu : stH (e :: l) L s'.h = if e.fl && !L e.i then e.s.h else stH l L s'.h := rfl
    have hnew' : ∀ c x r, l = c ++ x :: r → ∀ y ∈ c, y.i ≠ x.i := fun c x r he y hy => hnew (e :: c) x r (by rw [he]; rfl) y (List.mem_cons_of_mem _ hy)
    have hne : ∀ x ∈ l, e.i ≠ x.i := fun x hx => by
      obtain ⟨c, r, he⟩ := List.append_of_mem hx
      exact hnew (e :: c) x r (by rw [he]; rfl) e List.mem_cons_self
    have hes := hl.1
    cases hf : e.fl with
    | false =>
      rw [hf] at hu
      simp only [Bool.false_and, Bool.false_eq_true, if_false] at hu
      have h1 : e.next.h = s.h := hl.head_read hf
      obtain ⟨i1, i2, i3, i4⟩ := advance (w0 := w0) (p0 := p0) (h0 := h0) (L := L) (q := q) (w := w) l hl.2.2.2.2 hnew' (fun x hx => hL x (List.mem_cons_of_mem _ hx)) (by rw [h1]; exact hr) (by rw [h1]; exact hs) (by rw [h1]; exact hb)
        (fun x hx => by rw [h1]; exact hp x (List.mem_cons_of_mem _ hx))
      rw [hu]
      refine ⟨i1, i2, i3, fun c x r he hla hx hy => ?_⟩
      cases c with
      | nil =>
        obtain ⟨y, hy, _⟩ := hy
        cases hy
      | cons e' c =>
        simp only [List.cons_append, List.cons.injEq] at he
        obtain ⟨rfl, he⟩ := he
        obtain ⟨y, hyc, hyf, hyL⟩ := hy
        rcases List.mem_cons.1 hyc with rfl | hyc
        · rw [hf] at hyf; cases hyf
        · exact i4 c x r he hla hx ⟨y, hyc, hyf, hyL⟩
    | true =>
      cases hLe : L e.i with
      | false =>
        rw [hf, hLe] at hu
        simp only [Bool.not_false, Bool.and_self, if_true] at hu
        rw [hu, hes]
        refine ⟨hr, hs, hb, fun c x r he hla hx _ => ?_⟩
        have hmem : x ∈ e :: l := by rw [he]; exact List.mem_append_right _ List.mem_cons_self
        exact hp x hmem hla hx
      | true =>
        rw [hf, hLe] at hu
        simp only [Bool.not_true, Bool.and_false, Bool.false_eq_true, if_false] at hu
        have hla : la = some e.i := by
          rcases Decidable.em (la = some e.i) with h | h
          · exact h
          · rw [hL e List.mem_cons_self hf h] at hLe
            cases hLe
        obtain ⟨oA, h1, h2⟩ := hp e List.mem_cons_self hla hLe
        obtain ⟨r1, r2⟩ := h2.adopt hr (hb (by rw [hla]; rfl)) hs
        have hn : stH l L s'.h = e.h1 := stH_next l hl.2.2.2.2 (fun x hx hxf => hL x (List.mem_cons_of_mem _ hx) hxf (fun h => by rw [hla] at h; injection h with h; exact hne x hx h))
        rw [hu, hn, h1, hes]
        refine ⟨r1, r2, fun h => hb h, fun c x r he hla' hx hy => ?_⟩
        cases c with
        | nil =>
          obtain ⟨y, hy, _⟩ := hy
          cases hy
        | cons e' c =>
          simp only [List.cons_append, List.cons.injEq] at he
          obtain ⟨rfl, he⟩ := he
          rw [hla] at hla'
          injection hla' with hla'
          exact absurd hla' (hne x (by rw [he]; exact List.mem_append_right _ List.mem_cons_self))

/-- what was read reads the same wherever it may come up. -/
theorem read_stage {L : Nat → Bool} {en : En} (hwn : en.wn = true) (hfl : en.fl = false) (hanc : ∀ e : En, (ms.getD e.i 0).testBit en.i = true → L e.i = true → False) : ∀ (l : List En) {acc : List En} {s s' : St}, LgOk P rec ops ro ms la bA acc l s s' → en ∈ acc →
    evRead P en.ρ0 s.h en.o = some en.v → evRead P en.ρ0 (stH l L s'.h) en.o = some en.v
  | [], acc, s, s', hl, _, h => by
    have hl : s = s' := hl
    subst hl
    exact h
  | e :: l, acc, s, s', hl, hin, h => by
    have hu : stH (e :: l) L s'.h = if e.fl && !L e.i then e.s.h else stH l L s'.h := rfl
    have hes := hl.1
    cases hf : e.fl with
    | false =>
      rw [hf] at hu
      simp only [Bool.false_and, Bool.false_eq_true, if_false] at hu
      rw [hu]
      have h1 : e.next.h = s.h := hl.head_read hf
      exact read_stage hwn hfl hanc l hl.2.2.2.2 (List.mem_cons_of_mem _ hin) (by rw [h1]; exact h)
    | true =>
      cases hLe : L e.i with
      | false =>
        rw [hf, hLe] at hu
        simp only [Bool.not_false, Bool.and_self, if_true] at hu
        rw [hu, hes]
        exact h
      | true =>
        rw [hf, hLe] at hu
        simp only [Bool.not_true, Bool.and_false, Bool.false_eq_true, if_false] at hu
        rw [hu]
        refine read_stage hwn hfl hanc l hl.2.2.2.2 (List.mem_cons_of_mem _ hin) ?_
        have h2 := List.all_eq_true.1 (hl.2.2.2.1 hf) en hin
        rw [hfl, hwn] at h2
        simp only [Bool.not_true, Bool.or_self, Bool.false_or, Bool.or_eq_true] at h2
        rcases h2 with h2 | h2
        · exact (hanc e h2 hLe).elim
        · split at h2
          · rename_i v hv
            rw [eqV_eq h2]
            exact hv
          · cases h2

/-! ### what an operation looks at -/
theorem evM_rel {p : Ph} {tm : List Value} {o : Oper} {a : Act} (hG : Glob p) (h : ∀ t ∈ opT o, RV p (nth tm t) (a.eval (.tmp t))) : ∃ ρ : Operand → Value, (∀ x, okX x = true → RV p (evM tm (opT o) x) (ρ x)) ∧ ∀ x ∈ o.op.operands, a.eval x = ρ x := by
  refine ⟨fun x => match x with | .tmp t => if (opT o).contains t then a.eval (.tmp t) else undef | x => a.eval x, fun x hx => ?_, fun x hx => ?_⟩
  · cases x with
    | tmp t =>
      show RV p (if (opT o).contains t then nth tm t else undef) (if (opT o).contains t then a.eval (.tmp t) else undef)
      split
      · rename_i hc
        exact h t (by simpa using hc)
      · exact RV.undef
    | const v => exact RV.of_pure hx
    | global g =>
      simp only [okX, decide_eq_true_eq] at hx
      show RV p (if g < NG then _ else _) (.pointer (some ⟨g, 0, none⟩))
      rw [if_pos hx]
      exact .ptr (.mk (hG g hx) 0)
    | func f => exact .func f .nil .nil
  · cases x with
    | tmp t =>
      have : (opT o).contains t = true := by
        rw [List.contains_iff_mem]
        exact List.mem_filterMap.2 ⟨.tmp t, by simpa using hx, rfl⟩
      show a.eval (.tmp t) = if (opT o).contains t then a.eval (.tmp t) else undef
      rw [if_pos this]
    | _ => rfl

theorem wantedC_congr {tm tm' : List Value} {o : Oper} (h : ∀ s ∈ gdT ops o, nth tm s = nth tm' s) : wantedC ops tm o = wantedC ops tm' o := by
  unfold wantedC
  cases hg : o.guard with
  | none => rfl
  | some g =>
    obtain ⟨j, want⟩ := g
    simp only
    cases hd : (ops[j]?).bind (·.dst) with
    | none => rfl
    | some d =>
      simp only
      rw [h d (by unfold gdT; rw [hg]; simp [hd])]

end

end

end Go.Proofs.YtgjdgincebchhaaGreatDoor.Ev
namespace Go.Proofs.YtgjdgincebchhaaGreatDoor.Ev
open Go Go.RowKit
noncomputable section

structure Cx (P : Program) (rec : Req → Option Res) (ops : Array Oper) (ro : Option Nat) (ms : List Nat) (la : Option Nat) (bA : Nat) (log : List En) (s0 s' : St) : Prop where
  lg : LgOk P rec ops ro ms la bA [] log s0 s'
  sp : ∀ pre en post, log = pre ++ en :: post → Sp ops ms la pre en
  all : ∀ j, j < ops.size → ∃ e ∈ log, e.i = j
  anc : ms = ancs ops.toList []

structure Hp (P : Program) (la : Option Nat) (bA : Nat) (log : List En) (he : CH) (p0 : Ph) (h0 : CH) (w0 : World) (L : Nat → Bool) (q : Ph) (w : World) : Prop where
  stp : Stp p0 h0 w0 q (stH log L he) w
  rh : RH P q (stH log L he) w
  bnd : la.isSome = true → bA < (stH log L he).n
  old : ∀ A, la = some A → L A = false → q bA = none
  lt : Lt P la bA w0.heap.size L log q (stH log L he) w

structure Inv (P : Program) (la : Option Nat) (bA : Nat) (log : List En) (he : CH) (s0 : St) (p0 : Ph) (h0 : CH) (w0 : World) (L : Nat → Bool) (q : Ph) (a : Act) (w : World) : Prop where
  hp : Hp P la bA log he p0 h0 w0 L q w
  tm : RVl q (valL log L s0.tm) a.tmps.toList
  ds : RDs q s0.ds a.defers

def add (L : Nat → Bool) (i : Nat) : Nat → Bool := fun j => if j = i then true else L j

theorem add_self (L : Nat → Bool) (i : Nat) : add L i i = true := if_pos rfl
theorem add_ne {L : Nat → Bool} {i j : Nat} (h : j ≠ i) : add L i j = L j := if_neg h
theorem add_le {L : Nat → Bool} {i j : Nat} (h : L j = true) : add L i j = true := by
  unfold add
  split
  · rfl
  · exact h
theorem add_false {L : Nat → Bool} {i j : Nat} (h : add L i j = false) : L j = false ∧ j ≠ i := by
  unfold add at h
  split at h
  · cases h
  · exact ⟨h, by assumption⟩

section
variable {P : Program} {rec : Req → Option Res} {ops : Array Oper} {ro : Option Nat} {ms : List Nat} {la : Option Nat} {bA : Nat} {log : List En} {s0 s' : St} {p0 : Ph} {h0 : CH} {w0 : World} {L : Nat → Bool} {q : Ph} {a : Act} {w : World}

theorem pair_spec {r i : Nat} {x y : Oper} (hx : ops[r]? = some x) (hy : ops[i]? = some y) (h : pairOk ops ms r i = true) :
    (∀ d, x.dst = some d → y.dst ≠ some d ∧ (d ∈ opT y ++ gdT ops y → (ms.getD i 0).testBit r = true)) ∧ (∀ d, y.dst = some d → d ∈ opT x ++ gdT ops x → (ms.getD i 0).testBit r = true) := by
  unfold pairOk at h
  rw [hx, hy] at h
  simp only [Bool.and_eq_true] at h
  refine ⟨fun d hd => ?_, fun d hd hm => ?_⟩
  · have h1 := h.1
    rw [hd] at h1
    simp only [Bool.and_eq_true, Bool.or_eq_true, Bool.not_eq_true', beq_eq_false_iff_ne] at h1
    refine ⟨h1.1, fun hm => ?_⟩
    rcases h1.2 with h2 | h2
    · rw [List.contains_iff_mem.2 hm] at h2
      cases h2
    · exact h2
  · have h1 := h.2
    rw [hd] at h1
    simp only [Bool.or_eq_true, Bool.not_eq_true'] at h1
    rcases h1 with h2 | h2
    · rw [List.contains_iff_mem.2 hm] at h2
      cases h2
    · exact h2

theorem Cx.opAt (C : Cx P rec ops ro ms la bA log s0 s') {e : En} (he : e ∈ log) : ops[e.i]? = some e.o := by
  obtain ⟨c, r, h⟩ := List.append_of_mem he
  have := C.lg
  rw [h] at this
  exact this.split.2.1

theorem Cx.inj (C : Cx P rec ops ro ms la bA log s0 s') {x y : En} (hx : x ∈ log) (hy : y ∈ log) (h : x.i = y.i) : x = y := by
  obtain ⟨c, r, hc⟩ := List.append_of_mem hx
  rw [hc] at hy
  rcases List.mem_append.1 hy with h1 | h1
  · exact absurd h.symm ((C.sp c x r hc).new y h1)
  · rcases List.mem_cons.1 h1 with h1 | h1
    · exact h1.symm
    · obtain ⟨c2, r2, hc2⟩ := List.append_of_mem h1
      refine absurd h ((C.sp (c ++ x :: c2) y r2 (by rw [hc, hc2]; simp)).new x ?_)
      simp

theorem Cx.bit (C : Cx P rec ops ro ms la bA log s0 s') (hd : Down ops L) {i j : Nat} (hi : L i = true) (hj : (ms.getD i 0).testBit j = true) : L j = true := by
  rw [C.anc] at hj
  cases ho : ops[i]? with
  | some o => exact ancs_bit ho hd (hd i o ho hi) hj
  | none =>
    rw [List.getD_eq_getElem?_getD] at hj
    cases hm : (ancs ops.toList [])[i]? with
    | none => rw [hm] at hj; simp at hj
    | some m =>
      obtain ⟨o, ho2, _⟩ := ancs_ok (ops := ops) ops.toList [] rfl (fun k m h => by simp at h) i m hm
      rw [ho] at ho2
      cases ho2

theorem Cx.later (C : Cx P rec ops ro ms la bA log s0 s') {pre post : List En} {en : En} (hs : log = pre ++ en :: post) {e : En} (he : e ∈ post) : ∃ c r, post = c ++ e :: r ∧ Sp ops ms la (pre ++ en :: c) e := by
  obtain ⟨c, r, hc⟩ := List.append_of_mem he
  exact ⟨c, r, hc, C.sp _ _ r (by rw [hs, hc]; simp)⟩

theorem Cx.slots (C : Cx P rec ops ro ms la bA log s0 s') (hd : Down ops L) {pre post : List En} {en : En} (hs : log = pre ++ en :: post) (hL : L en.i = false) (hA : ∀ j, (ms.getD en.i 0).testBit j = true → L j = true) :
    ∀ s ∈ opT en.o ++ gdT ops en.o, nth (valL log L s0.tm) s = nth en.s.tm s := by
  intro s hsm
  have hsp := C.sp pre en post hs
  have hl := C.lg
  rw [hs] at hl
  have htm := (LgOk.tm pre hl.split.1).1
  rw [htm, hs, valL_app]
  have hen : en ∈ log := by rw [hs]; simp
  have e1 : valL (en :: post) L (valL pre L s0.tm) = valL post L (valL pre L s0.tm) := by
    show valL post L (if L en.i then _ else _) = _
    rw [hL]
    rfl
  rw [e1, nthA]
  · refine nthB pre _ _ rfl rfl (fun e he hds => ⟨?_, rfl⟩)
    have hel : e ∈ log := by rw [hs]; exact List.mem_append_left _ he
    exact hA _ (((pair_spec (C.opAt hel) (C.opAt hen) (hsp.pair e he)).1 s hds).2 hsm)
  · intro e he hds
    obtain ⟨c, r, hc, hse⟩ := C.later hs he
    have hel : e ∈ log := by rw [hs]; exact List.mem_append_right _ (List.mem_cons_of_mem _ he)
    have hbit := (pair_spec (C.opAt hen) (C.opAt hel) (hse.pair en (by simp))).2 s hds hsm
    cases hLe : L e.i with
    | false => rfl
    | true =>
      rw [C.bit hd hLe hbit] at hL
      cases hL

theorem Cx.val_add (C : Cx P rec ops ro ms la bA log s0 s') {pre post : List En} {en : En} (hs : log = pre ++ en :: post) (hL : L en.i = false) (tm : List Value) : valL log (add L en.i) tm = putT (valL log L tm) en.o.dst en.v := by
  have hen : en ∈ log := by rw [hs]; simp
  have h1 : valL pre (add L en.i) tm = valL pre L tm := valL_congr pre tm (fun e he => add_ne ((C.sp pre en post hs).new e he))
  have h2 : ∀ t, valL post (add L en.i) t = valL post L t := fun t => valL_congr post t (fun e he => by
    obtain ⟨c, r, hc, hse⟩ := C.later hs he
    exact add_ne (fun h => hse.new en (by simp) h.symm))
  rw [hs, valL_app, valL_app, h1]
  show valL post (add L en.i) (if add L en.i en.i then _ else _) = putT (valL post L (if L en.i then _ else _)) en.o.dst en.v
  rw [add_self, hL, h2]
  simp only [if_true, Bool.false_eq_true, if_false]
  refine valL_put post _ _ _ (fun e he x hx => ?_)
  obtain ⟨c, r, hc, hse⟩ := C.later hs he
  have hel : e ∈ log := by rw [hs]; exact List.mem_append_right _ (List.mem_cons_of_mem _ he)
  exact ((pair_spec (C.opAt hen) (C.opAt hel) (hse.pair en (by simp))).1 x hx).1

/-- a read has come up. -/
theorem Hp.read (C : Cx P rec ops ro ms la bA log s0 s') {pre post : List En} {en : En} (hs : log = pre ++ en :: post) (hf : en.fl = false) (I : Hp P la bA log s'.h p0 h0 w0 L q w) {q1 : Ph} {w1 : World}
    (t : Stp q (stH log L s'.h) w q1 (stH log L s'.h) w1) (r : RH P q1 (stH log L s'.h) w1) : Hp P la bA log s'.h p0 h0 w0 (add L en.i) q1 w1 := by
  have hen : en ∈ log := by rw [hs]; simp
  have hne : ∀ e ∈ log, e.fl = true → e.i ≠ en.i := fun e he hef h => by
    rw [C.inj he hen h, hf] at hef
    cases hef
  have hst : stH log (add L en.i) s'.h = stH log L s'.h := stH_congr log (fun e he hef => add_ne (hne e he hef))
  refine ⟨by rw [hst]; exact I.stp.trans t, by rw [hst]; exact r, by rw [hst]; exact I.bnd, fun A hA hLA => ?_, ?_⟩
  · exact t.old bA (I.bnd (by rw [hA]; rfl)) (I.old A hA (add_false hLA).1)
  · rw [hst]
    intro c x s he hla hx hy
    obtain ⟨y, hyc, hyf, hyL⟩ := hy
    have hxl : x ∈ log := by rw [he]; simp
    have hxf := ((C.sp c x s he).late hla).2
    rw [add_ne (hne x hxl hxf)] at hx
    obtain ⟨oA, h1, h2⟩ := I.lt c x s he hla hx ⟨y, hyc, hyf, (add_false hyL).1⟩
    exact ⟨oA, h1, h2.stp t⟩

/-- the heap ahead of an operation that turns it and whose time has come. -/
theorem Cx.stage (C : Cx P rec ops ro ms la bA log s0 s') {pre post : List En} {en : En} (hs : log = pre ++ en :: post) (hf : en.fl = true) (hla : la ≠ some en.i) (hL : L en.i = false) (hA : ∀ j, (ms.getD en.i 0).testBit j = true → L j = true) :
    (∀ e ∈ pre, e.fl = true → L e.i = true) ∧ stH log L s'.h = en.s.h := by
  have hp : ∀ e ∈ pre, e.fl = true → L e.i = true := fun e he hef => hA _ ((C.sp pre en post hs).eff hla e he hef)
  refine ⟨hp, ?_⟩
  rw [hs, stH_all pre hp]
  show (if en.fl && !L en.i then en.s.h else _) = _
  rw [hf, hL]
  rfl

/-- an operation that turns the heap has come up. -/
theorem Hp.eff (C : Cx P rec ops ro ms la bA log s0 s') (hd : Down ops L) {pre post : List En} {en : En} (hs : log = pre ++ en :: post) (hf : en.fl = true) (hla : la ≠ some en.i) (hL : L en.i = false) (hA : ∀ j, (ms.getD en.i 0).testBit j = true → L j = true)
    (I : Hp P la bA log s'.h p0 h0 w0 L q w) {q1 : Ph} {w1 : World} (t : Stp q en.s.h w q1 en.h1 w1) (r : RH P q1 en.h1 w1) : Hp P la bA log s'.h p0 h0 w0 (add L en.i) q1 w1 := by
  obtain ⟨hpre, hst⟩ := C.stage hs hf hla hL hA
  have hlg := C.lg
  rw [hs] at hlg
  obtain ⟨_, _, _, _, hpost⟩ := hlg.split
  have hne : ∀ e ∈ post, e.i ≠ en.i := fun e he h => by
    obtain ⟨c, r, hc, hse⟩ := C.later hs he
    exact hse.new en (by simp) h.symm
  obtain ⟨i1, i2, i3, i4⟩ := advance (w0 := w0) (p0 := p0) (h0 := h0) (L := add L en.i) (q := q1) (w := w1) post hpost (fun c x r hc y hy => by
      exact (C.sp (pre ++ en :: c) x r (by rw [hs, hc]; simp)).new y (by simp [hy])) (fun e he hef hle => by
      rw [add_ne (hne e he)]
      obtain ⟨c, r, hc, hse⟩ := C.later hs he
      have hbit := hse.eff hle en (by simp) hf
      cases hLe : L e.i with
      | false => rfl
      | true =>
        rw [C.bit hd hLe hbit] at hL
        cases hL) r (by have := I.stp; rw [hst] at this; exact this.trans t) (fun h => by
      have h1 := I.bnd h
      rw [hst] at h1
      exact Nat.lt_of_lt_of_le h1 t.n) (fun e he hle hLe => by
      rw [add_ne (hne e he)] at hLe
      obtain ⟨c, r, hc, hse⟩ := C.later hs he
      obtain ⟨oA, h1, h2⟩ := I.lt (pre ++ en :: c) e r (by rw [hs, hc]; simp) hle hLe ⟨en, by simp, hf, hL⟩
      rw [hst] at h2
      exact ⟨oA, h1, h2.stp t⟩)
  have hall : ∀ e ∈ pre ++ [en], e.fl = true → add L en.i e.i = true := fun e he hef => by
    rcases List.mem_append.1 he with h | h
    · exact add_le (hpre e h hef)
    · simp only [List.mem_singleton] at h
      rw [h]
      exact add_self _ _
  have hsp : log = (pre ++ [en]) ++ post := by rw [hs]; simp
  have hst2 : stH log (add L en.i) s'.h = stH post (add L en.i) s'.h := by
    rw [hsp]
    exact stH_all _ hall
  refine ⟨by rw [hst2]; exact i2, by rw [hst2]; exact i1, by rw [hst2]; exact i3, fun A hA hLA => ?_, ?_⟩
  · have h1 := I.bnd (by rw [hA]; rfl)
    rw [hst] at h1
    exact t.old bA h1 (I.old A hA (add_false hLA).1)
  · rw [hst2, hsp]
    exact Lt.app hall i4

/-- the block that is made at a time that is not known is there. -/
theorem Hp.late (C : Cx P rec ops ro ms la bA log s0 s') (hd : Down ops L) {en : En} (hen : en ∈ log) (hla : la = some en.i) {pre post : List En} {e : En} (hs : log = pre ++ e :: post) (hpre : ∀ x ∈ pre, x.fl = true → L x.i = true) (hef : e.fl = true) (hLe : L e.i = false)
    {q1 : Ph} {w1 : World} {oA : Obj} (hb : bA < e.s.h.n) (t : Stp p0 h0 w0 q1 e.s.h w1) (r : RH P q1 e.s.h w1) (h1 : en.h1 = en.s.h.set bA (some oA)) (hp : Pend P w0.heap.size bA oA q1 e.s.h w1) : Hp P la bA log s'.h p0 h0 w0 (add L en.i) q1 w1 := by
  have hlg := C.lg
  rw [hs] at hlg
  obtain ⟨_, g2, g3, g4, hpost⟩ := hlg.split
  have hrest : LgOk P rec ops ro ms la bA (pre.reverse ++ []) (e :: post) e.s s' := ⟨rfl, g2, g3, g4, hpost⟩
  obtain ⟨i1, i2, i3, i4⟩ := advance (w0 := w0) (p0 := p0) (h0 := h0) (L := add L en.i) (q := q1) (w := w1) (e :: post) hrest (fun c x r hc y hy => by
      exact (C.sp (pre ++ c) x r (by rw [hs, hc]; simp)).new y (by simp [hy])) (fun x hx hxf hxl => by
      have hxn : x.i ≠ en.i := fun h => hxl (by rw [hla, h])
      rw [add_ne hxn]
      rcases List.mem_cons.1 hx with rfl | hx
      · exact hLe
      · obtain ⟨c, r, hc, hse⟩ := C.later hs hx
        have hbit := hse.eff hxl e (by simp) hef
        cases hLx : L x.i with
        | false => rfl
        | true =>
          rw [C.bit hd hLx hbit] at hLe
          cases hLe) r t (fun _ => hb) (fun x hx hxl _ => by
      have hxlog : x ∈ log := by rw [hs]; exact List.mem_append_right _ hx
      rw [hla] at hxl
      injection hxl with hxl
      rw [← C.inj hen hxlog hxl]
      exact ⟨oA, h1, hp⟩)
  have hall : ∀ x ∈ pre, x.fl = true → add L en.i x.i = true := fun x hx hxf => add_le (hpre x hx hxf)
  have hst2 : stH log (add L en.i) s'.h = stH (e :: post) (add L en.i) s'.h := by
    rw [hs]
    exact stH_all _ hall
  refine ⟨by rw [hst2]; exact i2, by rw [hst2]; exact i1, by rw [hst2]; exact i3, fun A hA hLA => ?_, ?_⟩
  · rw [hla] at hA
    injection hA with hA
    exact absurd hA.symm (add_false hLA).2
  · rw [hst2, hs]
    exact Lt.app hall i4
end

end

end Go.Proofs.YtgjdgincebchhaaGreatDoor.Ev
namespace Go.Proofs.YtgjdgincebchhaaGreatDoor.Ev
open Go Go.RowKit
noncomputable section

section
variable {P : Program} {rec : Req → Option Res} {m : Nat} {ops : Array Oper} {ro ro' : Option Nat} {ms : List Nat} {la : Option Nat} {bA : Nat} {log : List En} {s0 s' : St} {p0 : Ph} {h0 : CH} {w0 : World} {L : Nat → Bool} {q : Ph} {a : Act} {w : World}

theorem Inv.put (C : Cx P rec ops ro ms la bA log s0 s') {pre post : List En} {en : En} (hs : log = pre ++ en :: post) (hL : L en.i = false) (I : Inv P la bA log s'.h s0 p0 h0 w0 L q a w) {q1 : Ph} {w1 : World} {v' : Value}
    (hq : q.le q1) (H : Hp P la bA log s'.h p0 h0 w0 (add L en.i) q1 w1) (hv : RV q1 en.v v') : Inv P la bA log s'.h s0 p0 h0 w0 (add L en.i) q1 (a.put en.o.dst v') w1 := by
  refine ⟨H, ?_, ?_⟩
  · rw [C.val_add hs hL]
    exact put_rel (I.tm.mono hq) hv _
  · rw [put_defers]
    exact I.ds.mono hq

theorem one_step (G : Good P rec m) (C : Cx P rec ops ro ms la bA log s0 s') (hb0 : la.isSome = true → h0.n ≤ bA) (hd : Down ops L) {pre post : List En} {en : En} (hs : log = pre ++ en :: post) (hL : L en.i = false)
    (hr : ∀ e ∈ en.o.after.toList, Region.binds .any e = true → L e.on = true) (I : Inv P la bA log s'.h s0 p0 h0 w0 L q a w) {n : Nat} {next : Act → World → Prop} {Q : Exit → Act → World → Prop}
    (hnext : ∀ q1 a1 w1, Inv P la bA log s'.h s0 p0 h0 w0 (add L en.i) q1 a1 w1 → next a1 w1) : wpOpIn (wideR ro') n P ops Q en.i next a w := by
  have hen : en ∈ log := by rw [hs]; simp
  have hop := C.opAt hen
  have hsp := C.sp pre en post hs
  have hA : ∀ j, (ms.getD en.i 0).testBit j = true → L j = true := fun j hj => ancs_bit hop hd hr (by rw [← C.anc]; exact hj)
  have hsl := C.slots hd hs hL hA
  have hlg := C.lg
  rw [hs] at hlg
  obtain ⟨_, _, hone, hstay, hpost⟩ := hlg.split
  have hwn : Region.wanted en.o (yielded ops a.tmps) = en.wn := by
    rw [← wanted_rel I.tm, wantedC_congr (fun s hsm => hsl s (List.mem_append_right _ hsm))]
    exact (evOne_eq hone).2.2.2.2.symm
  have hat : ∀ t ∈ opT en.o, RV q (nth en.s.tm t) (a.eval (.tmp t)) := fun t ht => by
    rw [← hsl t (List.mem_append_left _ ht)]
    exact act_eval I.tm t
  unfold wpOpIn
  simp only [hop]
  rw [hwn]
  unfold evOne at hone
  split at hone
  · rename_i hw
    cases hfl : en.fl with
    | true =>
      rw [hfl] at hone
      simp only [if_true] at hone
      split at hone
      · rename_i hla
        have hla : la = some en.i := by simpa using hla
        split at hone
        · cases hone
        · split at hone
          · rename_i v hA2 hev
            split at hone
            · rename_i oA hg
              split at hone
              · rename_i hok
                simp only [Bool.and_eq_true, decide_eq_true_eq] at hok
                injection hone with hone
                have hwt : en.wn = true := by rw [← hone]
                have hv1 : en.v = v := by rw [← hone]
                have hh1 : en.h1 = en.s.h.set bA (some oA) := by rw [← hone]
                rw [hwt, if_pos rfl]
                obtain ⟨ρ, hρ, he⟩ := evM_rel (p := q.cut bA) (tm := en.s.tm) (o := en.o) (a := a) (Glob.cut I.hp.rh.glob (I.hp.old _ hla hL)) (fun t ht => (hat t ht).cut (List.all_eq_true.1 hok.1.2 t ht))
                rcases stH_split (L := L) (he := s'.h) log with ⟨pre1, e, post1, h1, h2, h3, h4, h5⟩ | ⟨h1, _⟩
                · have hrh := I.hp.rh
                  have hstp := I.hp.stp
                  have hbnd := I.hp.bnd (by rw [hla]; rfl)
                  rw [h5] at hrh hstp hbnd
                  obtain ⟨q1, nx, v', w1, t1, t2, t3, t4, t5, t6, t7⟩ := hollow hρ hev hg hok.1.1 hrh (I.hp.old _ hla hL) hbnd (hb0 (by rw [hla]; rfl)) hstp
                  have hH := Hp.late C hd hen hla h1 h2 h3 h4 hbnd t5 t6 hh1 t7
                  have hfin := hnext q1 _ w1 (I.put C hs hL t4 hH (by rw [hv1]; exact t3))
                  refine ⟨fun _ _ => trivial, ?_⟩
                  rw [Oper.semAt_eq _ _ _ (calm_defer hsp.calm), execOp_congr en.o (calm_select hsp.calm) he, t1]
                  rcases t2 with rfl | ⟨rfl, rfl⟩
                  · exact hfin
                  · exact hfin
                · rw [h1 en hen hfl] at hL
                  cases hL
              · cases hone
            · cases hone
          · cases hone
      · rename_i hla
        have hla : la ≠ some en.i := by simpa using hla
        obtain ⟨_, hst⟩ := C.stage hs hfl hla hL hA
        have hrh := I.hp.rh
        rw [hst] at hrh
        split at hone
        · rename_i v ds1 h1 hev
          injection hone with hone
          have hwt : en.wn = true := by rw [← hone]
          have hv1 : en.v = v := by rw [← hone]
          have hh1 : en.h1 = h1 := by rw [← hone]
          rw [hwt, if_pos rfl]
          obtain ⟨ρ, hρ, he⟩ := evM_rel I.hp.rh.glob hat
          refine oper_at G hev hsp.calm hρ (execOp_congr en.o (calm_select hsp.calm) he) hrh (fun q1 v' w1 t1 t2 t3 => ?_)
          rw [← hh1] at t1 t2
          exact hnext q1 _ w1 (I.put C hs hL t1.le (Hp.eff C hd hs hfl hla hL hA I.hp t1 t2) (by rw [hv1]; exact t3))
        · cases hone
    | false =>
      rw [hfl] at hone
      simp only [Bool.false_eq_true, if_false] at hone
      split at hone
      · rename_i v hev
        injection hone with hone
        have hwt : en.wn = true := by rw [← hone]
        have hv1 : en.v = v := by rw [← hone]
        have hh1 : en.h1 = en.s.h := by rw [← hone]
        rw [hwt, if_pos rfl]
        obtain ⟨ρ, hρ, he⟩ := evM_rel I.hp.rh.glob hat
        have hla : la ≠ some en.i := fun h => by
          have := (hsp.late h).2
          rw [hfl] at this
          cases this
        have hpre : ∀ e ∈ pre, e.fl = true → L e.i = true := fun e he hef => hA _ (hsp.eff hla e he hef)
        have hst : stH log L s'.h = stH post L s'.h := by
          rw [hs, stH_all pre hpre]
          show (if en.fl && !L en.i then en.s.h else _) = _
          rw [hfl]
          rfl
        have hread := read_stage (L := L) hwt hfl (fun e hbit hLe => by
          rw [C.bit hd hLe hbit] at hL
          cases hL) post hpost List.mem_cons_self (by
            show evRead P (evM en.s.tm (opT en.o)) en.h1 en.o = some en.v
            rw [hh1, hv1]
            exact hev)
        rw [← hst] at hread
        refine read_at hread hsp.calm hρ (execOp_congr en.o (calm_select hsp.calm) he) I.hp.rh (fun q1 v' w1 t1 t2 t3 => ?_)
        exact hnext q1 _ w1 (I.put C hs hL t1.le (Hp.read C hs hfl I.hp t1 t2) t3)
      · cases hone
  · rename_i hw
    injection hone with hone
    have hwt : en.wn = false := by rw [← hone]
    have hv1 : en.v = undef := by rw [← hone]
    have hh1 : en.h1 = en.s.h := by rw [← hone]
    rw [hwt]
    simp only [Bool.false_eq_true, if_false]
    refine ⟨fun _ _ => trivial, hnext q _ w (I.put C hs hL (Ph.le_refl _) ?_ (by rw [hv1]; exact RV.undef))⟩
    have hla : la ≠ some en.i := fun h => by
      have := (hsp.late h).1
      have h2 : wantedC ops en.s.tm en.o = true := by
        unfold wantedC
        rw [this]
      exact hw h2
    cases hfl : en.fl with
    | true =>
      obtain ⟨_, hst⟩ := C.stage hs hfl hla hL hA
      have hrh := I.hp.rh
      rw [hst] at hrh
      refine Hp.eff C hd hs hfl hla hL hA I.hp ?_ ?_
      · rw [hh1]; exact Stp.refl _ _ _
      · rw [hh1]; exact hrh
    | false => exact Hp.read C hs hfl I.hp (Stp.refl _ _ _) I.hp.rh

def unl (L : Nat → Bool) : List En → Nat
  | [] => 0
  | e :: l => (if L e.i then 0 else 1) + unl L l

theorem unl_le {L L' : Nat → Bool} (h : ∀ j, L j = true → L' j = true) : ∀ l : List En, unl L' l ≤ unl L l
  | [] => Nat.le_refl _
  | e :: l => by
    unfold unl
    have := unl_le h l
    cases hL : L e.i with
    | true => rw [h _ hL]; simp; omega
    | false => split <;> simp <;> omega
theorem unl_add {L : Nat → Bool} {i : Nat} (hL : L i = false) : ∀ l : List En, (∃ e ∈ l, e.i = i) → unl (add L i) l + 1 ≤ unl L l
  | [], h => by obtain ⟨e, he, _⟩ := h; cases he
  | e :: l, h => by
    unfold unl
    have hle := unl_le (L := L) (L' := add L i) (fun j hj => add_le hj) l
    by_cases hi : e.i = i
    · rw [hi, add_self, hL]
      simp
      omega
    · obtain ⟨x, hx, hxi⟩ := h
      rcases List.mem_cons.1 hx with rfl | hx
      · exact absurd hxi hi
      · have := unl_add hL l ⟨x, hx, hxi⟩
        rw [add_ne hi]
        omega
theorem unl_all {L : Nat → Bool} : ∀ l : List En, unl L l = 0 → ∀ e ∈ l, L e.i = true
  | [], _, e, he => by cases he
  | x :: l, h, e, he => by
    unfold unl at h
    rcases List.mem_cons.1 he with rfl | he
    · cases hL : L e.i with
      | true => rfl
      | false => rw [hL] at h; simp at h
    · exact unl_all l (by omega) e he
theorem unl_first {L : Nat → Bool} : ∀ l : List En, (∀ e ∈ l, L e.i = true) ∨ ∃ pre en post, l = pre ++ en :: post ∧ (∀ e ∈ pre, L e.i = true) ∧ L en.i = false
  | [] => .inl (fun e he => by cases he)
  | x :: l => by
    cases hL : L x.i with
    | false => exact .inr ⟨[], x, l, rfl, (fun e he => by cases he), hL⟩
    | true =>
      rcases unl_first (L := L) l with h | ⟨pre, en, post, h1, h2, h3⟩
      · left
        intro e he
        rcases List.mem_cons.1 he with rfl | he
        · exact hL
        · exact h e he
      · right
        refine ⟨x :: pre, en, post, by rw [h1]; rfl, fun e he => ?_, h3⟩
        rcases List.mem_cons.1 he with rfl | he
        · exact hL
        · exact h2 e he

theorem all_sound (C : Cx P rec ops ro ms la bA log s0 s') (I : Inv P la bA log s'.h s0 p0 h0 w0 L q a w) (hall : ∀ e ∈ log, L e.i = true) : Stp p0 h0 w0 q s'.h w ∧ RH P q s'.h w ∧ RAct q s' a := by
  have hst : stH log L s'.h = s'.h := by
    have := stH_all (L := L) (he := s'.h) log (l := []) (fun e he _ => hall e he)
    rw [List.append_nil] at this
    exact this
  obtain ⟨ht, hds⟩ := LgOk.tm log C.lg
  have h1 := I.hp.stp
  have h2 := I.hp.rh
  rw [hst] at h1 h2
  refine ⟨h1, h2, ?_, ?_⟩
  · rw [ht, ← valL_congr log s0.tm (L := L) (fun e he => hall e he)]
    exact I.tm
  · rw [hds]
    exact I.ds

theorem any_sound (G : Good P rec m) (C : Cx P rec ops ro ms la bA log s0 s') (hb0 : la.isSome = true → h0.n ≤ bA) {n : Nat} {Q : Exit → Act → World → Prop} (hQ : ∀ q a' w1, Stp p0 h0 w0 q s'.h w1 → RH P q s'.h w1 → RAct q s' a' → Q .normal a' w1) :
    ∀ (fuel : Nat) (listed : Array Bool) (q : Ph) (a : Act) (w : World), listed.size = ops.size → Down ops (fun i => listed.getD i false) → unl (fun i => listed.getD i false) log ≤ fuel → Inv P la bA log s'.h s0 p0 h0 w0 (fun i => listed.getD i false) q a w →
      wpAnyIn (wideR ro') n P .any ops Q fuel listed a w
  | 0, listed, q, a, w, hsz, hd, hu, I => by
    have hall := unl_all log (Nat.le_zero.1 hu)
    refine ⟨?_, ?_⟩
    · cases hr : Region.ready .any ops listed with
      | nil => rfl
      | cons i l =>
        have hi : i ∈ Region.ready .any ops listed := by rw [hr]; simp
        obtain ⟨h1, o, ho, _⟩ := mem_ready.1 hi
        obtain ⟨e, he, rfl⟩ := C.all i ((Array.getElem?_eq_some_iff.1 ho).1)
        have h2 := hall e he
        simp only [Array.getD_eq_getD_getElem?] at h1 h2
        cases hx : listed[e.i]? with
        | none => rw [hx] at h1; cases h1
        | some b => rw [hx] at h1 h2; simp at h1 h2; rw [h1] at h2; cases h2
    · obtain ⟨h1, h2, h3⟩ := all_sound C I hall
      exact hQ q a w h1 h2 h3
  | fuel + 1, listed, q, a, w, hsz, hd, hu, I => by
    refine ⟨fun hr => ?_, fun i hi => ?_⟩
    · rcases unl_first (L := fun i => listed.getD i false) log with hall | ⟨pre, en, post, hs, hpre, hL⟩
      · obtain ⟨h1, h2, h3⟩ := all_sound C I hall
        exact hQ q a w h1 h2 h3
      · exfalso
        have hen : en ∈ log := by rw [hs]; simp
        have hop := C.opAt hen
        have : en.i ∈ Region.ready .any ops listed := by
          refine mem_ready.2 ⟨?_, en.o, hop, fun e he hb => ?_⟩
          · have hlt := (Array.getElem?_eq_some_iff.1 hop).1
            simp only [Array.getD_eq_getD_getElem?] at hL ⊢
            rw [Array.getElem?_eq_getElem (by omega)] at hL ⊢
            exact hL
          · have hbit := ancs_edge hop (e := e) (by simpa using he) hb
            rw [← C.anc] at hbit
            obtain ⟨x, hx, hxe⟩ := (C.sp pre en post hs).anc _ hbit
            rw [← hxe]
            exact hpre x hx
        rw [hr] at this
        cases this
    · obtain ⟨h1, o, ho, hall⟩ := mem_ready.1 hi
      have hlt := (Array.getElem?_eq_some_iff.1 ho).1
      obtain ⟨en, hen, rfl⟩ := C.all i hlt
      obtain ⟨pre, post, hs⟩ := List.append_of_mem hen
      have hop := C.opAt hen
      rw [hop] at ho
      injection ho with ho
      have hL : listed.getD en.i false = false := by
        simp only [Array.getD_eq_getD_getElem?] at h1 ⊢
        rw [Array.getElem?_eq_getElem (by omega)] at h1 ⊢
        exact h1
      have hr : ∀ e ∈ en.o.after.toList, Region.binds .any e = true → listed.getD e.on false = true := fun e he hb => hall e (by rw [← ho]; simpa using he) hb
      have hadd : (fun i => (listed.setIfInBounds en.i true).getD i false) = add (fun i => listed.getD i false) en.i := by
        funext j
        unfold add
        simp only [Array.getD_eq_getD_getElem?]
        rw [Array.getElem?_setIfInBounds]
        by_cases hj : en.i = j
        · subst hj
          rw [if_pos rfl, if_pos rfl, if_pos (by omega)]
          rfl
        · rw [if_neg hj, if_neg (fun h => hj h.symm)]
      refine one_step G C hb0 hd hs hL hr I (fun q1 a1 w1 I1 => ?_)
      refine any_sound G C hb0 hQ fuel _ q1 a1 w1 (by simpa using hsz) ?_ ?_ (by rw [hadd]; exact I1)
      · rw [hadd]
        intro j oj hj hLj e he hb
        by_cases hje : j = en.i
        · subst hje
          rw [hop] at hj
          injection hj with hj
          subst hj
          exact add_le (hr e he hb)
        · rw [add_ne hje] at hLj
          exact add_le (hd j oj hj hLj e he hb)
      · rw [hadd]
        have := unl_add (L := fun i => listed.getD i false) hL log ⟨en, hen, rfl⟩
        omega

theorem unl_bound {L : Nat → Bool} : ∀ l : List En, unl L l ≤ l.length
  | [] => Nat.le_refl _
  | e :: l => by
    unfold unl
    have := unl_bound (L := L) l
    rw [List.length_cons]
    split <;> omega
end

end

end Go.Proofs.YtgjdgincebchhaaGreatDoor.Ev
namespace Go.Proofs.YtgjdgincebchhaaGreatDoor.Ev
open Go Go.RowKit

section
variable {P : Program} {rec : Req → Option Res} {m : Nat} {tab : FuncId → Nat → List (Nat × Bool)}

theorem LgOk.ops {ops : Array Oper} {ro : Option Nat} {ms : List Nat} {la : Option Nat} {bA : Nat} {acc l : List En} {s s' : St} (h : LgOk P rec ops ro ms la bA acc l s s') : ∀ en ∈ l, ops[en.i]? = some en.o := fun en hen => by
  obtain ⟨c, r, hc⟩ := List.append_of_mem hen
  rw [hc] at h
  exact h.split.2.1

theorem mk_cx {ops : Array Oper} {ro : Option Nat} {la : Option Nat} {bA : Nat} {l : List En} {s s' : St} {ord : List (Nat × Bool)} (hl : LgOk P rec ops ro (ancs ops.toList []) la bA [] l s s') (hm : l.map (fun en => (en.i, en.fl)) = ord)
    (hord : okOrd ops (ancs ops.toList []) la ord 0 0 [] = true) : Cx P rec ops ro (ancs ops.toList []) la bA l s s' := by
  obtain ⟨h1, h2⟩ := okOrd_sp l 0 0 [] [] (by rw [hm]; exact hord) (fun e he => by cases he) (fun j => by simp) (fun e he => by cases he) hl.ops
  exact ⟨hl, h1, h2, rfl⟩

theorem getD_false (n i : Nat) : (Array.replicate n false).getD i false = false := by
  simp only [Array.getD_eq_getD_getElem?, Array.getElem?_replicate]
  split <;> rfl

theorem drawn_ok (hm : P.follows .mixedOrders = true) (G : Good P rec m) : DrawnOk P tab rec := ⟨fun {f id ops ro s s1} hev p a w ro' _ hact hh n Q hQ => by
  unfold evDrawn at hev
  split at hev
  · rename_i hok
    simp only [Bool.and_eq_true, decide_eq_true_eq] at hok
    obtain ⟨hlen, hord⟩ := hok
    refine wpIn_region_any hm ?_
    have hL : (fun i => (Array.replicate ops.size false).getD i false) = fun _ => false := funext fun i => getD_false _ i
    have hdown : Down ops (fun i => (Array.replicate ops.size false).getD i false) := by
      rw [hL]
      intro i o _ h
      cases h
    have hunl : ∀ l : List En, l.map (fun en => (en.i, en.fl)) = tab f id → unl (fun i => (Array.replicate ops.size false).getD i false) l ≤ ops.size := fun l hl => by
      have h1 := congrArg List.length hl
      rw [List.length_map, hlen] at h1
      rw [← h1]
      exact unl_bound l
    have hval : ∀ (l : List En) (tm : List Value), valL l (fun _ => false) tm = tm := by
      intro l
      induction l with
      | nil => intro tm; rfl
      | cons e l ih => intro tm; exact ih tm
    split at hev
    · rename_i hla
      rw [hla] at hord
      obtain ⟨l, hl, hmap⟩ := evDr_log _ _ _ _ hev
      have C := mk_cx hl hmap hord
      have hst : stH l (fun _ => false) s1.h = s.h := stH_next l hl (fun e _ _ => rfl)
      refine any_sound (p0 := p) (h0 := s.h) (w0 := w) G C (fun h => by cases h) hQ ops.size _ p a _ (by simp) hdown (hunl l hmap) ⟨⟨?_, ?_, (fun h => by cases h), (fun A h => by cases h), (fun c x r _ h => by cases h)⟩, ?_, hact.defers⟩
      · rw [hL, hst]
        exact Stp.drew _ _ _
      · rw [hL, hst]
        exact hh.drew
      · rw [hL, hval]
        exact hact.tmps
    · rename_i A hla
      rw [hla] at hord
      split at hev
      · rename_i hhole
        simp only [Bool.and_eq_true, decide_eq_true_eq, Option.isNone_iff_eq_none] at hhole
        obtain ⟨hcap, hnone⟩ := hhole
        have hnone : s.h.more.get s.h.n = none := hnone
        obtain ⟨l, hl, hmap⟩ := evDr_log _ _ _ _ hev
        have C := mk_cx hl hmap hord
        have hst : stH l (fun _ => false) s1.h = s.h.more := stH_next l hl (fun e _ _ => rfl)
        refine any_sound (p0 := p) (h0 := s.h) (w0 := w) G C (fun _ => Nat.le_refl _) hQ ops.size _ p a _ (by simp) hdown (hunl l hmap) ⟨⟨?_, ?_, fun _ => ?_, fun _ _ _ => hh.fresh _ (Nat.le_refl _), (fun c x r _ _ h => by rw [getD_false] at h; cases h)⟩, ?_, hact.defers⟩
        · rw [hL, hst]
          exact (Stp.drew _ _ _).trans (Stp.more _ _ hnone)
        · rw [hL, hst]
          exact hh.drew.more hcap hnone
        · rw [hL, hst]
          exact Nat.lt_succ_self _
        · rw [hL, hval]
          exact hact.tmps
      · cases hev
  · cases hev⟩

/-- the reckoning is sound. -/
theorem ev_good (hm : P.follows .mixedOrders = true) (k : Nat) : Good P (ev P tab k) k := good (fun _ _ G => drawn_ok hm G) k

/-- nothing is reckoned with yet, but where the package variables stand. -/
def CH.start : CH := ⟨.e, NG⟩
def Ph.start : Ph := fun b => if b < NG then some (b, none) else none
theorem CH.start_get (b : Nat) : CH.start.get b = none := by
  unfold CH.get
  split
  · exact Tr.get_e _ _
  · rfl
theorem start_rh (w : World) : RH P Ph.start CH.start w :=
  ⟨by show 64 < 2 ^ 16; omega, (fun b o h => by rw [CH.start_get] at h; cases h), (fun b1 b2 o1 o2 x r1 r2 h => by rw [CH.start_get] at h; cases h), fun b hb => if_neg (by have : NG ≤ b := hb; omega), fun g hg => if_pos hg⟩

theorem pures_rel {p : Ph} : ∀ {l : List Value}, l.all pureV = true → RVl p l l
  | [], _ => .nil
  | v :: l, h => by
    simp only [List.all_cons, Bool.and_eq_true] at h
    exact .cons (RV.of_pure h.1) (pures_rel h.2)

/-- a call whose arguments are fixed, reckoned from nothing. -/
theorem ev_call (hm : P.follows .mixedOrders = true) {k : Nat} {f : FuncId} {args : List Value} {v : Value} {h : CH} (hev : ev P tab k (.call f args CH.start) = some (.value v h)) (ha : args.all pureV = true) (hv : pureV v = true) (w : World) :
    Calls P f args.toArray w fun e w1 => e = .returned v ∧ Below w.heap.size w w1 := by
  refine (ev_good hm k).call hev (p := Ph.start) (pures_rel ha) (start_rh w) _ (fun q v' w1 s1 _ s3 => ⟨by rw [s3.pure_eq hv], s1.below CH.start_get⟩)
end

end Go.Proofs.YtgjdgincebchhaaGreatDoor.Ev

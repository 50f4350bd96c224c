/-
  A call whose arguments are fixed, carried out in the kernel: the heap that is reckoned with, and how a world is like it. No program in sight.
  A world that is like a heap that is reckoned with: it stays so behind each of the world's steps. No program in sight.
  The model's small steps, carried out over the heap that is reckoned with, and over a world that is like it. No program in sight.
  The model's operations on values that hold addresses: what is reckoned is what happens. No program in sight.
  The model's operations on values that hold addresses, one by one. No program in sight.
  Terms of the model that read no memory: keys of maps, compared. No program in sight.
  The model's operations on maps: what is reckoned is what happens. No program in sight.
-/
import Derived.ProofKit
import Derived.Below
import Derived.RangeFuncIn
namespace Go.Proofs.YtgjdgincebchhaaGreatDoor.Ev
open Go Go.RowKit
noncomputable section

/-! ### the heap that is reckoned with -/
inductive Tr where
  | e
  | lf (o : Obj)
  | nd (l r : Tr)

def Tr.get (d : Nat) : Tr → Nat → Option Obj :=
  Nat.rec (motive := fun _ => Tr → Nat → Option Obj)
    (fun t _ => Tr.rec (motive := fun _ => Option Obj) none (fun o => some o) (fun _ _ _ _ => none) t)
    (fun _ ih t i => Tr.rec (motive := fun _ => Option Obj) none (fun _ => none)
      (fun l r _ _ => Bool.rec (motive := fun _ => Option Obj) (ih r (Nat.div i (nat_lit 2))) (ih l (Nat.div i (nat_lit 2))) (Nat.beq (Nat.mod i (nat_lit 2)) (nat_lit 0))) t) d

def Tr.leaf : Option Obj → Tr
  | some o => .lf o
  | none => .e

def Tr.left : Tr → Tr := Tr.rec (motive := fun _ => Tr) .e (fun _ => .e) (fun l _ _ _ => l)
def Tr.right : Tr → Tr := Tr.rec (motive := fun _ => Tr) .e (fun _ => .e) (fun _ r _ _ => r)

def Tr.set (d : Nat) : Tr → Nat → Option Obj → Tr :=
  Nat.rec (motive := fun _ => Tr → Nat → Option Obj → Tr)
    (fun _ _ o => Tr.leaf o)
    (fun _ ih t i o => Bool.rec (motive := fun _ => Tr) (.nd t.left (ih t.right (Nat.div i (nat_lit 2)) o)) (.nd (ih t.left (Nat.div i (nat_lit 2)) o) t.right) (Nat.beq (Nat.mod i (nat_lit 2)) (nat_lit 0))) d

theorem bit_yes {i : Nat} (h : i % 2 = 0) : Nat.beq (Nat.mod i 2) 0 = true := by show Nat.beq (i % 2) 0 = true; rw [h]; rfl
theorem bit_no {i : Nat} (h : ¬ i % 2 = 0) : Nat.beq (Nat.mod i 2) 0 = false := by
  cases hc : Nat.beq (Nat.mod i 2) 0 with
  | false => rfl
  | true => exact absurd (Nat.eq_of_beq_eq_true hc) h

theorem Tr.get_left (d : Nat) (t : Tr) (i : Nat) : Tr.get (d + 1) t i = if i % 2 = 0 then Tr.get d t.left (i / 2) else Tr.get d t.right (i / 2) := by
  have he : ∀ j, Tr.get d .e j = none := by intro j; cases d <;> rfl
  by_cases h : i % 2 = 0
  · rw [if_pos h]
    cases t with
    | nd l r =>
      show Bool.rec (motive := fun _ => Option Obj) _ _ (Nat.beq (Nat.mod i 2) 0) = _
      rw [bit_yes h]; rfl
    | _ => exact (he _).symm
  · rw [if_neg h]
    cases t with
    | nd l r =>
      show Bool.rec (motive := fun _ => Option Obj) _ _ (Nat.beq (Nat.mod i 2) 0) = _
      rw [bit_no h]; rfl
    | _ => exact (he _).symm

theorem Tr.set_left (d : Nat) (t : Tr) (i : Nat) (o : Option Obj) : Tr.set (d + 1) t i o = if i % 2 = 0 then .nd (Tr.set d t.left (i / 2) o) t.right else .nd t.left (Tr.set d t.right (i / 2) o) := by
  by_cases h : i % 2 = 0
  · rw [if_pos h]
    show Bool.rec (motive := fun _ => Tr) _ _ (Nat.beq (Nat.mod i 2) 0) = _
    rw [bit_yes h]; rfl
  · rw [if_neg h]
    show Bool.rec (motive := fun _ => Tr) _ _ (Nat.beq (Nat.mod i 2) 0) = _
    rw [bit_no h]; rfl

theorem Tr.get_set : ∀ (d : Nat) (t : Tr) (i j : Nat) (o : Option Obj), i < 2 ^ d → j < 2 ^ d → Tr.get d (Tr.set d t i o) j = if j = i then o else Tr.get d t j
  | 0, t, i, j, o, hi, hj => by
    obtain rfl : i = 0 := by omega
    obtain rfl : j = 0 := by omega
    cases o <;> rfl
  | d + 1, t, i, j, o, hi, hj => by
    have hi2 : i / 2 < 2 ^ d := by rw [Nat.pow_succ] at hi; omega
    have hj2 : j / 2 < 2 ^ d := by rw [Nat.pow_succ] at hj; omega
    rw [Tr.get_left d t j, Tr.set_left]
    by_cases hi0 : i % 2 = 0
    · rw [if_pos hi0, Tr.get_left]
      show (if j % 2 = 0 then Tr.get d (Tr.set d t.left (i / 2) o) (j / 2) else Tr.get d t.right (j / 2)) = _
      by_cases hj0 : j % 2 = 0
      · simp only [if_pos hj0, Tr.get_set d _ _ _ o hi2 hj2]
        by_cases hij : j = i
        · subst hij; simp
        · rw [if_neg hij, if_neg (by omega)]
      · simp only [if_neg hj0]
        rw [if_neg (by intro h; subst h; exact hj0 hi0)]
    · rw [if_neg hi0, Tr.get_left]
      show (if j % 2 = 0 then Tr.get d t.left (j / 2) else Tr.get d (Tr.set d t.right (i / 2) o) (j / 2)) = _
      by_cases hj0 : j % 2 = 0
      · simp only [if_pos hj0]
        rw [if_neg (by intro h; subst h; exact hi0 hj0)]
      · simp only [if_neg hj0, Tr.get_set d _ _ _ o hi2 hj2]
        by_cases hij : j = i
        · subst hij; simp
        · rw [if_neg hij, if_neg (by omega)]

def D : Nat := 16
structure CH where
  t : Tr
  n : Nat
def CH.get (h : CH) (b : Nat) : Option Obj := if b < h.n then Tr.get D h.t b else none
def CH.set (h : CH) (b : Nat) (o : Option Obj) : CH := ⟨Tr.set D h.t b o, h.n⟩
def CH.alloc (h : CH) (o : Obj) : CH := ⟨Tr.set D h.t h.n (some o), h.n + 1⟩
def CH.empty : CH := ⟨.e, 0⟩

theorem CH.get_lt {h : CH} {b : Nat} {o : Obj} (hg : h.get b = some o) : b < h.n := by
  unfold CH.get at hg
  split at hg
  · assumption
  · cases hg

theorem CH.get_set {h : CH} (hn : h.n ≤ 2 ^ D) {b : Nat} (hb : b < h.n) (o : Option Obj) (j : Nat) : (h.set b o).get j = if j = b then o else h.get j := by
  unfold CH.get CH.set
  by_cases hj : j < h.n
  · simp only [if_pos hj]
    exact Tr.get_set D h.t b j o (by omega) (by omega)
  · simp only [if_neg hj]
    rw [if_neg (by omega)]

theorem CH.get_alloc {h : CH} (hn : h.n < 2 ^ D) (o : Obj) (j : Nat) : (h.alloc o).get j = if j = h.n then some o else h.get j := by
  unfold CH.get CH.alloc
  by_cases hj : j < h.n + 1
  · simp only [if_pos hj]
    rw [Tr.get_set D h.t h.n j _ hn (by omega)]
    by_cases hjn : j = h.n
    · simp [hjn]
    · rw [if_neg hjn, if_neg hjn, if_pos (by omega)]
  · simp only [if_neg hj]
    rw [if_neg (by omega), if_neg (by omega)]

/-! ### how a value is like one that is reckoned with -/
/-- where a block lies; of a list that may grow: how many elements it has room for. -/
abbrev Ph := Nat → Option (Nat × Option Nat)
def Ph.le (p q : Ph) : Prop := ∀ b x, p b = some x → q b = some x
theorem Ph.le_refl (p : Ph) : p.le p := fun _ _ h => h
theorem Ph.le_trans {p q r : Ph} (h : p.le q) (k : q.le r) : p.le r := fun b x hb => k b x (h b x hb)

/-- so many package variables stand at the bottom, each under its own number. -/
def NG : Nat := 64
def Glob (p : Ph) : Prop := ∀ g, g < NG → p g = some (g, none)
theorem Glob.mono {p q : Ph} (h : Glob p) (hq : p.le q) : Glob q := fun g hg => hq _ _ (h g hg)

/-- the capacity of a list that may grow, as it is reckoned with. -/
def OPEN : Nat := 2 ^ 80
def HALF : Nat := 2 ^ 79

inductive RA (p : Ph) : Addr → Addr → Prop
  | mk {b b' : Nat} {r : Option Nat} (h : p b = some (b', r)) (o : Nat) : RA p ⟨b, o, none⟩ ⟨b', o, none⟩

mutual
inductive RV (p : Ph) : Value → Value → Prop
  | bool (b : Bool) : RV p (.bool b) (.bool b)
  | int (k : IntKind) (n : Int) : RV p (.int k n) (.int k n)
  | string (s : ByteArray) : RV p (.string s) (.string s)
  | pnil : RV p (.pointer none) (.pointer none)
  | ptr {a a' : Addr} (h : RA p a a') : RV p (.pointer (some a)) (.pointer (some a'))
  | snil (n c : Nat) : RV p (.slice none n c) (.slice none n c)
  | slice {a a' : Addr} (h : RA p a a') (n c : Nat) (hc : c < HALF) : RV p (.slice (some a) n c) (.slice (some a') n c)
  | sopen {b b' r : Nat} (h : p b = some (b', some r)) (o n c c' : Nat) (hc : HALF ≤ c) (hle : c ≤ OPEN) (he : c' + (OPEN - c) = r) (hn : n ≤ c') : RV p (.slice (some ⟨b, o, none⟩) n c) (.slice (some ⟨b', o, none⟩) n c')
  | sempty {b b' : Nat} {r : Option Nat} (h : p b = some (b', r)) (o o' c : Nat) (hc : c = 0 ∨ HALF ≤ c) (hle : c ≤ OPEN) : RV p (.slice (some ⟨b, o, none⟩) 0 c) (.slice (some ⟨b', o', none⟩) 0 0)
  | mnil : RV p (.map none) (.map none)
  | map {m m' : Nat} (h : p m = some (m', none)) : RV p (.map (some m)) (.map (some m'))
  | func (f : FuncId) {x x' c c' : Array Value} (hx : RVl p x.toList x'.toList) (hc : RVl p c.toList c'.toList) : RV p (.func (.func f) x c) (.func (.func f) x' c')
  | meth (s : String) {x x' c c' : Array Value} (hx : RVl p x.toList x'.toList) (hc : RVl p c.toList c'.toList) : RV p (.func (.method s) x c) (.func (.method s) x' c')
  | yield {l l' : Nat} (h : p l = some (l', none)) : RV p (.func (.yield l) #[] #[]) (.func (.yield l') #[] #[])
  | nilFunc : RV p .nilFunc .nilFunc
  | iface (t : TypeId) {v v' : Value} (h : RV p v v') : RV p (.iface t v) (.iface t v')
  | nilIface : RV p .nilIface .nilIface
  | agg {c c' : Array Value} (h : RVl p c.toList c'.toList) : RV p (.agg c) (.agg c')
  | tuple {c c' : Array Value} (h : RVl p c.toList c'.toList) : RV p (.tuple c) (.tuple c')
inductive RVl (p : Ph) : List Value → List Value → Prop
  | nil : RVl p [] []
  | cons {v v' : Value} {l l' : List Value} (h : RV p v v') (hs : RVl p l l') : RVl p (v :: l) (v' :: l')
end

theorem RA.mono {p q : Ph} (hq : p.le q) {a a' : Addr} (h : RA p a a') : RA q a a' := by
  cases h with
  | mk h o => exact .mk (hq _ _ h) o

mutual
theorem RV.mono {p q : Ph} (hq : p.le q) : ∀ {v v' : Value}, RV p v v' → RV q v v'
  | _, _, .bool b => .bool b
  | _, _, .int k n => .int k n
  | _, _, .string s => .string s
  | _, _, .pnil => .pnil
  | _, _, .ptr h => .ptr (h.mono hq)
  | _, _, .snil n c => .snil n c
  | _, _, .slice h n c hc => .slice (h.mono hq) n c hc
  | _, _, .sopen h o n c c' hc hle he hn => .sopen (hq _ _ h) o n c c' hc hle he hn
  | _, _, .sempty h o o' c hc hle => .sempty (hq _ _ h) o o' c hc hle
  | _, _, .mnil => .mnil
  | _, _, .map h => .map (hq _ _ h)
  | _, _, .func f hx hc => .func f (hx.mono hq) (hc.mono hq)
  | _, _, .meth s hx hc => .meth s (hx.mono hq) (hc.mono hq)
  | _, _, .yield h => .yield (hq _ _ h)
  | _, _, .nilFunc => .nilFunc
  | _, _, .iface t h => .iface t (h.mono hq)
  | _, _, .nilIface => .nilIface
  | _, _, .agg h => .agg (h.mono hq)
  | _, _, .tuple h => .tuple (h.mono hq)
theorem RVl.mono {p q : Ph} (hq : p.le q) : ∀ {l l' : List Value}, RVl p l l' → RVl q l l'
  | _, _, .nil => .nil
  | _, _, .cons h hs => .cons (h.mono hq) (hs.mono hq)
end

section
variable {p : Ph}
theorem RVl.length : ∀ {l l' : List Value}, RVl p l l' → l.length = l'.length
  | _, _, .nil => rfl
  | _, _, .cons _ hs => by simp [hs.length]
theorem RVl.get : ∀ {l l' : List Value}, RVl p l l' → ∀ {i : Nat} {v : Value}, l[i]? = some v → ∃ v', l'[i]? = some v' ∧ RV p v v'
  | _, _, .nil, i, v, h => by simp at h
  | _, _, .cons h _, 0, v, hv => by
    simp at hv
    subst hv
    exact ⟨_, rfl, h⟩
  | _, _, .cons _ hs, i + 1, v, hv => by
    simp only [List.getElem?_cons_succ] at hv ⊢
    exact hs.get hv
theorem RVl.set : ∀ {l l' : List Value}, RVl p l l' → ∀ (i : Nat) {v v' : Value}, RV p v v' → RVl p (l.set i v) (l'.set i v')
  | _, _, .nil, i, _, _, _ => by simpa using RVl.nil
  | _, _, .cons _ hs, 0, _, _, h => .cons h hs
  | _, _, .cons h0 hs, i + 1, _, _, h => .cons h0 (hs.set i h)
theorem RVl.append : ∀ {l l' m m' : List Value}, RVl p l l' → RVl p m m' → RVl p (l ++ m) (l' ++ m')
  | _, _, _, _, .nil, h => h
  | _, _, _, _, .cons h hs, k => .cons h (hs.append k)
theorem RVl.take : ∀ {l l' : List Value}, RVl p l l' → ∀ n : Nat, RVl p (l.take n) (l'.take n)
  | _, _, .nil, n => by simpa using RVl.nil
  | _, _, .cons _ _, 0 => by simpa using RVl.nil
  | _, _, .cons h hs, n + 1 => .cons h (hs.take n)
theorem RVl.drop : ∀ {l l' : List Value}, RVl p l l' → ∀ n : Nat, RVl p (l.drop n) (l'.drop n)
  | _, _, .nil, n => by simpa using RVl.nil
  | _, _, .cons h hs, 0 => .cons h hs
  | _, _, .cons _ hs, n + 1 => hs.drop n
theorem RVl.refl_of {l : List Value} (h : ∀ v ∈ l, RV p v v) : RVl p l l := by
  induction l with
  | nil => exact .nil
  | cons v l ih => exact .cons (h v (by simp)) (ih fun u hu => h u (by simp [hu]))
end

/-! ### values without an address -/
mutual
def pureV : Value → Bool
  | .bool _ | .int .. | .string _ | .pointer none | .slice none _ _ | .map none | .nilFunc | .nilIface => true
  | .iface _ v => pureV v
  | .agg ⟨cs⟩ => pureVl cs
  | .tuple ⟨cs⟩ => pureVl cs
  | .func (.func _) ⟨x⟩ ⟨c⟩ => pureVl x && pureVl c
  | _ => false
def pureVl : List Value → Bool
  | [] => true
  | v :: l => pureV v && pureVl l
end

section
variable {p : Ph}
mutual
theorem RV.of_pure : ∀ {v : Value}, pureV v = true → RV p v v
  | .bool b, _ => .bool b
  | .int k n, _ => .int k n
  | .string s, _ => .string s
  | .pointer none, _ => .pnil
  | .pointer (some _), h => by simp [pureV] at h
  | .slice none n c, _ => .snil n c
  | .slice (some _) _ _, h => by simp [pureV] at h
  | .map none, _ => .mnil
  | .map (some _), h => by simp [pureV] at h
  | .nilFunc, _ => .nilFunc
  | .nilIface, _ => .nilIface
  | .iface t v, h => .iface t (RV.of_pure (v := v) (by simpa [pureV] using h))
  | .agg ⟨cs⟩, h => .agg (RVl.of_pure (l := cs) (by simpa [pureV] using h))
  | .tuple ⟨cs⟩, h => .tuple (RVl.of_pure (l := cs) (by simpa [pureV] using h))
  | .func (.func f) ⟨x⟩ ⟨c⟩, h => by
    simp only [pureV, Bool.and_eq_true] at h
    exact .func f (RVl.of_pure (l := x) h.1) (RVl.of_pure (l := c) h.2)
  | .func (.method _) _ _, h => by simp [pureV] at h
  | .func (.methodOf _ _) _ _, h => by simp [pureV] at h
  | .func (.via _ _ _ _) _ _, h => by simp [pureV] at h
  | .func (.yield _) _ _, h => by simp [pureV] at h
  | .float _ _, h => by simp [pureV] at h
  | .complex _ _ _, h => by simp [pureV] at h
  | .chan _, h => by simp [pureV] at h
theorem RVl.of_pure : ∀ {l : List Value}, pureVl l = true → RVl p l l
  | [], _ => .nil
  | v :: l, h => by
    simp only [pureVl, Bool.and_eq_true] at h
    exact .cons (RV.of_pure h.1) (RVl.of_pure h.2)
end
mutual
theorem RV.pure_eq : ∀ {v v' : Value}, RV p v v' → pureV v = true → v' = v
  | _, _, .bool b, _ => rfl
  | _, _, .int k n, _ => rfl
  | _, _, .string s, _ => rfl
  | _, _, .pnil, _ => rfl
  | _, _, .ptr _, h => by simp [pureV] at h
  | _, _, .snil n c, _ => rfl
  | _, _, .slice _ _ _ _, h => by simp [pureV] at h
  | _, _, .sopen _ _ _ _ _ _ _ _ _, h => by simp [pureV] at h
  | _, _, .sempty _ _ _ _ _ _, h => by simp [pureV] at h
  | _, _, .mnil, _ => rfl
  | _, _, .map _, h => by simp [pureV] at h
  | _, _, .func f (x := x) (c := c) hx hc, h => by
    obtain ⟨x⟩ := x
    obtain ⟨c⟩ := c
    simp only [pureV, Bool.and_eq_true] at h
    rw [Array.ext' (RVl.pure_eq hx h.1), Array.ext' (RVl.pure_eq hc h.2)]
  | _, _, .meth _ _ _, h => by simp [pureV] at h
  | _, _, .yield _, h => by simp [pureV] at h
  | _, _, .nilFunc, _ => rfl
  | _, _, .iface t hv, h => by
    simp only [pureV] at h
    rw [RV.pure_eq hv h]
  | _, _, .nilIface, _ => rfl
  | _, _, .agg (c := c) hl, h => by
    obtain ⟨c⟩ := c
    simp only [pureV] at h
    rw [Array.ext' (RVl.pure_eq hl h)]
  | _, _, .tuple (c := c) hl, h => by
    obtain ⟨c⟩ := c
    simp only [pureV] at h
    rw [Array.ext' (RVl.pure_eq hl h)]
theorem RVl.pure_eq : ∀ {l l' : List Value}, RVl p l l' → pureVl l = true → l' = l
  | _, _, .nil, _ => rfl
  | _, _, .cons hv hs, h => by
    simp only [pureVl, Bool.and_eq_true] at h
    rw [RV.pure_eq hv h.1, RVl.pure_eq hs h.2]
end
end

end

end Go.Proofs.YtgjdgincebchhaaGreatDoor.Ev
namespace Go.Proofs.YtgjdgincebchhaaGreatDoor.Ev
open Go Go.RowKit
noncomputable section

inductive REl (p : Ph) : List MapEntry → List MapEntry → Prop
  | nil : REl p [] []
  | cons (k : Value) (hk : pureV k = true) {v v' : Value} (n : Nat) {l l' : List MapEntry} (hv : RV p v v') (hs : REl p l l') : REl p (⟨k, v, n⟩ :: l) (⟨k, v', n⟩ :: l')

theorem REl.mono {p q : Ph} (hq : p.le q) : ∀ {l l' : List MapEntry}, REl p l l' → REl q l l'
  | _, _, .nil => .nil
  | _, _, .cons k hk n hv hs => .cons k hk n (hv.mono hq) (hs.mono hq)

/-- no cell is shut. -/
def Bare (lo hi n : Nat) : Prop := ∀ i, i < n → ¬ (lo ≤ i ∧ i < hi)

structure RLoop (p : Ph) (l l' : Loop) : Prop where
  state : l'.state = l.state
  pending : l'.pending = l.pending
  tmps : RVl p l.tmps.toList l'.tmps.toList
  params : l'.params = l.params
  assign : l'.assign = l.assign
  body : l'.body = l.body
  defers : p l.defers = some (l'.defers, none)

inductive RO (P : Program) (p : Ph) : Option Nat → Obj → Obj → Prop
  | row {c c' : Array Value} (t : TypeId) {lo hi : Nat} (h : RVl p c.toList c'.toList) (hf : Bare lo hi c'.size) : RO P p none (.cells c t (0, 0)) (.cells c' t (lo, hi))
  | list {c c' : Array Value} (t : TypeId) {lo hi m : Nat} (h : RVl p c.toList (c'.toList.take c.size)) (hs : c'.size = m * P.cellsOf t) (hle : c.size ≤ c'.size) (hf : Bare lo hi c'.size) : RO P p (some m) (.cells c t (0, 0)) (.cells c' t (lo, hi))
  | map {es es' : Array MapEntry} (k : Nat) (h : REl p es.toList es'.toList) : RO P p none (.map es k) (.map es' k)
  | iter0 (since : Nat) (seen : Array Nat) (st : Nat) : RO P p none (.mapIter none since seen st) (.mapIter none since seen st)
  | iter {m m' : Nat} (h : p m = some (m', none)) (since : Nat) (seen : Array Nat) (st : Nat) : RO P p none (.mapIter (some m) since seen st) (.mapIter (some m') since seen st)
  | siter (s : ByteArray) (pos : Nat) : RO P p none (.stringIter s pos) (.stringIter s pos)
  | loop {l l' : Loop} (h : RLoop p l l') : RO P p none (.loop l) (.loop l')
  | none_ : RO P p none (.deferred none) (.deferred none)
  | some_ : RO P p none (.deferred (some [])) (.deferred (some []))

theorem RLoop.mono {p q : Ph} (hq : p.le q) {l l' : Loop} (h : RLoop p l l') : RLoop q l l' :=
  ⟨h.state, h.pending, h.tmps.mono hq, h.params, h.assign, h.body, hq _ _ h.defers⟩

theorem RO.mono {P : Program} {p q : Ph} (hq : p.le q) {r : Option Nat} {o o' : Obj} (h : RO P p r o o') : RO P q r o o' := by
  cases h with
  | row t h hf => exact .row t (h.mono hq) hf
  | list t h hs hle hf => exact .list t (h.mono hq) hs hle hf
  | map k h => exact .map k (h.mono hq)
  | iter0 a b c => exact .iter0 a b c
  | iter h a b c => exact .iter (hq _ _ h) a b c
  | siter s pos => exact .siter s pos
  | loop h => exact .loop (h.mono hq)
  | none_ => exact .none_
  | some_ => exact .some_

/-- a world is like the heap: each block that is reckoned with lies at a place of its own. -/
structure RH (P : Program) (p : Ph) (h : CH) (w : World) : Prop where
  cap : h.n < 2 ^ D
  live : ∀ b o, h.get b = some o → ∃ b' r o', p b = some (b', r) ∧ w.heap[b']? = some o' ∧ RO P p r o o'
  inj : ∀ b1 b2 o1 o2 x r1 r2, h.get b1 = some o1 → h.get b2 = some o2 → p b1 = some (x, r1) → p b2 = some (x, r2) → b1 = b2
  fresh : ∀ b, h.n ≤ b → p b = none
  glob : Glob p

/-- what is not reckoned with is left as it is. -/
structure Stp (p : Ph) (h : CH) (w : World) (p1 : Ph) (h1 : CH) (w1 : World) : Prop where
  le : p.le p1
  n : h.n ≤ h1.n
  os : w1.os = w.os
  tape : w1.tape = w.tape
  output : w1.output = w.output
  size : w.heap.size ≤ w1.heap.size
  keep : ∀ k, k < w.heap.size → (∀ b o r, h.get b = some o → p b ≠ some (k, r)) → w1.heap[k]? = w.heap[k]?
  from_ : ∀ b o r k, h1.get b = some o → p1 b = some (k, r) → k < w.heap.size → ∃ b0 o0 r0, h.get b0 = some o0 ∧ p b0 = some (k, r0)
  old : ∀ b, b < h.n → p b = none → p1 b = none

theorem Stp.refl (p : Ph) (h : CH) (w : World) : Stp p h w p h w := ⟨Ph.le_refl _, Nat.le_refl _, rfl, rfl, rfl, Nat.le_refl _, fun _ _ _ => rfl, fun b o r _ h1 h2 _ => ⟨b, o, r, h1, h2⟩, fun _ _ h => h⟩
theorem Stp.trans {p1 p2 p3 : Ph} {h1 h2 h3 : CH} {w1 w2 w3 : World} (s : Stp p1 h1 w1 p2 h2 w2) (t : Stp p2 h2 w2 p3 h3 w3) : Stp p1 h1 w1 p3 h3 w3 :=
  ⟨Ph.le_trans s.le t.le, Nat.le_trans s.n t.n, t.os.trans s.os, t.tape.trans s.tape, t.output.trans s.output, Nat.le_trans s.size t.size,
   fun k hk hn => (t.keep k (Nat.lt_of_lt_of_le hk s.size) (fun b o r hb hp => by
     obtain ⟨b0, o0, r0, hb0, hp0⟩ := s.from_ b o r k hb hp hk
     exact hn b0 o0 r0 hb0 hp0)).trans (s.keep k hk hn),
   fun b o r k hb hp hk => by
     obtain ⟨b0, o0, r0, hb0, hp0⟩ := t.from_ b o r k hb hp (Nat.lt_of_lt_of_le hk s.size)
     exact s.from_ b0 o0 r0 k hb0 hp0 hk,
   fun b hb hp => t.old b (Nat.lt_of_lt_of_le hb s.n) (s.old b hb hp)⟩
/-- from nothing that is reckoned with: all that was there stays. -/
theorem Stp.below {p p1 : Ph} {h h1 : CH} {w w1 : World} (s : Stp p h w p1 h1 w1) (he : ∀ b, h.get b = none) : Below w.heap.size w w1 :=
  ⟨s.os, s.tape, s.output, s.size, fun k hk => s.keep k hk (fun b o r hb => by rw [he] at hb; cases hb)⟩

def CH.cell (h : CH) (a : Addr) : Option Value :=
  match a.spot with
  | none => match h.get a.block with
    | some (.cells c _ _) => c[a.off]?
    | _ => none
  | some _ => none
def CH.setCell (h : CH) (a : Addr) (v : Value) : CH :=
  match h.get a.block with
  | some (.cells c t f) => h.set a.block (some (.cells (c.setIfInBounds a.off v) t f))
  | _ => h

section
variable {P : Program} {w : World} {p : Ph} {h : CH}

theorem RH.drew (hr : RH P p h w) : RH P p h w.drew := ⟨hr.cap, hr.live, hr.inj, hr.fresh, hr.glob⟩
theorem Stp.drew (p : Ph) (h : CH) (w : World) : Stp p h w p h w.drew := ⟨Ph.le_refl _, Nat.le_refl _, rfl, rfl, rfl, Nat.le_refl _, fun _ _ _ => rfl, fun b o r _ h1 h2 _ => ⟨b, o, r, h1, h2⟩, fun _ _ h => h⟩

/-- a block that is reckoned with. -/
theorem RH.at_ (hr : RH P p h w) {b : Nat} {o : Obj} (hg : h.get b = some o) {b' : Nat} {r : Option Nat} (hp : p b = some (b', r)) : ∃ o', w.heap[b']? = some o' ∧ RO P p r o o' := by
  obtain ⟨b1, r1, o', hp1, hh, ho⟩ := hr.live b o hg
  rw [hp] at hp1
  injection hp1 with hp1
  injection hp1 with h1 h2
  subst h1 h2
  exact ⟨o', hh, ho⟩

theorem RO.cells_of {r : Option Nat} {c : Array Value} {t : TypeId} {f : Nat × Nat} {o' : Obj} (ho : RO P p r (.cells c t f) o') : ∃ c' lo hi, o' = .cells c' t (lo, hi) ∧ f = (0, 0) ∧ c.size ≤ c'.size ∧ RVl p c.toList (c'.toList.take c.size) ∧ Bare lo hi c'.size := by
  cases ho with
  | row t h hf =>
    have hl := h.length
    simp only [Array.length_toList] at hl
    exact ⟨_, _, _, rfl, rfl, by omega, by rw [List.take_of_length_le (by simp; omega)]; exact h, hf⟩
  | list t h hs hle hf => exact ⟨_, _, _, rfl, rfl, hle, h, hf⟩

/-- a cell that is reckoned with is there. -/
theorem RH.cell (hr : RH P p h w) {a a' : Addr} {v : Value} (hc : h.cell a = some v) (ha : RA p a a') : ∃ v', w.cell? a' = some v' ∧ RV p v v' ∧ w.frozen? a' = false := by
  cases ha with
  | @mk b b' r hp o =>
    unfold CH.cell at hc
    simp only at hc
    split at hc
    · rename_i c t f hg
      obtain ⟨o', hh, ho⟩ := hr.at_ hg hp
      obtain ⟨c', lo, hi, rfl, rfl, hle, hl, hf⟩ := ho.cells_of
      have hlt := (Array.getElem?_eq_some_iff.1 hc).1
      have hc' : c.toList[o]? = some v := by rw [Array.getElem?_toList]; exact hc
      obtain ⟨v', hv', hrv⟩ := hl.get hc'
      rw [List.getElem?_take_of_lt hlt, Array.getElem?_toList] at hv'
      refine ⟨v', ?_, hrv, ?_⟩
      · unfold World.cell?
        simp only [hh]
        exact hv'
      · unfold World.frozen?
        simp only [hh]
        have := hf o (by omega)
        simp only [Bool.and_eq_false_iff, decide_eq_false_iff_not]
        omega
    · cases hc

theorem RO.set_ {r : Option Nat} {c : Array Value} {t : TypeId} {f : Nat × Nat} {o' : Obj} (ho : RO P p r (.cells c t f) o') (i : Nat) {v v' : Value} (hv : RV p v v') :
    ∃ c' lo hi, o' = .cells c' t (lo, hi) ∧ RO P p r (.cells (c.setIfInBounds i v) t f) (.cells (c'.setIfInBounds i v') t (lo, hi)) := by
  cases ho with
  | @row _ c' t lo hi' h hf =>
    refine ⟨c', lo, hi', rfl, .row t ?_ (by rw [Array.size_setIfInBounds]; exact hf)⟩
    rw [Array.toList_setIfInBounds, Array.toList_setIfInBounds]
    exact h.set i hv
  | @list _ c' t lo hi' m h hs hle hf =>
    refine ⟨c', lo, hi', rfl, .list t ?_ (by rw [Array.size_setIfInBounds]; exact hs) (by rw [Array.size_setIfInBounds, Array.size_setIfInBounds]; exact hle) (by rw [Array.size_setIfInBounds]; exact hf)⟩
    rw [Array.toList_setIfInBounds, Array.toList_setIfInBounds, Array.size_setIfInBounds, List.take_set]
    exact h.set i hv

/-- one block is turned. -/
theorem RH.turn (hr : RH P p h w) {b : Nat} {o : Obj} (hg : h.get b = some o) {b' : Nat} {r : Option Nat} (hp : p b = some (b', r)) {o1 o1' : Obj} (h1 : RO P p r o1 o1')
    {w1 : World} (hos : w1.os = w.os) (htape : w1.tape = w.tape) (hout : w1.output = w.output) (hsz : w1.heap.size = w.heap.size) (hheap : ∀ j, w1.heap[j]? = if j = b' then some o1' else w.heap[j]?) : RH P p (h.set b (some o1)) w1 ∧ Stp p h w p (h.set b (some o1)) w1 := by
  have hlt := CH.get_lt hg
  have hset := fun j => CH.get_set (h := h) (Nat.le_of_lt hr.cap) hlt (some o1) j
  have hl : ∀ bb oo, (h.set b (some o1)).get bb = some oo → ∃ oo', h.get bb = some oo' := by
    intro bb oo hbb
    rw [hset] at hbb
    by_cases he : bb = b
    · exact ⟨o, he ▸ hg⟩
    · rw [if_neg he] at hbb
      exact ⟨_, hbb⟩
  refine ⟨⟨hr.cap, fun b2 o2 h2 => ?_, fun b1 b2 p1 p2 x r1 r2 g1 g2 q1 q2 => ?_, hr.fresh, hr.glob⟩, ⟨Ph.le_refl _, Nat.le_refl _, hos, htape, hout, by omega, fun k _ hk => ?_, fun b2 o2 r2 k g2 q2 _ => ?_, fun _ _ h => h⟩⟩
  · rw [hset] at h2
    by_cases hb2 : b2 = b
    · subst hb2
      rw [if_pos rfl] at h2
      injection h2 with h2
      subst h2
      exact ⟨b', r, o1', hp, by rw [hheap, if_pos rfl], h1⟩
    · rw [if_neg hb2] at h2
      obtain ⟨b2', r2, o2', hp2, hh2, ho2⟩ := hr.live b2 o2 h2
      refine ⟨b2', r2, o2', hp2, ?_, ho2⟩
      rw [hheap, if_neg (fun e => hb2 (hr.inj _ _ _ _ b' _ _ h2 hg (e ▸ hp2) hp))]
      exact hh2
  · obtain ⟨_, g1'⟩ := hl _ _ g1
    obtain ⟨_, g2'⟩ := hl _ _ g2
    exact hr.inj _ _ _ _ x _ _ g1' g2' q1 q2
  · rw [hheap, if_neg (by intro e; subst e; exact hk b o r hg hp)]
  · obtain ⟨_, g2'⟩ := hl _ _ g2
    exact ⟨b2, _, r2, g2', q2⟩

theorem RH.setCell (hr : RH P p h w) {a a' : Addr} {u : Value} (hc : h.cell a = some u) (ha : RA p a a') {v v' : Value} (hv : RV p v v') : RH P p (h.setCell a v) (w.setCell a' v') ∧ Stp p h w p (h.setCell a v) (w.setCell a' v') := by
  cases ha with
  | @mk b b' r hp o =>
    unfold CH.cell at hc
    simp only at hc
    split at hc
    · rename_i c t f hg
      have hlt := (Array.getElem?_eq_some_iff.1 hc).1
      obtain ⟨o', hh, ho⟩ := hr.at_ hg hp
      obtain ⟨c', lo, hi, rfl, ho1⟩ := ho.set_ o hv
      have he : h.setCell ⟨b, o, none⟩ v = h.set b (some (.cells (c.setIfInBounds o v) t f)) := by
        unfold CH.setCell
        simp only [hg]
      rw [he]
      refine hr.turn hg hp ho1 rfl rfl rfl (by simp) (fun j => ?_)
      show (w.heap.modify b' _)[j]? = _
      rw [Array.getElem?_modify]
      by_cases hj : b' = j
      · subst hj
        rw [if_pos rfl, if_pos rfl, hh]
        rfl
      · rw [if_neg hj, if_neg (fun e => hj e.symm)]
    · cases hc

/-- a new block. -/
theorem RH.alloc (hr : RH P p h w) (hn : h.n + 1 < 2 ^ D) {o o' : Obj} {r : Option Nat} (ho : RO P p r o o') :
    ∃ q : Ph, q h.n = some (w.heap.size, r) ∧ RH P q (h.alloc o) (w.alloc o') ∧ Stp p h w q (h.alloc o) (w.alloc o') := by
  have hle : p.le (fun b => if b = h.n then some (w.heap.size, r) else p b) := fun b x hb => by
    show (if b = h.n then _ else _) = _
    rw [if_neg (fun e => by rw [e, hr.fresh _ (Nat.le_refl _)] at hb; cases hb)]
    exact hb
  have hlive : ∀ b o, h.get b = some o → ∃ b' r', p b = some (b', r') ∧ b' < w.heap.size := fun b o hb => by
    obtain ⟨b', r', o', hp, hh, _⟩ := hr.live b o hb
    exact ⟨b', r', hp, (Array.getElem?_eq_some_iff.1 hh).1⟩
  refine ⟨fun b => if b = h.n then some (w.heap.size, r) else p b, by simp, ⟨hn, fun b o2 h2 => ?_, fun b1 b2 o1 o2 x r1 r2 g1 g2 q1 q2 => ?_, fun b hb => ?_, hr.glob.mono hle⟩, ⟨hle, Nat.le_succ _, rfl, rfl, rfl, by simp, fun k hk _ => ?_, fun b o2 r2 k g2 q2 hk => ?_, fun b hb hp => by show (if b = h.n then _ else _) = _; rw [if_neg (by omega)]; exact hp⟩⟩
  · rw [CH.get_alloc hr.cap] at h2
    by_cases hb : b = h.n
    · subst hb
      rw [if_pos rfl] at h2
      injection h2 with h2
      subst h2
      refine ⟨w.heap.size, r, o', by simp, ?_, ho.mono hle⟩
      show (w.heap.push o')[w.heap.size]? = _
      rw [Array.getElem?_push, if_pos rfl]
    · rw [if_neg hb] at h2
      obtain ⟨b', r', o2', hp, hh, ho2⟩ := hr.live b o2 h2
      refine ⟨b', r', o2', hle _ _ hp, ?_, ho2.mono hle⟩
      have hlt := (Array.getElem?_eq_some_iff.1 hh).1
      show (w.heap.push o')[b']? = _
      rw [Array.getElem?_push, if_neg (by omega)]
      exact hh
  · rw [CH.get_alloc hr.cap] at g1 g2
    by_cases hb1 : b1 = h.n
    · by_cases hb2 : b2 = h.n
      · rw [hb1, hb2]
      · rw [if_neg hb2] at g2
        simp only [if_pos hb1] at q1
        simp only [if_neg hb2] at q2
        obtain ⟨b', r', hp, hlt⟩ := hlive _ _ g2
        rw [q2] at hp
        injection hp with hp
        injection hp with hp1 hp2
        injection q1 with q1
        injection q1 with q11 q12
        omega
    · rw [if_neg hb1] at g1
      simp only [if_neg hb1] at q1
      by_cases hb2 : b2 = h.n
      · simp only [if_pos hb2] at q2
        obtain ⟨b', r', hp, hlt⟩ := hlive _ _ g1
        rw [q1] at hp
        injection hp with hp
        injection hp with hp1 hp2
        injection q2 with q2
        injection q2 with q21 q22
        omega
      · rw [if_neg hb2] at g2
        simp only [if_neg hb2] at q2
        exact hr.inj _ _ _ _ x _ _ g1 g2 q1 q2
  · have hb' : h.n + 1 ≤ b := hb
    show (if b = h.n then _ else _) = _
    rw [if_neg (by omega)]
    exact hr.fresh b (by omega)
  · show (w.heap.push o')[k]? = _
    rw [Array.getElem?_push, if_neg (by omega)]
  · rw [CH.get_alloc hr.cap] at g2
    by_cases hb : b = h.n
    · simp only [if_pos hb] at q2
      injection q2 with q2
      injection q2 with q21 q22
      omega
    · rw [if_neg hb] at g2
      simp only [if_neg hb] at q2
      exact ⟨b, o2, r2, g2, q2⟩
end

end

end Go.Proofs.YtgjdgincebchhaaGreatDoor.Ev
namespace Go.Proofs.YtgjdgincebchhaaGreatDoor.Ev
open Go Go.RowKit
noncomputable section

/-- may the object come into the heap? -/
def okNew : Obj → Bool
  | .cells _ _ (0, 0) => true
  | .map _ _ => true
  | .mapIter .. => true
  | .stringIter .. => true
  | .loop _ => true
  | .deferred none => true
  | .deferred (some []) => true
  | _ => false

def isRow : Obj → Bool
  | .cells .. => true
  | _ => false

def runC {α : Type} (P : Program) : Sem α → CH → Option (α × CH)
  | .pure a, h => some (a, h)
  | .load _ a k, h => match h.cell a with
    | some v => runC P (k v) h
    | none => none
  | .store _ _ (.agg _) _, _ | .store _ _ (.tuple _) _, _ => none
  | .store _ a v k, h => match h.cell a with
    | some _ => runC P k (h.setCell a v)
    | none => none
  | .new o k, h => if okNew o && decide (h.n + 1 < 2 ^ D) then runC P (k h.n) (h.alloc o) else none
  | .getObj r k, h => match h.get r with
    | some o => if isRow o then none else runC P (k o) h
    | none => none
  | .setObj r o k, h => match h.get r with
    | some o1 => if isRow o1 || isRow o then none else runC P k (h.set r (some o))
    | none => none
  | .choose q k, h => if q.forced then runC P (k 0) h else none
  | .program k, h => runC P (k P) h
  | .mark _ k, h => runC P k h
  | .shape .., _ | .freeze .., _ | .frozen .., _ | .sys .., _ | .halt _, _ => none

theorem runC_bind {α β : Type} (P : Program) (t : Sem α) (f : α → Sem β) : ∀ h : CH, runC P (t.bind f) h = (runC P t h).bind fun x => runC P (f x.1) x.2 := by
  induction t with
  | pure a => intro h; rfl
  | load m a k ih =>
    intro h
    simp only [Sem.bind, runC]
    cases h.cell a with
    | none => rfl
    | some v => exact ih v h
  | store m a v k ih =>
    intro h
    cases v with
    | agg c => rfl
    | tuple c => rfl
    | _ =>
      simp only [Sem.bind, runC]
      cases h.cell a with
      | none => rfl
      | some v => exact ih _
  | new o k ih =>
    intro h
    simp only [Sem.bind, runC]
    split
    · exact ih _ _
    · rfl
  | shape r k ih => intro h; rfl
  | freeze a n k ih => intro h; rfl
  | frozen a k ih => intro h; rfl
  | getObj r k ih =>
    intro h
    simp only [Sem.bind, runC]
    cases h.get r with
    | none => rfl
    | some o =>
      simp only
      split
      · rfl
      · exact ih _ _
  | setObj r o k ih =>
    intro h
    simp only [Sem.bind, runC]
    cases h.get r with
    | none => rfl
    | some o1 =>
      simp only
      split
      · rfl
      · exact ih _
  | choose q k ih =>
    intro h
    simp only [Sem.bind, runC]
    split
    · exact ih _ _
    · rfl
  | sys c k ih => intro h; rfl
  | program k ih => intro h; exact ih _ _
  | mark m k ih => intro h; exact ih _
  | halt h => intro _; rfl

/-! ### what reads no memory -/
def runP {α : Type} (P : Program) : Sem α → Option α
  | .pure a => some a
  | .choose q k => if q.forced then runP P (k 0) else none
  | .program k => runP P (k P)
  | .mark _ k => runP P k
  | _ => none

theorem runP_run {α : Type} (P : Program) (t : Sem α) : ∀ {a : α}, runP P t = some a → ∀ w, t.run P w = .ok a w := by
  induction t with
  | pure a => intro b h w; simp only [runP, Option.some.injEq] at h; rw [h]; rfl
  | choose q k ih =>
    intro b h w
    simp only [runP] at h
    split at h
    · rename_i hf
      simp only [Sem.run, hf, if_true]
      exact ih 0 h w
    · cases h
  | program k ih => intro b h w; exact ih P h w
  | mark m k ih => intro b h w; exact ih h w
  | _ => intros; simp_all [runP]

theorem runP_runC {α : Type} (P : Program) (t : Sem α) : ∀ {a : α}, runP P t = some a → ∀ h, runC P t h = some (a, h) := by
  induction t with
  | pure a => intro b h w; simp only [runP, Option.some.injEq] at h; rw [h]; rfl
  | choose q k ih =>
    intro b h w
    simp only [runP] at h
    split at h
    · rename_i hf
      simp only [runC, hf, if_true]
      exact ih 0 h w
    · cases h
  | program k ih => intro b h w; exact ih P h w
  | mark m k ih => intro b h w; exact ih h w
  | _ => intros; simp_all [runP]

theorem runP_bind {α β : Type} (P : Program) (t : Sem α) (f : α → Sem β) : runP P (t >>= f) = (runP P t).bind fun x => runP P (f x) := by
  show runP P (t.bind f) = _
  induction t with
  | pure a => rfl
  | choose q k ih =>
    simp only [Sem.bind, runP]
    split
    · exact ih 0
    · rfl
  | program k ih => exact ih P
  | mark m k ih => exact ih
  | _ => rfl

/-- what is reckoned is what happens. -/
def Sim {α β : Type} (P : Program) (p : Ph) (R : Ph → α → β → Prop) (t0 : Sem α) (t : Sem β) : Prop :=
  ∀ q : Ph, p.le q → ∀ (h : CH) (w : World), RH P q h w → ∀ (a0 : α) (h1 : CH), runC P t0 h = some (a0, h1) →
    ∃ (q1 : Ph) (a : β) (w1 : World), Stp q h w q1 h1 w1 ∧ t.run P w = .ok a w1 ∧ RH P q1 h1 w1 ∧ R q1 a0 a ∧ (runP P t0 = some a0 → runP P t = some a)

section
variable {P : Program} {p : Ph} {α β γ δ : Type} {R : Ph → α → β → Prop} {S : Ph → γ → δ → Prop}

theorem Sim.mono {t0 : Sem α} {t : Sem β} (hs : Sim P p R t0 t) {q : Ph} (hq : p.le q) : Sim P q R t0 t := fun r hr => hs r (Ph.le_trans hq hr)

theorem Sim.imp {t0 : Sem α} {t : Sem β} {R' : Ph → α → β → Prop} (hs : Sim P p R t0 t) (hi : ∀ q a0 a, p.le q → R q a0 a → R' q a0 a) : Sim P p R' t0 t := fun q hq h w hr a0 h1 hc =>
  let ⟨q1, a, w1, hle, hrun, hr1, hR, hP⟩ := hs q hq h w hr a0 h1 hc
  ⟨q1, a, w1, hle, hrun, hr1, hi _ _ _ (Ph.le_trans hq hle.le) hR, hP⟩

theorem Sim.pure {a0 : α} {a : β} (hR : ∀ q, p.le q → R q a0 a) : Sim P p R (.pure a0) (.pure a) := fun q hq h w hr a0' h1 hc => by
  simp only [runC, Option.some.injEq, Prod.mk.injEq] at hc
  obtain ⟨rfl, rfl⟩ := hc
  exact ⟨q, a, w, Stp.refl _ _ _, rfl, hr, hR q hq, fun _ => rfl⟩

theorem Sim.bind {t0 : Sem α} {t : Sem β} {k0 : α → Sem γ} {k : β → Sem δ} (hs : Sim P p R t0 t) (hk : ∀ q a0 a, p.le q → R q a0 a → Sim P q S (k0 a0) (k a)) : Sim P p S (t0 >>= k0) (t >>= k) := fun q hq h w hr a0' h1 hc => by
  have hc' : (runC P t0 h).bind (fun x => runC P (k0 x.1) x.2) = some (a0', h1) := (runC_bind P t0 k0 h).symm.trans hc
  cases ht : runC P t0 h with
  | none => rw [ht] at hc'; cases hc'
  | some x =>
    obtain ⟨a0, h2⟩ := x
    rw [ht] at hc'
    obtain ⟨q1, a, w1, hle, hrun, hr1, hR, hP⟩ := hs q hq h w hr a0 h2 ht
    obtain ⟨q2, b, w2, hle2, hrun2, hr2, hS, hP2⟩ := hk q1 a0 a (Ph.le_trans hq hle.le) hR q1 (Ph.le_refl _) h2 w1 hr1 _ _ hc'
    refine ⟨q2, b, w2, hle.trans hle2, ?_, hr2, hS, fun hp => ?_⟩
    · rw [Sem.run_bind, hrun]
      exact hrun2
    · rw [runP_bind] at hp ⊢
      cases hx : runP P t0 with
      | none => rw [hx] at hp; cases hp
      | some x =>
        rw [hx] at hp
        have he := runP_runC P t0 hx h
        rw [ht] at he
        simp only [Option.some.injEq, Prod.mk.injEq] at he
        obtain ⟨rfl, _⟩ := he
        rw [hP hx]
        exact hP2 hp

theorem Sim.halt {h : Halt} {t : Sem β} : Sim P p R (.halt h) t := fun q hq h w hr a0' h1 hc => by cases hc

/-- what does not come to an end in the reckoning is like anything. -/
theorem Sim.none_ {t0 : Sem α} {t : Sem β} (hn : ∀ h, runC P t0 h = none) : Sim P p R t0 t := fun q hq h w hr a0' h1 hc => by rw [hn] at hc; cases hc

theorem Sim.program : Sim P p (fun _ x y => x = P ∧ y = P) program program := fun q hq h w hr a0' h1 hc => by
  simp only [Go.program, runC, Option.some.injEq, Prod.mk.injEq] at hc
  obtain ⟨rfl, rfl⟩ := hc
  exact ⟨q, P, w, Stp.refl _ _ _, rfl, hr, ⟨rfl, rfl⟩, fun h => h⟩

theorem Sim.load {a a' : Addr} {m : Mode} (ha : RA p a a') : Sim P p RV (load a m) (load a' m) := fun q hq h w hr a0' h1 hc => by
  simp only [Go.load, runC] at hc
  cases hcell : h.cell a with
  | none => rw [hcell] at hc; cases hc
  | some v =>
    rw [hcell] at hc
    simp only [Option.some.injEq, Prod.mk.injEq] at hc
    obtain ⟨rfl, rfl⟩ := hc
    obtain ⟨v', hv', hrv, _⟩ := hr.cell hcell (ha.mono hq)
    refine ⟨q, v', w, Stp.refl _ _ _, ?_, hr, hrv, fun h => by cases h⟩
    simp only [Go.load, Sem.run, hv']

theorem Sim.store {a a' : Addr} {m : Mode} {v v' : Value} (ha : RA p a a') (hv : RV p v v') : Sim P p (fun _ _ _ => True) (store a v m) (store a' v' m) := fun q hq h w hr a0' h1 hc => by
  have key : (∀ c, v ≠ .agg c) → (∀ c, v ≠ .tuple c) → (∀ c, v' ≠ .agg c) → (∀ c, v' ≠ .tuple c) → ∃ (q1 : Ph) (a1 : Unit) (w1 : World), Stp q h w q1 h1 w1 ∧ (Go.store a' v' m).run P w = .ok a1 w1 ∧ RH P q1 h1 w1 ∧ True ∧ (runP P (Go.store a v m) = some a0' → runP P (Go.store a' v' m) = some a1) := by
    intro h1a h2a h3a h4a
    have e1 : runC P (Go.store a v m) h = match h.cell a with | some _ => some ((), h.setCell a v) | none => none := by
      cases v <;> first | exact absurd rfl (h1a _) | exact absurd rfl (h2a _) | rfl
    have e2 : (Go.store a' v' m).run P w = match w.cell? a' with
        | some _ => if w.frozen? a' then .halt (.unsupported (.unsafePointer "a write to bytes that a string shares")) w else .ok () (w.setCell a' v')
        | none => match w.farStore P a' v' (m == .atomic) with
          | .ok (w, _) => .ok () w
          | .error h => .halt h w := by
      cases v' <;> first | exact absurd rfl (h3a _) | exact absurd rfl (h4a _) | rfl
    rw [e1] at hc
    cases hcell : h.cell a with
    | none => rw [hcell] at hc; cases hc
    | some u =>
      rw [hcell] at hc
      simp only [Option.some.injEq, Prod.mk.injEq] at hc
      obtain ⟨_, rfl⟩ := hc
      obtain ⟨u', hu', _, hf⟩ := hr.cell hcell (ha.mono hq)
      obtain ⟨hr1, hst⟩ := hr.setCell hcell (ha.mono hq) (hv.mono hq)
      refine ⟨q, (), w.setCell a' v', hst, ?_, hr1, trivial, fun h => by cases v <;> cases h⟩
      rw [e2, hu']
      simp [hf]
  cases hv with
  | agg hl => cases hc
  | tuple hl => cases hc
  | _ => exact key (by intro c h; cases h) (by intro c h; cases h) (by intro c h; cases h) (by intro c h; cases h)

theorem Sim.new {o o' : Obj} (ho : RO P p none o o') : Sim P p (fun q x y => q x = some (y, none)) (newObj o) (newObj o') := fun q hq h w hr a0' h1 hc => by
  simp only [newObj, runC] at hc
  split at hc
  · rename_i hok
    simp only [Bool.and_eq_true, decide_eq_true_eq] at hok
    simp only [Option.some.injEq, Prod.mk.injEq] at hc
    obtain ⟨rfl, rfl⟩ := hc
    obtain ⟨q1, hat, hr1, hle⟩ := hr.alloc hok.2 (ho.mono hq)
    exact ⟨q1, w.heap.size, w.alloc o', hle, rfl, hr1, hat, fun h => by cases h⟩
  · cases hc

/-- an object that is no row of cells. -/
theorem RO.no_row {r : Option Nat} {o o' : Obj} (h : RO P p r o o') (hn : isRow o = false) : isRow o' = false ∧ r = none := by
  cases h <;> simp_all [isRow]

theorem Sim.getObj_ {r r' : Nat} {x : Option Nat} (hp : p r = some (r', x)) : Sim P p (fun q o o' => x = none ∧ RO P q none o o') (getObj r) (getObj r') := fun q hq h w hr a0' h1 hc => by
  simp only [Go.getObj, runC] at hc
  cases hg : h.get r with
  | none => rw [hg] at hc; cases hc
  | some o =>
    rw [hg] at hc
    simp only at hc
    split at hc
    · cases hc
    · rename_i hrow
      simp only [Option.some.injEq, Prod.mk.injEq] at hc
      obtain ⟨rfl, rfl⟩ := hc
      obtain ⟨o', hh, ho⟩ := hr.at_ hg (hq _ _ hp)
      obtain ⟨hrow', hx⟩ := ho.no_row (by simpa using hrow)
      subst hx
      refine ⟨q, o', w, Stp.refl _ _ _, ?_, hr, ⟨rfl, ho⟩, fun h => by cases h⟩
      simp only [Go.getObj, Sem.run, hh]
      cases o' <;> first | rfl | (simp [isRow] at hrow')

theorem Sim.getObj {r r' : Nat} (hp : p r = some (r', none)) : Sim P p (fun q o o' => RO P q none o o') (getObj r) (getObj r') := (Sim.getObj_ hp).imp fun _ _ _ _ h => h.2

theorem Sim.setObj {r r' : Nat} {o o' : Obj} (hp : p r = some (r', none)) (ho : RO P p none o o') : Sim P p (fun _ _ _ => True) (setObj r o) (setObj r' o') := fun q hq h w hr a0' h1 hc => by
  simp only [Go.setObj, runC] at hc
  cases hg : h.get r with
  | none => rw [hg] at hc; cases hc
  | some o1 =>
    rw [hg] at hc
    simp only at hc
    split at hc
    · cases hc
    · rename_i hrow
      simp only [Bool.or_eq_true, not_or] at hrow
      simp only [Option.some.injEq, Prod.mk.injEq] at hc
      obtain ⟨_, rfl⟩ := hc
      obtain ⟨o1', hh, ho1⟩ := hr.at_ hg (hq _ _ hp)
      obtain ⟨hrow', _⟩ := ho1.no_row (by simpa using hrow.1)
      have hheap : ∀ j, (w.heap.setIfInBounds r' o')[j]? = if j = r' then some o' else w.heap[j]? := fun j => by
        have hlt := (Array.getElem?_eq_some_iff.1 hh).1
        rw [Array.getElem?_setIfInBounds]
        by_cases hj : r' = j
        · subst hj; simp [hlt]
        · rw [if_neg hj, if_neg (fun e => hj e.symm)]
      obtain ⟨hr1, hst⟩ := hr.turn hg (hq _ _ hp) (ho.mono hq) (w1 := { w with heap := w.heap.setIfInBounds r' o' }) rfl rfl rfl (by simp) hheap
      refine ⟨q, (), { w with heap := w.heap.setIfInBounds r' o' }, hst, ?_, hr1, trivial, fun h => by cases h⟩
      simp only [Go.setObj, Sem.run, hh]
      cases o1' <;> first | rfl | (simp [isRow] at hrow')

theorem Sim.choose {q : Question} : Sim P p (fun _ x y => x = 0 ∧ y = 0) (choose q) (choose q) := fun r hq h w hr a0' h1 hc => by
  have hf : q.forced = true := by
    simp only [Go.choose, runC] at hc
    split at hc
    · assumption
    · cases hc
  simp only [Go.choose, runC, hf, if_true, Option.some.injEq, Prod.mk.injEq] at hc
  obtain ⟨rfl, rfl⟩ := hc
  exact ⟨r, 0, w, Stp.refl _ _ _, by simp [Go.choose, Sem.run, hf], hr, ⟨rfl, rfl⟩, fun h => h⟩

theorem Sim.mark {m m' : Mark} : Sim P p (fun _ _ _ => True) (mark m) (mark m') := fun r hq h w hr a0' h1 hc => by
  simp only [Go.mark, runC, Option.some.injEq, Prod.mk.injEq] at hc
  obtain ⟨_, rfl⟩ := hc
  exact ⟨r, (), w, Stp.refl _ _ _, rfl, hr, trivial, fun _ => rfl⟩

theorem Sim.ite {c : Prop} [Decidable c] {t0 u0 : Sem α} {t u : Sem β} (h1 : c → Sim P p R t0 t) (h2 : ¬ c → Sim P p R u0 u) : Sim P p R (if c then t0 else u0) (if c then t else u) := by
  split
  · exact h1 ‹_›
  · exact h2 ‹_›
end

end

end Go.Proofs.YtgjdgincebchhaaGreatDoor.Ev
namespace Go.Proofs.YtgjdgincebchhaaGreatDoor.Ev
open Go Go.RowKit
noncomputable section

section
variable {P : Program} {p : Ph}

/-! ### the small words -/
theorem Sim.underlying (t : TypeId) : Sim P p (fun _ x y => y = x ∧ P.underlying t = some x) (underlying t) (underlying t) := by
  unfold Go.underlying
  refine Sim.bind Sim.program (fun q a0 a hq h => ?_)
  obtain ⟨rfl, rfl⟩ := h
  cases hu : a.underlying t with
  | none => exact Sim.halt
  | some d => exact Sim.pure fun _ _ => ⟨rfl, rfl⟩
theorem Sim.typeInfo (t : TypeId) : Sim P p (fun _ x y => y = x ∧ P.info? t = some x) (typeInfo t) (typeInfo t) := by
  unfold Go.typeInfo
  refine Sim.bind Sim.program (fun q a0 a hq h => ?_)
  obtain ⟨rfl, rfl⟩ := h
  cases hu : a.info? t with
  | none => exact Sim.halt
  | some d => exact Sim.pure fun _ _ => ⟨rfl, rfl⟩
theorem Sim.sizeOf (t : TypeId) : Sim P p (fun _ x y => y = x ∧ P.cellsOf t = x) (sizeOf t) (sizeOf t) := by
  unfold Go.sizeOf
  refine Sim.bind (Sim.typeInfo t) (fun q a0 a hq h => ?_)
  obtain ⟨rfl, hi⟩ := h
  exact Sim.pure fun _ _ => ⟨rfl, by simp [Program.cellsOf, hi]⟩
/-- the zero value bears no address. -/
def pureZero (P : Program) (t : TypeId) : Bool := match (P.info? t).bind (·.zero) with
  | some v => pureV v
  | none => false
theorem Sim.zeroValue {t : TypeId} (hz : pureZero P t = true) : Sim P p (fun _ x y => y = x ∧ pureV x = true) (zeroValue t) (zeroValue t) := by
  unfold Go.zeroValue
  refine Sim.bind (Sim.typeInfo t) (fun q a0 a hq h => ?_)
  obtain ⟨rfl, hi⟩ := h
  unfold pureZero at hz
  simp only [hi, Option.bind_some] at hz
  cases h0 : a.zero with
  | none => exact Sim.halt
  | some v =>
    simp only [h0] at hz ⊢
    exact Sim.pure fun _ _ => ⟨rfl, hz⟩
theorem Sim.isAgg (t : TypeId) : Sim P p (fun _ x y => y = x) (isAgg t) (isAgg t) := by
  unfold Go.isAgg
  refine Sim.bind (Sim.underlying t) (fun q a0 a hq h => ?_)
  obtain ⟨rfl, _⟩ := h
  cases a <;> exact Sim.pure fun _ _ => rfl

theorem RA.add {a a' : Addr} (h : RA p a a') (n : Nat) : RA p (a.add n) (a'.add n) := by
  cases h with
  | mk h o =>
    unfold Addr.add
    split
    · exact .mk h o
    · exact .mk h (o + n)

abbrev RVa (p : Ph) (x y : Array Value) : Prop := RVl p x.toList y.toList

theorem Sim.loadCellsFrom {a a' : Addr} (ha : RA p a a') : ∀ (n i : Nat) {q : Ph} (_ : p.le q) {acc acc' : Array Value} (_ : RVa q acc acc'), Sim P q RVa (loadCellsFrom a i n acc) (loadCellsFrom a' i n acc')
  | 0, i, q, hq, acc, acc', hc => Sim.pure fun r hr => hc.mono hr
  | n + 1, i, q, hq, acc, acc', hc => by
    unfold Go.loadCellsFrom
    refine Sim.bind (Sim.load ((ha.mono hq).add i)) (fun r v v' hr hv => ?_)
    exact Sim.loadCellsFrom ha n (i + 1) (Ph.le_trans hq hr) (by
      show RVl r (acc.push v).toList (acc'.push v').toList
      simp only [Array.toList_push]
      exact (hc.mono hr).append (.cons hv .nil))
theorem Sim.loadCells {a a' : Addr} (ha : RA p a a') (n : Nat) : Sim P p RVa (loadCells a n) (loadCells a' n) := Sim.loadCellsFrom ha n 0 (Ph.le_refl _) .nil

theorem Sim.storeCells {a a' : Addr} (ha : RA p a a') : ∀ (vs vs' : List Value) (i : Nat) {q : Ph} (_ : p.le q) (_ : RVl q vs vs'), Sim P q (fun _ _ _ => True) (storeCells a vs i) (storeCells a' vs' i)
  | _, _, i, q, hq, .nil => Sim.pure fun _ _ => trivial
  | _, _, i, q, hq, .cons hv hs => by
    unfold Go.storeCells
    exact Sim.bind (Sim.store ((ha.mono hq).add i) hv) (fun r _ _ hr _ => Sim.storeCells ha _ _ (i + 1) (Ph.le_trans hq hr) (hs.mono hr))

theorem Sim.loadVar {a a' : Addr} (t : TypeId) (ha : RA p a a') : Sim P p RV (loadVar t a) (loadVar t a') := by
  unfold Go.loadVar
  refine Sim.bind (Sim.isAgg t) (fun q x y hq h => ?_)
  subst h
  cases y with
  | true =>
    refine Sim.bind (Sim.sizeOf t) (fun r n m hr h => ?_)
    obtain ⟨rfl, _⟩ := h
    exact Sim.bind (Sim.loadCells (ha.mono (Ph.le_trans hq hr)) _) (fun s c c' hs hc => Sim.pure fun _ hle => .agg (hc.mono hle))
  | false => exact Sim.load (ha.mono hq)

theorem RV.cells {v v' : Value} (h : RV p v v') : RVa p v.cells v'.cells := by
  cases h with
  | agg h => exact h
  | bool b => exact .cons (.bool b) .nil
  | int k n => exact .cons (.int k n) .nil
  | string s => exact .cons (.string s) .nil
  | pnil => exact .cons .pnil .nil
  | ptr h => exact .cons (.ptr h) .nil
  | snil n c => exact .cons (.snil n c) .nil
  | slice h n c hc => exact .cons (.slice h n c hc) .nil
  | sopen h o n c c' hc hle he hn => exact .cons (.sopen h o n c c' hc hle he hn) .nil
  | sempty h o o' c hc hle => exact .cons (.sempty h o o' c hc hle) .nil
  | mnil => exact .cons .mnil .nil
  | map h => exact .cons (.map h) .nil
  | func f hx hc => exact .cons (.func f hx hc) .nil
  | meth s hx hc => exact .cons (.meth s hx hc) .nil
  | yield h => exact .cons (.yield h) .nil
  | nilFunc => exact .cons .nilFunc .nil
  | iface t h => exact .cons (.iface t h) .nil
  | nilIface => exact .cons .nilIface .nil
  | tuple h => exact .cons (.tuple h) .nil

theorem RVa.size {x y : Array Value} (h : RVa p x y) : y.size = x.size := by
  have := RVl.length h
  simpa using this.symm

theorem Sim.storeVar {a a' : Addr} (t : TypeId) (ha : RA p a a') {v v' : Value} (hv : RV p v v') : Sim P p (fun _ _ _ => True) (storeVar t a v) (storeVar t a' v') := by
  unfold Go.storeVar
  refine Sim.bind (Sim.sizeOf t) (fun q n m hq h => ?_)
  obtain ⟨rfl, _⟩ := h
  have hc := (hv.mono hq).cells
  rw [RVa.size hc]
  split
  · exact Sim.bind Sim.halt (fun r _ _ hr h => Sim.storeCells (ha.mono hq) _ _ 0 hr (hc.mono hr)) (R := fun _ _ _ => True)
  · exact Sim.storeCells (ha.mono hq) _ _ 0 (Ph.le_refl _) hc

theorem Sim.newRow (t : TypeId) {c c' : Array Value} (hc : RVa p c c') : Sim P p RA (newRow t c) (newRow t c') := by
  unfold Go.newRow
  exact Sim.bind (Sim.new (.row t hc (lo := 0) (hi := 0) (fun i _ h => by omega))) (fun q x y hq h => Sim.pure fun r hr => .mk (hr _ _ h) 0)
theorem Sim.newVar (t : TypeId) {v v' : Value} (hv : RV p v v') : Sim P p RA (newVar t v) (newVar t v') := Sim.newRow t hv.cells

theorem Sim.part (t : TypeId) {c c' : Array Value} (hc : RVa p c c') (off : Nat) : Sim P p RV (part t c off) (part t c' off) := by
  unfold Go.part
  refine Sim.bind (Sim.isAgg t) (fun q x y hq h => ?_)
  subst h
  cases y with
  | true =>
    refine Sim.bind (Sim.sizeOf t) (fun r n m hr h => ?_)
    obtain ⟨rfl, _⟩ := h
    refine Sim.pure fun s hs => .agg ?_
    have := (((hc.mono hq).mono hr).mono hs)
    simp only [Array.toList_extract]
    exact ((this.drop off).take _)
  | false =>
    simp only [Bool.false_eq_true, if_false]
    cases h0 : c[off]? with
    | none => exact Sim.halt
    | some v =>
      obtain ⟨v', hv', hr⟩ := (RVl.get (i := off) (v := v) hc (by rw [Array.getElem?_toList]; exact h0))
      rw [Array.getElem?_toList] at hv'
      rw [hv']
      exact Sim.pure fun r hr' => (hr.mono hq).mono hr'
end

end

end Go.Proofs.YtgjdgincebchhaaGreatDoor.Ev
namespace Go.Proofs.YtgjdgincebchhaaGreatDoor.Ev
open Go Go.RowKit

section
variable {P : Program} {p : Ph}

theorem RV.ptr_inv {v v' : Value} {a : Addr} (h : RV p v v') (hv : v = .pointer (some a)) : ∃ a', v' = .pointer (some a') ∧ RA p a a' := by
  subst hv
  cases h with
  | ptr h => exact ⟨_, rfl, h⟩

theorem Sim.sureAddr {v v' : Value} (h : RV p v v') : Sim P p RA (Instr.sureAddr v) (Instr.sureAddr v') := by
  cases h with
  | ptr h => exact Sim.pure fun q hq => h.mono hq
  | _ => exact Sim.halt

theorem Sim.alloc {t : TypeId} (hz : pureZero P t = true) : Sim P p RV (Instr.alloc t true (.tuple #[])) (Instr.alloc t true (.tuple #[])) := by
  unfold Instr.alloc
  refine Sim.bind (Sim.zeroValue hz) (fun q x y hq h => ?_)
  obtain ⟨rfl, hp⟩ := h
  exact Sim.bind (Sim.newVar t (RV.of_pure hp)) (fun r a a' hr ha => Sim.pure fun s hs => .ptr (ha.mono hs))

theorem Sim.box (t : TypeId) {v v' : Value} (h : RV p v v') : Sim P p RV (Instr.box t v) (Instr.box t v') := by
  unfold Instr.box
  exact Sim.bind (Sim.newVar t h) (fun r a a' hr ha => Sim.pure fun s hs => .ptr (ha.mono hs))

theorem Sim.loadAt (t : TypeId) {v v' : Value} (h : RV p v v') : Sim P p RV (Instr.loadAt t v) (Instr.loadAt t v') := by
  unfold Instr.loadAt
  exact Sim.bind (Sim.sureAddr h) (fun q a a' hq ha => Sim.loadVar t ha)

theorem Sim.storeAt (t : TypeId) {v v' u u' : Value} (h : RV p v v') (hu : RV p u u') : Sim P p (fun _ _ _ => True) (Instr.storeAt t v u) (Instr.storeAt t v' u') := by
  unfold Instr.storeAt
  exact Sim.bind (Sim.sureAddr h) (fun q a a' hq ha => Sim.storeVar t ha (hu.mono hq))

theorem Sim.bindHalt {α γ δ : Type} {R : Ph → γ → δ → Prop} {t0 : Sem α} {k0 : α → Sem γ} {t : Sem δ} (hn : ∀ h, runC P t0 h = none) : Sim P p R (t0 >>= k0) t := by
  refine Sim.none_ fun h => ?_
  have := runC_bind P t0 k0 h
  rw [hn h] at this
  exact this

theorem runC_bind_none {β γ : Type} (t : Sem β) (f : β → Sem γ) (h : CH) (hf : ∀ x h', runC P (f x) h' = none) : runC P (t >>= f) h = none := by
  refine (runC_bind P t f h).trans ?_
  cases runC P t h with
  | none => rfl
  | some x => exact hf _ _

theorem runC_runtimePanic {α : Type} (e : RuntimeError) (h : CH) : runC P (runtimePanic e : Sem α) h = none := by
  cases e with
  | typeAssertion i c a m => exact runC_bind_none _ _ _ fun x h' => runC_bind_none _ _ _ fun y h2 => runC_bind_none _ _ _ fun z h3 => rfl
  | panicNil => exact runC_bind_none _ _ _ fun x h' => runC_bind_none _ _ _ fun y h2 => runC_bind_none _ _ _ fun z h3 => rfl
  | _ => rfl

theorem runC_bounds {α : Type} (k : IntKind) (x y : Int) (c : BoundsCode) (h : CH) : runC P (boundsPanic k x y c : Sem α) h = none := by
  unfold boundsPanic
  dsimp only
  split
  · exact runC_bind_none _ _ _ fun s h' => runC_runtimePanic _ _
  · exact runC_bind_none _ _ _ fun s h' => runC_runtimePanic _ _

theorem Sim.asIntOf {v v' : Value} (h : RV p v v') : Sim P p (fun _ x y => y = x ∧ v = .int x.1 x.2 ∧ v' = v) (asIntOf v) (asIntOf v') := by
  cases h with
  | int k n => exact Sim.pure fun _ _ => ⟨rfl, rfl, rfl⟩
  | _ => exact Sim.halt

theorem runC_partAt {a : Addr} (hs : a.spot = none) (c b : Nat) (h : CH) : runC P (partAt a c b) h = none := by
  unfold partAt
  refine (runC_bind P _ _ h).trans ?_
  have : runC P (byteOf a) h = none := by
    unfold byteOf
    rw [hs]
    rfl
  rw [this]
  rfl

theorem Sim.fieldPlace {a a' : Addr} (ha : RA p a a') (f : Field) : Sim P p RA (fieldPlace a f) (fieldPlace a' f) := by
  unfold Go.fieldPlace
  refine Sim.bind (Sim.sizeOf _) (fun q n m hq h => ?_)
  obtain ⟨rfl, _⟩ := h
  refine Sim.ite (fun _ => Sim.none_ (runC_partAt (by cases ha; rfl) _ _)) (fun _ => Sim.pure fun r hr => ((ha.mono hq).mono hr).add _)

theorem Sim.fieldAt (s : TypeId) {v v' : Value} (h : RV p v v') (i : Nat) : Sim P p RV (Instr.fieldAt s v i) (Instr.fieldAt s v' i) := by
  unfold Instr.fieldAt
  refine Sim.bind (Sim.underlying s) (fun q d d' hq hd => ?_)
  obtain ⟨rfl, _⟩ := hd
  cases d' with
  | struct fs =>
    simp only
    cases fs[i]? with
    | none => exact Sim.halt
    | some f =>
      simp only
      exact Sim.bind (Sim.sureAddr (h.mono hq)) (fun r a a' hr ha => Sim.bind (Sim.fieldPlace ha f) (fun s b b' hs hb => Sim.pure fun t ht => .ptr (hb.mono ht)))
  | _ => exact Sim.halt

theorem Sim.indexAt (t : TypeId) {v v' i i' : Value} (h : RV p v v') (hi : RV p i i') : Sim P p RV (Instr.indexAt t v i) (Instr.indexAt t v' i') := by
  unfold Instr.indexAt
  refine Sim.bind (Sim.asIntOf hi) (fun q x x' hq e => ?_)
  obtain ⟨rfl, _, _⟩ := e
  obtain ⟨k, n⟩ := x'
  simp only
  refine Sim.bind (Sim.underlying t) (fun r d d' hr hd => ?_)
  obtain ⟨rfl, hdt⟩ := hd
  have hfin : ∀ {s : Ph} {base base' : Option Addr} (len : Nat) (elem : TypeId), r.le s → (∀ a, base = some a → ∃ a', base' = some a' ∧ RA s a a') → Sim P s RV
      (do
        let tiny := len ≤ 1 && (match ← Go.underlying t with | .array .. => true | _ => false)
        match base with
        | some a =>
          if 0 ≤ n ∧ n < len then Pure.pure (.pointer (some (a.add (n.toNat * (← Go.sizeOf elem)))))
          else if tiny then unsupported (.noEntry "op/indexAddr.an index out of range at an array of length 0 or 1 (ledger 616)")
          else boundsPanic k n len .index
        | none => boundsPanic k n 0 .index)
      (do
        let tiny := len ≤ 1 && (match ← Go.underlying t with | .array .. => true | _ => false)
        match base' with
        | some a =>
          if 0 ≤ n ∧ n < len then Pure.pure (.pointer (some (a.add (n.toNat * (← Go.sizeOf elem)))))
          else if tiny then unsupported (.noEntry "op/indexAddr.an index out of range at an array of length 0 or 1 (ledger 616)")
          else boundsPanic k n len .index
        | none => boundsPanic k n 0 .index) := by
    intro s base base' len elem hs hb
    refine Sim.bind (Sim.underlying t) (fun u d d' hu hd => ?_)
    obtain ⟨rfl, _⟩ := hd
    cases base with
    | none => exact Sim.none_ (runC_bounds _ _ _ _)
    | some a =>
      obtain ⟨a', rfl, ha⟩ := hb a rfl
      simp only
      refine Sim.ite (fun _ => Sim.bind (Sim.sizeOf elem) (fun x n m hx hn => ?_)) (fun _ => ?_)
      · obtain ⟨rfl, _⟩ := hn
        exact Sim.pure fun y hy => .ptr ((((ha.mono hu).mono hx).mono hy).add _)
      · refine Sim.none_ fun h => ?_
        repeat' split
        all_goals first | rfl | exact runC_bounds _ _ _ _ _
  have hv := (h.mono hq).mono hr
  cases d' with
  | array len elem =>
    simp only
    refine Sim.bind (Sim.sureAddr hv) (fun s a a' hs ha => ?_)
    refine Sim.bind (R := fun s x y => x = (some a, len, elem) ∧ y = (some a', len, elem)) (Sim.pure fun _ _ => ⟨rfl, rfl⟩) (fun u x y hu hxy => ?_)
    obtain ⟨rfl, rfl⟩ := hxy
    exact hfin (base := some a) (base' := some a') len elem (Ph.le_trans hs hu) (fun b hb => by cases hb; exact ⟨a', rfl, ha.mono hu⟩)
  | slice elem =>
    cases hv with
    | snil n c =>
      exact Sim.bind (R := fun s x y => x = (none, n, elem) ∧ y = (none, n, elem)) (Sim.pure fun _ _ => ⟨rfl, rfl⟩) (fun s x y hs hxy => by
        obtain ⟨rfl, rfl⟩ := hxy
        exact hfin (base := none) (base' := none) n elem hs (fun b hb => by cases hb))
    | @slice a a' ha n c hc =>
      exact Sim.bind (R := fun s x y => x = (some a, n, elem) ∧ y = (some a', n, elem)) (Sim.pure fun _ _ => ⟨rfl, rfl⟩) (fun s x y hs hxy => by
        obtain ⟨rfl, rfl⟩ := hxy
        exact hfin (base := some a) (base' := some a') n elem hs (fun b hb => by cases hb; exact ⟨a', rfl, ha.mono hs⟩))
    | @sopen b b' m hp o n c c' hc hle he hn =>
      exact Sim.bind (R := fun s x y => x = (some ⟨b, o, none⟩, n, elem) ∧ y = (some ⟨b', o, none⟩, n, elem)) (Sim.pure fun _ _ => ⟨rfl, rfl⟩) (fun s x y hs hxy => by
        obtain ⟨rfl, rfl⟩ := hxy
        exact hfin (base := some ⟨b, o, none⟩) (base' := some ⟨b', o, none⟩) n elem hs (fun b hb => by cases hb; exact ⟨_, rfl, .mk (hs _ _ hp) o⟩))
    | @sempty b b' r hp o o' c hc hle =>
      exact Sim.bind (R := fun s x y => x = (some ⟨b, o, none⟩, 0, elem) ∧ y = (some ⟨b', o', none⟩, 0, elem)) (Sim.pure fun _ _ => ⟨rfl, rfl⟩) (fun s x y hs hxy => by
        obtain ⟨rfl, rfl⟩ := hxy
        refine Sim.bind (Sim.underlying t) (fun u d d' hu hd => ?_)
        refine Sim.none_ fun h => ?_
        simp only
        rw [if_neg (by omega)]
        split
        · rfl
        · exact runC_bounds _ _ _ _ _)
    | _ => exact Sim.bindHalt fun _ => rfl
  | _ => cases hv <;> exact Sim.bindHalt fun _ => rfl

theorem Sim.field (t : TypeId) {v v' : Value} (h : RV p v v') (i : Nat) : Sim P p RV (Instr.field t v i) (Instr.field t v' i) := by
  unfold Instr.field
  refine Sim.bind (Sim.underlying t) (fun q d d' hq hd => ?_)
  obtain ⟨rfl, _⟩ := hd
  cases d' with
  | struct fs =>
    simp only
    cases fs[i]? with
    | none => exact Sim.halt
    | some f =>
      simp only
      cases (h.mono hq) with
      | agg hc => exact Sim.bind (Sim.pure (R := RVa) fun r hr => hc.mono hr) (fun r c c' hr hcc => Sim.part f.type hcc f.offset)
      | _ => exact Sim.bindHalt fun _ => rfl
  | _ => exact Sim.halt

theorem Sim.makeInterface (t : TypeId) {v v' : Value} (h : RV p v v') : Sim P p RV (Instr.makeInterface t v) (Instr.makeInterface t v') := by
  unfold Instr.makeInterface
  refine Sim.bind (Sim.underlying t) (fun q d d' hq hd => ?_)
  obtain ⟨rfl, _⟩ := hd
  cases d' with
  | interface ms => exact Sim.halt
  | _ => exact Sim.pure fun r hr => .iface t ((h.mono hq).mono hr)

theorem Sim.extract {v v' : Value} (h : RV p v v') (i : Nat) : Sim P p RV (Instr.extract v i) (Instr.extract v' i) := by
  cases h with
  | @tuple c c' hl =>
    unfold Instr.extract
    simp only
    cases h0 : c[i]? with
    | none => exact Sim.halt
    | some u =>
      obtain ⟨u', hu', hr⟩ := hl.get (i := i) (v := u) (by rw [Array.getElem?_toList]; exact h0)
      rw [Array.getElem?_toList] at hu'
      rw [hu']
      exact Sim.pure fun q hq => hr.mono hq
  | _ => exact Sim.halt

theorem Sim.arrayAt (t : TypeId) {v v' : Value} (h : RV p v v') (hne : ∀ a c, v ≠ .slice (some a) 0 c) : Sim P p RV (Instr.arrayAt t v) (Instr.arrayAt t v') := by
  unfold Instr.arrayAt
  refine Sim.bind (Sim.underlying t) (fun q d d' hq hd => ?_)
  obtain ⟨rfl, _⟩ := hd
  cases d' with
  | array n elem =>
    simp only
    cases (h.mono hq) with
    | snil m c =>
      simp only
      exact Sim.ite (fun _ => Sim.none_ (runC_runtimePanic _)) (fun _ => Sim.pure fun r hr => .pnil)
    | slice ha m c hc =>
      simp only
      exact Sim.ite (fun _ => Sim.none_ (runC_runtimePanic _)) (fun _ => Sim.pure fun r hr => .ptr (ha.mono hr))
    | sopen hp o m c c' hc hle he hn =>
      simp only
      exact Sim.ite (fun _ => Sim.none_ (runC_runtimePanic _)) (fun _ => Sim.pure fun r hr => .ptr (.mk (hr _ _ hp) o))
    | sempty hp o o' c hc hle => exact absurd rfl (hne _ _)
    | _ => exact Sim.halt
  | _ => exact Sim.halt

theorem Sim.makeMap (t : TypeId) {r r' : Option Value} (hr : r = none ∧ r' = none ∨ ∃ k n, r = some (.int k n) ∧ r' = some (.int k n)) : Sim P p RV (Instr.makeMap t r) (Instr.makeMap t r') := by
  have hnew : ∀ q : Ph, p.le q → Sim P q RV (do Pure.pure (.map (some (← newObj (.map #[] 0))))) (do Pure.pure (.map (some (← newObj (.map #[] 0))))) := fun q _ =>
    Sim.bind (Sim.new (.map 0 .nil)) (fun r x y hr h => Sim.pure fun s hs => .map (hs _ _ h))
  unfold Instr.makeMap
  rcases hr with ⟨rfl, rfl⟩ | ⟨k, n, rfl, rfl⟩
  · exact hnew p (Ph.le_refl _)
  · refine Sim.bind (Sim.underlying t) (fun q d d' hq hd => ?_)
    obtain ⟨rfl, _⟩ := hd
    cases d' with
    | map a b =>
      simp only
      exact Sim.bind (Sim.pure (R := fun _ _ _ => True) fun _ _ => trivial) (fun q1 _ _ hq1 _ => hnew q1 (Ph.le_trans hq hq1))
    | _ => exact Sim.halt
end

end Go.Proofs.YtgjdgincebchhaaGreatDoor.Ev
namespace Go.Proofs.YtgjdgincebchhaaGreatDoor.Ev
open Go Go.RowKit

/-- a term that reads no memory; what it yields is in Q. -/
inductive NM {α : Type} (P : Program) (Q : α → Prop) : Sem α → Prop
  | pure {a : α} (h : Q a) : NM P Q (.pure a)
  | choose (q : Question) {k : Nat → Sem α} (h : ∀ n, NM P Q (k n)) : NM P Q (.choose q k)
  | program {k : Program → Sem α} (h : NM P Q (k P)) : NM P Q (.program k)
  | mark (m : Mark) {k : Sem α} (h : NM P Q k) : NM P Q (.mark m k)
  | halt (h : Halt) : NM P Q (.halt h)

section
variable {P : Program} {p : Ph} {α β : Type} {Q : α → Prop} {R : β → Prop}

theorem NM.bind {t : Sem α} {f : α → Sem β} (h : NM P Q t) (hf : ∀ a, Q a → NM P R (f a)) : NM P R (t >>= f) := by
  show NM P R (t.bind f)
  induction h with
  | pure h => exact hf _ h
  | choose q _ ih => exact .choose q fun n => ih n
  | program _ ih => exact .program ih
  | mark m _ ih => exact .mark m ih
  | halt h => exact .halt h

theorem NM.imp {Q' : α → Prop} {t : Sem α} (h : NM P Q t) (hi : ∀ a, Q a → Q' a) : NM P Q' t := by
  induction h with
  | pure h => exact .pure (hi _ h)
  | choose q _ ih => exact .choose q ih
  | program _ ih => exact .program ih
  | mark m _ ih => exact .mark m ih
  | halt h => exact .halt h

theorem NM.sim {t : Sem α} (h : NM P Q t) : Sim P p (fun _ x y => y = x ∧ Q x) t t := by
  intro q hq hp w hr a0 h1 hc
  have key : ∀ {t : Sem α}, NM P Q t → runC P t hp = some (a0, h1) → h1 = hp ∧ t.run P w = .ok a0 w ∧ Q a0 := by
    intro t ht
    induction ht with
    | pure h => intro hc; simp only [runC, Option.some.injEq, Prod.mk.injEq] at hc; obtain ⟨rfl, rfl⟩ := hc; exact ⟨rfl, rfl, h⟩
    | choose q _ ih =>
      intro hc
      simp only [runC] at hc
      split at hc
      · rename_i hf
        obtain ⟨h1, h2, h3⟩ := ih 0 hc
        exact ⟨h1, by simp only [Sem.run, hf, if_true]; exact h2, h3⟩
      · cases hc
    | program _ ih => intro hc; exact ih hc
    | mark m _ ih => intro hc; exact ih hc
    | halt h => intro hc; cases hc
  obtain ⟨rfl, h2, h3⟩ := key h hc
  exact ⟨q, a0, w, Stp.refl _ _ _, h2, hr, ⟨rfl, h3⟩, fun h => h⟩

theorem NM.prog : NM P (fun x => x = P) Go.program := .program (.pure rfl)
theorem NM.under (t : TypeId) : NM P (fun x => P.underlying t = some x) (Go.underlying t) := by
  unfold Go.underlying
  refine NM.bind NM.prog (fun a h => ?_)
  subst h
  cases hu : a.underlying t with
  | none => exact .halt _
  | some d => exact .pure rfl
theorem NM.info (t : TypeId) : NM P (fun _ => True) (Go.typeInfo t) := by
  unfold Go.typeInfo
  refine NM.bind NM.prog (fun a h => ?_)
  subst h
  cases a.info? t with
  | none => exact .halt _
  | some d => exact .pure trivial
theorem NM.size (t : TypeId) : NM P (fun _ => True) (Go.sizeOf t) := NM.bind (NM.info t) (fun _ _ => .pure trivial)
theorem NM.agg (t : TypeId) : NM P (fun _ => True) (Go.isAgg t) := by
  unfold Go.isAgg
  refine NM.bind (NM.under t) (fun d _ => ?_)
  cases d <;> exact .pure trivial
theorem pureVl_get : ∀ {l : List Value} (_ : pureVl l = true) {i : Nat} {v : Value}, l[i]? = some v → pureV v = true
  | [], _, i, v, h => by simp at h
  | u :: l, hl, 0, v, h => by
    simp only [pureVl, Bool.and_eq_true] at hl
    simp at h
    subst h
    exact hl.1
  | u :: l, hl, i + 1, v, h => by
    simp only [pureVl, Bool.and_eq_true] at hl
    exact pureVl_get hl.2 (by simpa using h)
theorem pureVl_iff {l : List Value} : pureVl l = true ↔ ∀ v ∈ l, pureV v = true := by
  induction l with
  | nil => simp [pureVl]
  | cons v l ih => simp [pureVl, ih]
theorem pureV_agg {c : Array Value} : pureV (.agg c) = pureVl c.toList := by obtain ⟨c⟩ := c; rfl
theorem NM.part (t : TypeId) {c : Array Value} (hc : pureVl c.toList = true) (off : Nat) : NM P (fun v => pureV v = true) (Go.part t c off) := by
  unfold Go.part
  refine NM.bind (NM.agg t) (fun b _ => ?_)
  cases b with
  | true =>
    refine NM.bind (NM.size t) (fun n _ => .pure ?_)
    rw [pureV_agg, Array.toList_extract, pureVl_iff]
    intro v hv
    exact pureVl_iff.1 hc v (List.mem_of_mem_drop (List.mem_of_mem_take hv))
  | false =>
    simp only [Bool.false_eq_true, if_false]
    cases h0 : c[off]? with
    | none => exact .halt _
    | some v => exact .pure (pureVl_get hc (i := off) (by rw [Array.getElem?_toList]; exact h0))

theorem NM.forIn_list {σ : Type} {S : σ → Prop} (f : α → σ → Sem (ForInStep σ)) : ∀ (l : List α) (s : σ), S s → (∀ a s, S s → NM P (fun r => match r with | .done s => S s | .yield s => S s) (f a s)) → NM P S (forIn l s f)
  | [], s, hs, _ => .pure hs
  | a :: l, s, hs, hf => by
    rw [List.forIn_cons]
    refine NM.bind (hf a s hs) (fun r hr => ?_)
    cases r with
    | done s' => exact .pure hr
    | yield s' => exact NM.forIn_list f l s' hr hf

theorem NM.panic {α : Type} {Q : α → Prop} (e : RuntimeError) (hn : match e with | .typeAssertion .. => False | .panicNil => False | _ => True) : NM P Q (runtimePanic e) := by
  unfold runtimePanic
  refine NM.bind NM.prog (fun a _ => ?_)
  cases e with
  | typeAssertion i c a m => exact hn.elim
  | panicNil => exact hn.elim
  | _ => exact .halt _
theorem NM.str (t : TypeId) : NM P (fun _ => True) (Go.typeStr t) := by
  unfold Go.typeStr
  refine NM.bind (NM.info t) (fun a _ => ?_)
  dsimp only
  split
  · exact .halt _
  · exact .pure trivial

theorem NM.stop {α β : Type} {Q : β → Prop} (h : Halt) (f : α → Sem β) : NM P Q ((.halt h : Sem α) >>= f) := NM.bind (Q := fun _ => False) (.halt h) (fun _ h => h.elim)

theorem NM.equalIn : ∀ (d : Nat) (t : TypeId) (x y : Value), pureV x = true → pureV y = true → NM P (fun _ => True) (Op.equalIn d t x y)
  | 0, t, x, y, hx, hy => .halt _
  | d + 1, t, x, y, hx, hy => by
    unfold Op.equalIn
    refine NM.bind (NM.under t) (fun u _ => ?_)
    split <;> (try (simp [pureV] at hx hy; done)) <;> first
      | exact .pure trivial
      | exact .halt _
      | (split <;> first | exact .pure trivial | exact .halt _)
      | skip
    case h_14 a b hu =>
      cases a with
      | some a => simp [pureV] at hx
      | none => exact .pure trivial
    case h_19 ms tx vx ty vy hu =>
      split
      · exact .pure trivial
      · refine NM.bind (NM.info _) (fun i _ => ?_)
        split
        · refine NM.bind NM.prog fun _ _ => NM.bind NM.prog fun _ _ => ?_
          dsimp only
          split
          · exact NM.stop _ _
          · exact NM.bind (NM.str _) fun _ _ => NM.panic _ trivial
        · exact NM.equalIn d tx vx vy (by simpa [pureV] using hx) (by simpa [pureV] using hy)
    case h_20 fields xs ys hu =>
      rw [pureV_agg] at hx hy
      refine NM.bind NM.prog fun _ _ => ?_
      dsimp only
      split
      · exact NM.stop _ _
      · rw [← Array.forIn_toList]
        refine NM.bind (NM.forIn_list (S := fun _ => True) _ _ _ trivial (fun f s _ => ?_)) (fun r _ => ?_)
        · split
          · refine NM.bind (NM.part _ hx _) fun u hu => NM.bind (NM.part _ hy _) fun v hv => NM.bind (NM.equalIn d _ u v hu hv) fun b _ => ?_
            split <;> exact .pure trivial
          · exact .pure trivial
        · split <;> exact .pure trivial
    case h_21 len elem xs ys hu =>
      rw [pureV_agg] at hx hy
      refine NM.bind (NM.size _) fun n _ => ?_
      rw [Std.Legacy.Range.forIn_eq_forIn_range']
      refine NM.bind (NM.forIn_list (S := fun _ => True) _ _ _ trivial (fun f s _ => ?_)) (fun r _ => ?_)
      · refine NM.bind (NM.part _ hx _) fun u hu => NM.bind (NM.part _ hy _) fun v hv => NM.bind (NM.equalIn d _ u v hu hv) fun b _ => ?_
        split <;> exact .pure trivial
      · dsimp only
        split <;> exact .pure trivial

theorem NM.checkKey (e : Bool) : ∀ (d : Nat) (t : TypeId) (x : Value), pureV x = true → NM P (fun _ => True) (Instr.checkKey e d t x)
  | 0, t, x, hx => .halt _
  | d + 1, t, x, hx => by
    unfold Instr.checkKey
    refine NM.bind (NM.under t) (fun u _ => ?_)
    split <;> first
      | exact .pure trivial
      | exact .halt _
      | skip
    case h_1 ms dt x' hu =>
      refine NM.bind (NM.info _) (fun i _ => ?_)
      dsimp only
      split
      · split
        · exact NM.bind (NM.panic (Q := fun _ => True) _ trivial) fun _ _ => NM.bind (NM.str _) fun _ _ => NM.bind (NM.panic (Q := fun _ => True) _ trivial) fun _ _ => NM.checkKey e d dt x' (by simpa [pureV] using hx)
        · exact NM.bind (NM.str _) fun _ _ => NM.bind (NM.panic (Q := fun _ => True) _ trivial) fun _ _ => NM.checkKey e d dt x' (by simpa [pureV] using hx)
      · exact NM.checkKey e d dt x' (by simpa [pureV] using hx)
    case h_2 len elem xs hu =>
      rw [pureV_agg] at hx
      rw [Std.Legacy.Range.forIn_eq_forIn_range']
      refine NM.bind (NM.forIn_list (S := fun _ => True) _ _ _ trivial (fun f s _ => ?_)) (fun r _ => .pure trivial)
      exact NM.bind (NM.size _) fun n _ => NM.bind (NM.part _ hx _) fun u hu => NM.bind (NM.checkKey e d _ u hu) fun _ _ => .pure trivial
    case h_3 fields xs hu =>
      rw [pureV_agg] at hx
      rw [← Array.forIn_toList]
      refine NM.bind (NM.forIn_list (S := fun _ => True) _ _ _ trivial (fun f s _ => ?_)) (fun r _ => .pure trivial)
      split
      · exact NM.bind (NM.part _ hx _) fun u hu => NM.bind (NM.checkKey e d _ u hu) fun _ _ => .pure trivial
      · exact .pure trivial
end

end Go.Proofs.YtgjdgincebchhaaGreatDoor.Ev
namespace Go.Proofs.YtgjdgincebchhaaGreatDoor.Ev
open Go Go.RowKit
noncomputable section

def OptR (p : Ph) : Option (Nat × Value) → Option (Nat × Value) → Prop
  | none, none => True
  | some x, some y => y.1 = x.1 ∧ RV p x.2 y.2
  | _, _ => False

abbrev REa (p : Ph) (x y : Array MapEntry) : Prop := REl p x.toList y.toList

section
variable {P : Program} {p : Ph}

theorem REl.length : ∀ {l l' : List MapEntry}, REl p l l' → l'.length = l.length
  | _, _, .nil => rfl
  | _, _, .cons _ _ _ _ hs => by simp [REl.length hs]
theorem REl.append : ∀ {l l' m m' : List MapEntry}, REl p l l' → REl p m m' → REl p (l ++ m) (l' ++ m')
  | _, _, _, _, .nil, h => h
  | _, _, _, _, .cons k hk n hv hs, h => .cons k hk n hv (hs.append h)
theorem REl.get : ∀ {l l' : List MapEntry}, REl p l l' → ∀ {i : Nat} {e : MapEntry}, l[i]? = some e → ∃ e', l'[i]? = some e' ∧ e'.key = e.key ∧ pureV e.key = true ∧ e'.born = e.born ∧ RV p e.val e'.val
  | _, _, .nil, i, e, h => by simp at h
  | _, _, .cons _ hk _ hv hs, 0, e, h => by
    simp at h
    subst h
    exact ⟨_, rfl, rfl, hk, rfl, hv⟩
  | _, _, .cons _ _ _ _ hs, i + 1, e, h => by
    simp only [List.getElem?_cons_succ] at h ⊢
    exact hs.get h
theorem REl.set : ∀ {l l' : List MapEntry}, REl p l l' → ∀ (i : Nat) {k : Value} (_ : pureV k = true) (n : Nat) {v v' : Value}, RV p v v' → REl p (l.set i ⟨k, v, n⟩) (l'.set i ⟨k, v', n⟩)
  | _, _, .nil, _, _, _, _, _, _, _ => .nil
  | _, _, .cons _ _ _ _ hs, 0, _, hk, n, _, _, hv => .cons _ hk n hv hs
  | _, _, .cons k0 hk0 n0 hv0 hs, i + 1, _, hk, n, _, _, hv => .cons k0 hk0 n0 hv0 (hs.set i hk n hv)
theorem REl.erase : ∀ {l l' : List MapEntry}, REl p l l' → ∀ (i : Nat), REl p (l.eraseIdx i) (l'.eraseIdx i)
  | _, _, .nil, _ => .nil
  | _, _, .cons _ _ _ _ hs, 0 => hs
  | _, _, .cons k0 hk0 n0 hv0 hs, i + 1 => .cons k0 hk0 n0 hv0 (hs.erase i)
theorem REl.filter (f : Nat → Bool) : ∀ {l l' : List MapEntry}, REl p l l' → REl p (l.filter fun e => f e.born) (l'.filter fun e => f e.born)
  | _, _, .nil => .nil
  | _, _, .cons k hk n hv hs => by
    simp only [List.filter_cons]
    split
    · exact .cons k hk n hv (hs.filter f)
    · exact hs.filter f
theorem REl.all (f : Nat → Bool) : ∀ {l l' : List MapEntry}, REl p l l' → (l'.all fun e => f e.born) = (l.all fun e => f e.born)
  | _, _, .nil => rfl
  | _, _, .cons k hk n hv hs => by simp only [List.all_cons, hs.all f]

theorem findNow_rel (kind : TypeDesc) (k : Value) : ∀ {l l' : List MapEntry}, REl p l l' → ∀ i : Nat, (Instr.findNow kind k l i = none ∧ Instr.findNow kind k l' i = none) ∨ ∃ r r', Instr.findNow kind k l i = some r ∧ Instr.findNow kind k l' i = some r' ∧ OptR p r r'
  | _, _, .nil, i => .inr ⟨none, none, rfl, rfl, trivial⟩
  | _, _, .cons k0 hk n hv hs, i => by
    simp only [Instr.findNow]
    cases Instr.sameNow kind k k0 with
    | none => exact .inl ⟨rfl, rfl⟩
    | some b =>
      cases b with
      | true => exact .inr ⟨_, _, rfl, rfl, rfl, hv⟩
      | false => exact findNow_rel kind k hs (i + 1)

theorem OptR.mono {q : Ph} (hq : p.le q) : ∀ {x y : Option (Nat × Value)}, OptR p x y → OptR q x y
  | none, none, _ => trivial
  | some _, some _, h => ⟨h.1, h.2.mono hq⟩
  | none, some _, h => h.elim
  | some _, none, h => h.elim

theorem Sim.findAsking (kt : TypeId) {k : Value} (hk : pureV k = true) : ∀ {l l' : List MapEntry} {q : Ph}, p.le q → REl q l l' → ∀ i : Nat, Sim P q OptR (Instr.findAsking kt k l i) (Instr.findAsking kt k l' i)
  | _, _, q, hq, .nil, i => Sim.pure fun _ _ => trivial
  | _, _, q, hq, .cons k0 hk0 n hv hs, i => by
    unfold Instr.findAsking
    refine Sim.bind (NM.sim (NM.equalIn _ _ _ _ hk hk0)) (fun r x y hr h => ?_)
    obtain ⟨rfl, _⟩ := h
    cases y with
    | true => exact Sim.pure fun s hs' => ⟨rfl, (hv.mono hr).mono hs'⟩
    | false => exact Sim.findAsking kt hk (Ph.le_trans hq hr) (hs.mono hr) (i + 1)

theorem Sim.findKey (kt : TypeId) {k : Value} (hk : pureV k = true) {l l' : List MapEntry} (h : REl p l l') : Sim P p OptR (Instr.findKey kt k l) (Instr.findKey kt k l') := by
  unfold Instr.findKey
  refine Sim.bind (Sim.underlying kt) (fun q d d' hq hd => ?_)
  obtain ⟨rfl, _⟩ := hd
  rcases findNow_rel (p := q) d' k (h.mono hq) 0 with ⟨h1, h2⟩ | ⟨r, r', h1, h2, h3⟩
  · rw [h1, h2]
    exact Sim.findAsking kt hk (Ph.le_refl _) (h.mono hq) 0
  · rw [h1, h2]
    exact Sim.pure fun s hs => h3.mono hs

theorem Sim.lookup {t : TypeId} {m m' k k' : Value} (hm : RV p m m') (hk : RV p k k') (hpk : pureV k = true) (hz : ∀ a e, P.underlying t = some (.map a e) → pureZero P e = true) (ok : Bool) : Sim P p RV (Instr.lookup t m k ok) (Instr.lookup t m' k' ok) := by
  obtain rfl := hk.pure_eq hpk
  unfold Instr.lookup
  refine Sim.bind (Sim.underlying t) (fun q d d' hq hd => ?_)
  obtain ⟨rfl, hu⟩ := hd
  cases d' with
  | map a e =>
    simp only
    have hz := hz a e hu
    have main : ∀ {q1 : Ph} {es es' : Array MapEntry} {K0 K : Array MapEntry → Sem Value}, q.le q1 → REa q1 es es' → (∀ es, K0 es = Instr.checkKey es.isEmpty 10000 a k' >>= fun _ => Instr.findKey a k' es.toList >>= fun r => match r with
        | some (_, v) => (Pure.pure (v, true) : Sem (Value × Bool)) >>= fun x => Pure.pure (if ok then .tuple #[x.1, .bool x.2] else x.1)
        | none => Go.zeroValue e >>= fun z => (Pure.pure (z, false) : Sem (Value × Bool)) >>= fun x => Pure.pure (if ok then .tuple #[x.1, .bool x.2] else x.1)) → K = K0 → Sim P q1 RV (K0 es) (K es') := by
      intro q1 es es' K0 K hq1 hes hK hKK
      subst hKK
      rw [hK, hK]
      have hem : es'.isEmpty = es.isEmpty := by
        have := hes.length
        simp only [Array.length_toList] at this
        simp [Array.isEmpty, this]
      rw [hem]
      refine Sim.bind (NM.sim (NM.checkKey _ _ _ _ hpk)) (fun q2 _ _ hq2 _ => ?_)
      refine Sim.bind (Sim.findKey a hpk (hes.mono hq2)) (fun q3 r r' hq3 hr => ?_)
      have hend : ∀ {q4 : Ph} (b : Bool) {v v' : Value}, RV q4 v v' → Sim P q4 RV ((Pure.pure (v, b) : Sem (Value × Bool)) >>= fun x => Pure.pure (if ok then .tuple #[x.1, .bool x.2] else x.1)) ((Pure.pure (v', b) : Sem (Value × Bool)) >>= fun x => Pure.pure (if ok then .tuple #[x.1, .bool x.2] else x.1)) := by
        intro q4 b v v' hv
        refine Sim.bind (R := fun q x y => x = (v, b) ∧ y = (v', b)) (Sim.pure fun _ _ => ⟨rfl, rfl⟩) (fun q5 x y hq5 hxy => ?_)
        obtain ⟨rfl, rfl⟩ := hxy
        refine Sim.pure fun s hs => ?_
        cases ok with
        | true => exact .tuple (.cons ((hv.mono hq5).mono hs) (.cons (.bool b) .nil))
        | false => exact (hv.mono hq5).mono hs
      cases r with
      | none =>
        cases r' with
        | some _ => exact hr.elim
        | none =>
          refine Sim.bind (Sim.zeroValue hz) (fun q4 z z' hq4 hzz => ?_)
          obtain ⟨rfl, hpz⟩ := hzz
          exact hend false (RV.of_pure hpz)
      | some x =>
        cases r' with
        | none => exact hr.elim
        | some y => exact hend true hr.2
    cases hm.mono hq with
    | mnil => exact Sim.bind (R := fun q x y => REa q x y) (Sim.pure fun _ _ => .nil) (fun q1 es es' hq1 hes => main hq1 hes (fun _ => rfl) rfl)
    | map hp =>
      refine Sim.bind (Sim.getObj hp) (fun q2 o o' hq2 ho => ?_)
      cases ho with
      | map c h => exact Sim.bind (R := fun q x y => REa q x y) (Sim.pure fun s hs => h.mono hs) (fun q1 es es' hq1 hes => main (Ph.le_trans hq2 hq1) hes (fun _ => rfl) rfl)
      | _ => exact Sim.bindHalt fun _ => rfl
    | _ => exact Sim.bindHalt fun _ => rfl
  | _ => exact Sim.halt

theorem REl.modify : ∀ {l l' : List MapEntry}, REl p l l' → ∀ (i : Nat) {k : Value} (_ : pureV k = true) {v v' : Value}, RV p v v' → REl p (l.modify i fun e => { e with key := k, val := v }) (l'.modify i fun e => { e with key := k, val := v' })
  | _, _, .nil, i, _, _, _, _, _ => by simpa using REl.nil
  | _, _, .cons _ _ n _ hs, 0, _, hk, _, _, hv => .cons _ hk n hv hs
  | _, _, .cons k0 hk0 n0 hv0 hs, i + 1, _, hk, _, _, hv => .cons k0 hk0 n0 hv0 (hs.modify i hk hv)
theorem REl.modifyKey : ∀ {l l' : List MapEntry}, REl p l l' → ∀ (i : Nat) {k : Value} (_ : pureV k = true), REl p (l.modify i fun e => { e with key := k }) (l'.modify i fun e => { e with key := k })
  | _, _, .nil, i, _, _ => by simpa using REl.nil
  | _, _, .cons _ _ n hv hs, 0, _, hk => .cons _ hk n hv hs
  | _, _, .cons k0 hk0 n0 hv0 hs, i + 1, _, hk => .cons k0 hk0 n0 hv0 (hs.modifyKey i hk)
theorem REl.modifyVal : ∀ {l l' : List MapEntry}, REl p l l' → ∀ (i : Nat) {v v' : Value}, RV p v v' → REl p (l.modify i fun e => { e with val := v }) (l'.modify i fun e => { e with val := v' })
  | _, _, .nil, i, _, _, _ => by simpa using REl.nil
  | _, _, .cons k0 hk0 n _ hs, 0, _, _, hv => .cons k0 hk0 n hv hs
  | _, _, .cons k0 hk0 n0 hv0 hs, i + 1, _, _, hv => .cons k0 hk0 n0 hv0 (hs.modifyVal i hv)

theorem NM.stays {old new : Value} (ho : pureV old = true) (hn : pureV new = true) : NM P (fun v => pureV v = true) (Instr.keyThatStays old new) := by
  unfold Instr.keyThatStays
  split
  · exact .pure hn
  · refine NM.bind (Q := fun _ => True) (.choose _ fun n => .pure trivial) (fun n _ => .pure ?_)
    split
    · exact hn
    · exact ho

theorem OptR.key {es : Array MapEntry} {es' : Array MapEntry} (h : REa p es es') (i : Nat) (k : Value) : (((es'[i]?).map (·.key)).getD k) = (((es[i]?).map (·.key)).getD k) ∧ (pureV k = true → pureV (((es[i]?).map (·.key)).getD k) = true) ∧ (((es'[i]?).map (fun x => (x.born : Int))).getD 0) = (((es[i]?).map (fun x => (x.born : Int))).getD 0) := by
  have hl := h.length
  simp only [Array.length_toList] at hl
  cases h0 : es[i]? with
  | none =>
    have : es'[i]? = none := by
      rw [Array.getElem?_eq_none_iff] at h0 ⊢
      omega
    rw [this]
    exact ⟨rfl, fun h => h, rfl⟩
  | some e =>
    obtain ⟨e', he', h1, h2, h3, _⟩ := h.get (i := i) (e := e) (by rw [Array.getElem?_toList]; exact h0)
    rw [Array.getElem?_toList] at he'
    rw [he']
    exact ⟨h1, fun _ => h2, congrArg Int.ofNat h3⟩

theorem Sim.mapUpdate {t : TypeId} {m m' k k' v v' : Value} (hm : RV p m m') (hk : RV p k k') (hpk : pureV k = true) (hv : RV p v v') : Sim P p (fun _ _ _ => True) (Instr.mapUpdate t m k v) (Instr.mapUpdate t m' k' v') := by
  obtain rfl := hk.pure_eq hpk
  unfold Instr.mapUpdate
  refine Sim.bind (Sim.underlying t) (fun q d d' hq hd => ?_)
  obtain ⟨rfl, hu⟩ := hd
  cases d' with
  | map a e =>
    simp only
    cases hm.mono hq with
    | mnil => exact Sim.none_ (runC_runtimePanic _)
    | map hp =>
      refine Sim.bind (Sim.getObj hp) (fun q2 o o' hq2 ho => ?_)
      cases ho with
      | map c h =>
        simp only
        refine Sim.bind (NM.sim (NM.checkKey _ _ _ _ hpk)) (fun q3 _ _ hq3 _ => ?_)
        refine Sim.bind (Sim.findKey a hpk (h.mono hq3)) (fun q4 r r' hq4 hr => ?_)
        have hle := Ph.le_trans (Ph.le_trans hq2 hq3) hq4
        have hvq := (hv.mono hq).mono hle
        have hh := (h.mono hq3).mono hq4
        cases r with
        | none =>
          cases r' with
          | some _ => exact hr.elim
          | none =>
            refine Sim.setObj (hle _ _ hp) (.map _ ?_)
            simp only [Array.toList_push]
            exact hh.append (.cons k' hpk c hvq .nil)
        | some x =>
          cases r' with
          | none => exact hr.elim
          | some y =>
            obtain ⟨xi, xv⟩ := x
            obtain ⟨yi, yv⟩ := y
            obtain ⟨h1, _⟩ := hr
            simp only at h1
            subst h1
            obtain ⟨hk1, hk2, _⟩ := OptR.key hh yi k'
            simp only
            rw [hk1]
            refine Sim.bind (NM.sim (NM.stays (hk2 hpk) hpk)) (fun q5 x y hq5 hxy => ?_)
            obtain ⟨rfl, hpy⟩ := hxy
            refine Sim.setObj (hq5 _ _ (hle _ _ hp)) (.map _ ?_)
            simp only [Array.toList_modify]
            exact (hh.mono hq5).modify yi hpy (hvq.mono hq5)
      | _ => exact Sim.halt
    | _ => exact Sim.halt
  | _ => exact Sim.halt

theorem Sim.mapEntry {t : TypeId} {m m' k k' : Value} (hm : RV p m m') (hk : RV p k k') (hpk : pureV k = true) (hz : ∀ a e, P.underlying t = some (.map a e) → pureZero P e = true) : Sim P p RV (Instr.mapEntry t m k) (Instr.mapEntry t m' k') := by
  obtain rfl := hk.pure_eq hpk
  unfold Instr.mapEntry
  refine Sim.bind (Sim.underlying t) (fun q d d' hq hd => ?_)
  obtain ⟨rfl, hu⟩ := hd
  cases d' with
  | map a e =>
    simp only
    have hz := hz a e hu
    cases hm.mono hq with
    | mnil => exact Sim.none_ (runC_runtimePanic _)
    | map hp =>
      refine Sim.bind (Sim.getObj hp) (fun q2 o o' hq2 ho => ?_)
      cases ho with
      | map c h =>
        simp only
        refine Sim.bind (NM.sim (NM.checkKey _ _ _ _ hpk)) (fun q3 _ _ hq3 _ => ?_)
        refine Sim.bind (Sim.findKey a hpk (h.mono hq3)) (fun q4 r r' hq4 hr => ?_)
        have hle := Ph.le_trans (Ph.le_trans hq2 hq3) hq4
        have hh := (h.mono hq3).mono hq4
        cases r with
        | none =>
          cases r' with
          | some _ => exact hr.elim
          | none =>
            refine Sim.bind (Sim.zeroValue hz) (fun q5 z z' hq5 hzz => ?_)
            obtain ⟨rfl, hpz⟩ := hzz
            refine Sim.bind (Sim.setObj (hq5 _ _ (hle _ _ hp)) (.map _ ?_)) (fun q6 _ _ hq6 _ => Sim.pure fun s hs => .tuple (.cons (RV.of_pure hpz) (.cons (.int _ _) .nil)))
            simp only [Array.toList_push]
            exact (hh.mono hq5).append (.cons k' hpk c (RV.of_pure hpz) .nil)
        | some x =>
          cases r' with
          | none => exact hr.elim
          | some y =>
            obtain ⟨xi, xv⟩ := x
            obtain ⟨yi, yv⟩ := y
            obtain ⟨h1, hv⟩ := hr
            simp only at h1
            subst h1
            obtain ⟨hk1, hk2, hk3⟩ := OptR.key hh yi k'
            simp only
            rw [hk1, hk3]
            refine Sim.bind (NM.sim (NM.stays (hk2 hpk) hpk)) (fun q5 x y hq5 hxy => ?_)
            obtain ⟨rfl, hpy⟩ := hxy
            refine Sim.bind (Sim.setObj (hq5 _ _ (hle _ _ hp)) (.map _ ?_)) (fun q6 _ _ hq6 _ => Sim.pure fun s hs => .tuple (.cons (((hv.mono hq5).mono hq6).mono hs) (.cons (.int _ _) .nil)))
            simp only [Array.toList_modify]
            exact (hh.mono hq5).modifyKey yi hpy
      | _ => exact Sim.halt
    | _ => exact Sim.halt
  | _ => exact Sim.halt

theorem REa.findIdx {es es' : Array MapEntry} (h : REa p es es') (f : Nat → Bool) : es'.findIdx? (fun e => f e.born) = es.findIdx? (fun e => f e.born) := by
  obtain ⟨es⟩ := es
  obtain ⟨es'⟩ := es'
  have key : ∀ {l l' : List MapEntry}, REl p l l' → l'.findIdx? (fun e => f e.born) = l.findIdx? (fun e => f e.born) := by
    intro l l' h
    induction h with
    | nil => rfl
    | cons k hk n hv hs ih => simp only [List.findIdx?_cons, ih]
  simpa using key h

theorem Sim.entryStore {t : TypeId} {m m' v v' : Value} {k : IntKind} {n : Int} (hm : RV p m m') (hv : RV p v v') : Sim P p (fun _ _ _ => True) (Instr.entryStore t m (.int k n) v) (Instr.entryStore t m' (.int k n) v') := by
  unfold Instr.entryStore
  cases hm with
  | map hp =>
    refine Sim.bind (Sim.getObj hp) (fun q2 o o' hq2 ho => ?_)
    cases ho with
    | map c h =>
      simp only
      refine Sim.bind (R := fun _ x y => x = n ∧ y = n) (Sim.bind (Sim.asIntOf (.int k n)) (fun q3 x y hq3 hxy => Sim.pure fun _ _ => ?_)) (fun q3 x y hq3 hxy => ?_)
      · obtain ⟨rfl, h2, _⟩ := hxy
        simp only [Value.int.injEq] at h2
        exact ⟨h2.2.symm, h2.2.symm⟩
      · obtain ⟨rfl, rfl⟩ := hxy
        rw [REa.findIdx h (fun b => (b : Int) == y)]
        cases _root_.Array.findIdx? _ _ with
        | none => exact Sim.halt
        | some i =>
          refine Sim.setObj (hq3 _ _ (hq2 _ _ hp)) (.map _ ?_)
          simp only [Array.toList_modify]
          exact (h.mono hq3).modifyVal i ((hv.mono hq2).mono hq3)
    | _ => exact Sim.halt
  | _ => exact Sim.halt
end

end

end Go.Proofs.YtgjdgincebchhaaGreatDoor.Ev

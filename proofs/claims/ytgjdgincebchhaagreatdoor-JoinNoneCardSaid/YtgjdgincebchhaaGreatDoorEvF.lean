/-
  The reckoning over frames that are tries: fewer steps in the kernel. No program in sight.
  One operation, reckoned: the same in fewer steps. No program in sight.
  The reckoning over frames that are tries: what it says, the other one says. No program in sight.
-/
import Derived.Test.YtgjdgincebchhaaGreatDoorEvC
import Derived.Test.YtgjdgincebchhaaGreatDoorEvD
namespace Go.Proofs.YtgjdgincebchhaaGreatDoor.Ev
open Go Go.RowKit
noncomputable section

/-! ### a frame -/
inductive VT where
  | e
  | lf (v : Value)
  | nd (l r : VT)

def VT.left : VT → VT := VT.rec (motive := fun _ => VT) .e (fun _ => .e) (fun l _ _ _ => l)
def VT.right : VT → VT := VT.rec (motive := fun _ => VT) .e (fun _ => .e) (fun _ r _ _ => r)
def VT.get (d : Nat) : VT → Nat → Value :=
  Nat.rec (motive := fun _ => VT → Nat → Value)
    (fun t _ => VT.rec (motive := fun _ => Value) undef (fun v => v) (fun _ _ _ _ => undef) t)
    (fun _ ih t i => VT.rec (motive := fun _ => Value) undef (fun _ => undef)
      (fun l r _ _ => Bool.rec (motive := fun _ => Value) (ih r (Nat.div i (nat_lit 2))) (ih l (Nat.div i (nat_lit 2))) (Nat.beq (Nat.mod i (nat_lit 2)) (nat_lit 0))) t) d
def VT.set (d : Nat) : VT → Nat → Value → VT :=
  Nat.rec (motive := fun _ => VT → Nat → Value → VT)
    (fun _ _ v => .lf v)
    (fun _ ih t i v => Bool.rec (motive := fun _ => VT) (.nd t.left (ih t.right (Nat.div i (nat_lit 2)) v)) (.nd (ih t.left (Nat.div i (nat_lit 2)) v) t.right) (Nat.beq (Nat.mod i (nat_lit 2)) (nat_lit 0))) d

def getF (n d : Nat) (t : VT) (i : Nat) : Value := Bool.rec (motive := fun _ => Value) undef (VT.get d t i) (Nat.ble (Nat.succ i) n)
def setF (n d : Nat) (t : VT) (i : Nat) (v : Value) : VT := Bool.rec (motive := fun _ => VT) t (VT.set d t i v) (Nat.ble (Nat.succ i) n)
def viewT (n d : Nat) (t : VT) : List Value := (List.range n).map (VT.get d t)
def putT2 (n d : Nat) (t : VT) (dst : Option Nat) (v : Value) : VT := match dst with
  | some i => setF n d t i v
  | none => t
def ofL (d : Nat) : List Value → Nat → VT → VT
  | [], _, t => t
  | v :: l, i, t => ofL d l (i + 1) (VT.set d t i v)

theorem VT.get_e (d i : Nat) : VT.get d .e i = undef := by cases d <;> rfl

theorem VT.get_succ (d : Nat) (t : VT) (i : Nat) : VT.get (d + 1) t i = if i % 2 = 0 then VT.get d t.left (i / 2) else VT.get d t.right (i / 2) := by
  by_cases h : i % 2 = 0
  · rw [if_pos h]
    have hb : Nat.beq (Nat.mod i 2) 0 = true := by show Nat.beq (i % 2) 0 = true; rw [h]; rfl
    cases t with
    | nd l r =>
      show Bool.rec (motive := fun _ => Value) _ _ (Nat.beq (Nat.mod i 2) 0) = _
      rw [hb]; rfl
    | _ => exact (VT.get_e d _).symm
  · rw [if_neg h]
    have hb : Nat.beq (Nat.mod i 2) 0 = false := by
      cases hc : Nat.beq (Nat.mod i 2) 0 with
      | false => rfl
      | true => exact absurd (Nat.eq_of_beq_eq_true hc) h
    cases t with
    | nd l r =>
      show Bool.rec (motive := fun _ => Value) _ _ (Nat.beq (Nat.mod i 2) 0) = _
      rw [hb]; rfl
    | _ => exact (VT.get_e d _).symm

theorem VT.set_succ (d : Nat) (t : VT) (i : Nat) (v : Value) : VT.set (d + 1) t i v = if i % 2 = 0 then .nd (VT.set d t.left (i / 2) v) t.right else .nd t.left (VT.set d t.right (i / 2) v) := by
  by_cases h : i % 2 = 0
  · rw [if_pos h]
    have hb : Nat.beq (Nat.mod i 2) 0 = true := by show Nat.beq (i % 2) 0 = true; rw [h]; rfl
    show Bool.rec (motive := fun _ => VT) _ _ (Nat.beq (Nat.mod i 2) 0) = _
    rw [hb]; rfl
  · rw [if_neg h]
    have hb : Nat.beq (Nat.mod i 2) 0 = false := by
      cases hc : Nat.beq (Nat.mod i 2) 0 with
      | false => rfl
      | true => exact absurd (Nat.eq_of_beq_eq_true hc) h
    show Bool.rec (motive := fun _ => VT) _ _ (Nat.beq (Nat.mod i 2) 0) = _
    rw [hb]; rfl

theorem VT.get_set : ∀ (d : Nat) (t : VT) (i j : Nat) (v : Value), i < 2 ^ d → j < 2 ^ d → VT.get d (VT.set d t i v) j = if j = i then v else VT.get d t j
  | 0, t, i, j, v, hi, hj => by
    obtain rfl : i = 0 := by omega
    obtain rfl : j = 0 := by omega
    rfl
  | d + 1, t, i, j, v, hi, hj => by
    have hi2 : i / 2 < 2 ^ d := by rw [Nat.pow_succ] at hi; omega
    have hj2 : j / 2 < 2 ^ d := by rw [Nat.pow_succ] at hj; omega
    rw [VT.get_succ d t j, VT.set_succ]
    by_cases hi0 : i % 2 = 0
    · rw [if_pos hi0, VT.get_succ]
      by_cases hj0 : j % 2 = 0
      · rw [if_pos hj0, if_pos hj0]
        show VT.get d (VT.set d t.left (i / 2) v) (j / 2) = _
        rw [VT.get_set d _ _ _ v hi2 hj2]
        by_cases hij : j = i
        · subst hij; simp
        · rw [if_neg hij, if_neg (by omega)]
      · rw [if_neg hj0, if_neg hj0, if_neg (by intro h; subst h; exact hj0 hi0)]
        rfl
    · rw [if_neg hi0, VT.get_succ]
      by_cases hj0 : j % 2 = 0
      · rw [if_pos hj0, if_pos hj0, if_neg (by intro h; subst h; exact hi0 hj0)]
        rfl
      · rw [if_neg hj0, if_neg hj0]
        show VT.get d (VT.set d t.right (i / 2) v) (j / 2) = _
        rw [VT.get_set d _ _ _ v hi2 hj2]
        by_cases hij : j = i
        · subst hij; simp
        · rw [if_neg hij, if_neg (by omega)]

theorem getF_lt {n d i : Nat} (t : VT) (h : i < n) : getF n d t i = VT.get d t i := by
  unfold getF
  rw [show Nat.ble (Nat.succ i) n = true from Nat.ble_eq_true_of_le h]
theorem getF_ge {n d i : Nat} (t : VT) (h : ¬ i < n) : getF n d t i = undef := by
  unfold getF
  have : Nat.ble (Nat.succ i) n = false := by
    cases hc : Nat.ble (Nat.succ i) n with
    | false => rfl
    | true => exact absurd (Nat.le_of_ble_eq_true hc) h
  rw [this]
theorem setF_lt {n d i : Nat} (t : VT) (v : Value) (h : i < n) : setF n d t i v = VT.set d t i v := by
  unfold setF
  rw [show Nat.ble (Nat.succ i) n = true from Nat.ble_eq_true_of_le h]
theorem setF_ge {n d i : Nat} (t : VT) (v : Value) (h : ¬ i < n) : setF n d t i v = t := by
  unfold setF
  have : Nat.ble (Nat.succ i) n = false := by
    cases hc : Nat.ble (Nat.succ i) n with
    | false => rfl
    | true => exact absurd (Nat.le_of_ble_eq_true hc) h
  rw [this]

theorem nth_get : ∀ (l : List Value) (i : Nat), nth l i = (l[i]?).getD undef
  | [], i => by cases i <;> rfl
  | _ :: _, 0 => rfl
  | _ :: l, i + 1 => by
    rw [List.getElem?_cons_succ]
    exact nth_get l i

theorem viewT_length (n d : Nat) (t : VT) : (viewT n d t).length = n := by simp [viewT]
theorem viewT_get (n d : Nat) (t : VT) (i : Nat) : (viewT n d t)[i]? = if i < n then some (VT.get d t i) else none := by
  unfold viewT
  rw [List.getElem?_map]
  by_cases h : i < n
  · rw [if_pos h, List.getElem?_range h]; rfl
  · rw [if_neg h, List.getElem?_eq_none (by simpa using h)]; rfl
theorem nth_view (n d : Nat) (t : VT) (i : Nat) : nth (viewT n d t) i = getF n d t i := by
  rw [nth_get, viewT_get]
  by_cases h : i < n
  · rw [if_pos h, getF_lt t h]; rfl
  · rw [if_neg h, getF_ge t h]; rfl
theorem view_set {n d : Nat} (hn : n ≤ 2 ^ d) (t : VT) (i : Nat) (v : Value) : viewT n d (setF n d t i v) = (viewT n d t).set i v := by
  apply List.ext_getElem?
  intro j
  rw [viewT_get, List.getElem?_set, viewT_get, viewT_length]
  by_cases hj : j < n
  · simp only [if_pos hj]
    by_cases hi : i < n
    · rw [setF_lt t v hi, VT.get_set d t i j v (by omega) (by omega)]
      by_cases hij : i = j
      · subst hij; simp [hi]
      · rw [if_neg (by omega), if_neg hij]
    · rw [setF_ge t v hi]
      rw [if_neg (by omega)]
  · simp only [if_neg hj]
    by_cases hij : i = j
    · subst hij; simp [hj]
    · rw [if_neg hij]
theorem view_put {n d : Nat} (hn : n ≤ 2 ^ d) (t : VT) (dst : Option Nat) (v : Value) : viewT n d (putT2 n d t dst v) = putT (viewT n d t) dst v := by
  cases dst with
  | none => rfl
  | some i => exact view_set hn t i v

theorem ofL_get {n d : Nat} (hn : n ≤ 2 ^ d) : ∀ (l : List Value) (i : Nat) (t : VT) (j : Nat), i + l.length ≤ n → j < n → VT.get d (ofL d l i t) j = if i ≤ j ∧ j < i + l.length then nth l (j - i) else VT.get d t j
  | [], i, t, j, _, _ => by
    rw [if_neg (by simp only [List.length_nil]; omega)]
    rfl
  | v :: l, i, t, j, hl, hj => by
    simp only [List.length_cons] at hl
    unfold ofL
    rw [ofL_get hn l (i + 1) _ j (by omega) hj, VT.get_set d t i j v (by omega) (by omega)]
    simp only [List.length_cons]
    by_cases h1 : j = i
    · subst h1
      rw [if_neg (by omega), if_pos rfl, if_pos (by omega), Nat.sub_self]
      rfl
    · by_cases h2 : i + 1 ≤ j ∧ j < i + 1 + l.length
      · rw [if_pos h2, if_pos (by omega)]
        obtain ⟨k, rfl⟩ : ∃ k, j = i + 1 + k := ⟨j - (i + 1), by omega⟩
        rw [show i + 1 + k - (i + 1) = k by omega, show i + 1 + k - i = k + 1 by omega]
        rfl
      · rw [if_neg h2, if_neg h1, if_neg (by omega)]

theorem view_ofL {d : Nat} (l : List Value) (k : Nat) (hn : l.length + k ≤ 2 ^ d) : viewT (l.length + k) d (ofL d l 0 .e) = l ++ List.replicate k undef := by
  apply List.ext_getElem?
  intro j
  rw [viewT_get, List.getElem?_append, List.getElem?_replicate]
  by_cases h1 : j < l.length
  · rw [if_pos (by omega), if_pos h1, ofL_get hn l 0 .e j (by omega) (by omega), if_pos (by omega), Nat.sub_zero, nth_get, List.getElem?_eq_getElem h1]
    rfl
  · rw [if_neg h1]
    by_cases h2 : j < l.length + k
    · rw [if_pos h2, if_pos (by omega), ofL_get hn l 0 .e j (by omega) h2, if_neg (by omega), VT.get_e]
    · rw [if_neg h2, if_neg (by omega)]

/-- so deep a trie has room for so many. -/
def depF (n : Nat) : Nat := Nat.succ (Nat.log2 n)
theorem depF_ok (n : Nat) : n ≤ 2 ^ depF n := Nat.le_of_lt Nat.lt_log2_self

/-! ### operands -/
def evO2 (n d : Nat) (t : VT) : Operand → Value
  | .tmp i => getF n d t i
  | .const v => v
  | .global g => if g < NG then .pointer (some ⟨g, 0, none⟩) else undef
  | .func f => .func (.func f) #[] #[]
def evM2 (n d : Nat) (t : VT) (L : List Nat) : Operand → Value
  | .tmp i => if L.contains i then getF n d t i else undef
  | x => evO2 n d t x
theorem evO2_eq (n d : Nat) (t : VT) : evO2 n d t = evO (viewT n d t) := by
  funext x
  cases x with
  | tmp i => exact (nth_view n d t i).symm
  | _ => rfl
theorem evM2_eq (n d : Nat) (t : VT) (L : List Nat) : evM2 n d t L = evM (viewT n d t) L := by
  funext x
  cases x with
  | tmp i =>
    show (if L.contains i then getF n d t i else undef) = if L.contains i then nth (viewT n d t) i else undef
    rw [nth_view]
  | const v => rfl
  | global g => rfl
  | func f => rfl

/-! ### results -/
def resF (g : Nat → Value) : ResultVar → Sem Value
  | .tmp t => Pure.pure (g t)
  | .cell a t => do loadVar t (← asAddr (g a))
def results2 (fn : Func) (g : Nat → Value) : Sem Value := fn.results.mapM (resF g) >>= fun vs => Pure.pure (if h : vs.size = 1 then vs[0] else .tuple vs)
theorem results2_eq (fn : Func) (n d : Nat) (t : VT) : results2 fn (getF n d t) = results fn (viewT n d t).toArray := by
  rw [results_eq]
  unfold results2
  congr 2
  funext x
  have hg : ∀ i, (viewT n d t).toArray.getD i undef = getF n d t i := fun i => by
    rw [Array.getD_eq_getD_getElem?, List.getElem?_toArray, ← nth_get, nth_view]
  cases x with
  | tmp i => show _ = Pure.pure ((viewT n d t).toArray.getD i undef); rw [hg]; rfl
  | cell a ty => show _ = (do loadVar ty (← asAddr ((viewT n d t).toArray.getD a undef))); rw [hg]; rfl

end

end Go.Proofs.YtgjdgincebchhaaGreatDoor.Ev
namespace Go.Proofs.YtgjdgincebchhaaGreatDoor.Ev
open Go Go.RowKit
noncomputable section

/-- how an operation is reckoned: not here; without memory; over memory. -/
inductive Fx where
  | no
  | pur (s : Sem Next)
  | mem (s : Sem Next)

abbrev Arm := Program → (Operand → Value) → TypeId → Fx

def gate (b : Bool) (x : Fx) : Fx := Bool.rec (motive := fun _ => Fx) .no x b
def vN (s : Sem Value) : Sem Next := do pure (.value (← s))
def uN (s : Sem Unit) : Sem Next := do s; pure .skip

def aNo : Arm := fun _ _ _ => .no
def aMove (x : Operand) : Arm := fun _ ρ _ => gate (okX x) (.mem (Pure.pure (.value (ρ x))))
def aPick (c a b : Operand) : Arm := fun _ ρ _ => gate (okX c && okX a && okX b) (.mem (do Pure.pure (.value (if ← asBool (ρ c) then ρ a else ρ b))))
def aAlloc (t : TypeId) : Arm := fun P _ _ => gate (pureZero P t) (.mem (vN (Instr.alloc t true (.tuple #[]))))
def aBox (t : TypeId) (x : Operand) : Arm := fun _ ρ _ => gate (okX x) (.mem (vN (Instr.box t (ρ x))))
def aBuild (t : TypeId) (parts : Array (Nat × Operand)) : Arm := fun P ρ _ => gate (parts.toList.all (fun x => okX x.2) && pureZero P t && okBuild P t) (.mem (vN (Instr.build t (parts.map fun (i, x) => (i, ρ x)))))
def aLoad (t : TypeId) (a : Operand) : Arm := fun _ ρ _ => gate (okX a) (.mem (vN (Instr.loadAt t (ρ a))))
def aStore (t : TypeId) (a v : Operand) : Arm := fun _ ρ _ => gate (okX a && okX v) (.mem (uN (Instr.storeAt t (ρ a) (ρ v))))
def isAt : Value → Bool
  | .pointer (some _) => true
  | _ => false
def aNil (x : Operand) : Arm := fun _ ρ _ => gate (okX x && isAt (ρ x)) (.mem (Pure.pure (.value (ρ x))))
def aBin (op : BinOp) (t : TypeId) (x y : Operand) (_ : TypeId) : Arm := fun _ ρ _ => gate (okX x && okX y && pureV (ρ x) && pureV (ρ y)) (.pur (vN (do eqGuard op t x y (ρ x) (ρ y); binOp op t (ρ x) (ρ y))))
def aUn (op : UnOp) (_ : TypeId) (x : Operand) : Arm := fun _ ρ _ => gate (okX x && pureV (ρ x)) (.pur (vN (Op.unary op (ρ x))))
def aIface (t : TypeId) (x : Operand) : Arm := fun _ ρ _ => gate (okX x) (.mem (vN (Instr.makeInterface t (ρ x))))
def aFieldAddr (t : TypeId) (x : Operand) (f : Nat) : Arm := fun _ ρ _ => gate (okX x) (.mem (vN (Instr.fieldAt t (ρ x) f)))
def aField (t : TypeId) (x : Operand) (f : Nat) : Arm := fun _ ρ _ => gate (okX x) (.mem (vN (Instr.field t (ρ x) f)))
def aIndexAddr (t : TypeId) (x i : Operand) : Arm := fun _ ρ _ => gate (okX x && okX i) (.mem (vN (Instr.indexAt t (ρ x) (ρ i))))
def aIndex (t : TypeId) (x i : Operand) : Arm := fun _ ρ _ => gate (okX x && okX i && pureV (ρ i)) (.mem (vN (Instr.index t (ρ x) (ρ i))))
def aExtract (t : Operand) (i : Nat) : Arm := fun _ ρ _ => gate (okX t) (.mem (vN (Instr.extract (ρ t) i)))
def aNext (it : Operand) (s : Bool) : Arm := fun _ ρ ty => gate (okX it) (.mem (vN (Instr.next (ρ it) s ty)))
def aCall (c : Call) : Arm := match c with
  | { callee := .builtin .len, args, argTypes } => fun _ ρ ty => gate (args.toList.all okX) (.mem (vN (Builtin.len_ argTypes ty (args.map ρ))))
  | _ => aNo

def fx : Op → Arm := Op.rec (motive := fun _ => Arm)
  (fun x => aMove x) (fun x => aMove x) (fun c a b => aPick c a b) (fun t => aAlloc t) (fun t x => aBox t x) (fun t p => aBuild t p) (fun _ _ _ => aNo) (fun _ _ _ _ => aNo)
  (fun t a => aLoad t a) (fun t a v => aStore t a v) (fun _ => aNo) (fun _ => aNo) (fun x => aNil x) (fun o t x y yt => aBin o t x y yt) (fun o t x => aUn o t x) (fun _ _ _ => aNo) (fun _ _ => aNo)
  (fun t x => aIface t x) (fun _ _ _ => aNo) (fun _ _ => aNo) (fun _ _ => aNo) (fun _ _ _ => aNo) (fun _ _ _ _ _ => aNo) (fun t x f => aFieldAddr t x f) (fun t x f => aField t x f) (fun t x i => aIndexAddr t x i)
  (fun t x i => aIndex t x i) (fun _ _ _ _ => aNo) (fun _ _ _ _ => aNo) (fun _ _ _ => aNo) (fun _ _ _ _ => aNo) (fun _ _ => aNo) (fun it s => aNext it s) (fun _ => aNo) (fun _ _ _ _ => aNo)
  (fun t i => aExtract t i) (fun c => aCall c) (fun _ => aNo) (fun _ => aNo) (fun _ => aNo) (fun _ _ => aNo) (fun _ _ _ => aNo) (fun _ _ => aNo)

section
variable {P : Program} {ρ : Operand → Value} {rec : Req → Option Res}

def FxOk (P : Program) (ρ : Operand → Value) (o : Oper) : Fx → Prop
  | .no => True
  | .pur s => okPure P ρ o = true ∧ execOp ρ o = s ∧ isCall o = false ∧ ∀ c, o.op ≠ .defer c
  | .mem s => okPure P ρ o = false ∧ okOp P ρ o = true ∧ execOp ρ o = s ∧ isCall o = false ∧ ∀ c, o.op ≠ .defer c

theorem FxOk.gate {o : Oper} {b : Bool} {x : Fx} (h : b = true → FxOk P ρ o x) : FxOk P ρ o (gate b x) := by
  cases b with
  | false => exact trivial
  | true => exact h rfl

theorem fx_ok (o : Oper) : FxOk P ρ o (fx o.op P ρ o.type) := by
  obtain ⟨dst, op, ty, pos, after, guard⟩ := o
  cases op with
  | move x => exact FxOk.gate fun h => ⟨rfl, h, rfl, rfl, fun _ h => by cases h⟩
  | assign x => exact FxOk.gate fun h => ⟨rfl, h, rfl, rfl, fun _ h => by cases h⟩
  | pick c a b => exact FxOk.gate fun h => ⟨rfl, h, rfl, rfl, fun _ h => by cases h⟩
  | alloc t => exact FxOk.gate fun h => ⟨rfl, h, rfl, rfl, fun _ h => by cases h⟩
  | box t x => exact FxOk.gate fun h => ⟨rfl, h, rfl, rfl, fun _ h => by cases h⟩
  | build t p => exact FxOk.gate fun h => ⟨rfl, h, rfl, rfl, fun _ h => by cases h⟩
  | load t a => exact FxOk.gate fun h => ⟨rfl, h, rfl, rfl, fun _ h => by cases h⟩
  | store t a v => exact FxOk.gate fun h => ⟨rfl, h, rfl, rfl, fun _ h => by cases h⟩
  | nilCheck x =>
    refine FxOk.gate fun h => ?_
    simp only [Bool.and_eq_true] at h
    obtain ⟨h1, h2⟩ := h
    have hx : ∃ a, ρ x = .pointer (some a) := by
      generalize ρ x = u at h2
      unfold isAt at h2
      split at h2
      · exact ⟨_, rfl⟩
      · cases h2
    obtain ⟨a, ha⟩ := hx
    refine ⟨rfl, ?_, ?_, rfl, fun _ h => by cases h⟩
    · show (okX x && _) = true
      rw [h1, ha]
      rfl
    · unfold execOp
      simp only
      rw [ha]
  | binOp b t x y yt => exact FxOk.gate fun h => ⟨h, rfl, rfl, fun _ h => by cases h⟩
  | unOp u t x => exact FxOk.gate fun h => ⟨h, rfl, rfl, fun _ h => by cases h⟩
  | makeInterface t x => exact FxOk.gate fun h => ⟨rfl, h, rfl, rfl, fun _ h => by cases h⟩
  | fieldAddr t x f => exact FxOk.gate fun h => ⟨rfl, h, rfl, rfl, fun _ h => by cases h⟩
  | field t x f => exact FxOk.gate fun h => ⟨rfl, h, rfl, rfl, fun _ h => by cases h⟩
  | indexAddr t x i => exact FxOk.gate fun h => ⟨rfl, h, rfl, rfl, fun _ h => by cases h⟩
  | index t x i => exact FxOk.gate fun h => ⟨rfl, h, rfl, rfl, fun _ h => by cases h⟩
  | extract t i => exact FxOk.gate fun h => ⟨rfl, h, rfl, rfl, fun _ h => by cases h⟩
  | next it s => exact FxOk.gate fun h => ⟨rfl, h, rfl, rfl, fun _ h => by cases h⟩
  | call c =>
    obtain ⟨callee, args, argTypes⟩ := c
    cases callee with
    | value f => exact trivial
    | invoke r n => exact trivial
    | builtin b =>
      cases b with
      | len => exact FxOk.gate fun h => ⟨rfl, by show (_ && true) = true; rw [Bool.and_true]; exact h, rfl, rfl, fun _ h => by cases h⟩
      | _ => exact trivial
  | _ => exact trivial

def fin (P : Program) (h : CH) : Fx → Option (Value × CH)
  | .pur s => match runP P s with
    | some (.value v) => match pureV v with
      | true => some (v, h)
      | false => none
    | _ => none
  | .mem s => match runC P s h with
    | some (.value v, h') => some (v, h')
    | some (.skip, h') => some (undef, h')
    | _ => none
  | .no => none

theorem fin_eq {o : Oper} {h : CH} {f : Fx} (hf : FxOk P ρ o f) (hne : f ≠ .no) : evOp P ρ h o = fin P h f := by
  cases f with
  | no => exact absurd rfl hne
  | pur s =>
    obtain ⟨h1, h2, _, _⟩ := hf
    unfold evOp fin
    rw [if_pos h1, h2]
    simp only
    cases runP P s with
    | none => rfl
    | some nx =>
      cases nx with
      | value v =>
        simp only
        cases pureV v <;> rfl
      | _ => rfl
  | mem s =>
    obtain ⟨h1, h2, h3, _, _⟩ := hf
    unfold evOp fin
    rw [if_neg (by rw [h1]; simp), if_pos h2, h3]
    simp only
    cases runC P s h with
    | none => rfl
    | some x =>
      obtain ⟨nx, h'⟩ := x
      cases nx <;> rfl

def withDs (ds : List Deferred) : Option (Value × CH) → Option (Value × List Deferred × CH)
  | some (v, h) => some (v, ds, h)
  | none => none

def evOperF (P : Program) (rec : Req → Option Res) (ρ : Operand → Value) (ds : List Deferred) (h : CH) (ro : Option Nat) (o : Oper) : Option (Value × List Deferred × CH) :=
  match fx o.op P ρ o.type with
  | .no => evOper P rec ρ ds h ro o
  | .pur s => withDs ds (fin P h (.pur s))
  | .mem s => withDs ds (fin P h (.mem s))

theorem evOperF_eq (ds : List Deferred) (h : CH) (ro : Option Nat) (o : Oper) : evOperF P rec ρ ds h ro o = evOper P rec ρ ds h ro o := by
  have hf := fx_ok (P := P) (ρ := ρ) o
  unfold evOperF
  have key : ∀ f, FxOk P ρ o f → f ≠ .no → withDs ds (fin P h f) = evOper P rec ρ ds h ro o := by
    intro f hf hne
    have hcall : isCall o = false := by
      cases f with
      | no => exact absurd rfl hne
      | pur s => exact hf.2.2.1
      | mem s => exact hf.2.2.2.1
    have hdef : ∀ c, o.op ≠ .defer c := by
      cases f with
      | no => exact absurd rfl hne
      | pur s => exact hf.2.2.2
      | mem s => exact hf.2.2.2.2
    rw [← fin_eq hf hne]
    unfold evOper
    rw [if_neg (by rw [hcall]; simp)]
    split
    · rename_i c hc
      exact absurd hc (hdef c)
    · cases evOp P ρ h o with
      | none => rfl
      | some x => rfl
  cases hx : fx o.op P ρ o.type with
  | no => rfl
  | pur s =>
    rw [hx] at hf
    exact key _ hf (fun h => by cases h)
  | mem s =>
    rw [hx] at hf
    exact key _ hf (fun h => by cases h)

def evReadF (P : Program) (ρ : Operand → Value) (h : CH) (o : Oper) : Option Value :=
  match fx o.op P ρ o.type with
  | .no => evRead P ρ h o
  | .pur s => match runP P s with
    | some (.value v) => match pureV v with
      | true => some v
      | false => none
    | _ => none
  | .mem s => match runQ P s h with
    | some (.value v) => some v
    | _ => none

theorem evReadF_eq (h : CH) (o : Oper) : evReadF P ρ h o = evRead P ρ h o := by
  have hf := fx_ok (P := P) (ρ := ρ) o
  unfold evReadF
  cases hx : fx o.op P ρ o.type with
  | no => rfl
  | pur s =>
    rw [hx] at hf
    obtain ⟨h1, h2, _, _⟩ := hf
    unfold evRead
    rw [if_pos h1, h2]
    simp only
    cases runP P s with
    | none => rfl
    | some nx =>
      cases nx with
      | value v =>
        simp only
        cases pureV v <;> rfl
      | _ => rfl
  | mem s =>
    rw [hx] at hf
    obtain ⟨h1, h2, h3, _, _⟩ := hf
    unfold evRead
    rw [if_neg (by rw [h1]; simp), if_pos h2, h3]
    rfl
end
end

end Go.Proofs.YtgjdgincebchhaaGreatDoor.Ev
namespace Go.Proofs.YtgjdgincebchhaaGreatDoor.Ev
open Go Go.RowKit
noncomputable section

structure S2 where
  t : VT
  ds : List Deferred
  h : CH
def S2.st (n d : Nat) (s : S2) : St := ⟨viewT n d s.t, s.ds, s.h⟩

inductive Req2 where
  | loop (f : FuncId) (ro : Option Nat) (c : Code) (n d : Nat) (s : S2)
  | call (f : FuncId) (args : List Value) (h : CH)
  | callD (f : FuncId) (args : List Value) (h : CH)

inductive Res2 where
  | code (e : Ex) (s : S2)
  | value (v : Value) (h : CH)

structure Follow (rec2 : Req2 → Option Res2) (rec : Req → Option Res) : Prop where
  loop : ∀ {f : FuncId} {ro : Option Nat} {c : Code} {n d : Nat} {s : S2} {e : Ex} {s' : S2}, n ≤ 2 ^ d → rec2 (.loop f ro c n d s) = some (.code e s') → rec (.loop f ro c (s.st n d)) = some (.code e (s'.st n d))
  call : ∀ {f : FuncId} {args : List Value} {h : CH} {v : Value} {h' : CH}, rec2 (.call f args h) = some (.value v h') → rec (.call f args h) = some (.value v h')
  callD : ∀ {f : FuncId} {args : List Value} {h : CH} {v : Value} {h' : CH}, rec2 (.callD f args h) = some (.value v h') → rec (.callD f args h) = some (.value v h')

def liftR (rec2 : Req2 → Option Res2) : Req → Option Res
  | .loop f ro c s => match rec2 (.loop f ro c s.tm.length (depF s.tm.length) ⟨ofL (depF s.tm.length) s.tm 0 .e, s.ds, s.h⟩) with
    | some (.code e s') => some (.code e (s'.st s.tm.length (depF s.tm.length)))
    | _ => none
  | .call f args h => match rec2 (.call f args h) with
    | some (.value v h') => some (.value v h')
    | _ => none
  | .callD f args h => match rec2 (.callD f args h) with
    | some (.value v h') => some (.value v h')
    | _ => none

/-- what the one says the other says. -/
def Sub (r1 r2 : Req → Option Res) : Prop := ∀ q x, r1 q = some x → r2 q = some x

theorem lift_sub {rec2 : Req2 → Option Res2} {rec : Req → Option Res} (F : Follow rec2 rec) : Sub (liftR rec2) rec := by
  intro q x h
  cases q with
  | loop f ro c s =>
    simp only [liftR] at h
    split at h
    · rename_i e s' hr
      injection h with h
      subst h
      have h1 := F.loop (depF_ok _) hr
      have hs : S2.st s.tm.length (depF s.tm.length) ⟨ofL (depF s.tm.length) s.tm 0 .e, s.ds, s.h⟩ = s := by
        have := view_ofL (d := depF s.tm.length) s.tm 0 (depF_ok _)
        simp only [Nat.add_zero, List.replicate_zero, List.append_nil] at this
        unfold S2.st
        rw [this]
      rw [hs] at h1
      exact h1
    · cases h
  | call f args h0 =>
    simp only [liftR] at h
    split at h
    · rename_i v h' hr
      injection h with h
      subst h
      exact F.call hr
    · cases h
  | callD f args h0 =>
    simp only [liftR] at h
    split at h
    · rename_i v h' hr
      injection h with h
      subst h
      exact F.callD hr
    · cases h

section
variable {P : Program} {r1 r2 : Req → Option Res}

theorem evRound_mono {c1 c2 : Option Nat → Code → St → Option (Ex × St)} (hS : ∀ ro c s y, c1 ro c s = some y → c2 ro c s = some y) {l : Nat} {tmps : List Value} {assign body : Code} {h : CH} {x : Value × CH}
    (he : evRound P c1 l tmps assign body h = some x) : evRound P c2 l tmps assign body h = some x := by
  unfold evRound at he ⊢
  split at he
  · rename_i s1 h1
    rw [hS _ _ _ _ h1]
    simp only
    split at he
    · rename_i u h2 hb
      try rw [hb]
      try simp only
      split at he
      · rename_i e s3 h3
        rw [hS _ _ _ _ h3]
        exact he
      · cases he
    · cases he
  · cases he

theorem evRound_sub (S : Sub r1 r2) {f : FuncId} {l : Nat} {tmps : List Value} {assign body : Code} {h : CH} {x : Value × CH}
    (he : evRound P (fun ro c s => match r1 (.loop f ro c s) with | some (.code e s') => some (e, s') | _ => none) l tmps assign body h = some x) :
    evRound P (fun ro c s => match r2 (.loop f ro c s) with | some (.code e s') => some (e, s') | _ => none) l tmps assign body h = some x := by
  refine evRound_mono (fun ro c s y hy => ?_) he
  split at hy
  · rename_i e s' hr
    rw [S _ _ hr]
    exact hy
  · cases hy

theorem evOper_sub (S : Sub r1 r2) {ρ0 : Operand → Value} {ds : List Deferred} {h : CH} {ro : Option Nat} {o : Oper} {x : Value × List Deferred × CH} (he : evOper P r1 ρ0 ds h ro o = some x) : evOper P r2 ρ0 ds h ro o = some x := by
  unfold evOper at he ⊢
  split at he
  · rename_i hc
    rw [if_pos hc]
    split at he
    · rename_i f args h' ht
      try rw [ht]
      try simp only
      split at he
      · rename_i v h2 hr
        rw [S _ _ hr]
        exact he
      · cases he
    · rename_i l f tmps assign body h' ht
      try rw [ht]
      try simp only
      split at he
      · rename_i v h2 hr
        generalize hE : evRound P _ l tmps.toList assign body h' = E2
        have hE2 : E2 = some (v, h2) := by rw [← hE]; exact evRound_sub S hr
        rw [hE2]
        exact he
      · cases he
    · cases he
  · rename_i hc
    rw [if_neg hc]
    exact he

theorem evDefers_sub (S : Sub r1 r2) : ∀ (ds : List Deferred) {h h' : CH}, evDefers P r1 ds h = some h' → evDefers P r2 ds h = some h'
  | [], h, h', he => he
  | ⟨tg, as⟩ :: ds, h, h', he => by
    unfold evDefers at he ⊢
    split at he
    · exact he
    · rename_i ds' h1 r a' heq
      injection heq with hq1 hq2
      subst hq2
      injection hq1 with hq3 hq4
      subst hq3
      split at he
      · rename_i h2 hr
        try rw [hr]
        exact evDefers_sub S ds he
      · cases he
    · rename_i ds' h1 f cap a' heq
      injection heq with hq1 hq2
      subst hq2
      injection hq1 with hq3 hq4
      subst hq3
      subst hq4
      split at he
      · cases he
      · rename_i hb
        rw [if_neg hb]
        split at he
        · rename_i v h2 hr
          rw [S _ _ hr]
          exact evDefers_sub S ds he
        · cases he
    · cases he
end

section
variable (P : Program) (tab : FuncId → Nat → List (Nat × Bool)) (rec2 : Req2 → Option Res2)

def wantedC2 (n d : Nat) (ops : Array Oper) (t : VT) (o : Oper) : Bool := match o.guard with
  | none => true
  | some (j, want) => match (ops[j]?).bind (·.dst) with
    | some k => (match getF n d t k with | .bool b => b == want | _ => false)
    | none => false

def evOps2 (n d : Nat) (ops : Array Oper) (ro : Option Nat) : List Oper → S2 → Option S2
  | [], s => some s
  | o :: rest, s => match wantedC2 n d ops s.t o with
    | true => match evOperF P (liftR rec2) (evO2 n d s.t) s.ds s.h ro o with
      | some (v, ds, h) => evOps2 n d ops ro rest ⟨putT2 n d s.t o.dst v, ds, h⟩
      | none => none
    | false => evOps2 n d ops ro rest ⟨putT2 n d s.t o.dst undef, s.ds, s.h⟩

structure En2 where
  i : Nat
  fl : Bool
  o : Oper
  wn : Bool
  s : S2
  v : Value
  h1 : CH

def En2.old (n d : Nat) (en : En2) : En := ⟨en.i, en.fl, en.o, en.wn, en.s.st n d, en.v, en.h1⟩
def En2.next (n d : Nat) (en : En2) : S2 := ⟨putT2 n d en.s.t en.o.dst en.v, en.s.ds, en.h1⟩

def readsStay2 (n d m : Nat) (h1 : CH) (acc : List En2) : Bool :=
  acc.all fun r => r.fl || !r.wn || m.testBit r.i || (match evReadF P (evM2 n d r.s.t (opT r.o)) h1 r.o with | some v => eqV r.v v | none => false)

def evOne2 (n d : Nat) (ops : Array Oper) (ro : Option Nat) (la : Option Nat) (bA : Nat) (s : S2) (i : Nat) (fl : Bool) (o : Oper) : Option En2 :=
  if wantedC2 n d ops s.t o then
    if fl then
      if la == some i then
        if isCall o then none else
        match evOp P (evM2 n d s.t (opT o)) ⟨.e, bA⟩ o with
        | some (v, hA) => match hA.get bA with
          | some oA => if decide (hA.n = bA + 1) && (opT o).all (fun k => below bA (getF n d s.t k)) && (s.h.get bA).isNone then some ⟨i, fl, o, true, s, v, s.h.set bA (some oA)⟩ else none
          | none => none
        | none => none
      else match evOperF P (liftR rec2) (evM2 n d s.t (opT o)) s.ds s.h ro o with
        | some (v, _, h1) => some ⟨i, fl, o, true, s, v, h1⟩
        | none => none
    else match evReadF P (evM2 n d s.t (opT o)) s.h o with
      | some v => some ⟨i, fl, o, true, s, v, s.h⟩
      | none => none
  else some ⟨i, fl, o, false, s, undef, s.h⟩

def evDr2 (n d : Nat) (ops : Array Oper) (ro : Option Nat) (ms : List Nat) (la : Option Nat) (bA : Nat) : List (Nat × Bool) → List En2 → S2 → Option S2
  | [], _, s => some s
  | (i, fl) :: rest, acc, s => match ops[i]? with
    | none => none
    | some o => match evOne2 P rec2 n d ops ro la bA s i fl o with
      | none => none
      | some en => if fl && !readsStay2 P n d (ms.getD i 0) en.h1 acc then none else evDr2 n d ops ro ms la bA rest (en :: acc) (en.next n d)

def evDrawn2 (n d : Nat) (ops : Array Oper) (ro : Option Nat) (ord : List (Nat × Bool)) (s : S2) : Option S2 :=
  if decide (ord.length = ops.size) && okOrd ops (ancs ops.toList []) (lateOf (ancs ops.toList []) ord 0) ord 0 0 [] then
    match lateOf (ancs ops.toList []) ord 0 with
    | none => evDr2 P rec2 n d ops ro (ancs ops.toList []) none 0 ord [] s
    | some A => if decide (s.h.n + 1 < 2 ^ D) && ((⟨s.h.t, s.h.n + 1⟩ : CH).get s.h.n).isNone then
        evDr2 P rec2 n d ops ro (ancs ops.toList []) (some A) s.h.n ord [] ⟨s.t, s.ds, ⟨s.h.t, s.h.n + 1⟩⟩
      else none
  else none

abbrev K2 := S2 → Option (Ex × S2)
def cSeq (a b : K2) : K2 := fun s => match a s with
  | some (.normal, s') => b s'
  | r => r
def cCond (n d : Nat) (c : Operand) (x y : K2) : K2 := fun s => match evO2 n d s.t c with
  | .bool true => x s
  | .bool false => y s
  | _ => none
def cBlock (id : Nat) (a : K2) : K2 := fun s => match a s with
  | some (.exit id', s') => if id' = id then some (.normal, s') else some (.exit id', s')
  | r => r
def cLoop (f : FuncId) (ro : Option Nat) (n d : Nat) (c : Code) (a : K2) : K2 := fun s => match a s with
  | some (.normal, s') => match rec2 (.loop f ro (.loop c) n d s') with
    | some (.code e s2) => some (e, s2)
    | _ => none
  | r => r
def cRegion (f : FuncId) (ro : Option Nat) (n d : Nat) (id : Nat) (ops : Array Oper) : Bool → K2
  | true => fun s => (evDrawn2 P rec2 n d ops ro (tab f id) s).map fun s' => (.normal, s')
  | false => fun s => (evOps2 P rec2 n d ops ro ops.toList s).map fun s' => (.normal, s')
def cRange (f : FuncId) (ro : Option Nat) (n d : Nat) (g : Operand) (ps : Array Tmp) (assign body : Code) : K2 := fun s =>
    if okX g then
      match runC P (Instr.enterLoop f (viewT n d s.t).toArray ps assign body ro) s.h with
      | some ((l, mark), h1) =>
        match evO2 n d s.t g with
        | .func (.func f') first cap =>
          if !bodyOk P f' then none else
          match liftR rec2 (.call f' (first.toList ++ [.func (.yield l) #[] #[]] ++ cap.toList) h1) with
          | some (.value _ h3) =>
            match runC P (Instr.endLoop l) h3 with
            | some (none, h4) => some (.normal, ⟨s.t, mark ++ s.ds, h4⟩)
            | some (some .ret, h4) => some (.ret, ⟨s.t, mark ++ s.ds, h4⟩)
            | some (some (.exit id), h4) => some (.exit id, ⟨s.t, mark ++ s.ds, h4⟩)
            | _ => none
          | _ => none
        | _ => none
      | none => none
    else none

def evCode2 (f : FuncId) (ro : Option Nat) (n d : Nat) : Code → K2 := Code.rec (motive := fun _ => K2)
  (fun s => some (.normal, s))
  (fun id ops draw => cRegion P tab rec2 f ro n d id ops draw)
  (fun _ _ a b => cSeq a b)
  (fun c _ _ x y => cCond n d c x y)
  (fun id _ a => cBlock id a)
  (fun c a => cLoop rec2 f ro n d c a)
  (fun g ps assign body _ _ => cRange P rec2 f ro n d g ps assign body)
  (fun id s => some (.exit id, s))
  (fun _ _ _ => none)
  (fun _ s => some (.normal, s))
  (fun _ _ => none)
  (fun s => some (.ret, s))
  (fun _ _ => none)

def evBody2 (f : FuncId) (fn : Func) (c : Code) (args : List Value) (h : CH) (n d : Nat) : Option (Value × CH) :=
  match evCode2 P tab rec2 f none n d c ⟨ofL d args 0 .e, [], h⟩ with
  | some (.exit _, _) => none
  | none => none
  | some (_, s) =>
    match evDefers P (liftR rec2) s.ds s.h with
    | some h' => runC P (results2 fn (getF n d s.t)) h'
    | none => none

def evBodyD2 (f : FuncId) (fn : Func) (c : Code) (args : List Value) (h : CH) (n d : Nat) : Option (Value × CH) :=
  match evCode2 P tab rec2 f none n d c ⟨ofL d args 0 .e, [], h⟩ with
  | some (.exit _, _) => none
  | none => none
  | some (_, s) => if s.ds.isEmpty then runC P (results2 fn (getF n d s.t)) s.h else none

def sizeF (fn : Func) (args : List Value) : Nat := args.length + (fn.ntmps - args.length)

def evStep2 : Req2 → Option Res2
  | .loop f ro c n d s => match evCode2 P tab rec2 f ro n d c s with
    | some (e, s') => some (.code e s')
    | none => none
  | .call f args h => match P.funcs[f]? with
    | none => none
    | some fn => match fn.body with
      | none => none
      | some c => match evBody2 P tab rec2 f fn c args h (sizeF fn args) (depF (sizeF fn args)) with
        | some (v, h') => some (.value v h')
        | none => none
  | .callD f args h => match P.funcs[f]? with
    | none => none
    | some fn => match fn.body with
      | none => none
      | some c => match evBodyD2 P tab rec2 f fn c args h (sizeF fn args) (depF (sizeF fn args)) with
        | some (v, h') => some (.value v h')
        | none => none
end

def ev2 (P : Program) (tab : FuncId → Nat → List (Nat × Bool)) (k : Nat) : Req2 → Option Res2 :=
  Nat.rec (motive := fun _ => Req2 → Option Res2) (fun _ => none) (fun _ ih => evStep2 P tab ih) k

/-! ### what it says, the other one says -/
section
variable {P : Program} {tab : FuncId → Nat → List (Nat × Bool)} {rec2 : Req2 → Option Res2} {rec : Req → Option Res} {n d : Nat}

theorem wanted2_eq (ops : Array Oper) (t : VT) (o : Oper) : wantedC2 n d ops t o = wantedC ops (viewT n d t) o := by
  unfold wantedC2 wantedC
  cases o.guard with
  | none => rfl
  | some g =>
    obtain ⟨j, want⟩ := g
    simp only
    cases (ops[j]?).bind (·.dst) with
    | none => rfl
    | some k =>
      simp only [nth_view]
      cases getF n d t k <;> rfl

theorem evOps2_ok (F : Follow rec2 rec) (hn : n ≤ 2 ^ d) {ops : Array Oper} {ro : Option Nat} : ∀ (l : List Oper) {s s' : S2}, evOps2 P rec2 n d ops ro l s = some s' → evOps P rec ops ro l (s.st n d) = some (s'.st n d)
  | [], s, s', h => by
    simp only [evOps2, Option.some.injEq] at h
    subst h
    rfl
  | o :: l, s, s', h => by
    unfold evOps2 at h
    unfold evOps
    have hw : wantedC ops (s.st n d).tm o = wantedC2 n d ops s.t o := (wanted2_eq ops s.t o).symm
    rw [hw]
    split at h
    · rename_i hwt
      rw [hwt, if_pos rfl]
      split at h
      · rename_i v ds h1 ho
        rw [evO2_eq, evOperF_eq] at ho
        have h2 := evOper_sub (lift_sub F) ho
        have h3 : evOper P rec (evO (s.st n d).tm) (s.st n d).ds (s.st n d).h ro o = some (v, ds, h1) := h2
        rw [h3]
        have h4 := evOps2_ok F hn l h
        unfold S2.st at h4
        simp only [view_put hn] at h4
        exact h4
      · cases h
    · rename_i hwt
      rw [hwt, if_neg (by simp)]
      have h4 := evOps2_ok F hn l h
      unfold S2.st at h4
      simp only [view_put hn] at h4
      exact h4

theorem readsStay2_eq (m : Nat) (h1 : CH) : ∀ acc : List En2, readsStay2 P n d m h1 acc = readsStay P m h1 (acc.map (En2.old n d))
  | [] => rfl
  | r :: acc => by
    unfold readsStay2 readsStay
    rw [List.map_cons, List.all_cons, List.all_cons]
    have ih := readsStay2_eq m h1 acc
    unfold readsStay2 readsStay at ih
    rw [ih, evM2_eq, evReadF_eq]
    rfl

theorem evOne2_ok (F : Follow rec2 rec) {ops : Array Oper} {ro la : Option Nat} {bA : Nat} {s : S2} {i : Nat} {fl : Bool} {o : Oper} {en : En2} (h : evOne2 P rec2 n d ops ro la bA s i fl o = some en) :
    evOne P rec ops ro la bA (s.st n d) i fl o = some (en.old n d) := by
  unfold evOne2 at h
  unfold evOne
  have hw : wantedC ops (s.st n d).tm o = wantedC2 n d ops s.t o := (wanted2_eq ops s.t o).symm
  have hM : evM (s.st n d).tm (opT o) = evM2 n d s.t (opT o) := (evM2_eq n d s.t (opT o)).symm
  have hN : (fun t => below bA (nth (s.st n d).tm t)) = fun k => below bA (getF n d s.t k) := funext fun k => by
    show below bA (nth (viewT n d s.t) k) = _
    rw [nth_view]
  rw [hw, hM, hN]
  show (if wantedC2 n d ops s.t o = true then _ else _) = _
  split at h
  · rename_i hwt
    rw [if_pos hwt]
    split at h
    · rename_i hfl
      rw [if_pos hfl]
      split at h
      · rename_i hla
        rw [if_pos hla]
        split at h
        · cases h
        · rename_i hic
          rw [if_neg hic]
          split at h
          · rename_i v hA ho
            rw [ho]
            simp only
            split at h
            · rename_i oA hg
              rw [hg]
              simp only
              split at h
              · rename_i hc
                injection h with h
                subst h
                have hc' : (decide (hA.n = bA + 1) && (opT o).all (fun k => below bA (getF n d s.t k)) && ((s.st n d).h.get bA).isNone) = true := hc
                rw [if_pos hc']
                rfl
              · cases h
            · cases h
          · cases h
      · rename_i hla
        rw [if_neg hla]
        split at h
        · rename_i v ds1 h1 ho
          rw [evOperF_eq] at ho
          have h2 := evOper_sub (lift_sub F) ho
          have h3 : evOper P rec (evM2 n d s.t (opT o)) (s.st n d).ds (s.st n d).h ro o = some (v, ds1, h1) := h2
          rw [h3]
          injection h with h
          subst h
          rfl
        · cases h
    · rename_i hfl
      rw [if_neg hfl]
      split at h
      · rename_i v hr
        rw [evReadF_eq] at hr
        have h3 : evRead P (evM2 n d s.t (opT o)) (s.st n d).h o = some v := hr
        rw [h3]
        injection h with h
        subst h
        rfl
      · cases h
  · rename_i hwt
    rw [if_neg hwt]
    injection h with h
    subst h
    rfl

theorem evDr2_ok (F : Follow rec2 rec) (hn : n ≤ 2 ^ d) {ops : Array Oper} {ro la : Option Nat} {ms : List Nat} {bA : Nat} : ∀ (l : List (Nat × Bool)) {acc : List En2} {s s' : S2}, evDr2 P rec2 n d ops ro ms la bA l acc s = some s' →
    evDr P rec ops ro ms la bA l (acc.map (En2.old n d)) (s.st n d) = some (s'.st n d)
  | [], acc, s, s', h => by
    simp only [evDr2, Option.some.injEq] at h
    subst h
    rfl
  | (i, fl) :: l, acc, s, s', h => by
    unfold evDr2 at h
    unfold evDr
    split at h
    · cases h
    · rename_i o ho
      rw [ho]
      simp only
      split at h
      · cases h
      · rename_i en he
        rw [evOne2_ok F he]
        simp only
        split at h
        · cases h
        · rename_i hst
          rw [readsStay2_eq] at hst
          have hst' : ¬ (fl && !readsStay P (ms.getD i 0) (En2.old n d en).h1 (acc.map (En2.old n d))) = true := hst
          rw [if_neg hst']
          have h4 := evDr2_ok F hn l h
          have hnx : (en.next n d).st n d = (en.old n d).next := by
            unfold En2.next S2.st En.next En2.old
            simp only [view_put hn]
            rfl
          rw [hnx] at h4
          exact h4

theorem evDrawn2_ok (F : Follow rec2 rec) (hn : n ≤ 2 ^ d) {ops : Array Oper} {ro : Option Nat} {ord : List (Nat × Bool)} {s s' : S2} (h : evDrawn2 P rec2 n d ops ro ord s = some s') :
    evDrawn P rec ops ro ord (s.st n d) = some (s'.st n d) := by
  unfold evDrawn2 at h
  unfold evDrawn
  split at h
  · rename_i hok
    rw [if_pos hok]
    split at h
    · rename_i hl
      rw [hl]
      exact evDr2_ok F hn _ h
    · rename_i A hl
      rw [hl]
      simp only
      split at h
      · rename_i hc
        have hc' : (decide ((s.st n d).h.n + 1 < 2 ^ D) && ((⟨(s.st n d).h.t, (s.st n d).h.n + 1⟩ : CH).get (s.st n d).h.n).isNone) = true := hc
        rw [if_pos hc']
        exact evDr2_ok F hn _ h
      · cases h
  · cases h

theorem evCode2_ok (F : Follow rec2 rec) (hn : n ≤ 2 ^ d) {f : FuncId} {ro : Option Nat} : ∀ (c : Code) {s s' : S2} {e : Ex}, evCode2 P tab rec2 f ro n d c s = some (e, s') → evCode P tab rec f ro c (s.st n d) = some (e, s'.st n d) := by
  intro c
  induction c with
  | skip =>
    intro s s' e h
    have h' : some (Ex.normal, s) = some (e, s') := h
    simp only [Option.some.injEq, Prod.mk.injEq] at h'
    obtain ⟨rfl, rfl⟩ := h'
    rfl
  | region id ops draw =>
    intro s s' e h
    cases draw with
    | true =>
      have h' : ((evDrawn2 P rec2 n d ops ro (tab f id) s).map fun s' => (Ex.normal, s')) = some (e, s') := h
      rw [Option.map_eq_some_iff] at h'
      obtain ⟨s1, h1, h2⟩ := h'
      simp only [Prod.mk.injEq] at h2
      obtain ⟨rfl, rfl⟩ := h2
      show ((evDrawn P rec ops ro (tab f id) (s.st n d)).map fun s' => (Ex.normal, s')) = _
      rw [evDrawn2_ok F hn h1]
      rfl
    | false =>
      have h' : ((evOps2 P rec2 n d ops ro ops.toList s).map fun s' => (Ex.normal, s')) = some (e, s') := h
      rw [Option.map_eq_some_iff] at h'
      obtain ⟨s1, h1, h2⟩ := h'
      simp only [Prod.mk.injEq] at h2
      obtain ⟨rfl, rfl⟩ := h2
      show ((evOps P rec ops ro ops.toList (s.st n d)).map fun s' => (Ex.normal, s')) = _
      rw [evOps2_ok F hn _ h1]
      rfl
  | seq a b iha ihb =>
    intro s s' e h
    have h' : cSeq (evCode2 P tab rec2 f ro n d a) (evCode2 P tab rec2 f ro n d b) s = some (e, s') := h
    unfold cSeq at h'
    unfold evCode
    split at h'
    · rename_i s1 h1
      rw [iha h1]
      exact ihb h'
    · rename_i hne
      rw [iha h']
      cases e with
      | normal => exact absurd h' (hne _)
      | _ => rfl
  | cond c x y ihx ihy =>
    intro s s' e h
    have h' : cCond n d c (evCode2 P tab rec2 f ro n d x) (evCode2 P tab rec2 f ro n d y) s = some (e, s') := h
    unfold cCond at h'
    unfold evCode
    have hc : evO (s.st n d).tm c = evO2 n d s.t c := by rw [evO2_eq]; rfl
    rw [hc]
    split at h'
    · rename_i hb
      rw [hb]
      exact ihx h'
    · rename_i hb
      rw [hb]
      exact ihy h'
    · cases h'
  | block id a ih =>
    intro s s' e h
    have h' : cBlock id (evCode2 P tab rec2 f ro n d a) s = some (e, s') := h
    unfold cBlock at h'
    unfold evCode
    split at h'
    · rename_i id' s1 h1
      rw [ih h1]
      simp only
      split at h'
      · rename_i hid
        rw [if_pos hid]
        simp only [Option.some.injEq, Prod.mk.injEq] at h'
        obtain ⟨rfl, rfl⟩ := h'
        rfl
      · rename_i hid
        rw [if_neg hid]
        simp only [Option.some.injEq, Prod.mk.injEq] at h'
        obtain ⟨rfl, rfl⟩ := h'
        rfl
    · rename_i hne
      rw [ih h']
      cases e with
      | exit i => exact absurd h' (hne _ _)
      | _ => rfl
  | loop a ih =>
    intro s s' e h
    have h' : cLoop rec2 f ro n d a (evCode2 P tab rec2 f ro n d a) s = some (e, s') := h
    unfold cLoop at h'
    unfold evCode
    split at h'
    · rename_i s1 h1
      rw [ih h1]
      simp only
      split at h'
      · rename_i e2 s2 hr
        simp only [Option.some.injEq, Prod.mk.injEq] at h'
        obtain ⟨rfl, rfl⟩ := h'
        rw [F.loop hn hr]
      · cases h'
    · rename_i hne
      rw [ih h']
      cases e with
      | normal => exact absurd h' (hne _)
      | _ => rfl
  | rangeFunc g ps assign body _ _ =>
    intro s s' e h
    have h' : cRange P rec2 f ro n d g ps assign body s = some (e, s') := h
    unfold cRange at h'
    unfold evCode
    have hc : evO (s.st n d).tm g = evO2 n d s.t g := by rw [evO2_eq]; rfl
    rw [hc]
    split at h'
    · rename_i hg
      rw [if_pos hg]
      split at h'
      · rename_i l mark h1 hen
        have hen' : runC P (Instr.enterLoop f (s.st n d).tm.toArray ps assign body ro) (s.st n d).h = some ((l, mark), h1) := hen
        rw [hen']
        simp only
        split at h'
        · rename_i f' first cap hgo
          rw [hgo]
          simp only
          split at h'
          · cases h'
          · rename_i hb
            rw [if_neg hb]
            split at h'
            · rename_i v h3 hr
              rw [lift_sub F _ _ hr]
              simp only
              split at h'
              · rename_i h4 he
                rw [he]
                simp only [Option.some.injEq, Prod.mk.injEq] at h'
                obtain ⟨rfl, rfl⟩ := h'
                rfl
              · rename_i h4 he
                rw [he]
                simp only [Option.some.injEq, Prod.mk.injEq] at h'
                obtain ⟨rfl, rfl⟩ := h'
                rfl
              · rename_i id h4 he
                rw [he]
                simp only [Option.some.injEq, Prod.mk.injEq] at h'
                obtain ⟨rfl, rfl⟩ := h'
                rfl
              · cases h'
            · cases h'
        · cases h'
      · cases h'
    · cases h'
  | exit id =>
    intro s s' e h
    have h' : some (Ex.exit id, s) = some (e, s') := h
    simp only [Option.some.injEq, Prod.mk.injEq] at h'
    obtain ⟨rfl, rfl⟩ := h'
    rfl
  | scope a _ =>
    intro s s' e h
    have h' : (none : Option (Ex × S2)) = some (e, s') := h
    cases h'
  | label l =>
    intro s s' e h
    have h' : some (Ex.normal, s) = some (e, s') := h
    simp only [Option.some.injEq, Prod.mk.injEq] at h'
    obtain ⟨rfl, rfl⟩ := h'
    rfl
  | goto l =>
    intro s s' e h
    have h' : (none : Option (Ex × S2)) = some (e, s') := h
    cases h'
  | ret =>
    intro s s' e h
    have h' : some (Ex.ret, s) = some (e, s') := h
    simp only [Option.some.injEq, Prod.mk.injEq] at h'
    obtain ⟨rfl, rfl⟩ := h'
    rfl

  | refuse y =>
    intro s s' e h
    have h' : (none : Option (Ex × S2)) = some (e, s') := h
    cases h'

theorem body_st (fn : Func) (args : List Value) (h : CH) : S2.st (sizeF fn args) (depF (sizeF fn args)) ⟨ofL (depF (sizeF fn args)) args 0 .e, [], h⟩ = ⟨args ++ List.replicate (fn.ntmps - args.length) undef, [], h⟩ := by
  unfold S2.st
  simp only
  rw [show sizeF fn args = args.length + (fn.ntmps - args.length) from rfl, view_ofL args _ (depF_ok _)]

theorem step2_ok (F : Follow rec2 rec) : Follow (evStep2 P tab rec2) (evStep P tab rec) where
  loop {f ro c n d s e s'} hn h := by
    simp only [evStep2] at h
    simp only [evStep]
    split at h
    · rename_i e1 s1 h1
      simp only [Option.some.injEq, Res2.code.injEq] at h
      obtain ⟨rfl, rfl⟩ := h
      rw [evCode2_ok F hn c h1]
    · cases h
  call {f args h0 v h'} h := by
    simp only [evStep2] at h
    simp only [evStep, evCall]
    split at h
    · cases h
    · rename_i fn hfn
      rw [hfn]
      simp only
      split at h
      · cases h
      · rename_i c hc
        rw [hc]
        simp only
        split at h
        · rename_i v1 h1 hb
          simp only [Option.some.injEq, Res2.value.injEq] at h
          obtain ⟨rfl, rfl⟩ := h
          unfold evBody2 at hb
          split at hb
          · cases hb
          · cases hb
          · rename_i e s hne hcode
            have hcd := evCode2_ok F (depF_ok _) c hcode
            rw [body_st] at hcd
            rw [hcd]
            split at hb
            · rename_i h2 hd
              have hd2 := evDefers_sub (lift_sub F) s.ds hd
              rw [results2_eq] at hb
              cases e with
              | exit id => exact absurd rfl (hne id)
              | normal =>
                show (match (match evDefers P rec s.ds s.h with | some h' => runC P (results fn (viewT _ _ s.t).toArray) h' | none => none) with | some (v, h') => some (Res.value v h') | none => none) = _
                rw [hd2]
                simp only
                rw [hb]
              | ret =>
                show (match (match evDefers P rec s.ds s.h with | some h' => runC P (results fn (viewT _ _ s.t).toArray) h' | none => none) with | some (v, h') => some (Res.value v h') | none => none) = _
                rw [hd2]
                simp only
                rw [hb]
            · cases hb
        · cases h
  callD {f args h0 v h'} h := by
    simp only [evStep2] at h
    simp only [evStep, evCallD]
    split at h
    · cases h
    · rename_i fn hfn
      rw [hfn]
      simp only
      split at h
      · cases h
      · rename_i c hc
        rw [hc]
        simp only
        split at h
        · rename_i v1 h1 hb
          simp only [Option.some.injEq, Res2.value.injEq] at h
          obtain ⟨rfl, rfl⟩ := h
          unfold evBodyD2 at hb
          split at hb
          · cases hb
          · cases hb
          · rename_i e s hne hcode
            have hcd := evCode2_ok F (depF_ok _) c hcode
            rw [body_st] at hcd
            rw [hcd]
            split at hb
            · rename_i hd
              rw [results2_eq] at hb
              have hd2 : (S2.st (sizeF fn args) (depF (sizeF fn args)) s).ds.isEmpty = true := hd
              cases e with
              | exit id => exact absurd rfl (hne id)
              | normal =>
                simp only
                rw [if_pos hd2]
                show (match runC P (results fn (viewT _ _ s.t).toArray) s.h with | some (v, h') => some (Res.value v h') | none => none) = _
                rw [hb]
              | ret =>
                simp only
                rw [if_pos hd2]
                show (match runC P (results fn (viewT _ _ s.t).toArray) s.h with | some (v, h') => some (Res.value v h') | none => none) = _
                rw [hb]
            · cases hb
        · cases h

theorem ev2_ok (P : Program) (tab : FuncId → Nat → List (Nat × Bool)) : ∀ k, Follow (ev2 P tab k) (ev P tab k)
  | 0 => ⟨(fun _ h => by cases h), (fun h => by cases h), (fun h => by cases h)⟩
  | k + 1 => step2_ok (ev2_ok P tab k)
end
end

end Go.Proofs.YtgjdgincebchhaaGreatDoor.Ev

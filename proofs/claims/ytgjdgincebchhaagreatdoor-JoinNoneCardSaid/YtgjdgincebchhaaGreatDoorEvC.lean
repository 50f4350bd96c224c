/-
  Lists that grow: what is reckoned is what happens, whether they grow in place or not. No program in sight.
  append, and a text as bytes: what is reckoned is what happens. No program in sight.
  The reckoning: a call whose arguments are fixed, over the heap that is reckoned with. No program in sight.
  Soundness: one operation. No program in sight.
  Which function a call comes to: what is reckoned is what happens. No program in sight.
  Which function a call comes to, reckoned. No program in sight.
  Regions that draw their order: what is asked of them, and the words of the reckoning. No program in sight.
  The reckoning of a whole call. No program in sight.
-/
import Derived.Test.YtgjdgincebchhaaGreatDoorEvB
import Derived.ArgAppend
import Derived.Laws.CopyRow
import Derived.Orders
namespace Go.Proofs.YtgjdgincebchhaaGreatDoor.Ev
open Go Go.RowKit
noncomputable section

/-- cells of a row. -/
def rowOf (h : CH) (a : Addr) (n : Nat) : Option (List Value) := match a.spot, h.get a.block with
  | none, some (.cells c _ _) => if a.off + n ≤ c.size then some ((c.toList.drop a.off).take n) else none
  | _, _ => none
def putRow (h : CH) (a : Addr) (vs : List Value) : Option CH := match a.spot, h.get a.block with
  | none, some (.cells c t f) => if a.off + vs.length ≤ c.size then some (h.set a.block (some (.cells (c.toList.take a.off ++ vs ++ c.toList.drop (a.off + vs.length)).toArray t f))) else none
  | _, _ => none
def scalar : Value → Bool
  | .agg _ => false
  | .tuple _ => false
  | _ => true

def newOpen (h : CH) (t : TypeId) (vs : List Value) : Option (Addr × CH) := if h.n + 1 < 2 ^ D then some (⟨h.n, 0, none⟩, h.alloc (.cells vs.toArray t)) else none

/-- a growing list's elements have a size, a zero value that fills it, and are not too many. -/
def okElem (P : Program) (e : TypeId) (n : Nat) : Bool := match P.info? e with
  | some i => (match i.zero with | some z => z.cells.size == i.size | none => false) && decide (0 < i.size) && decide (n < 2 ^ 40) && decide (n * i.bytes ≤ 2 ^ 46)
  | none => false

/-- append. -/
def evAppend (P : Program) (argTypes : Array TypeId) (args : List Value) (h : CH) : Option (Value × CH) :=
  match argTypes.toList, args with
  | [st, xt], [.slice base sLen sCap, .slice xb n _] =>
    if st = xt then
    match P.underlying st with
    | some (.slice e) =>
      let size := P.cellsOf e
      if okElem P e (sLen + n) then
        match xb with
        | none => none
        | some a0 =>
        match rowOf h a0 (n * size) with
        | none => none
        | some new =>
          if !(new.all scalar) || n = 0 then none else
          match base with
          | none => if sLen = 0 ∧ sCap = 0 then (newOpen h e new).map fun r => (.slice (some r.1) n OPEN, r.2) else none
          | some a =>
            if sCap < HALF then
              if sLen + n ≤ sCap then (putRow h (a.add (sLen * size)) new).map fun h' => (.slice base (sLen + n) sCap, h')
              else match rowOf h a (sLen * size) with
                | some old => (newOpen h e (old ++ new)).map fun r => (.slice (some r.1) (sLen + n) OPEN, r.2)
                | none => none
            else if sCap = OPEN ∧ a.off = 0 then
              match h.get a.block with
              | some (.cells c t _) =>
                if c.size = sLen * size ∧ t = e then (newOpen (h.set a.block none) e (c.toList ++ new)).map fun r => (.slice (some r.1) (sLen + n) OPEN, r.2)
                else if t = e ∧ sLen ≠ 0 ∧ (sLen + n) * size ≤ c.size then (putRow h (a.add (sLen * size)) new).map fun h' => (.slice base (sLen + n) sCap, h')
                else none
              | _ => none
            else none
      else none
    | _ => none
    else none
  | _, _ => none

/-- a text as bytes. -/
def evBytes (P : Program) (src dst : TypeId) (x : Value) (h : CH) : Option (Value × CH) :=
  match P.underlying src, P.underlying dst, x with
  | some .string, some (.slice e), .string s =>
    match P.underlying e with
    | some (.int .u8) => if P.cellsOf e ≠ 1 then none else (newOpen h e (s.data.toList.map fun b => .int .u8 b.toNat)).map fun r => (.slice (some r.1) s.size OPEN, r.2)
    | _ => none
  | _, _, _ => none


section
variable {P : Program} {p : Ph} {h : CH} {w : World}

theorem rowOf_inv {a : Addr} {n : Nat} {vs : List Value} (hr : rowOf h a n = some vs) : a.spot = none ∧ ∃ c t f, h.get a.block = some (.cells c t f) ∧ a.off + n ≤ c.size ∧ vs = (c.toList.drop a.off).take n := by
  unfold rowOf at hr
  split at hr
  · rename_i c t f hs hg
    split at hr
    · injection hr with hr
      exact ⟨hs, c, t, f, hg, ‹_›, hr.symm⟩
    · cases hr
  · cases hr

theorem row_run (hh : RH P p h w) {a a' : Addr} (ha : RA p a a') {n : Nat} {vs : List Value} (hr : rowOf h a n = some vs) :
    ∃ vs', RVl p vs vs' ∧ vs.length = n ∧ vs'.length = n ∧ ∀ j u, vs'[j]? = some u → w.cell? (a'.add j) = some u := by
  obtain ⟨_, c, t, f, hg, hle, rfl⟩ := rowOf_inv hr
  cases ha with
  | @mk b b' r hp o =>
    obtain ⟨o', hw, ho⟩ := hh.at_ hg hp
    obtain ⟨c', lo, hi, rfl, rfl, hsz, hl, hf⟩ := ho.cells_of
    simp only at hle
    refine ⟨((c'.toList.take c.size).drop o).take n, (hl.drop o).take n, by simp; omega, by simp; omega, fun j u hj => ?_⟩
    rw [List.getElem?_take] at hj
    split at hj
    · rw [List.getElem?_drop, List.getElem?_take] at hj
      split at hj
      · rw [Array.getElem?_toList] at hj
        have : (⟨b', o, none⟩ : Addr).add j = ⟨b', o + j, none⟩ := by unfold Addr.add; split <;> simp_all
        rw [this]
        unfold World.cell?
        simp only [hw]
        exact hj
      · cases hj
    · cases hj

/-- a new list with room for m. -/
theorem newOpen_run (hh : RH P p h w) {e : TypeId} {vs vs' rest : List Value} {m : Nat} (hv : RVl p vs vs') (hm : (vs' ++ rest).length = m * P.cellsOf e) {r : Addr × CH} (hn : newOpen h e vs = some r) :
    ∃ q, r.1 = ⟨h.n, 0, none⟩ ∧ q h.n = some (w.heap.size, some m) ∧ RH P q r.2 (w.alloc (.cells (vs' ++ rest).toArray e)) ∧ Stp p h w q r.2 (w.alloc (.cells (vs' ++ rest).toArray e)) := by
  unfold newOpen at hn
  split at hn
  · rename_i hlt
    injection hn with hn
    subst hn
    have hl := hv.length
    obtain ⟨q, h1, h2, h3⟩ := hh.alloc hlt (o := .cells vs.toArray e) (o' := .cells (vs' ++ rest).toArray e) (r := some m) (.list e (lo := 0) (hi := 0) (by
      simp only [List.size_toArray]
      rw [hl, List.take_left']
      · exact hv
      · rfl) (by simpa using hm) (by simp; omega) (fun i _ h => by omega))
    exact ⟨q, rfl, h1, h2, h3⟩
  · cases hn

theorem RH.drop (hh : RH P p h w) (b : Nat) (hb : b < h.n) : RH P p (h.set b none) w ∧ Stp p h w p (h.set b none) w := by
  have hset := fun j => CH.get_set (h := h) (Nat.le_of_lt hh.cap) hb none j
  have hl : ∀ bb oo, (h.set b none).get bb = some oo → h.get bb = some oo := fun bb oo hbb => by
    rw [hset] at hbb
    by_cases he : bb = b
    · rw [if_pos he] at hbb; cases hbb
    · rw [if_neg he] at hbb; exact hbb
  exact ⟨⟨hh.cap, fun b2 o2 h2 => hh.live b2 o2 (hl _ _ h2), fun b1 b2 o1 o2 x r1 r2 g1 g2 q1 q2 => hh.inj _ _ _ _ x _ _ (hl _ _ g1) (hl _ _ g2) q1 q2, hh.fresh, hh.glob⟩,
    ⟨Ph.le_refl _, Nat.le_refl _, rfl, rfl, rfl, Nat.le_refl _, fun _ _ _ => rfl, fun b2 o2 r2 k g2 q2 _ => ⟨b2, o2, r2, hl _ _ g2, q2⟩, fun _ _ h => h⟩⟩

/-- cells written in a row. -/
theorem run_storeB (g o : Nat) (t : TypeId) (lo hi : Nat) : ∀ (vs : List Value) (i : Nat) (cur : Array Value) (w : World), w.heap[g]? = some (.cells cur t (lo, hi)) → Bare lo hi cur.size → o + i + vs.length ≤ cur.size → (∀ v ∈ vs, v.oneCell' = true) →
    (storeCells ⟨g, o, none⟩ vs i).run P w = .ok () (w.setRow g (cur.toList.take (o + i) ++ vs ++ cur.toList.drop (o + i + vs.length)).toArray)
  | [], i, cur, w, hg, _, _, _ => by
    simp only [storeCells, List.append_nil, List.length_nil, Nat.add_zero, List.take_append_drop, Array.toArray_toList]
    rw [setRow_self w g cur t (lo, hi) hg]
    rfl
  | v :: rest, i, cur, w, hg, hb, hl, h1 => by
    have hi' : o + i < cur.size := by simp at hl; omega
    have hadd : (⟨g, o, none⟩ : Addr).add i = ⟨g, o + i, none⟩ := by unfold Addr.add; split <;> simp_all
    have hcell : w.cell? ⟨g, o + i, none⟩ = some cur[o + i] := by simp [World.cell?, hg, hi']
    have hfro : w.frozen? ⟨g, o + i, none⟩ = false := by
      have := hb (o + i) hi'
      simp only [World.frozen?, hg, Bool.and_eq_false_iff, decide_eq_false_iff_not]
      omega
    have hst : (store ((⟨g, o, none⟩ : Addr).add i) v).run P w = .ok () (w.setRow g (cur.setIfInBounds (o + i) v)) := by
      rw [hadd, run_store P w _ v _ (h1 v (by simp)), hcell]
      simp [hfro, setCell_eq_setRow w g (o + i) cur t (lo, hi) v hg]
    have ih := run_storeB g o t lo hi rest (i + 1) (cur.setIfInBounds (o + i) v) (w.setRow g (cur.setIfInBounds (o + i) v)) (setRow_heap w g cur _ t _ hg) (by rw [Array.size_setIfInBounds]; exact hb) (by simp at hl ⊢; omega) (fun x hx => h1 x (by simp [hx]))
    simp only [storeCells, Sem.run_bind, hst, Result.andThen_ok, ih, setRow_setRow]
    congr 3
    have e := list_seg_step cur.toList (o + i) v rest (by simp at hl ⊢; omega)
    simpa [Array.toList_setIfInBounds, Nat.add_assoc] using e

theorem setRow_size (w : World) (g : Nat) (c : Array Value) : (w.setRow g c).heap.size = w.heap.size := by simp [World.setRow]
theorem setRow_at (w : World) (g : Nat) (old cs : Array Value) (t : TypeId) (fr : Nat × Nat) (hg : w.heap[g]? = some (.cells old t fr)) (j : Nat) : (w.setRow g cs).heap[j]? = if j = g then some (.cells cs t fr) else w.heap[j]? := by
  by_cases hj : j = g
  · subst hj
    rw [if_pos rfl]
    exact setRow_heap w j old cs t fr hg
  · rw [if_neg hj]
    unfold World.setRow
    rw [Array.getElem?_modify, if_neg (fun e => hj e.symm)]

/-- cells written in a row that is reckoned with. -/
theorem putRow_run (hh : RH P p h w) {a a' : Addr} (ha : RA p a a') {vs vs' : List Value} (hv : RVl p vs vs') {h1 : CH} (hp : putRow h a vs = some h1) (ho : ∀ v ∈ vs', v.oneCell' = true) :
    ∃ w1, (storeCells a' vs').run P w = .ok () w1 ∧ RH P p h1 w1 ∧ Stp p h w p h1 w1 := by
  cases ha with
  | @mk b b' r hpb o =>
    unfold putRow at hp
    simp only at hp
    split at hp
    · rename_i c t f _ hg
      split at hp
      · rename_i hfit
        injection hp with hp
        subst hp
        obtain ⟨o', hw, hro⟩ := hh.at_ hg hpb
        have hl := hv.length
        have hcase := hro
        cases hcase with
        | @row _ c' _ lo hi hc hf =>
          have hsz := RVa.size (p := p) hc
          have hrun := run_storeB (P := P) b' o t lo hi vs' 0 c' w hw hf (by omega) ho
          simp only [Nat.add_zero] at hrun
          refine ⟨_, hrun, hh.turn hg hpb (o1' := .cells (c'.toList.take o ++ vs' ++ c'.toList.drop (o + vs'.length)).toArray t (lo, hi)) (.row t ?_ ?_) rfl rfl rfl (setRow_size _ _ _) (setRow_at w b' c' _ t _ hw)⟩
          · show RVl p _ _
            simp only
            rw [← hl]
            exact ((RVl.take hc o).append hv).append (RVl.drop hc _)
          · simp only [List.size_toArray, List.length_append, List.length_take, List.length_drop, Array.length_toList]
            have : min o c'.size + vs'.length + (c'.size - (o + vs'.length)) = c'.size := by omega
            rw [this]
            exact hf
        | @list _ c' _ lo hi m hc hs hle hf =>
          have hrun := run_storeB (P := P) b' o t lo hi vs' 0 c' w hw hf (by omega) ho
          simp only [Nat.add_zero] at hrun
          have hsize : min o c'.size + vs'.length + (c'.size - (o + vs'.length)) = c'.size := by omega
          have hsize0 : min o c.size + vs.length + (c.size - (o + vs.length)) = c.size := by omega
          refine ⟨_, hrun, hh.turn hg hpb (o1' := .cells (c'.toList.take o ++ vs' ++ c'.toList.drop (o + vs'.length)).toArray t (lo, hi)) (.list t ?_ ?_ ?_ ?_) rfl rfl rfl (setRow_size _ _ _) (setRow_at w b' c' _ t _ hw)⟩
          · simp only [List.size_toArray, List.length_append, List.length_take, List.length_drop, Array.length_toList]
            rw [hsize0]
            have e1 : (c'.toList.take o ++ vs' ++ c'.toList.drop (o + vs'.length)).take c.size = (c'.toList.take c.size).take o ++ vs' ++ (c'.toList.take c.size).drop (o + vs'.length) := by
              rw [List.take_append, List.take_append]
              simp only [List.length_append, List.length_take, Array.length_toList]
              have h1 : min o c'.size = o := by omega
              rw [h1, List.take_of_length_le (l := List.take o c'.toList) (by simp; omega), List.take_of_length_le (l := vs') (by omega), List.take_take, List.drop_take]
              have h2 : min o c.size = o := by omega
              rw [h2]
            rw [e1, ← hl]
            exact ((RVl.take hc o).append hv).append (RVl.drop hc _)
          · simp only [List.size_toArray, List.length_append, List.length_take, List.length_drop, Array.length_toList]
            rw [hsize]; exact hs
          · simp only [List.size_toArray, List.length_append, List.length_take, List.length_drop, Array.length_toList]
            omega
          · simp only [List.size_toArray, List.length_append, List.length_take, List.length_drop, Array.length_toList]
            rw [hsize]; exact hf
      · cases hp
    · cases hp

/-- a list that grows where it lies: reckoned as a new one. -/
theorem regrow (hh : RH P p h w) {b b' m : Nat} (hp : p b = some (b', some m)) {c : Array Value} {t : TypeId} {f : Nat × Nat} (hg : h.get b = some (.cells c t f)) {vs vs' : List Value} (hv : RVl p vs vs') (ho : ∀ v ∈ vs', v.oneCell' = true)
    (hfit : c.size + vs.length ≤ m * P.cellsOf t) (hn : h.n + 1 < 2 ^ D) :
    ∃ w1 q, (storeCells ⟨b', c.size, none⟩ vs').run P w = .ok () w1 ∧ q h.n = some (b', some m) ∧ RH P q ((h.set b none).alloc (.cells (c.toList ++ vs).toArray t)) w1 ∧ Stp p h w q ((h.set b none).alloc (.cells (c.toList ++ vs).toArray t)) w1 := by
  obtain ⟨o', hw, hro⟩ := hh.at_ hg hp
  have hl := hv.length
  have hbn := CH.get_lt hg
  cases hro with
  | @list _ c' _ lo hi m hc hs hle hf =>
    have hrun := run_storeB (P := P) b' c.size t lo hi vs' 0 c' w hw hf (by omega) ho
    simp only [Nat.add_zero] at hrun
    have hq : p.le (fun x => if x = h.n then some (b', some m) else p x) := fun x y hx => by
      show (if x = h.n then _ else _) = _
      rw [if_neg (fun e => by rw [e, hh.fresh _ (Nat.le_refl _)] at hx; cases hx)]
      exact hx
    have hat := setRow_at w b' c' (c'.toList.take c.size ++ vs' ++ c'.toList.drop (c.size + vs'.length)).toArray t _ hw
    have hget : ∀ x, ((h.set b none).alloc (.cells (c.toList ++ vs).toArray t)).get x = if x = h.n then some (.cells (c.toList ++ vs).toArray t) else if x = b then none else h.get x := fun x => by
      have h1 := CH.get_alloc (h := h.set b none) (by exact hh.cap) (.cells (c.toList ++ vs).toArray t) x
      rw [h1, CH.get_set (Nat.le_of_lt hh.cap) hbn]
      rfl
    have hold : ∀ x o1, ((h.set b none).alloc (.cells (c.toList ++ vs).toArray t)).get x = some o1 → x = h.n ∨ (x ≠ h.n ∧ x ≠ b ∧ h.get x = some o1) := fun x o1 hx => by
      rw [hget] at hx
      by_cases h1 : x = h.n
      · exact .inl h1
      · rw [if_neg h1] at hx
        by_cases h2 : x = b
        · rw [if_pos h2] at hx; cases hx
        · rw [if_neg h2] at hx
          exact .inr ⟨h1, h2, hx⟩
    have hsize : min c.size c'.size + vs'.length + (c'.size - (c.size + vs'.length)) = c'.size := by omega
    refine ⟨_, fun x => if x = h.n then some (b', some m) else p x, hrun, by simp, ⟨hn, fun x o1 hx => ?_, fun x y o1 o2 k r1 r2 hx hy px py => ?_, fun x hx => ?_, hh.glob.mono hq⟩, ⟨hq, Nat.le_succ _, rfl, rfl, rfl, Nat.le_of_eq (setRow_size _ _ _).symm, fun k _ hk => ?_, fun x o1 r k hx px hk => ?_, fun x hx px => by show (if x = h.n then _ else _) = _; rw [if_neg (by omega)]; exact px⟩⟩
    · rcases hold x o1 hx with rfl | ⟨h1, h2, h3⟩
      · rw [hget, if_pos rfl] at hx
        injection hx with hx
        subst hx
        refine ⟨b', some m, _, by simp, by rw [hat, if_pos rfl], .list t ?_ ?_ ?_ ?_⟩
        · simp only [List.size_toArray, List.length_append, Array.length_toList]
          have e1 : (c'.toList.take c.size ++ vs' ++ c'.toList.drop (c.size + vs'.length)).take (c.size + vs.length) = c'.toList.take c.size ++ vs' := by
            rw [List.take_left']
            simp only [List.length_append, List.length_take, Array.length_toList]
            omega
          rw [e1]
          exact (RVl.mono hq hc).append (hv.mono hq)
        · simp only [List.size_toArray, List.length_append, List.length_take, List.length_drop, Array.length_toList]
          rw [hsize]; exact hs
        · simp only [List.size_toArray, List.length_append, List.length_take, List.length_drop, Array.length_toList]
          omega
        · simp only [List.size_toArray, List.length_append, List.length_take, List.length_drop, Array.length_toList]
          rw [hsize]; exact hf
      · obtain ⟨b2, r2, o2, hp2, hw2, ho2⟩ := hh.live x o1 h3
        refine ⟨b2, r2, o2, hq _ _ hp2, ?_, ho2.mono hq⟩
        rw [hat, if_neg (fun e => h2 (hh.inj _ _ _ _ b' _ _ h3 hg (e ▸ hp2) hp))]
        exact hw2
    · rcases hold x o1 hx with rfl | ⟨h1, h2, h3⟩
      · rcases hold y o2 hy with rfl | ⟨h4, h5, h6⟩
        · rfl
        · simp only [if_true] at px
          simp only [if_neg h4] at py
          injection px with px
          injection px with px1 px2
          subst px1
          exact absurd (hh.inj _ _ _ _ b' _ _ h6 hg py hp) h5
      · simp only [if_neg h1] at px
        rcases hold y o2 hy with rfl | ⟨h4, h5, h6⟩
        · simp only [if_true] at py
          injection py with py
          injection py with py1 py2
          subst py1
          exact absurd (hh.inj _ _ _ _ b' _ _ h3 hg px hp) h2
        · simp only [if_neg h4] at py
          exact hh.inj _ _ _ _ k _ _ h3 h6 px py
    · have hx' : h.n + 1 ≤ x := hx
      show (if x = h.n then _ else _) = _
      rw [if_neg (by omega)]
      exact hh.fresh x (by omega)
    · rw [hat, if_neg (fun e => hk b _ _ hg (e ▸ hp))]
    · rcases hold x o1 hx with rfl | ⟨h1, h2, h3⟩
      · simp only [if_true] at px
        injection px with px
        injection px with px1 px2
        subst px1
        exact ⟨b, _, _, hg, hp⟩
      · simp only [if_neg h1] at px
        exact ⟨x, _, _, h3, px⟩

theorem scalar_one {v v' : Value} (hv : RV p v v') (hs : scalar v = true) : v'.oneCell' = true := by
  cases hv <;> first
    | rfl
    | (simp [scalar] at hs)

theorem scalars_one : ∀ {l l' : List Value}, RVl p l l' → l.all scalar = true → ∀ v ∈ l', v.oneCell' = true
  | _, _, .nil, _, v, hv => by simp at hv
  | _, _, .cons h hs, ha, v, hv => by
    simp only [List.all_cons, Bool.and_eq_true] at ha
    rcases List.mem_cons.1 hv with rfl | hv
    · exact scalar_one h ha.1
    · exact scalars_one hs ha.2 v hv

theorem append_room {t ty e : TypeId} {i : TypeInfo} (ht : P.underlying t = some (.slice e)) (hi : P.info? e = some i) (b : Addr) (sLen sCap : Nat) (a : Addr) (m c : Nat) (news : List Value) (hl : news.length = m * i.size) (hnews : ∀ j u, news[j]? = some u → w.cell? (a.add j) = some u)
    (hroom : sLen + m ≤ sCap) {w1 : World} (hst : (storeCells (b.add (sLen * i.size)) news).run P w = .ok () w1) :
    (Builtin.append_ #[t, t] ty #[.slice (some b) sLen sCap, .slice (some a) m c]).run P w = .ok (.slice (some b) (sLen + m) sCap) w1 := by
  have hfc := run_firstCells_some (P := P) w i.size m a m c news hl hnews
  simp [Builtin.append_, run_underlying ht, sizeOf, typeInfo, hi, Builtin.lenOf, hroom, hfc, hst]

theorem zeroCells_size (z : Array Value) (n : Nat) : (Builtin.zeroCells z n).size = n * z.size := by simp [Builtin.zeroCells]

/-- a list that grows elsewhere. -/
theorem grow_run (hh : RH P p h w) {t e : TypeId} (ty : TypeId) {i : TypeInfo} {z : Value} (ht : P.underlying t = some (.slice e)) (hi : P.info? e = some i) (hz : i.zero = some z) (hzs : z.cells.size = i.size)
    {sLen sCap' : Nat} {base' : Addr} {olds olds' : List Value} (ho : RVl p olds olds') (hlo : olds'.length = sLen * i.size) (holds : ∀ j u, olds'[j]? = some u → w.cell? (base'.add j) = some u)
    {a' : Addr} {n c' : Nat} {news news' : List Value} (hn : RVl p news news') (hln : news'.length = n * i.size) (hnews : ∀ j u, news'[j]? = some u → w.cell? (a'.add j) = some u)
    (hg : sCap' < sLen + n) (hb : sLen + n < 2 ^ 40) (hby : (sLen + n) * i.bytes ≤ 2 ^ 46) {r : Addr × CH} (hr : newOpen h e (olds ++ news) = some r) :
    ∃ q v' w1, Stp p h w q r.2 w1 ∧ (Builtin.append_ #[t, t] ty #[.slice (some base') sLen sCap', .slice (some a') n c']).run P w = .ok v' w1 ∧ RH P q r.2 w1 ∧ RV q (.slice (some r.1) (sLen + n) OPEN) v' := by
  have hrun := run_append_grow (P := P) w t ty e i z ht hi hz base' sLen sCap' olds' hlo holds a' n c' news' hln hnews hg (by omega) (growslice_fits hg (by omega))
  have hge := grownCap_ge w (sLen + n) sCap' e
  have hcells : P.cellsOf e = i.size := by simp [Program.cellsOf, hi]
  obtain ⟨q, h1, h2, h3, h4⟩ := newOpen_run (m := grownCap w (sLen + n) sCap' e) (rest := (Builtin.zeroCells z.cells (grownCap w (sLen + n) sCap' e - (sLen + n))).toList) hh.drew (ho.append hn) (by
    simp only [List.length_append, Array.length_toList, zeroCells_size, hlo, hln, hzs, hcells]
    rw [← Nat.add_mul, ← Nat.add_mul]
    congr 1
    omega) hr
  have he : (olds'.toArray ++ news'.toArray ++ Builtin.zeroCells z.cells (grownCap w (sLen + n) sCap' e - (sLen + n))) = (olds' ++ news' ++ (Builtin.zeroCells z.cells (grownCap w (sLen + n) sCap' e - (sLen + n))).toList).toArray := by
    apply Array.ext'
    simp
  rw [he] at hrun
  refine ⟨q, _, _, (Stp.drew p h w).trans h4, hrun, h3, ?_⟩
  rw [h1]
  exact .sopen h2 0 _ OPEN _ (by unfold HALF OPEN; exact Nat.pow_le_pow_right (by omega) (by omega)) (Nat.le_refl _) (by simp) hge
end

end

end Go.Proofs.YtgjdgincebchhaaGreatDoor.Ev
namespace Go.Proofs.YtgjdgincebchhaaGreatDoor.Ev
open Go Go.RowKit

section
variable {P : Program} {p : Ph} {h : CH} {w : World}

theorem okElem_inv {e : TypeId} {n : Nat} (hk : okElem P e n = true) : ∃ i z, P.info? e = some i ∧ i.zero = some z ∧ z.cells.size = i.size ∧ 0 < i.size ∧ n < 2 ^ 40 ∧ n * i.bytes ≤ 2 ^ 46 := by
  unfold okElem at hk
  cases hi : P.info? e with
  | none => rw [hi] at hk; cases hk
  | some i =>
    rw [hi] at hk
    simp only [Bool.and_eq_true, decide_eq_true_eq] at hk
    obtain ⟨⟨⟨h1, h2⟩, h3⟩, h4⟩ := hk
    cases hz : i.zero with
    | none => rw [hz] at h1; cases h1
    | some z =>
      rw [hz] at h1
      exact ⟨i, z, rfl, hz, by simpa using h1, h2, h3, h4⟩

theorem append_run {at_ : Array TypeId} {ty : TypeId} {s x s' x' v : Value} {h1 : CH} (hev : evAppend P at_ [s, x] h = some (v, h1)) (hh : RH P p h w) (hs : RV p s s') (hx : RV p x x') :
    ∃ q v' w1, Stp p h w q h1 w1 ∧ (Builtin.append_ at_ ty #[s', x']).run P w = .ok v' w1 ∧ RH P q h1 w1 ∧ RV q v v' := by
  have hHO : HALF ≤ OPEN := by unfold HALF OPEN; exact Nat.pow_le_pow_right (by omega) (by omega)
  unfold evAppend at hev
  split at hev
  · rename_i st xt base sLen sCap xb n xc hat hargs
    simp only [List.cons.injEq, and_true] at hargs
    obtain ⟨rfl, rfl⟩ := hargs
    have hat : at_ = #[st, xt] := by
      apply Array.ext'
      exact hat
    subst hat
    split at hev
    · rename_i hst
      subst hst
      split at hev
      · rename_i e ht
        dsimp only at hev
        split at hev
        · rename_i hel
          obtain ⟨i, z, hi, hz, hzs, hpos, hb, hby⟩ := okElem_inv hel
          have hcells : P.cellsOf e = i.size := by simp [Program.cellsOf, hi]
          rw [hcells] at hev
          split at hev
          · cases hev
          · rename_i a0
            split at hev
            · cases hev
            · rename_i new hrow
              split at hev
              · cases hev
              · rename_i hsc
                simp only [Bool.or_eq_true, Bool.not_eq_true', decide_eq_true_eq, not_or, Bool.not_eq_false] at hsc
                obtain ⟨hsc, hn0⟩ := hsc
                -- what is appended
                obtain ⟨a0', xc', rfl, ha0⟩ : ∃ a0' xc', x' = .slice (some a0') n xc' ∧ RA p a0 a0' := by
                  cases hx with
                  | slice ha n c hc => exact ⟨_, _, rfl, ha⟩
                  | sopen hp o n c c' hc hle he hn => exact ⟨_, _, rfl, .mk hp o⟩
                  | sempty => exact absurd rfl hn0
                obtain ⟨new', hnew, hnl, hnl', hnews⟩ := row_run hh ha0 hrow
                have hone := scalars_one hnew hsc
                split at hev
                · -- nil
                  split at hev
                  · rename_i hz0
                    obtain ⟨rfl, rfl⟩ := hz0
                    cases hs
                    simp only [Option.map_eq_some_iff] at hev
                    obtain ⟨r, hr, hev⟩ := hev
                    injection hev with hev1 hev2
                    subst hev1 hev2
                    have hrun := run_append_nil (P := P) w st ty e i z ht hi hz a0' n xc' new' hnl' hnews (by omega) (by omega) (by simp only [Nat.zero_add] at hby; omega)
                    have hge := grownCap_ge w n 0 e
                    obtain ⟨q, g1, g2, g3, g4⟩ := newOpen_run (m := grownCap w n 0 e) (rest := (Builtin.zeroCells z.cells (grownCap w n 0 e - n)).toList) hh.drew hnew (by
                      simp only [List.length_append, Array.length_toList, zeroCells_size, hnl', hzs, hcells]
                      rw [← Nat.add_mul]
                      congr 1
                      omega) hr
                    have he : (new'.toArray ++ Builtin.zeroCells z.cells (grownCap w n 0 e - n)) = (new' ++ (Builtin.zeroCells z.cells (grownCap w n 0 e - n)).toList).toArray := by
                      apply Array.ext'
                      simp
                    rw [he] at hrun
                    refine ⟨q, _, _, (Stp.drew p h w).trans g4, hrun, g3, ?_⟩
                    rw [g1]
                    exact .sopen g2 0 _ OPEN _ hHO (Nat.le_refl _) (by simp) hge
                  · cases hev
                · rename_i a
                  split at hev
                  · rename_i hclosed
                    split at hev
                    · -- in place
                      rename_i hroom
                      simp only [Option.map_eq_some_iff] at hev
                      obtain ⟨h2, hput, hev⟩ := hev
                      injection hev with hev1 hev2
                      subst hev1 hev2
                      cases hs with
                      | @slice _ a' ha _ _ _ =>
                        obtain ⟨w1, r1, r2, r3⟩ := putRow_run hh (ha.add (sLen * i.size)) hnew hput hone
                        exact ⟨p, _, w1, r3, append_room ht hi a' sLen sCap a0' n xc' new' hnl' hnews hroom r1, r2, .slice ha _ _ hclosed⟩
                      | sopen hp o n c c' hc hle he hn => omega
                      | sempty hp o o' c hc hle => omega
                    · rename_i hroom
                      split at hev
                      · rename_i old hold
                        simp only [Option.map_eq_some_iff] at hev
                        obtain ⟨r, hr, hev⟩ := hev
                        injection hev with hev1 hev2
                        subst hev1 hev2
                        cases hs with
                        | @slice _ a' ha _ _ _ =>
                          obtain ⟨old', hro, _, hol, holds⟩ := row_run hh ha hold
                          exact grow_run hh ty ht hi hz hzs hro hol holds hnew hnl' hnews (by omega) hb hby hr
                        | sopen hp o n c c' hc hle he hn => omega
                        | @sempty b b' r0 hp o o' c hc hle =>
                          obtain ⟨old', hro, hol0, hol, _⟩ := row_run hh (.mk hp o) hold
                          have hnil : old' = [] := List.eq_nil_of_length_eq_zero (by rw [hol]; omega)
                          subst hnil
                          exact grow_run hh ty ht hi hz hzs (base' := ⟨b', o', none⟩) (sCap' := 0) hro (by simp) (fun j u hj => by simp at hj) hnew hnl' hnews (by omega) hb hby hr
                      · cases hev
                  · rename_i hclosed
                    split at hev
                    · rename_i hop
                      obtain ⟨rfl, hoff⟩ := hop
                      split at hev
                      · rename_i c t f hg
                        split at hev
                        · -- grows
                          rename_i hfull
                          obtain ⟨hfull, rfl⟩ := hfull
                          simp only [Option.map_eq_some_iff] at hev
                          obtain ⟨r, hr, hev⟩ := hev
                          injection hev with hev1 hev2
                          subst hev1 hev2
                          have hbn := CH.get_lt hg
                          obtain ⟨hd1, hd2⟩ := hh.drop a.block hbn
                          -- grown elsewhere
                          have elsewhere : ∀ {a' : Addr} {c' : Nat} {old' : List Value}, RVl p c.toList old' → old'.length = sLen * i.size → (∀ j u, old'[j]? = some u → w.cell? (a'.add j) = some u) → c' < sLen + n →
                              ∃ q v' w1, Stp p h w q r.2 w1 ∧ (Builtin.append_ #[st, st] ty #[.slice (some a') sLen c', .slice (some a0') n xc']).run P w = .ok v' w1 ∧ RH P q r.2 w1 ∧ RV q (.slice (some r.1) (sLen + n) OPEN) v' := by
                            intro a' c' old' hro hol holds hlt
                            obtain ⟨q, v', w1, s1, s2, s3, s4⟩ := grow_run hd1 ty ht hi hz hzs hro hol holds hnew hnl' hnews hlt hb hby hr
                            exact ⟨q, v', w1, hd2.trans s1, s2, s3, s4⟩
                          cases hs with
                          | slice ha n c hc => exact absurd hc (by omega)
                          | @sopen b b' m hp o _ _ c' hc hle he hn =>
                            simp only at hoff hg
                            subst hoff
                            obtain rfl : c' = m := by omega
                            have hrow0 : rowOf h ⟨b, 0, none⟩ (sLen * i.size) = some c.toList := by
                              unfold rowOf
                              simp only [hg]
                              rw [if_pos (by omega)]
                              simp only [List.drop_zero]
                              rw [List.take_of_length_le (by simp; omega)]
                            obtain ⟨old', hro, _, hol, holds⟩ := row_run hh (.mk hp 0) hrow0
                            by_cases hroom : sLen + n ≤ c'
                            · -- in place, in the world
                              unfold newOpen at hr
                              split at hr
                              · rename_i hlt
                                injection hr with hr
                                subst hr
                                have hlt' : h.n + 1 < 2 ^ D := hlt
                                obtain ⟨w1, q, g1, g2, g3, g4⟩ := regrow hh hp hg hnew hone (by rw [hcells, hfull, hnl, ← Nat.add_mul]; exact Nat.mul_le_mul_right _ hroom) hlt'
                                refine ⟨q, _, w1, g4, append_room ht hi ⟨b', 0, none⟩ sLen c' a0' n xc' new' hnl' hnews hroom ?_, g3, .sopen g2 0 _ OPEN _ hHO (Nat.le_refl _) (by omega) hroom⟩
                                have : (⟨b', 0, none⟩ : Addr).add (sLen * i.size) = ⟨b', c.size, none⟩ := by
                                  rw [hfull]
                                  unfold Addr.add
                                  split <;> simp_all
                                rw [this]
                                exact g1
                              · cases hr
                            · exact elsewhere hro hol holds (by omega)
                          | @sempty b b' r0 hp o o' c0 hc hle =>
                            have hnil : c.toList = [] := List.eq_nil_of_length_eq_zero (by rw [Array.length_toList, hfull, Nat.zero_mul])
                            exact elsewhere (by rw [hnil]; exact .nil) (by simp) (fun j u hj => by simp at hj) (by omega)
                        · split at hev
                          · rename_i hfit
                            obtain ⟨rfl, hne, hfit⟩ := hfit
                            simp only [Option.map_eq_some_iff] at hev
                            obtain ⟨h2, hput, hev⟩ := hev
                            injection hev with hev1 hev2
                            subst hev1 hev2
                            cases hs with
                            | slice ha n c hc => exact absurd hc (by omega)
                            | @sopen b b' m hp o _ _ c' hc hle he hn =>
                              simp only at hoff hg
                              subst hoff
                              obtain rfl : c' = m := by omega
                              obtain ⟨o1, hw1, ho1⟩ := hh.at_ hg hp
                              have hroom : sLen + n ≤ c' := by
                                cases ho1 with
                                | list t hl hsz hle2 hf =>
                                  rw [hcells] at hsz
                                  have : (sLen + n) * i.size ≤ c' * i.size := by omega
                                  exact Nat.le_of_mul_le_mul_right this hpos
                              obtain ⟨w1, r1, r2, r3⟩ := putRow_run hh ((RA.mk hp 0).add (sLen * i.size)) hnew hput hone
                              exact ⟨p, _, w1, r3, append_room ht hi ⟨b', 0, none⟩ sLen c' a0' n xc' new' hnl' hnews hroom r1, r2, .sopen hp 0 _ OPEN _ hHO (Nat.le_refl _) (by omega) hroom⟩
                            | sempty => exact absurd rfl hne
                          · cases hev
                      · cases hev
                    · cases hev
        · cases hev
      · cases hev
    · cases hev
  · cases hev

theorem bytes_run {src dst : TypeId} {x v : Value} {h1 : CH} (hev : evBytes P src dst x h = some (v, h1)) (hh : RH P p h w) :
    ∃ q v' w1, Stp p h w q h1 w1 ∧ (convert src dst x).run P w = .ok v' w1 ∧ RH P q h1 w1 ∧ RV q v v' := by
  have hHO : HALF ≤ OPEN := by unfold HALF OPEN; exact Nat.pow_le_pow_right (by omega) (by omega)
  unfold evBytes at hev
  split at hev
  · rename_i e s hs hd
    split at hev
    · rename_i he
      split at hev
      · cases hev
      · rename_i h1c
        have h1c : P.cellsOf e = 1 := by omega
        simp only [Option.map_eq_some_iff] at hev
        obtain ⟨r, hr, hev⟩ := hev
        injection hev with hev1 hev2
        subst hev1 hev2
        unfold newOpen at hr
        split at hr
        · rename_i hlt
          injection hr with hr
          subst hr
          have hq : (Question.appendCap s.size 0 e).forced = false := rfl
          have hcap : s.size ≤ grownCap w s.size 0 e := grownCap_ge w s.size 0 e
          -- the world behind it
          have hsz : (s.data.map (fun b : UInt8 => Value.int .u8 b.toNat) ++ Array.replicate (grownCap w s.size 0 e - s.size) (Value.int .u8 0)).size = grownCap w s.size 0 e := by
            simp only [Array.size_append, Array.size_map, Array.size_replicate]
            have : s.data.size = s.size := rfl
            omega
          generalize hcs : (s.data.map (fun b : UInt8 => Value.int .u8 b.toNat) ++ Array.replicate (grownCap w s.size 0 e - s.size) (Value.int .u8 0)) = cs at hsz
          have hrun : (convert src dst (.string s)).run P w = .ok (.slice (some ⟨w.heap.size, 0, none⟩) s.size (grownCap w s.size 0 e)) ((w.drew.alloc (.cells cs e)).freeze ⟨w.heap.size, cs.size, none⟩ 1) := by
            have hat : (w.drew.alloc (.cells cs e)).heap[w.heap.size]? = some (.cells cs e) := by
              show (w.heap.push _)[w.heap.size]? = _
              rw [Array.getElem?_push, if_pos rfl]
            have hshape : (w.drew.alloc (.cells cs e)).shape? w.heap.size = some (e, cs.size) := by
              unfold World.shape?
              rw [hat]
            have hm : (markStringish ⟨w.heap.size, 0, none⟩).run P (w.drew.alloc (.cells cs e)) = .ok () ((w.drew.alloc (.cells cs e)).freeze ⟨w.heap.size, cs.size, none⟩ 1) := by
              simp [markStringish, shape, freeze, Sem.run, hshape]
            simp only [grownCap] at hcs
            simp [convert, run_underlying hs, run_underlying hd, run_underlying he, Conv.stringToBytes, hq, newRow, grownCap, hcs]
            rw [hm]
            rfl
          have hfr : (w.drew.alloc (.cells cs e)).freeze ⟨w.heap.size, cs.size, none⟩ 1 = w.drew.alloc (.cells cs e (cs.size, cs.size + 1)) := by
            unfold World.freeze
            rw [if_neg (by omega)]
            show ({ w with drawn := w.drawn + 1, heap := (w.heap.push _).modify w.heap.size _ } : World) = { w with drawn := w.drawn + 1, heap := w.heap.push _ }
            congr 1
            apply Array.ext_getElem?
            intro j
            rw [Array.getElem?_modify, Array.getElem?_push, Array.getElem?_push]
            by_cases hj : w.heap.size = j
            · subst hj
              simp
            · rw [if_neg hj, if_neg (fun e => hj e.symm), if_neg (fun e => hj e.symm)]
          rw [hfr] at hrun
          have hlen : (s.data.toList.map fun b : UInt8 => Value.int .u8 b.toNat).length = s.size := by
            rw [List.length_map]
            rfl
          obtain ⟨q, g1, g2, g3⟩ := hh.drew.alloc hlt (o := .cells (s.data.toList.map fun b : UInt8 => Value.int .u8 b.toNat).toArray e) (o' := .cells cs e (cs.size, cs.size + 1)) (r := some (grownCap w s.size 0 e)) (.list e (by
            subst hcs
            simp only [List.size_toArray, hlen, Array.toList_append, Array.toList_map]
            rw [List.take_left' hlen]
            refine RVl.refl_of fun v hv => ?_
            obtain ⟨b, _, rfl⟩ := List.mem_map.1 hv
            exact .int _ _) (by rw [hsz, h1c, Nat.mul_one]) (by rw [List.size_toArray, hlen, hsz]; exact hcap) (fun j hj => by omega))
          exact ⟨q, _, _, (Stp.drew p h w).trans g3, hrun, g2, .sopen g1 0 _ OPEN _ hHO (Nat.le_refl _) (by simp) hcap⟩
        · cases hr
    · cases hev
  · cases hev
end

end Go.Proofs.YtgjdgincebchhaaGreatDoor.Ev
namespace Go.Proofs.YtgjdgincebchhaaGreatDoor.Ev
open Go Go.RowKit
noncomputable section

/-- an operation that calls no function. -/
def evOp (P : Program) (ρ0 : Operand → Value) (h : CH) (o : Oper) : Option (Value × CH) :=
  if okPure P ρ0 o then
    match runP P (execOp (ρ0) o) with
    | some (.value v) => if pureV v then some (v, h) else none
    | _ => none
  else if okOp P ρ0 o then
    match runC P (execOp (ρ0) o) h with
    | some (.value v, h') => some (v, h')
    | some (.skip, h') => some (undef, h')
    | _ => none
  else match o.op with
    | .call { callee := .builtin .append, args, argTypes } => if args.toList.all okX then evAppend P argTypes (args.toList.map (ρ0)) h else none
    | .convert src dst x => if okX x then evBytes P src dst (ρ0 x) h else none
    | _ => none

end

end Go.Proofs.YtgjdgincebchhaaGreatDoor.Ev
namespace Go.Proofs.YtgjdgincebchhaaGreatDoor.Ev
open Go Go.RowKit
noncomputable section

section
variable {P : Program} {p : Ph} {ρ0 : Operand → Value} {ρ : Operand → Value} {h : CH} {w : World}

theorem same_pure (hρ : ∀ x, okX x = true → RV p (ρ0 x) (ρ x)) {x : Operand} (hx : okX x = true) (hp : pureV (ρ0 x) = true) : ρ x = ρ0 x := (hρ x hx).pure_eq hp

theorem args_pure (hρ : ∀ x, okX x = true → RV p (ρ0 x) (ρ x)) : ∀ {l : List Operand}, l.all (fun x => okX x && pureV (ρ0 x)) = true → l.map ρ = l.map (ρ0)
  | [], _ => rfl
  | x :: l, h => by
    simp only [List.all_cons, Bool.and_eq_true] at h
    simp only [List.map_cons]
    rw [same_pure hρ h.1.1 h.1.2, args_pure hρ h.2]

theorem pure_exec (hρ : ∀ x, okX x = true → RV p (ρ0 x) (ρ x)) {o : Oper} (hok : okPure P ρ0 o = true) : execOp ρ o = execOp (ρ0) o := by
  obtain ⟨dst, op, ty, pos, after, guard⟩ := o
  cases op with
  | binOp bo t x y yt =>
    simp only [okPure, Bool.and_eq_true] at hok
    unfold execOp
    simp only
    rw [same_pure hρ hok.1.1.1 hok.1.2, same_pure hρ hok.1.1.2 hok.2]
  | unOp u t x =>
    simp only [okPure, Bool.and_eq_true] at hok
    unfold execOp
    simp only
    rw [same_pure hρ hok.1 hok.2]
  | convert s d x =>
    simp only [okPure, Bool.and_eq_true] at hok
    unfold execOp
    simp only
    rw [same_pure hρ hok.1.1 hok.1.2]
  | call c =>
    obtain ⟨callee, args, argTypes⟩ := c
    cases callee with
    | builtin b =>
      simp only [okPure, Bool.and_eq_true] at hok
      have he : args.map ρ = args.map (ρ0) := by
        apply Array.ext'
        rw [Array.toList_map, Array.toList_map]
        exact args_pure hρ hok.2
      unfold execOp
      simp only [resolve]
      rw [he]
    | _ => simp [okPure] at hok
  | _ => simp [okPure] at hok

/-- what is laid in the slot. -/
def Laid (nx : Next) (v : Value) : Prop := nx = .value v ∨ (nx = .skip ∧ v = undef)

theorem RV.undef : RV p undef undef := .tuple .nil

theorem two_inv {a b : Value} {l' : List Value} (h : RVl p [a, b] l') : ∃ a' b', l' = [a', b'] ∧ RV p a a' ∧ RV p b b' := by
  cases h with
  | cons ha hs =>
    cases hs with
    | cons hb hn =>
      cases hn
      exact ⟨_, _, rfl, ha, hb⟩

theorem evOp_run (hρ : ∀ x, okX x = true → RV p (ρ0 x) (ρ x)) {o : Oper} {v : Value} {h1 : CH} (hev : evOp P ρ0 h o = some (v, h1)) (hh : RH P p h w) :
    ∃ q nx v' w1, Stp p h w q h1 w1 ∧ (execOp ρ o).run P w = .ok nx w1 ∧ Laid nx v' ∧ RH P q h1 w1 ∧ RV q v v' := by
  unfold evOp at hev
  split at hev
  · rename_i hok
    split at hev
    · rename_i v0 hrun
      split at hev
      · rename_i hpv
        simp only [Option.some.injEq, Prod.mk.injEq] at hev
        obtain ⟨rfl, rfl⟩ := hev
        rw [pure_exec hρ hok]
        exact ⟨p, _, v0, w, Stp.refl _ _ _, runP_run P _ hrun w, .inl rfl, hh, RV.of_pure hpv⟩
      · cases hev
    · cases hev
  · split at hev
    · rename_i hok
      have hs := sim_exec (P := P) (p := p) hρ hok p (Ph.le_refl _) h w hh
      split at hev
      · rename_i v0 h0 hrun
        simp only [Option.some.injEq, Prod.mk.injEq] at hev
        obtain ⟨rfl, rfl⟩ := hev
        obtain ⟨q, a, w1, s1, s2, s3, s4, _⟩ := hs _ _ hrun
        cases s4 with
        | value hv => exact ⟨q, _, _, w1, s1, s2, .inl rfl, s3, hv⟩
      · rename_i h0 hrun
        simp only [Option.some.injEq, Prod.mk.injEq] at hev
        obtain ⟨rfl, rfl⟩ := hev
        obtain ⟨q, a, w1, s1, s2, s3, s4, _⟩ := hs _ _ hrun
        cases s4 with
        | skip => exact ⟨q, _, _, w1, s1, s2, .inr ⟨rfl, rfl⟩, s3, RV.undef⟩
      · cases hev
    · split at hev
      · rename_i args argTypes hop
        split at hev
        · rename_i hall
          have hev0 := hev
          unfold evAppend at hev0
          split at hev0
          · rename_i st xt base sLen sCap xb n xc hat hargs
            rw [hargs] at hev
            have hm := maps_rel hρ hall
            rw [hargs] at hm
            obtain ⟨s', x', hl, hs, hx⟩ := two_inv hm
            obtain ⟨q, v', w1, s1, s2, s3, s4⟩ := append_run (ty := o.type) hev hh hs hx
            have hmap : args.map ρ = #[s', x'] := by
              apply Array.ext'
              rw [Array.toList_map]
              exact hl
            have he : execOp ρ o = (Builtin.append_ argTypes o.type (args.map ρ) >>= fun v => Pure.pure (.value v)) := by
              unfold execOp
              rw [hop]
              rfl
            rw [hmap] at he
            exact ⟨q, _, v', w1, s1, by rw [he, Sem.run_bind, s2]; rfl, .inl rfl, s3, s4⟩
          · cases hev0
        · cases hev
      · rename_i src dst x hop
        split at hev
        · rename_i hx
          obtain ⟨q, v', w1, s1, s2, s3, s4⟩ := bytes_run hev hh
          have hst : ∃ s, ρ0 x = .string s := by
            unfold evBytes at hev
            split at hev
            · exact ⟨_, by assumption⟩
            · cases hev
          obtain ⟨s, hs⟩ := hst
          have hr := hρ x hx
          have hx2 : ρ x = ρ0 x := hr.pure_eq (by rw [hs]; rfl)
          have he : execOp ρ o = (convert src dst (ρ x) >>= fun v => Pure.pure (.value v)) := by
            unfold execOp
            rw [hop]
          rw [hx2] at he
          exact ⟨q, _, v', w1, s1, by rw [he, Sem.run_bind, s2]; rfl, .inl rfl, s3, s4⟩
        · cases hev
      · cases hev
end

end

end Go.Proofs.YtgjdgincebchhaaGreatDoor.Ev
namespace Go.Proofs.YtgjdgincebchhaaGreatDoor.Ev
open Go Go.RowKit

inductive RPlace (p : Ph) : Place → Place → Prop
  | val {v v' : Value} (h : RV p v v') : RPlace p (.val v) (.val v')
  | var {a a' : Addr} (h : RA p a a') : RPlace p (.var a) (.var a')

section
variable {P : Program} {p : Ph}

theorem RPlace.mono {q : Ph} (hq : p.le q) {x y : Place} (h : RPlace p x y) : RPlace q x y := by
  cases h with
  | val h => exact .val (h.mono hq)
  | var h => exact .var (h.mono hq)

theorem Sim.get (t : TypeId) {x y : Place} (h : RPlace p x y) : Sim P p RV (x.get t) (y.get t) := by
  cases h with
  | val h => exact Sim.pure fun _ hq => h.mono hq
  | var h => exact Sim.loadVar t h

theorem Sim.asAddr {v v' : Value} (h : RV p v v') : Sim P p RA (asAddr v) (asAddr v') := by
  cases h with
  | ptr h => exact Sim.pure fun q hq => h.mono hq
  | pnil => exact Sim.none_ (fun h => runC_runtimePanic (α := Addr) .nilDeref h)
  | _ => exact Sim.halt

theorem Sim.follow : ∀ (l : List FieldStep) (t : TypeId) {x y : Place} {q : Ph}, p.le q → RPlace q x y → Sim P q (fun q a b => b.1 = a.1 ∧ RPlace q a.2 b.2) (follow l t x) (follow l t y)
  | [], t, x, y, q, hq, h => Sim.pure fun _ hr => ⟨rfl, h.mono hr⟩
  | s :: rest, t, x, y, q, hq, h => by
    unfold Go.follow
    refine Sim.bind (Sim.underlying s.struct) (fun q1 d d' hq1 hd => ?_)
    obtain ⟨rfl, _⟩ := hd
    cases d' with
    | struct fields =>
      simp only
      cases fields[s.index]? with
      | none => exact Sim.halt
      | some f =>
        simp only
        have hx := h.mono hq1
        refine Sim.ite (fun _ => ?_) (fun _ => ?_)
        · refine Sim.bind (Sim.get t hx) (fun q2 v v' hq2 hv => Sim.bind (Sim.asAddr hv) (fun q3 a a' hq3 ha => Sim.bind (Sim.fieldPlace ha f) (fun q4 b b' hq4 hb => ?_)))
          exact Sim.follow rest f.type (Ph.le_trans (Ph.le_trans (Ph.le_trans (Ph.le_trans hq hq1) hq2) hq3) hq4) (.var hb)
        · cases hx with
          | var ha => exact Sim.bind (Sim.fieldPlace ha f) (fun q4 b b' hq4 hb => Sim.follow rest f.type (Ph.le_trans (Ph.le_trans hq hq1) hq4) (.var hb))
          | val hv =>
            cases hv with
            | agg hc => exact Sim.bind (Sim.part f.type hc f.offset) (fun q4 b b' hq4 hb => Sim.follow rest f.type (Ph.le_trans (Ph.le_trans hq hq1) hq4) (.val hb))
            | _ => exact Sim.halt
    | _ => exact Sim.halt

theorem Sim.wrap (xt : TypeId) {v v' : Value} (h : RV p v v') (name : String) : Sim P p RV (Builtin.ssaWrapNilChk_ #[xt] xt #[v, strVal "", strVal name]) (Builtin.ssaWrapNilChk_ #[xt] xt #[v', strVal "", strVal name]) := by
  unfold Builtin.ssaWrapNilChk_ strVal
  cases h with
  | ptr h => exact Sim.pure fun q hq => .ptr (h.mono hq)
  | pnil => exact Sim.bindHalt fun _ => rfl
  | _ => exact Sim.halt

theorem Sim.receiverAt (xt : TypeId) {x y : Place} (h : RPlace p x y) (b : Bool) (wr : Option String) : Sim P p RV (receiverAt xt x b wr) (receiverAt xt y b wr) := by
  unfold Go.receiverAt
  refine Sim.bind (Sim.underlying xt) (fun q1 d d' hq1 hd => ?_)
  obtain ⟨rfl, _⟩ := hd
  have hx := h.mono hq1
  cases d' with
  | pointer elem =>
    cases b with
    | true => exact Sim.get xt hx
    | false =>
      simp only
      refine Sim.bind (Sim.get xt hx) (fun q2 v v' hq2 hv => ?_)
      have hend : ∀ {q3 : Ph} {u u' : Value}, RV q3 u u' → Sim P q3 RV (do Go.loadVar elem (← Go.asAddr u)) (do Go.loadVar elem (← Go.asAddr u')) := fun hu => Sim.bind (Sim.asAddr hu) (fun q4 a a' _ ha => Sim.loadVar elem ha)
      cases wr with
      | none => exact Sim.bind (Sim.pure fun _ hq => hv.mono hq) (fun q3 u u' _ hu => hend hu)
      | some name => exact Sim.bind (Sim.wrap xt hv name) (fun q3 u u' _ hu => hend hu)
  | _ =>
    cases b with
    | true =>
      cases hx with
      | var ha => exact Sim.pure fun _ hq => .ptr (ha.mono hq)
      | val hv => exact Sim.halt
    | false => exact Sim.get xt hx

theorem Sim.method : ∀ (n : Nat) (t : TypeId) {v v' : Value} {q : Ph}, p.le q → RV q v v' → ∀ name : String, Sim P q (fun q a b => b.1 = a.1 ∧ RV q a.2 b.2) (method n t v name) (method n t v' name)
  | 0, t, v, v', q, hq, h, name => Sim.halt
  | n + 1, t, v, v', q, hq, h, name => by
    unfold Go.method
    refine Sim.bind (Sim.typeInfo t) (fun q1 i i' hq1 hi => ?_)
    obtain ⟨rfl, _⟩ := hi
    cases i'.methods.find? (·.name == name) with
    | none => exact Sim.halt
    | some m =>
      simp only
      refine Sim.bind (Sim.follow m.path.toList t (Ph.le_refl q1) (.val (h.mono hq1))) (fun q2 x y hq2 hxy => ?_)
      obtain ⟨xt, x⟩ := x
      obtain ⟨yt, y⟩ := y
      obtain ⟨h1, h2⟩ := hxy
      simp only at h1 h2
      subst h1
      cases m.func with
      | none =>
        refine Sim.bind (Sim.get yt h2) (fun q3 u u' hq3 hu => ?_)
        cases hu with
        | iface t' hv => exact Sim.method n t' (Ph.le_trans (Ph.le_trans (Ph.le_trans hq hq1) hq2) hq3) hv name
        | nilIface => exact Sim.none_ (runC_runtimePanic _)
        | _ => exact Sim.halt
      | some fp =>
        obtain ⟨f, pr⟩ := fp
        exact Sim.bind (Sim.receiverAt yt h2 pr _) (fun q3 u u' hq3 hu => Sim.pure fun _ hr => ⟨rfl, hu.mono hr⟩)

theorem RLoop.fold : ∀ (l : List Tmp) {xs xs' : List Value}, RVl p xs xs' → ∀ {c c' : Array Value}, RVa p c c' →
    RVa p ((l.zip xs).foldl (fun tmps (x : Tmp × Value) => tmps.setIfInBounds x.1 x.2) c) ((l.zip xs').foldl (fun tmps (x : Tmp × Value) => tmps.setIfInBounds x.1 x.2) c')
  | [], _, _, _, c, c', hc => by simpa using hc
  | t :: l, _, _, .nil, c, c', hc => by simpa using hc
  | t :: l, _, _, .cons h hs, c, c', hc => by
    simp only [List.zip_cons_cons, List.foldl_cons]
    refine RLoop.fold l hs ?_
    show RVl p (c.setIfInBounds _ _).toList (c'.setIfInBounds _ _).toList
    rw [Array.toList_setIfInBounds, Array.toList_setIfInBounds]
    exact RVl.set hc _ h

theorem Sim.getLoop {l l' : Nat} {x : Option Nat} (hp : p l = some (l', x)) : Sim P p (fun q a b => x = none ∧ RLoop q a b) (Instr.getLoop l) (Instr.getLoop l') := by
  unfold Instr.getLoop
  refine Sim.bind (Sim.getObj_ hp) (fun q o o' hq hoo => ?_)
  obtain ⟨rfl, ho⟩ := hoo
  cases ho with
  | loop h => exact Sim.pure fun _ hr => ⟨rfl, h.mono hr⟩
  | _ => exact Sim.halt

theorem Sim.yield {l l' : Nat} (hp : p l = some (l', none)) {c c' : Array Value} (hc : RVa p c c') : Sim P p RN (Instr.yield l c) (Instr.yield l' c') := by
  unfold Instr.yield
  refine Sim.bind (Sim.getLoop hp) (fun q a b hq hab => ?_)
  obtain ⟨_, h⟩ := hab
  rw [RVa.size hc, h.params]
  refine Sim.ite (fun _ => Sim.bindHalt fun _ => rfl) (fun _ => Sim.pure fun r hr => ?_)
  rw [h.assign, h.body]
  refine .round (hr _ _ (hq _ _ hp)) _ _ ?_ _ _
  rw [← Array.foldl_toList, ← Array.foldl_toList, Array.toList_zip, Array.toList_zip]
  exact RLoop.fold _ ((hc.mono hq).mono hr) (h.tmps.mono hr)
end

end Go.Proofs.YtgjdgincebchhaaGreatDoor.Ev
namespace Go.Proofs.YtgjdgincebchhaaGreatDoor.Ev
open Go Go.RowKit
noncomputable section

def isCall (o : Oper) : Bool := match o.op with
  | .call { callee := .builtin _, .. } => false
  | .call _ => true
  | _ => false

def bodyOk (P : Program) (g : FuncId) : Bool := match P.funcs[g]? with
  | some fn => fn.body.isSome && !(fn.name == "runtime.NumGoroutine")
  | none => false

def evMeth (P : Program) (recv : Value) (name : String) (rest : List Value) (h : CH) : Option (Next × CH) := match recv with
  | .iface t v => match runC P (method (P.types.size + Made.depth) t v name) h with
    | some ((f, r), h') => if bodyOk P f then some (.enter f (r :: rest).toArray, h') else none
    | none => none
  | _ => none

def evTarget (P : Program) (ρ0 : Operand → Value) (h : CH) (o : Oper) : Option (Next × CH) := match o.op with
  | .call { callee := .value f, args, .. } =>
    if okX f && args.toList.all okX then
      match ρ0 f with
      | .func (.func g) first cap => if bodyOk P g then some (.enter g (first.toList ++ args.toList.map (ρ0) ++ cap.toList).toArray, h) else none
      | .func (.yield l) ⟨[]⟩ ⟨[]⟩ => runC P (Instr.yield l (args.toList.map (ρ0)).toArray) h
      | .func (.method name) first _ => match first.toList ++ args.toList.map (ρ0) with
        | r :: rest => evMeth P r name rest h
        | [] => none
      | _ => none
    else none
  | .call { callee := .invoke r name, args, .. } => if okX r && args.toList.all okX then evMeth P (ρ0 r) name (args.toList.map (ρ0)) h else none
  | _ => none

section
variable {P : Program} {p : Ph} {ρ0 : Operand → Value} {ρ : Operand → Value} {h : CH} {w : World}

theorem callFunc_run {g : FuncId} (hb : bodyOk P g = true) (as : Array Value) (w : World) : (callFunc g as).run P w = .ok (.enter g as) w := by
  unfold bodyOk at hb
  cases hf : P.funcs[g]? with
  | none => rw [hf] at hb; cases hb
  | some fn =>
    rw [hf] at hb
    simp only [Bool.and_eq_true, Bool.not_eq_true'] at hb
    have hn : fn.body.isNone = false := by
      have := hb.1
      cases h0 : fn.body with
      | none => rw [h0] at this; cases this
      | some c => rfl
    unfold callFunc
    rw [Sem.run_bind]
    simp only [Go.program, Sem.run, Result.andThen_ok, hf]
    rw [hb.2, hn]
    rfl

theorem meth_run {recv recv' : Value} {name : String} {rest rest' : List Value} (hr : RV p recv recv') (hs : RVl p rest rest') {nx : Next} {h1 : CH} (hev : evMeth P recv name rest h = some (nx, h1)) (hh : RH P p h w) :
    ∃ q nx' w1, Stp p h w q h1 w1 ∧ (callMethod recv' name rest'.toArray).run P w = .ok nx' w1 ∧ RH P q h1 w1 ∧ RN q nx nx' := by
  unfold evMeth at hev
  split at hev
  · rename_i t v
    cases hr with
    | @iface _ _ v' hv =>
      split at hev
      · rename_i f r h2 hrun
        split at hev
        · rename_i hb
          simp only [Option.some.injEq, Prod.mk.injEq] at hev
          obtain ⟨rfl, rfl⟩ := hev
          obtain ⟨q, a, w1, s1, s2, s3, s4, _⟩ := Sim.method (P := P) _ t (Ph.le_refl p) hv name p (Ph.le_refl _) h w hh _ _ hrun
          obtain ⟨f', r'⟩ := a
          obtain ⟨h1, h2⟩ := s4
          simp only at h1 h2
          subst h1
          refine ⟨q, .enter f' (#[r'] ++ rest'.toArray), w1, s1, ?_, s3, .enter f' ?_⟩
          · unfold callMethod
            simp only
            rw [Sem.run_bind]
            simp only [Go.program, Sem.run, Result.andThen_ok]
            rw [Sem.run_bind, s2]
            exact callFunc_run hb _ _
          · show RVl q _ _
            simp only [Array.toList_append]
            exact .cons h2 (hs.mono s1.le)
        · cases hev
      · cases hev
  · cases hev

theorem target_run (hρ : ∀ x, okX x = true → RV p (ρ0 x) (ρ x)) {o : Oper} {nx : Next} {h1 : CH} (hev : evTarget P ρ0 h o = some (nx, h1)) (hh : RH P p h w) :
    ∃ q nx' w1, Stp p h w q h1 w1 ∧ (execOp ρ o).run P w = .ok nx' w1 ∧ RH P q h1 w1 ∧ RN q nx nx' := by
  obtain ⟨dst, op, ty, pos, after, guard⟩ := o
  unfold evTarget at hev
  simp only at hev
  split at hev
  · rename_i f args at_ 
    split at hev
    · rename_i hok
      simp only [Bool.and_eq_true] at hok
      have hf := hρ f hok.1
      have ha := maps_rel hρ hok.2
      have hmap : args.map ρ = (args.toList.map ρ).toArray := by
        apply Array.ext'
        simp
      generalize hfe : ρ0 f = fv at hev hf
      generalize hfe' : ρ f = fv' at hf
      split at hev
      · rename_i g first cap
        split at hev
        · rename_i hb
          simp only [Option.some.injEq, Prod.mk.injEq] at hev
          obtain ⟨rfl, rfl⟩ := hev
          cases hf with
          | @func _ _ first' _ cap' hx hc =>
            refine ⟨p, .enter g (first' ++ args.map ρ ++ cap'), w, Stp.refl _ _ _, ?_, hh, .enter g ?_⟩
            · unfold execOp
              simp only [resolve]
              rw [hfe']
              exact callFunc_run hb _ _
            · show RVl p _ _
              rw [hmap]
              simp only [Array.toList_append]
              exact (hx.append ha).append hc
        · cases hev
      · rename_i l
        cases hf with
        | @yield _ l' hp =>
          obtain ⟨q, a, w1, s1, s2, s3, s4, _⟩ := Sim.yield (P := P) (c := (args.toList.map (ρ0)).toArray) (c' := args.map ρ) hp (by show RVl p _ _; rw [hmap]; exact ha) p (Ph.le_refl _) h w hh _ _ hev
          refine ⟨q, a, w1, s1, ?_, s3, s4⟩
          unfold execOp
          simp only [resolve]
          rw [hfe']
          have : (#[] ++ args.map ρ : Array Value) = args.map ρ := by simp
          show ((Instr.yield l' (#[] ++ args.map ρ)).run P w) = _
          rw [this]
          exact s2
      · rename_i name first cap
        cases hf with
        | @meth _ _ first' _ cap' hx hc =>
          have hall := hx.append ha
          split at hev
          · rename_i r rest hl
            rw [hl] at hall
            generalize hl' : first'.toList ++ args.toList.map ρ = l' at hall
            cases hall with
            | @cons _ r' _ rest' hr hs =>
              obtain ⟨q, nx', w1, s1, s2, s3, s4⟩ := meth_run hr hs hev hh
              refine ⟨q, nx', w1, s1, ?_, s3, s4⟩
              unfold execOp
              simp only [resolve]
              rw [hfe']
              have hargs : first' ++ args.map ρ = (r' :: rest').toArray := by
                apply Array.ext'
                rw [Array.toList_append, Array.toList_map, hl']
              show (invoke (.fn (.method name) cap') (first' ++ args.map ρ)).run P w = _
              rw [hargs]
              unfold invoke
              simp only [List.getElem?_toArray, List.getElem?_cons_zero]
              have hex : (r' :: rest').toArray.extract 1 (r' :: rest').toArray.size = rest'.toArray := by
                apply Array.ext'
                simp
              rw [hex]
              exact s2
          · cases hev
      · cases hev
    · cases hev
  · rename_i r name args at_
    split at hev
    · rename_i hok
      simp only [Bool.and_eq_true] at hok
      have hr := hρ r hok.1
      have ha := maps_rel hρ hok.2
      obtain ⟨q, nx', w1, s1, s2, s3, s4⟩ := meth_run hr ha hev hh
      refine ⟨q, nx', w1, s1, ?_, s3, s4⟩
      unfold execOp
      simp only [resolve]
      show (invoke (.fn (.method name) #[]) (#[ρ r] ++ args.map ρ)).run P w = _
      unfold invoke
      have h0 : (#[ρ r] ++ args.map ρ)[0]? = some (ρ r) := by
        rw [Array.getElem?_append_left (by show 0 < 1; omega)]
        rfl
      have hex : (#[ρ r] ++ args.map ρ).extract 1 (#[ρ r] ++ args.map ρ).size = (args.toList.map ρ).toArray := by
        apply Array.ext'
        simp
        exact List.take_of_length_le (by simp)
      simp only [h0, hex]
      exact s2
    · cases hev
  · cases hev
end

end

end Go.Proofs.YtgjdgincebchhaaGreatDoor.Ev
namespace Go.Proofs.YtgjdgincebchhaaGreatDoor.Ev
open Go Go.RowKit
noncomputable section

/-! ### values that are the same -/
mutual
def eqV : Value → Value → Bool
  | .bool a, .bool b => a == b
  | .int k n, .int k' n' => decide (k = k') && decide (n = n')
  | .string s, .string s' => decide (s = s')
  | .pointer none, .pointer none => true
  | .pointer (some a), .pointer (some b) => decide (a = b)
  | .slice none n c, .slice none n' c' => decide (n = n') && decide (c = c')
  | .slice (some a) n c, .slice (some b) n' c' => decide (a = b) && decide (n = n') && decide (c = c')
  | .map m, .map m' => decide (m = m')
  | .nilFunc, .nilFunc => true
  | .nilIface, .nilIface => true
  | .iface t v, .iface t' v' => decide (t = t') && eqV v v'
  | .agg ⟨l⟩, .agg ⟨l'⟩ => eqVl l l'
  | .tuple ⟨l⟩, .tuple ⟨l'⟩ => eqVl l l'
  | .func (.func f) ⟨x⟩ ⟨c⟩, .func (.func f') ⟨x'⟩ ⟨c'⟩ => decide (f = f') && eqVl x x' && eqVl c c'
  | _, _ => false
def eqVl : List Value → List Value → Bool
  | [], [] => true
  | v :: l, v' :: l' => eqV v v' && eqVl l l'
  | _, _ => false
end

mutual
theorem eqV_eq : ∀ {v v' : Value}, eqV v v' = true → v = v'
  | v, v', h => by
    unfold eqV at h
    split at h
    all_goals first
      | (cases h; done)
      | rfl
      | (simp only [beq_iff_eq] at h; subst h; rfl)
      | (simp only [decide_eq_true_eq] at h; subst h; rfl)
      | (simp only [Bool.and_eq_true, decide_eq_true_eq] at h; obtain ⟨h1, h2⟩ := h; subst h1; subst h2; rfl)
      | (simp only [Bool.and_eq_true, decide_eq_true_eq] at h; obtain ⟨⟨h1, h2⟩, h3⟩ := h; subst h1; subst h2; subst h3; rfl)
      | (simp only [Bool.and_eq_true, decide_eq_true_eq] at h; obtain ⟨h1, h2⟩ := h; rw [h1, eqV_eq h2])
      | (rw [eqVl_eq h])
      | (simp only [Bool.and_eq_true, decide_eq_true_eq] at h; obtain ⟨⟨h1, h2⟩, h3⟩ := h; rw [h1, eqVl_eq h2, eqVl_eq h3])
theorem eqVl_eq : ∀ {l l' : List Value}, eqVl l l' = true → l = l'
  | l, l', h => by
    unfold eqVl at h
    split at h
    · rfl
    · simp only [Bool.and_eq_true] at h
      rw [eqV_eq h.1, eqVl_eq h.2]
    · cases h
end

/-! ### what leaves the heap as it is -/
def runQ {α : Type} (P : Program) : Sem α → CH → Option α
  | .pure a, _ => some a
  | .load _ a k, h => match h.cell a with
    | some v => runQ P (k v) h
    | none => none
  | .getObj r k, h => match h.get r with
    | some o => if isRow o then none else runQ P (k o) h
    | none => none
  | .choose q k, h => if q.forced then runQ P (k 0) h else none
  | .program k, h => runQ P (k P) h
  | .mark _ k, h => runQ P k h
  | _, _ => none

theorem runQ_runC {α : Type} (P : Program) (t : Sem α) : ∀ {a : α} {h : CH}, runQ P t h = some a → runC P t h = some (a, h) := by
  induction t with
  | pure a => intro b h hq; simp only [runQ, Option.some.injEq] at hq; rw [hq]; rfl
  | load m a k ih =>
    intro b h hq
    simp only [runQ] at hq
    simp only [runC]
    cases hc : h.cell a with
    | none => rw [hc] at hq; cases hq
    | some v => rw [hc] at hq; exact ih v hq
  | getObj r k ih =>
    intro b h hq
    simp only [runQ] at hq
    simp only [runC]
    cases hc : h.get r with
    | none => rw [hc] at hq; cases hq
    | some o =>
      rw [hc] at hq
      simp only at hq ⊢
      split at hq
      · cases hq
      · rename_i hr
        rw [if_neg hr]
        exact ih o hq
  | choose q k ih =>
    intro b h hq
    simp only [runQ] at hq
    split at hq
    · rename_i hf
      simp only [runC, hf, if_true]
      exact ih 0 hq
    · cases hq
  | program k ih => intro b h hq; exact ih P hq
  | mark m k ih => intro b h hq; exact ih hq
  | _ => intros; simp_all [runQ]

def evRead (P : Program) (ρ0 : Operand → Value) (h : CH) (o : Oper) : Option Value :=
  if okPure P ρ0 o then
    match runP P (execOp ρ0 o) with
    | some (.value v) => if pureV v then some v else none
    | _ => none
  else if okOp P ρ0 o then
    match runQ P (execOp ρ0 o) h with
    | some (.value v) => some v
    | _ => none
  else none

theorem evRead_op {P : Program} {ρ0 : Operand → Value} {h : CH} {o : Oper} {v : Value} (he : evRead P ρ0 h o = some v) : evOp P ρ0 h o = some (v, h) := by
  unfold evRead at he
  unfold evOp
  split at he
  · rename_i hp
    rw [if_pos hp]
    split at he
    · rename_i v0 hr
      split at he
      · rename_i hv
        simp only [Option.some.injEq] at he
        subst he
        simp [hr, hv]
      · cases he
    · cases he
  · rename_i hp
    rw [if_neg hp]
    split at he
    · rename_i ho
      rw [if_pos ho]
      split at he
      · rename_i v0 hr
        simp only [Option.some.injEq] at he
        subst he
        rw [runQ_runC P _ hr]
      · cases he
    · cases he

theorem evRead_calm {P : Program} {ρ0 : Operand → Value} {h : CH} {o : Oper} {v : Value} (he : evRead P ρ0 h o = some v) : isCall o = false := by
  unfold evRead at he
  obtain ⟨dst, op, ty, pos, after, guard⟩ := o
  cases op with
  | call c =>
    obtain ⟨callee, args, argTypes⟩ := c
    cases callee with
    | builtin b => rfl
    | _ => simp [okPure, okOp] at he
  | _ => rfl

/-! ### who waits for whom -/
def afterM (acc : List Nat) : List Edge → Nat
  | [] => 0
  | e :: es => if Region.binds .any e then afterM acc es ||| (1 <<< e.on) ||| (acc.getD e.on 0) else afterM acc es
def ancs : List Oper → List Nat → List Nat
  | [], acc => acc
  | o :: rest, acc => ancs rest (acc ++ [afterM acc o.after.toList])

/-- what has come up is shut towards what it waits for. -/
def Down (ops : Array Oper) (L : Nat → Bool) : Prop := ∀ (i : Nat) (o : Oper), ops[i]? = some o → L i = true → ∀ e ∈ o.after.toList, Region.binds .any e = true → L e.on = true

def AncOk (ops : Array Oper) (acc : List Nat) : Prop := ∀ (k m : Nat), acc[k]? = some m → ∃ o, ops[k]? = some o ∧ ∀ L, Down ops L → (∀ e ∈ o.after.toList, Region.binds .any e = true → L e.on = true) → ∀ j, m.testBit j = true → L j = true

theorem afterM_bit {acc : List Nat} : ∀ {es : List Edge} {j : Nat}, (afterM acc es).testBit j = true → ∃ e ∈ es, Region.binds .any e = true ∧ (j = e.on ∨ ∃ m, acc[e.on]? = some m ∧ m.testBit j = true)
  | [], j, h => by simp [afterM] at h
  | e :: es, j, h => by
    unfold afterM at h
    split at h
    · rename_i hb
      simp only [Nat.testBit_or, Bool.or_eq_true] at h
      rcases h with (h | h) | h
      · obtain ⟨e', h1, h2⟩ := afterM_bit h
        exact ⟨e', List.mem_cons_of_mem _ h1, h2⟩
      · refine ⟨e, List.mem_cons_self, hb, .inl ?_⟩
        rw [Nat.one_shiftLeft, Nat.testBit_two_pow] at h
        simpa [eq_comm] using h
      · refine ⟨e, List.mem_cons_self, hb, .inr ?_⟩
        rw [List.getD_eq_getElem?_getD] at h
        cases hm : acc[e.on]? with
        | none => rw [hm] at h; simp at h
        | some m => rw [hm] at h; exact ⟨m, rfl, h⟩
    · obtain ⟨e', h1, h2⟩ := afterM_bit h
      exact ⟨e', List.mem_cons_of_mem _ h1, h2⟩

theorem ancs_ok {ops : Array Oper} : ∀ (l : List Oper) (acc : List Nat), ops.toList.drop acc.length = l → AncOk ops acc → AncOk ops (ancs l acc)
  | [], acc, _, h => h
  | o :: rest, acc, hd, h => by
    have hk : ops[acc.length]? = some o := by
      have h0 : (ops.toList.drop acc.length)[0]? = some o := by rw [hd]; rfl
      rw [List.getElem?_drop, Nat.add_zero, Array.getElem?_toList] at h0
      exact h0
    have hd2 : ops.toList.drop (acc.length + 1) = rest := by
      rw [← List.drop_drop, hd]
      rfl
    unfold ancs
    refine ancs_ok rest _ (by simpa using hd2) (fun k m hm => ?_)
    rw [List.getElem?_append] at hm
    split at hm
    · exact h k m hm
    · rename_i hlt
      have hke : k = acc.length := by
        rcases Nat.lt_or_ge k (acc.length + 1) with h1 | h1
        · omega
        · rw [List.getElem?_eq_none (by simp; omega)] at hm; cases hm
      subst hke
      simp only [Nat.sub_self, List.getElem?_cons_zero, Option.some.injEq] at hm
      subst hm
      refine ⟨o, hk, fun L hL hall j hj => ?_⟩
      obtain ⟨e, he, hb, hj⟩ := afterM_bit hj
      have hon := hall e he hb
      rcases hj with rfl | ⟨m, hm, hbit⟩
      · exact hon
      · obtain ⟨o2, ho2, h2⟩ := h _ _ hm
        exact h2 L hL (hL _ _ ho2 hon) j hbit

theorem ancs_bit {ops : Array Oper} {i j : Nat} {o : Oper} (ho : ops[i]? = some o) {L : Nat → Bool} (hL : Down ops L) (hi : ∀ e ∈ o.after.toList, Region.binds .any e = true → L e.on = true) (hj : ((ancs ops.toList []).getD i 0).testBit j = true) : L j = true := by
  rw [List.getD_eq_getElem?_getD] at hj
  cases hm : (ancs ops.toList [])[i]? with
  | none => rw [hm] at hj; simp at hj
  | some m =>
    rw [hm] at hj
    obtain ⟨o2, ho2, h2⟩ := ancs_ok (ops := ops) ops.toList [] rfl (fun k m h => by simp at h) i m hm
    rw [ho] at ho2
    injection ho2 with ho2
    subst ho2
    exact h2 L hL hi j hj

/-! ### what is asked of a region's text -/
/-- the slots that an operation looks at. -/
def opT (o : Oper) : List Nat := o.op.operands.toList.filterMap fun | .tmp t => some t | _ => none
def gdT (ops : Array Oper) (o : Oper) : List Nat := match o.guard with
  | some (g, _) => ((ops[g]?).bind (·.dst)).toList
  | none => []

def calm (o : Oper) : Bool := match o.op with
  | .select .. | .defer _ => false
  | _ => true

def pairOk (ops : Array Oper) (ms : List Nat) (r i : Nat) : Bool := match ops[r]?, ops[i]? with
  | some x, some y =>
    (match x.dst with | some d => !(y.dst == some d) && (!((opT y ++ gdT ops y).contains d) || (ms.getD i 0).testBit r) | none => true) &&
    (match y.dst with | some d => !((opT x ++ gdT ops x).contains d) || (ms.getD i 0).testBit r | none => true)
  | _, _ => false

def okOrd (ops : Array Oper) (ms : List Nat) (la : Option Nat) : List (Nat × Bool) → Nat → Nat → List Nat → Bool
  | [], dn, _, _ => decide (dn = 2 ^ ops.size - 1)
  | (i, fl) :: rest, dn, ef, acc =>
    decide (ms.getD i 0 &&& dn = ms.getD i 0) && !(dn.testBit i) && ((fl && la == some i) || decide (ms.getD i 0 &&& ef = ef)) && acc.all (fun r => pairOk ops ms r i) &&
    (match ops[i]? with | some o => calm o && (!(la == some i) || (o.guard.isNone && fl)) | none => false) && okOrd ops ms la rest (dn ||| 1 <<< i) (if fl then ef ||| 1 <<< i else ef) (i :: acc)

/-- an operation that makes a block and that no edge orders against a call. -/
def lateOf (ms : List Nat) : List (Nat × Bool) → Nat → Option Nat
  | [], _ => none
  | (i, true) :: rest, ef => if ms.getD i 0 &&& ef = ef then lateOf ms rest (ef ||| 1 <<< i) else some i
  | (_, false) :: rest, ef => lateOf ms rest ef

/-- the operands, and nothing else. -/
def evM (tm : List Value) (L : List Nat) : Operand → Value
  | .tmp t => if L.contains t then nth tm t else undef
  | x => evO tm x

/-! ### ids below a bound -/
mutual
def below (n : Nat) : Value → Bool
  | .pointer (some a) => decide (a.block < n)
  | .slice (some a) _ _ => decide (a.block < n)
  | .map (some m) => decide (m < n)
  | .iface _ v => below n v
  | .agg ⟨l⟩ => belowl n l
  | .tuple ⟨l⟩ => belowl n l
  | .func (.yield l) _ _ => decide (l < n)
  | .func _ ⟨x⟩ ⟨c⟩ => belowl n x && belowl n c
  | _ => true
def belowl (n : Nat) : List Value → Bool
  | [] => true
  | v :: l => below n v && belowl n l
end

def Ph.cut (p : Ph) (n : Nat) : Ph := fun b => if b < n then p b else none

theorem Ph.cut_at {p : Ph} {n b : Nat} (h : b < n) : p.cut n b = p b := if_pos h
theorem Ph.cut_le (p : Ph) (n : Nat) : (p.cut n).le p := fun b x hb => by
  unfold Ph.cut at hb
  split at hb
  · exact hb
  · cases hb

theorem Glob.cut {q : Ph} {bA : Nat} (h : Glob q) (hq : q bA = none) : Glob (q.cut bA) := fun g hg => by
  rcases Nat.lt_or_ge g bA with h1 | h1
  · rw [Ph.cut_at h1]
    exact h g hg
  · have := h bA (Nat.lt_of_le_of_lt h1 hg)
    rw [hq] at this
    cases this

theorem RA.cut {p : Ph} {a a' : Addr} {n : Nat} (h : RA p a a') (hb : a.block < n) : RA (p.cut n) a a' := by
  cases h with
  | mk h o => exact .mk (by rw [Ph.cut_at hb]; exact h) o

mutual
theorem RV.cut {p : Ph} {n : Nat} : ∀ {v v' : Value}, RV p v v' → below n v = true → RV (p.cut n) v v'
  | _, _, .bool b, _ => .bool b
  | _, _, .int k n, _ => .int k n
  | _, _, .string s, _ => .string s
  | _, _, .pnil, _ => .pnil
  | _, _, .ptr h, hb => .ptr (h.cut (by simpa [below] using hb))
  | _, _, .snil n c, _ => .snil n c
  | _, _, .slice h n c hc, hb => .slice (h.cut (by simpa [below] using hb)) n c hc
  | _, _, .sopen h o n c c' hc hle he hn, hb => .sopen (by rw [Ph.cut_at (by simpa [below] using hb)]; exact h) o n c c' hc hle he hn
  | _, _, .sempty h o o' c hc hle, hb => .sempty (by rw [Ph.cut_at (by simpa [below] using hb)]; exact h) o o' c hc hle
  | _, _, .mnil, _ => .mnil
  | _, _, .map h, hb => .map (by rw [Ph.cut_at (by simpa [below] using hb)]; exact h)
  | _, _, .func f (x := x) (c := c) hx hc, hb => by
    obtain ⟨x⟩ := x
    obtain ⟨c⟩ := c
    simp only [below, Bool.and_eq_true] at hb
    exact .func f (RVl.cut hx hb.1) (RVl.cut hc hb.2)
  | _, _, .meth s (x := x) (c := c) hx hc, hb => by
    obtain ⟨x⟩ := x
    obtain ⟨c⟩ := c
    simp only [below, Bool.and_eq_true] at hb
    exact .meth s (RVl.cut hx hb.1) (RVl.cut hc hb.2)
  | _, _, .yield h, hb => .yield (by rw [Ph.cut_at (by simpa [below] using hb)]; exact h)
  | _, _, .nilFunc, _ => .nilFunc
  | _, _, .iface t h, hb => .iface t (RV.cut h (by simpa [below] using hb))
  | _, _, .nilIface, _ => .nilIface
  | _, _, .agg (c := c) hl, hb => by
    obtain ⟨c⟩ := c
    simp only [below] at hb
    exact .agg (RVl.cut hl hb)
  | _, _, .tuple (c := c) hl, hb => by
    obtain ⟨c⟩ := c
    simp only [below] at hb
    exact .tuple (RVl.cut hl hb)
theorem RVl.cut {p : Ph} {n : Nat} : ∀ {l l' : List Value}, RVl p l l' → belowl n l = true → RVl (p.cut n) l l'
  | _, _, .nil, _ => .nil
  | _, _, .cons hv hs, h => by
    simp only [belowl, Bool.and_eq_true] at h
    exact .cons (RV.cut hv h.1) (RVl.cut hs h.2)
end

end

end Go.Proofs.YtgjdgincebchhaaGreatDoor.Ev
namespace Go.Proofs.YtgjdgincebchhaaGreatDoor.Ev
open Go Go.RowKit
noncomputable section

inductive Ex where
  | normal
  | exit (id : Nat)
  | ret

structure St where
  tm : List Value
  ds : List Deferred
  h : CH

inductive Req where
  | loop (f : FuncId) (ro : Option Nat) (c : Code) (s : St)
  | call (f : FuncId) (args : List Value) (h : CH)
  | callD (f : FuncId) (args : List Value) (h : CH)

inductive Res where
  | code (e : Ex) (s : St)
  | value (v : Value) (h : CH)

def putT (tm : List Value) (d : Option Nat) (v : Value) : List Value := match d with
  | some i => tm.set i v
  | none => tm

section
variable (P : Program) (tab : FuncId → Nat → List (Nat × Bool)) (rec : Req → Option Res)

def jumpOf : Ex → Option Code
  | .normal => none
  | .exit id => some (.exit id)
  | .ret => some .ret

/-- a round of a range over a function; 'codeW' is the walk of its texts. -/
def evRound (codeW : Option Nat → Code → St → Option (Ex × St)) (l : Nat) (tmps : List Value) (assign body : Code) (h : CH) : Option (Value × CH) :=
  match codeW (some l) assign ⟨tmps, [], h⟩ with
  | some (.normal, s1) =>
    match runC P (Instr.beginRound l) s1.h with
    | some (_, h2) =>
      match codeW (some l) body ⟨s1.tm, s1.ds, h2⟩ with
      | some (e, s3) => runC P (Instr.endRound l (jumpOf e)) s3.h
      | none => none
    | none => none
  | _ => none

def okDefer : Deferred → Bool
  | { target := .fn (.func _) _, .. } => true
  | _ => false

def okDefC (ro : Option Nat) (c : Call) : Bool := ro.isNone && c.args.toList.all okX && (match c.callee with | .value f => okX f | _ => false)

/-- one operation, calls too. -/
def evOper (ρ0 : Operand → Value) (ds : List Deferred) (h : CH) (ro : Option Nat) (o : Oper) : Option (Value × List Deferred × CH) :=
  if isCall o then
    match evTarget P ρ0 h o with
    | some (.enter f args, h') =>
      match rec (.call f args.toList h') with
      | some (.value v h2) => some (v, ds, h2)
      | _ => none
    | some (.round l f tmps assign body, h') =>
      match evRound P (fun ro c s => match rec (.loop f ro c s) with | some (.code e s') => some (e, s') | _ => none) l tmps.toList assign body h' with
      | some (v, h2) => some (v, ds, h2)
      | none => none
    | _ => none
  else match o.op with
    | .defer c => if okDefC ro c then
        match runC P (resolve ρ0 c o.type) h with
        | some (d, h') => if okDefer d then some (undef, d :: ds, h') else none
        | none => none
      else none
    | _ => match evOp P ρ0 h o with
      | some (v, h') => some (v, ds, h')
      | none => none

def wantedC (ops : Array Oper) (tm : List Value) (o : Oper) : Bool := match o.guard with
  | none => true
  | some (j, want) => match (ops[j]?).bind (·.dst) with
    | some d => (match nth tm d with | .bool b => b == want | _ => false)
    | none => false

def evOps (ops : Array Oper) (ro : Option Nat) : List Oper → St → Option St
  | [], s => some s
  | o :: rest, s =>
    if wantedC ops s.tm o then
      match evOper P rec (evO s.tm) s.ds s.h ro o with
      | some (v, ds, h') => evOps ops ro rest ⟨putT s.tm o.dst v, ds, h'⟩
      | none => none
    else evOps ops ro rest ⟨putT s.tm o.dst undef, s.ds, s.h⟩

/-- an operation of a region that draws its order, as it was reckoned. -/
structure En where
  i : Nat
  fl : Bool
  o : Oper
  wn : Bool
  s : St
  v : Value
  h1 : CH

def En.ρ0 (en : En) : Operand → Value := evM en.s.tm (opT en.o)
def En.next (en : En) : St := ⟨putT en.s.tm en.o.dst en.v, en.s.ds, en.h1⟩

/-- what was read and may yet come up behind this operation reads the same there. -/
def readsStay (m : Nat) (h1 : CH) (acc : List En) : Bool :=
  acc.all fun r => r.fl || !r.wn || m.testBit r.i || (match evRead P r.ρ0 h1 r.o with | some v => eqV r.v v | none => false)

def evOne (ops : Array Oper) (ro : Option Nat) (la : Option Nat) (bA : Nat) (s : St) (i : Nat) (fl : Bool) (o : Oper) : Option En :=
  if wantedC ops s.tm o then
    if fl then
      if la == some i then
        if isCall o then none else
        match evOp P (evM s.tm (opT o)) ⟨.e, bA⟩ o with
        | some (v, hA) => match hA.get bA with
          | some oA => if decide (hA.n = bA + 1) && (opT o).all (fun t => below bA (nth s.tm t)) && (s.h.get bA).isNone then some ⟨i, fl, o, true, s, v, s.h.set bA (some oA)⟩ else none
          | none => none
        | none => none
      else match evOper P rec (evM s.tm (opT o)) s.ds s.h ro o with
        | some (v, _, h1) => some ⟨i, fl, o, true, s, v, h1⟩
        | none => none
    else match evRead P (evM s.tm (opT o)) s.h o with
      | some v => some ⟨i, fl, o, true, s, v, s.h⟩
      | none => none
  else some ⟨i, fl, o, false, s, undef, s.h⟩

def evDr (ops : Array Oper) (ro : Option Nat) (ms : List Nat) (la : Option Nat) (bA : Nat) : List (Nat × Bool) → List En → St → Option St
  | [], _, s => some s
  | (i, fl) :: rest, acc, s => match ops[i]? with
    | none => none
    | some o => match evOne P rec ops ro la bA s i fl o with
      | none => none
      | some en => if fl && !readsStay P (ms.getD i 0) en.h1 acc then none else evDr ops ro ms la bA rest (en :: acc) en.next

def evDrawn (ops : Array Oper) (ro : Option Nat) (ord : List (Nat × Bool)) (s : St) : Option St :=
  if decide (ord.length = ops.size) && okOrd ops (ancs ops.toList []) (lateOf (ancs ops.toList []) ord 0) ord 0 0 [] then
    match lateOf (ancs ops.toList []) ord 0 with
    | none => evDr P rec ops ro (ancs ops.toList []) none 0 ord [] s
    | some A => if decide (s.h.n + 1 < 2 ^ D) && ((⟨s.h.t, s.h.n + 1⟩ : CH).get s.h.n).isNone then
        evDr P rec ops ro (ancs ops.toList []) (some A) s.h.n ord [] ⟨s.tm, s.ds, ⟨s.h.t, s.h.n + 1⟩⟩
      else none
  else none

def evCode (f : FuncId) (ro : Option Nat) : Code → St → Option (Ex × St)
  | .skip, s => some (.normal, s)
  | .label _, s => some (.normal, s)
  | .seq a b, s => match evCode f ro a s with
    | some (.normal, s') => evCode f ro b s'
    | r => r
  | .cond c x y, s => match evO s.tm c with
    | .bool true => evCode f ro x s
    | .bool false => evCode f ro y s
    | _ => none
  | .block id c, s => match evCode f ro c s with
    | some (.exit id', s') => if id' = id then some (.normal, s') else some (.exit id', s')
    | r => r
  | .loop c, s => match evCode f ro c s with
    | some (.normal, s') => match rec (.loop f ro (.loop c) s') with
      | some (.code e s2) => some (e, s2)
      | _ => none
    | r => r
  | .exit id, s => some (.exit id, s)
  | .ret, s => some (.ret, s)
  | .region id ops draw, s =>
    if draw then (evDrawn P rec ops ro (tab f id) s).map fun s' => (.normal, s')
    else (evOps P rec ops ro ops.toList s).map fun s' => (.normal, s')
  | .rangeFunc g ps assign body, s =>
    if okX g then
      match runC P (Instr.enterLoop f s.tm.toArray ps assign body ro) s.h with
      | some ((l, mark), h1) =>
        match evO s.tm g with
        | .func (.func f') first cap =>
          if !bodyOk P f' then none else
          match rec (.call f' (first.toList ++ [.func (.yield l) #[] #[]] ++ cap.toList) h1) with
          | some (.value _ h3) =>
            match runC P (Instr.endLoop l) h3 with
            | some (none, h4) => some (.normal, ⟨s.tm, mark ++ s.ds, h4⟩)
            | some (some .ret, h4) => some (.ret, ⟨s.tm, mark ++ s.ds, h4⟩)
            | some (some (.exit id), h4) => some (.exit id, ⟨s.tm, mark ++ s.ds, h4⟩)
            | _ => none
          | _ => none
        | _ => none
      | none => none
    else none
  | _, _ => none

/-- the deferred calls. -/
def evDefers : List Deferred → CH → Option CH
  | [], h => some h
  | { target := .collected r, .. } :: ds, h => match runC P (Instr.takeDeferred r) h with
    | some ([], h') => evDefers ds h'
    | _ => none
  | { target := .fn (.func f) cap, args } :: ds, h => if !bodyOk P f then none else
    match rec (.callD f (args ++ cap).toList h) with
    | some (.value _ h') => evDefers ds h'
    | _ => none
  | _, _ => none

def evCall (f : FuncId) (args : List Value) (h : CH) : Option (Value × CH) :=
  match P.funcs[f]? with
  | none => none
  | some fn => match fn.body with
    | none => none
    | some c =>
      match evCode P tab rec f none c ⟨args ++ List.replicate (fn.ntmps - args.length) undef, [], h⟩ with
      | some (.exit _, _) => none
      | none => none
      | some (_, s) =>
        match evDefers P rec s.ds s.h with
        | some h' => runC P (results fn s.tm.toArray) h'
        | none => none

/-- a deferred call: of a function that defers nothing itself. -/
def evCallD (f : FuncId) (args : List Value) (h : CH) : Option (Value × CH) :=
  match P.funcs[f]? with
  | none => none
  | some fn => match fn.body with
    | none => none
    | some c =>
      match evCode P tab rec f none c ⟨args ++ List.replicate (fn.ntmps - args.length) undef, [], h⟩ with
      | some (.exit _, _) => none
      | none => none
      | some (_, s) => if s.ds.isEmpty then runC P (results fn s.tm.toArray) s.h else none

def evStep : Req → Option Res
  | .loop f ro c s => match evCode P tab rec f ro c s with
    | some (e, s') => some (.code e s')
    | none => none
  | .call f args h => match evCall P tab rec f args h with
    | some (v, h') => some (.value v h')
    | none => none
  | .callD f args h => match evCallD P tab rec f args h with
    | some (v, h') => some (.value v h')
    | none => none
end

def ev (P : Program) (tab : FuncId → Nat → List (Nat × Bool)) : Nat → Req → Option Res
  | 0 => fun _ => none
  | n + 1 => evStep P tab (ev P tab n)

end

end Go.Proofs.YtgjdgincebchhaaGreatDoor.Ev

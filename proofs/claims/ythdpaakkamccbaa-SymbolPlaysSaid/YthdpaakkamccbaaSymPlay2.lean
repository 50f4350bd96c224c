/-
  Memory words of SymbolPlays: a list of calls in memory; a pair that is made.
-/
import Derived.Test.YthdpaakkamccbaaSymPlay1
namespace Go.Proofs.Ythdpaakkamccbaa
open Go.RowKit Go.Maps

/-- a call of the script: its list lies in memory of its own. -/
structure OpV where
  on : Int
  kind : Int
  n : Int
  m : Int
  v : Val
  l : List Val
  A : Option Addr
  cap : Nat
  rs : List Int
def OpV.cells (o : OpV) : Array Value := opC o.on o.kind o.n o.m o.v (.slice o.A o.l.length o.cap) o.rs
structure OpV.good (w : World) (o : OpV) : Prop where
  v : o.v.wf
  len : o.rs.length = 24
  rs : ∀ r ∈ o.rs, r ≤ 2147483647
  nil_ : o.A = none → o.cap = 0
  rd : RdV w o.A o.l
  wf : ∀ u ∈ o.l, u.wf
  reach : o.l.length * 32 ≤ 140737488351232
/-- calls that are only read. -/
def RdO (w : World) (A : Option Addr) (os : List OpV) : Prop := os ≠ [] → ∃ b off, A = some ⟨b, off, none⟩ ∧ b < w.heap.size ∧ ∀ i (h : i < os.length), w.rangeAt b (off + i * 32) (os[i]).cells.toList

theorem rangeAt_below {w w' : World} {b o B : Nat} {cs : List Value} (h : w.rangeAt b o cs) (hb : Below B w w') (hlt : b < B) : w'.rangeAt b o cs := fun j v hj => (hb.cell (p := ⟨b, o + j, none⟩) hlt).trans (h j v hj)

theorem pt_far {w : World} {tv : Value} {st : St} {S : List Nat} (h : PT w tv st S) {p : Addr} (hp : p.block ∉ S) (u : Value) : PT (w.setCell p u) tv st S := h.same fun _ hk => Below.heap_setCell _ _ _ _ (fun e => hp (e ▸ hk))
theorem rt_far {w : World} {rv : Value} {st : St} {S : List Nat} (h : RT w rv st S) {p : Addr} (hp : p.block ∉ S) (u : Value) : RT (w.setCell p u) rv st S := h.same fun _ hk => Below.heap_setCell _ _ _ _ (fun e => hp (e ▸ hk))
theorem kept_far {w : World} {k tv : Value} {lb : Nat} {bc : Array Value} (h : KeptOk w k tv) (hb : Blk w lb 62 bc) {p : Addr} (hp : p.block = lb) (u : Value) : KeptOk (w.setCell p u) k tv := by
  rcases h with h | ⟨kb, h, hk⟩
  · exact .inl h
  · exact .inr ⟨kb, h, hk.far (by rw [hp]; exact hk.ne_ hb (by decide)) _⟩

theorem get_eq {bc : Array Value} {i : Nat} {u : Value} (h : i < bc.size) : (bc.setIfInBounds i u)[i]? = some u := by rw [Array.getElem?_setIfInBounds, if_pos rfl, if_pos h]
theorem get_ne {bc : Array Value} {i j : Nat} {u : Value} (h : i ≠ j) : (bc.setIfInBounds i u)[j]? = bc[j]? := Array.getElem?_setIfInBounds_ne h

section
variable {w Wx Wy : World} {B lb : Nat} {bc : Array Value} {tv0 rv0 tv1 rv1 k0 k1 tv rv : Value} {st0 st1 st : St} {S1 S2 S3 S4 S S' : List Nat}
theorem TwoAt.put0 (h : TwoAt w B lb bc tv0 rv0 tv1 rv1 k0 k1 st0 st1 S1 S2 S3 S4) (hB : B ≤ w.heap.size) (hbx : Below w.heap.size w Wx) (hp : PT Wx tv st S) (hS : ∀ k ∈ S, w.heap.size ≤ k) (hby : Below Wx.heap.size Wx Wy) (hr : RT Wy rv st S') (hS' : ∀ k ∈ S', Wx.heap.size ≤ k) :
    TwoAt (((Wy.setCell ⟨lb, 0, none⟩ tv).setCell ⟨lb, 1, none⟩ rv).setCell ⟨lb, 2, none⟩ .nilFunc) B lb (((bc.setIfInBounds 0 tv).setIfInBounds 1 rv).setIfInBounds 2 .nilFunc) tv rv tv1 rv1 .nilFunc k1 st st1 S S' S3 S4 := by
  have hlb := h.p0.blk.lt
  have hz := hbx.size
  have hxy : Below w.heap.size w Wy := hbx.trans (hby.mono hbx.size)
  have h' := h.below hxy
  have hsz : 5 < bc.size := (Array.getElem?_eq_some_iff.1 h.c5).1
  have hlS : lb ∉ S := fun hm => by have := hS lb hm; omega
  have hlS' : lb ∉ S' := fun hm => by have := hS' lb hm; omega
  have hl := hp.lt
  have hk : Blk (((Wy.setCell ⟨lb, 0, none⟩ tv).setCell ⟨lb, 1, none⟩ rv).setCell ⟨lb, 2, none⟩ .nilFunc) lb 62 (((bc.setIfInBounds 0 tv).setIfInBounds 1 rv).setIfInBounds 2 .nilFunc) := (((h'.p0.blk.set_ 0 tv).set_ 1 rv).set_ 2 .nilFunc)
  have hge : ∀ x ∈ S ++ S', w.heap.size ≤ x := fun x hx => by
    rcases List.mem_append.1 hx with h | h
    · exact hS x h
    · have := hS' x h; omega
  refine ⟨⟨hk, ?_, ?_, pt_far (pt_far (pt_far (hp.below hby) hlS _) hlS _) hlS _, rt_far (rt_far (rt_far hr hlS' _) hlS' _) hlS' _, fun x hx hm => ?_, hlS, hlS'⟩,
    ⟨hk, ?_, ?_, pt_far (pt_far (pt_far h'.p1.pt h.p1.b1 _) h.p1.b1 _) h.p1.b1 _, rt_far (rt_far (rt_far h'.p1.rt h.p1.b2 _) h.p1.b2 _) h.p1.b2 _, h.p1.dis, h.p1.b1, h.p1.b2⟩, ?_, ?_, .inl rfl, ?_, fun x hx hm => ?_, fun x hx => Nat.le_trans hB (hge x hx), h.new1⟩
  · rw [get_ne (by decide), get_ne (by decide)]; exact get_eq (by omega)
  · rw [get_ne (by decide)]; exact get_eq (by rw [Array.size_setIfInBounds]; omega)
  · have := hl x hx; have := hS' x hm; omega
  · rw [get_ne (by decide), get_ne (by decide), get_ne (by decide)]; exact h.p1.at0
  · rw [get_ne (by decide), get_ne (by decide), get_ne (by decide)]; exact h.p1.at1
  · exact get_eq (by rw [Array.size_setIfInBounds, Array.size_setIfInBounds]; omega)
  · rw [get_ne (by decide), get_ne (by decide), get_ne (by decide)]; exact h.c5
  · exact kept_far (kept_far (kept_far h'.k1 h'.p0.blk rfl _) (h'.p0.blk.set_ 0 tv) rfl _) ((h'.p0.blk.set_ 0 tv).set_ 1 rv) rfl _
  · have := hge x hx
    rcases List.mem_append.1 hm with h1 | h1
    · have := h.p1.pt.lt x h1; omega
    · have := h.p1.rt.lt x h1; omega
theorem TwoAt.put1 (h : TwoAt w B lb bc tv0 rv0 tv1 rv1 k0 k1 st0 st1 S1 S2 S3 S4) (hB : B ≤ w.heap.size) (hbx : Below w.heap.size w Wx) (hp : PT Wx tv st S) (hS : ∀ k ∈ S, w.heap.size ≤ k) (hby : Below Wx.heap.size Wx Wy) (hr : RT Wy rv st S') (hS' : ∀ k ∈ S', Wx.heap.size ≤ k) :
    TwoAt (((Wy.setCell ⟨lb, 3, none⟩ tv).setCell ⟨lb, 4, none⟩ rv).setCell ⟨lb, 5, none⟩ .nilFunc) B lb (((bc.setIfInBounds 3 tv).setIfInBounds 4 rv).setIfInBounds 5 .nilFunc) tv0 rv0 tv rv k0 .nilFunc st0 st S1 S2 S S' := by
  have hlb := h.p0.blk.lt
  have hz := hbx.size
  have hxy : Below w.heap.size w Wy := hbx.trans (hby.mono hbx.size)
  have h' := h.below hxy
  have hsz : 5 < bc.size := (Array.getElem?_eq_some_iff.1 h.c5).1
  have hlS : lb ∉ S := fun hm => by have := hS lb hm; omega
  have hlS' : lb ∉ S' := fun hm => by have := hS' lb hm; omega
  have hl := hp.lt
  have hk : Blk (((Wy.setCell ⟨lb, 3, none⟩ tv).setCell ⟨lb, 4, none⟩ rv).setCell ⟨lb, 5, none⟩ .nilFunc) lb 62 (((bc.setIfInBounds 3 tv).setIfInBounds 4 rv).setIfInBounds 5 .nilFunc) := (((h'.p0.blk.set_ 3 tv).set_ 4 rv).set_ 5 .nilFunc)
  have hge : ∀ x ∈ S ++ S', w.heap.size ≤ x := fun x hx => by
    rcases List.mem_append.1 hx with h | h
    · exact hS x h
    · have := hS' x h; omega
  refine ⟨⟨hk, ?_, ?_, pt_far (pt_far (pt_far h'.p0.pt h.p0.b1 _) h.p0.b1 _) h.p0.b1 _, rt_far (rt_far (rt_far h'.p0.rt h.p0.b2 _) h.p0.b2 _) h.p0.b2 _, h.p0.dis, h.p0.b1, h.p0.b2⟩,
    ⟨hk, ?_, ?_, pt_far (pt_far (pt_far (hp.below hby) hlS _) hlS _) hlS _, rt_far (rt_far (rt_far hr hlS' _) hlS' _) hlS' _, fun x hx hm => ?_, hlS, hlS'⟩, ?_, ?_, ?_, .inl rfl, fun x hx hm => ?_, h.new0, fun x hx => Nat.le_trans hB (hge x hx)⟩
  · rw [get_ne (by decide), get_ne (by decide), get_ne (by decide)]; exact h.p0.at0
  · rw [get_ne (by decide), get_ne (by decide), get_ne (by decide)]; exact h.p0.at1
  · rw [get_ne (by decide), get_ne (by decide)]; exact get_eq (by omega)
  · rw [get_ne (by decide)]; exact get_eq (by rw [Array.size_setIfInBounds]; omega)
  · have := hl x hx; have := hS' x hm; omega
  · rw [get_ne (by decide), get_ne (by decide), get_ne (by decide)]; exact h.c2
  · exact get_eq (by rw [Array.size_setIfInBounds, Array.size_setIfInBounds]; omega)
  · exact kept_far (kept_far (kept_far h'.k0 h'.p0.blk rfl _) (h'.p0.blk.set_ 3 tv) rfl _) ((h'.p0.blk.set_ 3 tv).set_ 4 rv) rfl _
  · have := hge x hm
    rcases List.mem_append.1 hx with h1 | h1
    · have := h.p0.pt.lt x h1; omega
    · have := h.p0.rt.lt x h1; omega
end

/-- at the beginning: two pairs that are not there. -/
theorem two_zero {w : World} {B lb : Nat} (h : Blk w lb 62 #[.pointer none, .pointer none, .nilFunc, .pointer none, .pointer none, .nilFunc]) :
    TwoAt w B lb #[.pointer none, .pointer none, .nilFunc, .pointer none, .pointer none, .nilFunc] (.pointer none) (.pointer none) (.pointer none) (.pointer none) .nilFunc .nilFunc none none [] [] [] [] :=
  ⟨⟨h, rfl, rfl, .inl ⟨rfl, rfl⟩, ⟨rfl, rfl⟩, by simp, by simp, by simp⟩, ⟨h, rfl, rfl, .inl ⟨rfl, rfl⟩, ⟨rfl, rfl⟩, by simp, by simp, by simp⟩, rfl, rfl, .inl rfl, .inl rfl, by simp, by simp, by simp⟩

theorem build_two (one two : Int) (w : World) : (Instr.build 56 #[(0, .int .i64 one), (1, .int .i64 two)]).run Try.prog w = .ok (.agg #[.int .i64 one, .int .i64 two]) w := run_build w 56 _ _ (by kernel_rfl)
theorem build_both2 (p q : Option Addr) (w : World) : (Instr.build 61 #[(0, .pointer p), (1, .pointer q)]).run Try.prog w = .ok (.agg #[.pointer p, .pointer q, .nilFunc]) w := run_build w 61 _ _ (by kernel_rfl)

theorem ord_take' {P : Program} {ops : Array Oper} {Q : Exit → Act → World → Prop} {S : World → Prop} {o : Oper} {rest : List (Bool × Oper)} {a : Act} {w : World} {v : Value} (hy : YieldsIf P ops S o v a) (h : ordH P ops Q S rest (a.put o.dst v) w) :
    ordH P ops Q S ((false, o) :: rest) a w := ⟨v, hy, h⟩

end Go.Proofs.Ythdpaakkamccbaa

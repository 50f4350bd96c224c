/-
  Walks: Add of a table that is there.
-/
import Derived.Test.YthdpaakkamccbaaSymW3
namespace Go.Proofs.Ythdpaakkamccbaa
open Go.RowKit Go.Maps

/-- append onto a row of the calls' own, as one step of a region that draws; a block elsewhere stays as it was. -/
theorem step_append_row {P : Program} {ops : Array Oper} {o : Oper} {a : Act} {w : World} {K : Act → World → Prop} {Q : Exit → Act → World → Prop} {E : Prop}
    (hg : o.guard = none) (s x : Operand) (t : TypeId) (hop : o.op = Op.call { callee := Callee.builtin Builtin.append, args := #[s, x], argTypes := #[t, t] })
    (e : TypeId) (i : TypeInfo) (z : Value) (size bytes : Nat) (ht : P.underlying t = some (.slice e)) (hi : P.info? e = some i) (hz : i.zero = some z)
    (hsize : i.size = size) (hby : i.bytes = bytes) (hzs : z.cells.size = size) (hsz : 0 < size)
    (A : Option Addr) (n cap : Nat) (xs : List Value) (hs : a.eval s = .slice A n cap) (hown : w.ownsRow 0 e size (.slice A n cap) n xs)
    (ad : Addr) (m c : Nat) (news : List Value) (hx : a.eval x = .slice (some ad) m c) (hl : news.length = m * size) (hnews : ∀ j u, news[j]? = some u → w.cell? (ad.add j) = some u) (h1 : ∀ u ∈ news, u.oneCell' = true)
    (h63 : n + m ≤ maxLen) (hbytes : (n + m) * bytes ≤ 140737488355328) (hm : 0 < n + m)
    (tb : Nat) (T : TypeId) (cs : Array Value) (hblk : Blk w tb T cs) (hTe : e ≠ T)
    (hK : ∀ g cap' w', w'.ownsRow 0 e size (.slice (some ⟨g, 0, none⟩) (n + m) cap') (n + m) (xs ++ news) → w.grownBy w' (Value.slice A n cap).ownBlock → (some g = (Value.slice A n cap).ownBlock ∨ g = w.heap.size) → Blk w' tb T cs →
      K (a.put o.dst (.slice (some ⟨g, 0, none⟩) (n + m) cap')) w') :
    if Region.wanted o (yielded ops a.tmps) = true then Oper.wp P o a w K Q else E := by
  have hw : Region.wanted o (yielded ops a.tmps) = true := by simp [Region.wanted, hg]
  rw [if_pos hw]
  obtain ⟨v', w', hr, h2, h3, h4, h5⟩ := run_append_own_at (P := P) w 0 t o.type e i z size bytes ht hi hz hsize hby hzs hsz _ n xs hown ad m c news hl hnews h1 h63 hbytes (Nat.zero_le _)
  unfold Oper.wp execOp
  simp only [hop, resolve, invoke, builtin, Sem.run_bind, Sem.run_pure, Result.andThen_ok, List.map_toArray, List.map_cons, List.map_nil, hs, hx, hr]
  obtain ⟨g, cap', rfl⟩ : ∃ g cap', v' = .slice (some ⟨g, 0, none⟩) (n + m) cap' := by
    obtain ⟨g, cap', hv, _⟩ := h2.form hm
    exact ⟨g, cap', hv⟩
  refine hK g cap' w' h2 h3 ?_ ?_
  · rcases h5 with h5 | h5
    · exact .inl h5
    · right; simpa [Value.ownBlock] using h5
  · refine hblk.same (h3.block tb hblk.lt ?_)
    intro he
    rcases hown.2 with ⟨hv, _⟩ | ⟨g0, c0, cur, hv, _, hh, _⟩
    · rw [hv] at he; cases he
    · rw [hv] at he
      have : tb = g0 := by simpa [Value.ownBlock] using he
      subst this
      have := hblk
      unfold Blk at this
      rw [hh] at this
      injection this with this
      injection this with _ ht
      exact hTe ht

theorem Try.infoV : (Try.prog.info? 36).map (fun i => (i.zero, i.size, i.bytes)) = some (some (.agg #[.int .i8 0, .int .i64 0, .string ⟨#[]⟩]), 3, 32) := by kernel_rfl

set_option maxHeartbeats 400000 in
theorem add_bad {w : World} {tb most : Nat} {vs : List Val} {S : List Nat} (h : Tab w tb most vs S) (v : Val) (hok : v.ok = false) :
    Calls Try.prog 16 #[.pointer (some ⟨tb, 0, none⟩), v.agg] w fun e w' => e = .returned (.tuple #[.int .i32 0, .int .i64 10]) ∧ Below w.heap.size w w' := by
  obtain ⟨mb, A, cap, D, ht, rfl⟩ := h
  have hk : ∀ o, TabAt (w.alloc o) tb most vs mb A cap D := fun o => ht.same fun k hk => Below.heap_alloc w o k (ht.lt k hk)
  have ho : ∀ o, Calls Try.prog 29 #[.pointer (some ⟨tb, 0, none⟩)] (w.alloc o) fun e w' => e = .returned (.bool true) ∧ w' = w.alloc o := fun o => there_any tb _ mb _ _ (hk o).blk
  have Ho := Lib.hid ho
  have hc : ∀ W, Calls Try.prog 30 #[v.agg] W fun e w' => e = .returned (.int .i64 10) ∧ Below W.heap.size W w' := fun W => by
    have := check_any v W; unfold Val.code at this; rw [hok] at this; exact this
  have Hc := Lib.hid hc
  clear ho ht hk hc hok
  obtain ⟨vk, vn, s⟩ := v
  simp only [Val.agg] at Hc ⊢
  go_enter Try.func16, Try.ntmps16
  go_wp2_with (first
    | (go_at_call 29; refine (Ho.out _).mono ?_; rintro e w' ⟨rfl, rfl⟩)
    | (go_at_call 30; refine (Hc.out _).mono ?_; rintro e w1 ⟨rfl, hb1⟩))
  go_ret2
  exact ⟨rfl, ((Below.refl _ _).alloc (Nat.le_refl _) _).trans (hb1.mono (by simp))⟩

/-- behind the check: the boxed value, the table. -/
theorem behind_check {w W1 : World} {tb most : Nat} {vs : List Val} {mb : Nat} {A : Option Addr} {cap : Nat} {D : DataW Unit} (ht : TabAt w tb most vs mb A cap D) (a b c : Value)
    (hb : Below (w.alloc (.cells #[a, b, c] 36)).heap.size (w.alloc (.cells #[a, b, c] 36)) W1) :
    TabAt W1 tb most vs mb A cap D ∧ Blk W1 w.heap.size 36 #[a, b, c] ∧ Below w.heap.size w W1 := by
  have hs : (w.alloc (.cells #[a, b, c] 36)).heap.size = w.heap.size + 1 := by simp
  refine ⟨ht.same fun k hk => (hb.block k (by have := ht.lt k hk; omega)).trans (Below.heap_alloc w _ k (ht.lt k hk)), (Blk.new w _ _).same (hb.block _ (by omega)), ((Below.refl _ _).alloc (Nat.le_refl _) _).trans (hb.mono (by omega))⟩

set_option maxHeartbeats 400000 in
theorem add_old {w : World} {tb most : Nat} {vs : List Val} {S : List Nat} (h : Tab w tb most vs S) (v : Val) (hv : v.wf) (hok : v.ok = true) (hm : v ∈ vs) :
    Calls Try.prog 16 #[.pointer (some ⟨tb, 0, none⟩), v.agg] w fun e w' => e = .returned (.tuple #[.int .i32 (vs.idxOf v : Int), .int .i64 0]) ∧ Below w.heap.size w w' := by
  obtain ⟨mb, A, cap, D, ht, rfl⟩ := h
  have hk : ∀ o, TabAt (w.alloc o) tb most vs mb A cap D := fun o => ht.same fun k hk => Below.heap_alloc w o k (ht.lt k hk)
  have ho : ∀ o, Calls Try.prog 29 #[.pointer (some ⟨tb, 0, none⟩)] (w.alloc o) fun e w' => e = .returned (.bool true) ∧ w' = w.alloc o := fun o => there_any tb _ mb _ _ (hk o).blk
  have Ho := Lib.hid ho
  have hc : ∀ W, Calls Try.prog 30 #[v.agg] W fun e w' => e = .returned (.int .i64 0) ∧ Below W.heap.size W w' := fun W => by
    have := check_any v W; unfold Val.code at this; rw [hok] at this; exact this
  have Hc := Lib.hid hc
  have hl : ∀ W, TabAt W tb most vs mb A cap D → ∀ n, (Instr.lookup 75 (.map (some mb)) v.agg true).run Try.prog (W.drewN n) = .ok (.tuple #[.int .i32 (vs.idxOf v : Int), .bool true]) (W.drewN n) := fun W hW n => by
    have := look_at (hW.same (w' := W.drewN n) fun k _ => rfl) v hv
    simp only [numOf, hm, if_true, decide_true] at this
    exact this
  have Hl := Lib.hid hl
  clear ho hk hc hok hl
  generalize (vs.idxOf v : Int) = q at Hl ⊢
  obtain ⟨vk, vn, s⟩ := v
  simp only [Val.agg] at Hc Hl ⊢
  have Ht := Lib.hid ht
  clear ht
  go_enter Try.func16, Try.ntmps16
  go_wp2_with (go_at_call 29; refine (Ho.out _).mono ?_; rintro e w' ⟨rfl, rfl⟩)
  refine (Hc.out _).mono ?_
  rintro e W1 ⟨rfl, hb1⟩
  obtain ⟨hT, hX, hB⟩ := behind_check Ht.out _ _ _ hb1
  have x0 : W1.cell? ⟨w.heap.size, 0, none⟩ = some (.int .i8 vk) := hX.cell 0
  have x1 : W1.cell? ⟨w.heap.size, 1, none⟩ = some (.int .i64 vn) := hX.cell 1
  have x2 : W1.cell? ⟨w.heap.size, 2, none⟩ = some (.string s) := hX.cell 2
  have c1 : W1.cell? ⟨tb, 1, none⟩ = some (.map (some mb)) := hT.blk.cell 1
  have hlk := Hl.out W1 hT
  clear hT hX hb1
  go_wp2
  go_quiet (fail)
  go_wp2
  go_ret2
  exact ⟨rfl, hB.trans ⟨rfl, rfl, rfl, Nat.le_refl _, fun _ _ => rfl⟩⟩

set_option maxHeartbeats 400000 in
theorem add_full {w : World} {tb most : Nat} {vs : List Val} {S : List Nat} (h : Tab w tb most vs S) (v : Val) (hv : v.wf) (hok : v.ok = true) (hm : v ∉ vs) (hf : most ≤ vs.length) :
    Calls Try.prog 16 #[.pointer (some ⟨tb, 0, none⟩), v.agg] w fun e w' => e = .returned (.tuple #[.int .i32 0, .int .i64 20]) ∧ Below w.heap.size w w' := by
  obtain ⟨mb, A, cap, D, ht, rfl⟩ := h
  have hk : ∀ o, TabAt (w.alloc o) tb most vs mb A cap D := fun o => ht.same fun k hk => Below.heap_alloc w o k (ht.lt k hk)
  have ho : ∀ o, Calls Try.prog 29 #[.pointer (some ⟨tb, 0, none⟩)] (w.alloc o) fun e w' => e = .returned (.bool true) ∧ w' = w.alloc o := fun o => there_any tb _ mb _ _ (hk o).blk
  have Ho := Lib.hid ho
  have hc : ∀ W, Calls Try.prog 30 #[v.agg] W fun e w' => e = .returned (.int .i64 0) ∧ Below W.heap.size W w' := fun W => by
    have := check_any v W; unfold Val.code at this; rw [hok] at this; exact this
  have Hc := Lib.hid hc
  have hl : ∀ W, TabAt W tb most vs mb A cap D → ∀ n, (Instr.lookup 75 (.map (some mb)) v.agg true).run Try.prog (W.drewN n) = .ok (.tuple #[.int .i32 0, .bool false]) (W.drewN n) := fun W hW n => by
    have := look_at (hW.same (w' := W.drewN n) fun k _ => rfl) v hv
    simp only [numOf, hm, if_false, decide_false] at this
    exact this
  have Hl := Lib.hid hl
  clear ho hk hc hok hl
  obtain ⟨vk, vn, s⟩ := v
  simp only [Val.agg] at Hc Hl ⊢
  have Ht := Lib.hid ht
  clear ht
  go_enter Try.func16, Try.ntmps16
  go_wp2_with (go_at_call 29; refine (Ho.out _).mono ?_; rintro e w' ⟨rfl, rfl⟩)
  refine (Hc.out _).mono ?_
  rintro e W1 ⟨rfl, hb1⟩
  obtain ⟨hT, hX, hB⟩ := behind_check Ht.out _ _ _ hb1
  have x0 : W1.cell? ⟨w.heap.size, 0, none⟩ = some (.int .i8 vk) := hX.cell 0
  have x1 : W1.cell? ⟨w.heap.size, 1, none⟩ = some (.int .i64 vn) := hX.cell 1
  have x2 : W1.cell? ⟨w.heap.size, 2, none⟩ = some (.string s) := hX.cell 2
  have c0 : W1.cell? ⟨tb, 0, none⟩ = some (.int .i64 most) := hT.blk.cell 0
  have c1 : W1.cell? ⟨tb, 1, none⟩ = some (.map (some mb)) := hT.blk.cell 1
  have c2 : W1.cell? ⟨tb, 2, none⟩ = some (.slice A vs.length cap) := hT.blk.cell 2
  have hlk := Hl.out W1 hT
  clear hT hX hb1 hm
  generalize vs.length = n at hf c2
  go_wp2
  go_quiet (fail)
  go_wp2
  go_quiet (fail)
  go_wp2
  go_ret2
  exact ⟨rfl, hB.trans ⟨rfl, rfl, rfl, Nat.le_refl _, fun _ _ => rfl⟩⟩

end Go.Proofs.Ythdpaakkamccbaa

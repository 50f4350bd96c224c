/-
  A table as a state: none, or made for so many values, with these. What each call answers of a state; the program's table and the document's answer it.
-/
import Derived.Test.YthdpaakkamccbaaSymNo
import Derived.Test.YthdpaakkamccbaaSymBackL
namespace Go.Proofs.Ythdpaakkamccbaa
open Go.RowKit Go.Maps

abbrev St := Option (Nat × List Val)

/-- the program's table in such a state; its blocks. -/
def PT (w : World) (tv : Value) (st : St) (S : List Nat) : Prop := match st with
  | none => (tv = .pointer none ∧ S = []) ∨ ∃ tb, tv = .pointer (some ⟨tb, 0, none⟩) ∧ Blk w tb 77 #[.int .i64 0, .map none, .slice none 0 0] ∧ S = [tb]
  | some (most, vs) => ∃ tb, tv = .pointer (some ⟨tb, 0, none⟩) ∧ Tab w tb most vs S
/-- the document's. -/
def RT (w : World) (rv : Value) (st : St) (S : List Nat) : Prop := match st with
  | none => rv = .pointer none ∧ S = []
  | some (most, vs) => ∃ rb, rv = .pointer (some ⟨rb, 0, none⟩) ∧ RTab w rb most vs S

theorem PT.none_ {w : World} {tv : Value} {S : List Nat} (h : PT w tv none S) : NoT w tv := by
  rcases h with ⟨h, _⟩ | ⟨tb, h, hb, _⟩
  · exact .inl h
  · exact .inr ⟨tb, h, hb⟩
theorem PT.same {w w' : World} {tv : Value} {st : St} {S : List Nat} (h : PT w tv st S) (hb : ∀ k ∈ S, w'.heap[k]? = w.heap[k]?) : PT w' tv st S := by
  match st, h with
  | none, .inl h => exact .inl h
  | none, .inr ⟨tb, h, hk, e⟩ => exact .inr ⟨tb, h, hk.same (hb _ (by simp [e])), e⟩
  | some (most, vs), ⟨tb, h, ht⟩ => exact ⟨tb, h, ht.same hb⟩
theorem PT.lt {w : World} {tv : Value} {st : St} {S : List Nat} (h : PT w tv st S) : ∀ k ∈ S, k < w.heap.size := by
  match st, h with
  | none, .inl h => rw [h.2]; simp
  | none, .inr ⟨tb, h, hk, e⟩ => rw [e]; intro k hm; rw [List.mem_singleton.1 hm]; exact hk.lt
  | some (most, vs), ⟨tb, h, ht⟩ => exact ht.lt
theorem RT.same {w w' : World} {rv : Value} {st : St} {S : List Nat} (h : RT w rv st S) (hb : ∀ k ∈ S, w'.heap[k]? = w.heap[k]?) : RT w' rv st S := by
  match st, h with
  | none, h => exact h
  | some (most, vs), ⟨rb, h, ht⟩ => exact ⟨rb, h, ht.same hb⟩
theorem RT.lt {w : World} {rv : Value} {st : St} {S : List Nat} (h : RT w rv st S) : ∀ k ∈ S, k < w.heap.size := by
  match st, h with
  | none, h => rw [h.2]; simp
  | some (most, vs), ⟨rb, h, ht⟩ => exact ht.lt
theorem PT.below {w w' : World} {tv : Value} {st : St} {S : List Nat} (h : PT w tv st S) (hb : Below w.heap.size w w') : PT w' tv st S := h.same fun k hk => hb.block k (h.lt k hk)
theorem RT.below {w w' : World} {rv : Value} {st : St} {S : List Nat} (h : RT w rv st S) (hb : Below w.heap.size w w') : RT w' rv st S := h.same fun k hk => hb.block k (h.lt k hk)
theorem PT.ptr {w : World} {tv : Value} {st : St} {S : List Nat} (h : PT w tv st S) : ∃ p, tv = .pointer p := by
  match st, h with
  | none, .inl h => exact ⟨_, h.1⟩
  | none, .inr ⟨tb, h, _⟩ => exact ⟨_, h⟩
  | some (most, vs), ⟨tb, h, _⟩ => exact ⟨_, h⟩
theorem RT.ptr {w : World} {rv : Value} {st : St} {S : List Nat} (h : RT w rv st S) : ∃ p, rv = .pointer p := by
  match st, h with
  | none, h => exact ⟨_, h.1⟩
  | some (most, vs), ⟨tb, h, _⟩ => exact ⟨_, h⟩

/-! ### what each call answers -/
def addA : St → Val → (Nat × Int) × St
  | none, _ => ((0, 2), none)
  | some (most, vs), v => (((addStep most vs v).2.1, (addStep most vs v).2.2), some (most, (addStep most vs v).1))
def findA : St → Val → Nat × Bool
  | none, _ => (0, false)
  | some (_, vs), v => (numOf vs v, decide (v ∈ vs))
def valueA : St → Int → Val × Int
  | none, _ => (Val.zero, 2)
  | some (_, vs), i => if 0 ≤ i ∧ i < vs.length then (vs.getD i.toNat Val.zero, 0) else (Val.zero, 21)
def lenA : St → Nat
  | none => 0
  | some (_, vs) => vs.length
def rowA : St → List Val → (List Nat × Int) × St
  | none, _ => (([], 2), none)
  | some (most, vs), us => (((rowGo most us vs).2.1, (rowGo most us vs).2.2), some (most, (rowGo most us vs).1))
def seekA : St → List Val → List Nat × Bool
  | none, _ => ([], false)
  | some (_, vs), us => seekRes vs us
def tupA : St → List Int → Int → List Val × Int
  | none, _, _ => ([], 2)
  | some (_, vs), rs, n => tupRes vs rs n
def cutA : St → Int → Int × St
  | none, _ => (2, none)
  | some (most, vs), n => if n < 0 ∨ (vs.length : Int) < n then (1, some (most, vs)) else (0, some (most, vs.take n.toNat))

theorem pt_add {w : World} {tv : Value} {st : St} {S : List Nat} (h : PT w tv st S) (v : Val) (hv : v.wf) :
    Calls Try.prog 16 #[tv, v.agg] w fun e w' => ∃ S', e = .returned (.tuple #[.int .i32 ((addA st v).1.1 : Int), .int .i64 (addA st v).1.2]) ∧ PT w' tv (addA st v).2 S' ∧ Chg S w w' ∧ Grew w.heap.size S S' := by
  match st with
  | none => exact (no_add h.none_ v).mono fun e w' ⟨he, hb⟩ => ⟨S, he, h.below hb, Chg.of_below _ hb, Grew.refl _ _⟩
  | some (most, vs) =>
    obtain ⟨tb, rfl, ht⟩ := h
    exact (add_any ht v hv).mono fun e w' ⟨S', he, ht', hc, hs⟩ => ⟨S', he, ⟨tb, rfl, ht'⟩, hc, hs⟩
theorem rt_add {w : World} {rv : Value} {st : St} {S : List Nat} (h : RT w rv st S) (v : Val) (hv : v.wf) :
    Calls Try.prog 35 #[rv, v.agg] w fun e w' => ∃ S', e = .returned (.tuple #[.int .i32 ((addA st v).1.1 : Int), .int .i64 (addA st v).1.2]) ∧ RT w' rv (addA st v).2 S' ∧ Chg S w w' ∧ (∀ k ∈ S', k ∈ S ∨ w.heap.size ≤ k) := by
  match st with
  | none =>
    obtain ⟨rfl, rfl⟩ := h
    exact (nil_add v w).mono fun e w' ⟨he, hb⟩ => ⟨[], he, ⟨rfl, rfl⟩, Chg.of_below _ hb, fun k hk => .inl hk⟩
  | some (most, vs) =>
    obtain ⟨rb, rfl, ht⟩ := h
    exact (ref_add ht v hv).mono fun e w' ⟨S', he, ht', hc, hs⟩ => ⟨S', he, ⟨rb, rfl, ht'⟩, hc, hs⟩

theorem pt_find {w : World} {tv : Value} {st : St} {S : List Nat} (h : PT w tv st S) (v : Val) (hv : v.wf) :
    Calls Try.prog 14 #[tv, v.agg] w fun e w' => e = .returned (.tuple #[.int .i32 ((findA st v).1 : Int), .bool (findA st v).2]) ∧ Below w.heap.size w w' := by
  match st with
  | none => exact no_find h.none_ v
  | some (most, vs) =>
    obtain ⟨tb, rfl, ht⟩ := h
    exact find_any ht v hv
theorem rt_find {w : World} {rv : Value} {st : St} {S : List Nat} (h : RT w rv st S) (v : Val) :
    Calls Try.prog 36 #[rv, v.agg] w fun e w' => e = .returned (.tuple #[.int .i32 ((findA st v).1 : Int), .bool (findA st v).2]) ∧ Below w.heap.size w w' := by
  match st with
  | none =>
    obtain ⟨rfl, rfl⟩ := h
    exact nil_find v w
  | some (most, vs) =>
    obtain ⟨rb, rfl, ht⟩ := h
    exact ref_find ht v

theorem pt_value {w : World} {tv : Value} {st : St} {S : List Nat} (h : PT w tv st S) (i : Int) (hi : i ≤ 2147483647) :
    Calls Try.prog 15 #[tv, .int .i32 i] w fun e w' => e = .returned (.tuple #[(valueA st i).1.agg, .int .i64 (valueA st i).2]) ∧ Below w.heap.size w w' := by
  match st with
  | none => exact no_value h.none_ i
  | some (most, vs) =>
    obtain ⟨tb, rfl, ht⟩ := h
    unfold valueA
    by_cases hc : 0 ≤ i ∧ i < vs.length
    · simp only [if_pos hc]
      obtain ⟨k, rfl⟩ : ∃ k : Nat, i = k := ⟨i.toNat, by omega⟩
      have hk : k < vs.length := by omega
      rw [Int.toNat_natCast, getD_lt hk]
      exact value_yes ht k hk
    · simp only [if_neg hc]
      exact value_no ht i (by omega) hi
theorem rt_value {w : World} {rv : Value} {st : St} {S : List Nat} (h : RT w rv st S) (i : Int) (hi : i ≤ 2147483647) :
    Calls Try.prog 37 #[rv, .int .i32 i] w fun e w' => e = .returned (.tuple #[(valueA st i).1.agg, .int .i64 (valueA st i).2]) ∧ Below w.heap.size w w' := by
  match st with
  | none =>
    obtain ⟨rfl, rfl⟩ := h
    exact nil_value i w
  | some (most, vs) =>
    obtain ⟨rb, rfl, ht⟩ := h
    unfold valueA
    by_cases hc : 0 ≤ i ∧ i < vs.length
    · simp only [if_pos hc]
      obtain ⟨k, rfl⟩ : ∃ k : Nat, i = k := ⟨i.toNat, by omega⟩
      have hk : k < vs.length := by omega
      rw [Int.toNat_natCast, getD_lt hk]
      exact ref_value_yes ht k hk
    · simp only [if_neg hc]
      exact ref_value_no ht i (by omega) hi

theorem pt_len {w : World} {tv : Value} {st : St} {S : List Nat} (h : PT w tv st S) :
    Calls Try.prog 13 #[tv] w fun e w' => e = .returned (.int .i64 (lenA st : Int)) ∧ w' = w := by
  match st with
  | none => exact no_len h.none_
  | some (most, vs) =>
    obtain ⟨tb, rfl, ht⟩ := h
    exact len_any ht
theorem rt_len {w : World} {rv : Value} {st : St} {S : List Nat} (h : RT w rv st S) :
    Calls Try.prog 25 #[rv] w fun e w' => e = .returned (.int .i64 (lenA st : Int)) ∧ w' = w := by
  match st with
  | none =>
    obtain ⟨rfl, rfl⟩ := h
    exact nil_len w
  | some (most, vs) =>
    obtain ⟨rb, rfl, ht⟩ := h
    exact ref_len ht

theorem pt_row {w : World} {tv : Value} {st : St} {S : List Nat} (h : PT w tv st S) (us : List Val) (A : Option Addr) (cap : Nat) (hrd : RdV w A us) (hdis : us ≠ [] → ∀ a, A = some a → a.block ∉ S ∧ a.block < w.heap.size) (hwf : ∀ u ∈ us, u.wf) :
    Calls Try.prog 17 #[tv, .slice A us.length cap] w fun e w' => ∃ S', e = .returned (.tuple #[.agg (rowOf (rowA st us).1.1), .int .i64 (rowA st us).1.2]) ∧ PT w' tv (rowA st us).2 S' ∧ Chg S w w' ∧ Grew w.heap.size S S' := by
  match st with
  | none => exact (no_row h.none_ A us.length cap).mono fun e w' ⟨he, hb⟩ => ⟨S, he, h.below hb, Chg.of_below _ hb, Grew.refl _ _⟩
  | some (most, vs) =>
    obtain ⟨tb, rfl, ht⟩ := h
    exact (row_any ht us A cap hrd hdis hwf).mono fun e w' ⟨S', he, ht', hc, hs⟩ => ⟨S', he, ⟨tb, rfl, ht'⟩, hc, hs⟩
theorem rt_row {w : World} {rv : Value} {st : St} {S : List Nat} (h : RT w rv st S) (us : List Val) (A : Option Addr) (cap : Nat) (hrd : RdV w A us) (hdis : us ≠ [] → ∀ a, A = some a → a.block ∉ S ∧ a.block < w.heap.size) (hwf : ∀ u ∈ us, u.wf) :
    Calls Try.prog 48 #[rv, .slice A us.length cap] w fun e w' => ∃ S', e = .returned (.tuple #[.agg (rowOf (rowA st us).1.1), .int .i64 (rowA st us).1.2]) ∧ RT w' rv (rowA st us).2 S' ∧ Chg S w w' ∧ (∀ k ∈ S', k ∈ S ∨ w.heap.size ≤ k) := by
  match st with
  | none =>
    obtain ⟨rfl, rfl⟩ := h
    exact (nil_row A us.length cap w).mono fun e w' ⟨he, hb⟩ => ⟨[], he, ⟨rfl, rfl⟩, Chg.of_below _ hb, fun k hk => .inl hk⟩
  | some (most, vs) =>
    obtain ⟨rb, rfl, ht⟩ := h
    exact (ref_row ht us A cap hrd hdis hwf).mono fun e w' ⟨S', he, ht', hc, hs⟩ => ⟨S', he, ⟨rb, rfl, ht'⟩, hc, hs⟩

theorem pt_seek {w : World} {tv : Value} {st : St} {S : List Nat} (h : PT w tv st S) (us : List Val) (A : Option Addr) (cap : Nat) (hrd : RdV w A us) (hdis : us ≠ [] → ∀ a, A = some a → a.block < w.heap.size) (hwf : ∀ u ∈ us, u.wf) :
    Calls Try.prog 21 #[tv, .slice A us.length cap] w fun e w' => e = .returned (.tuple #[.agg (rowOf (seekA st us).1), .bool (seekA st us).2]) ∧ Below w.heap.size w w' := by
  match st with
  | none => exact no_seek h.none_ A us.length cap
  | some (most, vs) =>
    obtain ⟨tb, rfl, ht⟩ := h
    exact seek_any ht us A cap hrd hdis hwf
theorem rt_seek {w : World} {rv : Value} {st : St} {S : List Nat} (h : RT w rv st S) (us : List Val) (A : Option Addr) (cap : Nat) (hrd : RdV w A us) :
    Calls Try.prog 50 #[rv, .slice A us.length cap] w fun e w' => e = .returned (.tuple #[.agg (rowOf (seekA st us).1), .bool (seekA st us).2]) ∧ Below w.heap.size w w' := by
  match st with
  | none =>
    obtain ⟨rfl, rfl⟩ := h
    exact nil_seek A us.length cap w
  | some (most, vs) =>
    obtain ⟨rb, rfl, ht⟩ := h
    exact ref_seek ht us A cap hrd

theorem tupGo_full (vs : List Val) : ∀ (rs : List Int) (out : List Val), (tupGo vs rs out).2 = 0 → (tupGo vs rs out).1.length = out.length + rs.length
  | [], out, _ => by simp [tupGo]
  | r :: rs, out, h => by
    rw [tupGo_cons] at h ⊢
    split at h
    · rename_i hc
      rw [if_pos hc, tupGo_full vs rs _ h]
      simp; omega
    · exact absurd h (show ¬ (21 : Int) = 0 by decide)

theorem tuple_bad {w : World} {tb most : Nat} {vs : List Val} {S : List Nat} (h : Tab w tb most vs S) (rs : List Int) (n : Int) (hn : n < 0 ∨ 24 < n) :
    Calls Try.prog 18 #[.pointer (some ⟨tb, 0, none⟩), .agg (rowI rs), .int .i64 n] w fun e w' => e = .returned (.tuple #[.slice none 0 0, .int .i64 1]) ∧ Below w.heap.size w w' := by
  have Hth := Lib.hid (fun W (hb : Below w.heap.size w W) => there_tab (h.below hb))
  clear h
  by_cases h0 : n < 0
  · have hd : decide (n < 0) = true := by simp [h0]
    clear hn
    go_enter Try.func18, Try.ntmps18
    go_wp2_with (go_at_call 29; refine (Hth.out _ (tup_new w _ _).1).mono ?_; rintro e w1 ⟨rfl, hw1⟩; have hB1 : Below w.heap.size w w1 := by rw [hw1]; exact (tup_new w _ _).1
                 clear hw1)
    go_ret2
    exact ⟨rfl, hB1⟩
  · have hd : decide (n < 0) = false := by simp; omega
    have hd2 : decide (24 < n) = true := by simp; omega
    clear hn
    go_enter Try.func18, Try.ntmps18
    go_wp2_with (go_at_call 29; refine (Hth.out _ (tup_new w _ _).1).mono ?_; rintro e w1 ⟨rfl, hw1⟩; have hB1 : Below w.heap.size w w1 := by rw [hw1]; exact (tup_new w _ _).1
                 clear hw1)
    go_ret2
    exact ⟨rfl, hB1⟩

theorem vcells_rdv {w : World} {lb : Nat} {us : List Val} (h : Blk w lb 36 (vcells us).toArray) : RdV w (some ⟨lb, 0, none⟩) us := fun _ => ⟨lb, 0, rfl, h.lt, fun i hi => by
  obtain ⟨h1, h2, h3⟩ := vcells_at us i hi
  rw [Nat.zero_add]
  exact ⟨(h.cell _).trans (by simpa using h1), (h.cell _).trans (by simpa using h2), (h.cell _).trans (by simpa using h3)⟩⟩

theorem pt_tuple {w : World} {tv : Value} {st : St} {S : List Nat} (h : PT w tv st S) (rs : List Int) (hl : rs.length = 24) (hrs : ∀ r ∈ rs, r ≤ 2147483647) (n : Int) :
    Calls Try.prog 18 #[tv, .agg (rowI rs), .int .i64 n] w fun e w' => ∃ A cap, e = .returned (.tuple #[.slice A (tupA st rs n).1.length cap, .int .i64 (tupA st rs n).2]) ∧ RdV w' A (tupA st rs n).1 ∧ Below w.heap.size w w' := by
  match st with
  | none => exact (no_tuple h.none_ rs n).mono fun e w' ⟨he, hb⟩ => ⟨none, 0, he, fun h => absurd rfl h, hb⟩
  | some (most, vs) =>
    obtain ⟨tb, rfl, ht⟩ := h
    by_cases hn : n < 0 ∨ 24 < n
    · have e : tupA (some (most, vs)) rs n = ([], 1) := if_pos hn
      rw [e]
      exact (tuple_bad ht rs n hn).mono fun e w' ⟨he, hb⟩ => ⟨none, 0, he, fun h => absurd rfl h, hb⟩
    · obtain ⟨k, rfl⟩ : ∃ k : Nat, n = k := ⟨n.toNat, by omega⟩
      have e : tupA (some (most, vs)) rs (k : Int) = if (tupGo vs (rs.take k) []).2 = 0 then ((tupGo vs (rs.take k) []).1, 0) else ([], 21) := by
        show tupRes vs rs (k : Int) = _
        unfold tupRes; rw [if_neg hn, Int.toNat_natCast]
      rw [e]
      by_cases hc : (tupGo vs (rs.take k) []).2 = 0
      · simp only [if_pos hc]
        refine (tuple_ok ht rs hl hrs k (by omega) hc).mono fun e w' ⟨lb, he, hlb, hblk, hbel⟩ => ?_
        have hlen := tupGo_full vs (rs.take k) [] hc
        rw [List.length_take, List.length_nil] at hlen
        have hk : (tupGo vs (rs.take k) []).1.length = k := by omega
        rw [hk]
        refine ⟨_, _, he, ?_, hbel⟩
        have h2 := destOf_full (tupGo vs (rs.take k) []).1
        rw [hk] at h2
        rw [h2] at hblk
        exact vcells_rdv hblk
      · simp only [if_neg hc]
        refine (tuple_no ht rs hl hrs k (by omega) hc).mono fun e w' ⟨he, hb⟩ => ?_
        have h21 : (tupGo vs (rs.take k) []).2 = 21 := by rcases tupGo_len vs (rs.take k) [] with h | h; exact absurd h hc; exact h
        rw [h21] at he
        exact ⟨none, 0, he, fun h => absurd rfl h, hb⟩
theorem rt_tuple {w : World} {rv : Value} {st : St} {S : List Nat} (h : RT w rv st S) (rs : List Int) (hl : rs.length = 24) (hrs : ∀ r ∈ rs, r ≤ 2147483647) (n : Int) :
    Calls Try.prog 43 #[rv, .agg (rowI rs), .int .i64 n] w fun e w' => ∃ A cap, e = .returned (.tuple #[.slice A (tupA st rs n).1.length cap, .int .i64 (tupA st rs n).2]) ∧ RdV w' A (tupA st rs n).1 ∧ Below w.heap.size w w' := by
  match st with
  | none =>
    obtain ⟨rfl, rfl⟩ := h
    exact (nil_tuple rs n w).mono fun e w' ⟨he, hb⟩ => ⟨none, 0, he, fun h => absurd rfl h, hb⟩
  | some (most, vs) =>
    obtain ⟨rb, rfl, ht⟩ := h
    by_cases hn : n < 0 ∨ 24 < n
    · have e : tupA (some (most, vs)) rs n = ([], 1) := if_pos hn
      rw [e]
      exact (ref_tuple_bad ht rs n hn).mono fun e w' ⟨he, hb⟩ => ⟨none, 0, he, fun h => absurd rfl h, hb⟩
    · obtain ⟨k, rfl⟩ : ∃ k : Nat, n = k := ⟨n.toNat, by omega⟩
      exact ref_tuple_ok ht rs hl hrs k (by omega)

theorem pt_cut {w : World} {tv : Value} {st : St} {S : List Nat} (h : PT w tv st S) (n : Int) :
    Calls Try.prog 12 #[tv, .int .i64 n] w fun e w' => e = .returned (.int .i64 (cutA st n).1) ∧ PT w' tv (cutA st n).2 S ∧ Chg S w w' := by
  match st with
  | none => exact (no_cut h.none_ n).mono fun e w' ⟨he, hw⟩ => ⟨he, hw ▸ h, hw ▸ Chg.refl _ _⟩
  | some (most, vs) =>
    obtain ⟨tb, rfl, ht⟩ := h
    unfold cutA
    by_cases hn : n < 0 ∨ (vs.length : Int) < n
    · simp only [if_pos hn]
      exact (cut_bad ht n hn).mono fun e w' ⟨he, hw⟩ => ⟨he, ⟨tb, rfl, hw ▸ ht⟩, hw ▸ Chg.refl _ _⟩
    · simp only [if_neg hn]
      obtain ⟨k, rfl⟩ : ∃ k : Nat, n = k := ⟨n.toNat, by omega⟩
      exact (cut_ok ht k (by omega)).mono fun e w' ⟨he, ht', hc⟩ => ⟨he, ⟨tb, rfl, ht'⟩, hc⟩
theorem rt_cut {w : World} {rv : Value} {st : St} {S : List Nat} (h : RT w rv st S) (n : Int) :
    Calls Try.prog 47 #[rv, .int .i64 n] w fun e w' => e = .returned (.int .i64 (cutA st n).1) ∧ RT w' rv (cutA st n).2 S ∧ Chg S w w' := by
  match st with
  | none =>
    obtain ⟨rfl, rfl⟩ := h
    exact (nil_cut n w).mono fun e w' ⟨he, hw⟩ => ⟨he, ⟨rfl, rfl⟩, hw ▸ Chg.refl _ _⟩
  | some (most, vs) =>
    obtain ⟨rb, rfl, ht⟩ := h
    unfold cutA
    by_cases hn : n < 0 ∨ (vs.length : Int) < n
    · simp only [if_pos hn]
      exact (ref_cut_bad ht n hn).mono fun e w' ⟨he, hw⟩ => ⟨he, ⟨rb, rfl, hw ▸ ht⟩, hw ▸ Chg.refl _ _⟩
    · simp only [if_neg hn]
      obtain ⟨k, rfl⟩ : ∃ k : Nat, n = k := ⟨n.toNat, by omega⟩
      exact (ref_cut_ok ht k (by omega)).mono fun e w' ⟨he, ht', hc⟩ => ⟨he, ⟨rb, rfl, ht'⟩, hc⟩

end Go.Proofs.Ythdpaakkamccbaa

/-
  Equality of values as the model reckons it.
-/
import Derived.Test.YthdpaakkamccbaaSymCut
import Derived.Laws.StructEq
namespace Go.Proofs.Ythdpaakkamccbaa
open Go.RowKit Go.Maps

theorem beq_three (a b : Val) : ((a.k == b.k) && (a.n == b.n) && (a.s.toList == b.s.toList)) = decide (a = b) := by
  rw [Bool.eq_iff_iff]
  simp only [Bool.and_eq_true, beq_iff_eq, decide_eq_true_eq, ByteArray.toList_eq]
  constructor
  · rintro ⟨⟨h1, h2⟩, h3⟩
    exact Val.ext_ h1 h2 (by
      have : a.s.data = b.s.data := Array.toList_inj.1 h3
      cases ha : a.s; cases hb : b.s; rw [ha, hb] at this; simp at this; rw [this])
  · rintro rfl
    exact ⟨⟨rfl, rfl⟩, rfl⟩

/-- are the two one? -/
def veq (a b : Val) : Bool := decide (a = b)

theorem run_eqV (a b : Val) (w : World) : (binOp .eql 36 a.agg b.agg).run Try.prog w = .ok (.bool (veq a b)) w := by
  unfold veq
  rw [← beq_three]
  simp only [binOp, Val.agg]
  simp [Op.equal, Op.maxDepth, Try.underlying36, Try.underlying34, Try.underlying2, Try.underlying9, go_sem]
  by_cases h1 : a.k = b.k <;> by_cases h2 : a.n = b.n <;> by_cases h3 : a.s.toList = b.s.toList <;> simp [h1, h2, h3]

theorem run_neV (a b : Val) (w : World) : (binOp .neq 36 a.agg b.agg).run Try.prog w = .ok (.bool (!veq a b)) w := by
  unfold veq
  rw [← beq_three]
  simp only [binOp, Val.agg]
  simp [Op.equal, Op.maxDepth, Try.underlying36, Try.underlying34, Try.underlying2, Try.underlying9, go_sem]
  by_cases h1 : a.k = b.k <;> by_cases h2 : a.n = b.n <;> by_cases h3 : a.s.toList = b.s.toList <;> simp [h1, h2, h3]

@[go_sem high] theorem run_eqV' (k1 n1 k2 n2 : Int) (s1 s2 : ByteArray) (w : World) :
    (binOp .eql 36 (.agg #[.int .i8 k1, .int .i64 n1, .string s1]) (.agg #[.int .i8 k2, .int .i64 n2, .string s2])).run Try.prog w = .ok (.bool (veq ⟨k1, n1, s1⟩ ⟨k2, n2, s2⟩)) w := run_eqV ⟨k1, n1, s1⟩ ⟨k2, n2, s2⟩ w
@[go_sem high] theorem run_neV' (k1 n1 k2 n2 : Int) (s1 s2 : ByteArray) (w : World) :
    (binOp .neq 36 (.agg #[.int .i8 k1, .int .i64 n1, .string s1]) (.agg #[.int .i8 k2, .int .i64 n2, .string s2])).run Try.prog w = .ok (.bool (!veq ⟨k1, n1, s1⟩ ⟨k2, n2, s2⟩)) w := run_neV ⟨k1, n1, s1⟩ ⟨k2, n2, s2⟩ w

/-! ### the document's check -/
set_option maxHeartbeats 800000 in
theorem rcheck_any (v : Val) (w : World) :
    Calls Try.prog 20 #[v.agg] w fun e w' => e = .returned (.int .i64 v.code) ∧ Below w.heap.size w w' := by
  obtain ⟨k, n, s⟩ := v
  show Calls _ _ #[.agg #[.int .i8 k, .int .i64 n, .string s]] _ _
  cases h1 : (k == 1)
  · cases h2 : (k == 2)
    · have hc : (⟨k, n, s⟩ : Val).code = 10 := by simp [Val.code, Val.ok, h1, h2]
      rw [hc]
      go_enter Try.func20, Try.ntmps20
      go_wp2
      go_ret
      exact ⟨rfl, (Below.refl _ _).alloc (Nat.le_refl _) _⟩
    · cases h3 : (n == 0)
      · have hc : (⟨k, n, s⟩ : Val).code = 10 := by simp [Val.code, Val.ok, h1, h3]
        rw [hc]
        go_enter Try.func20, Try.ntmps20
        go_wp2
        go_ret
        exact ⟨rfl, (Below.refl _ _).alloc (Nat.le_refl _) _⟩
      · by_cases h4 : s.size ≤ 200
        · have hc : (⟨k, n, s⟩ : Val).code = 0 := by simp [Val.code, Val.ok, h2, h3, h4]
          rw [hc]
          go_enter Try.func20, Try.ntmps20
          go_wp2
          go_ret
          exact ⟨rfl, (Below.refl _ _).alloc (Nat.le_refl _) _⟩
        · have hc : (⟨k, n, s⟩ : Val).code = 10 := by simp [Val.code, Val.ok, h1, h4]
          rw [hc]
          go_enter Try.func20, Try.ntmps20
          go_wp2
          go_ret
          exact ⟨rfl, (Below.refl _ _).alloc (Nat.le_refl _) _⟩
  · obtain rfl : k = 1 := by simpa using h1
    have h2 : ((1 : Int) == 2) = false := rfl
    cases h5 : s.toList.isEmpty
    · have hc : (⟨1, n, s⟩ : Val).code = 10 := by simp [Val.code, Val.ok, size_isEmpty, h5]
      rw [hc]
      go_enter Try.func20, Try.ntmps20
      go_wp2
      go_ret
      exact ⟨rfl, (Below.refl _ _).alloc (Nat.le_refl _) _⟩
    · have hc : (⟨1, n, s⟩ : Val).code = 0 := by simp [Val.code, Val.ok, size_isEmpty, h5]
      rw [hc]
      go_enter Try.func20, Try.ntmps20
      go_wp2
      go_ret
      exact ⟨rfl, (Below.refl _ _).alloc (Nat.le_refl _) _⟩

end Go.Proofs.Ythdpaakkamccbaa

/-
  SymbolFresh: for every list of values and every number: the tuples that are answered are lists of their own, and the table answers as before. No condition beyond the row's own.
-/
import Derived.Test.YthdpaakkamccbaaSymRow
import Derived.Test.YthdpaakkamccbaaSymFresh
import Derived.ProofKit
import Derived.SizedLaws
import Derived.ShutString
import Derived.Lib.SmallJoins
import Derived.ChangeOld
import Derived.OpenShut
namespace Go.Proofs.Ythdpaakkamccbaa.symbolFresh
open Go.ChangeShapes Go.WideShapes Go.ChangeAt Go.RowKit Go.Deep

set_option maxRecDepth 100000 in
theorem lifted (os : Os) (started : os.Started) (H : Type) (enc : TypeId × Value → H) :
    ReturnsInHanded {} Try.checked os 5 .any (Rows.symbolFreshSpec.pre6 enc Try.prog Try.f5 Rows.symbolFreshRow.domain false) (Rows.symbolFreshSpec.post enc Try.prog Try.f5 false true false false) := by
  refine returnsInHanded_of_change_sized (C := Try.checked) own started (by kernel_rfl) Try.func5
    (ChangeSpec.witness6 (enc := enc) (C := Try.checked) false ⟨#[], #[.slice none 0 0, .int .i64 0], []⟩ 8 (by kernel_rfl) (by kernel_rfl) (by kernel_rfl) (by kernel_rfl)) ?_
  intro W base args ds gs before hval0 hW _ hsz0 _
  have hsz : (DataW.weightsEach Try.prog (Try.f5.params.toList ++ Rows.symbolFreshSpec.plain.varTypes Try.prog) (ds ++ gs)).all (· ≤ reachBytes) = true := hsz0
  clear hsz0
  have hval : ∀ (j : Nat) t v, Try.f5.params[j]? = some t → args[j]? = some v → Value.okWide Try.prog W .any base t v := hval0
  have hW' := hW
  obtain ⟨p, q, hA0, hV, rfl, hfz, hnd⟩ := hW
  have hA : DataW.TrodAll enc Try.prog W 0 (fun _ => true) true Try.f5.params.toList args.toList ds p := hA0
  rw [Try.params5] at hA hval hsz
  obtain ⟨v0, v1, d0, d1, p0, p1, rfl, rfl, rfl, h0, h1⟩ := trodAll_two hA
  obtain ⟨rfl, rfl⟩ := trodVars_none hV
  have k0 := h0
  have k1 := h1
  have lt0 : ∀ x ∈ p0, x.block < W.heap.size := by obtain ⟨m, hm⟩ := k0; exact DataW.trod_lt m _ _ _ hm
  obtain ⟨A, cap, vs, rfl, hrd, hwf, hd⟩ := open_vals (hval 0 22 v0 rfl rfl) h0
  obtain ⟨n, rfl, rfl, rfl, wn⟩ := open_int Try.underlying3 (hval 1 3 v1 rfl rfl) h1
  obtain ⟨n0, n1⟩ := bounds_i64 wn
  have hreach : vs.length * 32 ≤ 140737488351232 := by
    rcases hd with ⟨rfl, _⟩ | ⟨es, sp, rfl, he⟩
    · simp
    · have hb : Try.prog.bytesOf 36 = 32 := by kernel_rfl
      have hz : (DataW.weightsEach Try.prog [22, 3] [(DataW.slice es sp : DataW H), .lit (.int .i64 n)]).all (· ≤ reachBytes) = true := hsz
      simp only [DataW.weightsEach, DataW.weights, Try.underlying22, hb, List.cons_append, List.all_cons, Bool.and_eq_true, reachBytes] at hz
      have h1 := of_decide_eq_true hz.1
      rw [Nat.add_mul, he] at h1
      omega
  clear hA0 hsz
  refine (fresh_any A cap vs n W hrd hwf hreach (by omega) (by omega)).mono fun e W' ⟨he, bel⟩ => ?_
  subst he
  exact ⟨_, rfl, _, _, _, [], _, [], hW', trodAll_mk1 (shut_bool Try.underlying4 _), trodAll_mk2 (Below.trod laidOut (by kernel_rfl) (of_decide_eq_true (by kernel_rfl)) k0 bel lt0) (shut_int Try.underlying3 wn), rfl, bel.frame _, fun h => by cases h⟩

theorem over : Rows.symbolFreshRow.holds Try.pinned (OpenSpec.ofChange Rows.symbolFreshSpec) :=
  OpenClaim.holds_of_wide 5 Try.f5 rfl rfl rfl rfl rfl rfl rfl ⟨rfl, rfl, rfl, rfl, rfl⟩ rfl rfl rfl rfl rfl (by kernel_rfl) Try.func5 (by kernel_rfl)
    (of_decide_eq_true (by kernel_rfl)) (by unfold Func.isWrapper; first | (rw [if_pos (by decide +kernel)]; kernel_rfl) | (rw [if_neg (by decide +kernel)]; exact ⟨rfl, rfl⟩))
    (fun os started H enc _ => lifted os started H enc)

theorem proved : Rows.SymbolFreshSaid :=
  over
#print axioms proved
end Go.Proofs.Ythdpaakkamccbaa.symbolFresh

/-
  SymbolNone: for every call: a nil pointer and a zero struct answer as the document's table that is not there. No condition beyond the row's own.
-/
import Derived.Test.YthdpaakkamccbaaSymRow
import Derived.Test.YthdpaakkamccbaaSymOp
import Derived.ProofKit
import Derived.SizedLaws
import Derived.ShutString
import Derived.Lib.SmallJoins
import Derived.ChangeOld
import Derived.OpenShut
namespace Go.Proofs.Ythdpaakkamccbaa.symbolNone
open Go.ChangeShapes Go.WideShapes Go.ChangeAt Go.RowKit Go.Deep

set_option maxRecDepth 100000 in
theorem lifted (os : Os) (started : os.Started) (H : Type) (enc : TypeId × Value → H) :
    ReturnsInHanded {} Try.checked os 8 .any (Rows.symbolNoneSpec.pre6 enc Try.prog Try.f8 Rows.symbolNoneRow.domain false) (Rows.symbolNoneSpec.post enc Try.prog Try.f8 false true false false) := by
  refine returnsInHanded_of_change_sized (C := Try.checked) own started (by kernel_rfl) Try.func8
    (ChangeSpec.witness6 (enc := enc) (C := Try.checked) false ⟨#[], #[.agg (opC 0 0 0 0 ⟨0, 0, ⟨#[]⟩⟩ (.slice none 0 0) (List.replicate 24 0))], []⟩ 8 (by kernel_rfl) (by kernel_rfl) (by kernel_rfl) (by kernel_rfl)) ?_
  intro W base args ds gs before hval0 hW _ hsz0 _
  have hsz : (DataW.weightsEach Try.prog (Try.f8.params.toList ++ Rows.symbolNoneSpec.plain.varTypes Try.prog) (ds ++ gs)).all (· ≤ reachBytes) = true := hsz0
  clear hsz0
  have hval : ∀ (j : Nat) t v, Try.f8.params[j]? = some t → args[j]? = some v → Value.okWide Try.prog W .any base t v := hval0
  have hW' := hW
  obtain ⟨p, q, hA0, hV, rfl, hfz, hnd⟩ := hW
  have hA : DataW.TrodAll enc Try.prog W 0 (fun _ => true) true Try.f8.params.toList args.toList ds p := hA0
  rw [Try.params8] at hA hval hsz
  obtain ⟨v0, d0, rfl, rfl, h0⟩ := trodAll_one hA
  obtain ⟨rfl, rfl⟩ := trodVars_none hV
  have k0 := h0
  have lt0 : ∀ x ∈ p, x.block < W.heap.size := by obtain ⟨m, hm⟩ := k0; exact DataW.trod_lt m _ _ _ hm
  obtain ⟨on, kind, n, m, u, l, A, cap, rs, rfl, hu, hrl, hrs, hAn, hrd, hwf, hB, a0, a1, a2, a3, a4, a5, a6, rfl, hd⟩ := open_op (hval 0 68 v0 rfl rfl) h0
  have hreach : l.length * 32 ≤ 140737488351232 := by
    rcases hd with ⟨rfl, _⟩ | ⟨es, sp, rfl, he⟩
    · simp
    · have hb : Try.prog.bytesOf 36 = 32 := by kernel_rfl
      have hz : (DataW.weightsEach Try.prog [68] [(DataW.agg [a0, a1, a2, a3, a4, .slice es sp, a6] : DataW H)]).all (· ≤ reachBytes) = true := hsz
      rw [List.all_eq_true] at hz
      have hm := hz ((es.length + sp.length) * 32) (by
        simp only [DataW.weightsEach, DataW.weights, Try.underlying68, Try.underlying22, hb, List.map, List.append_nil, List.mem_append, List.mem_cons]
        simp)
      have h1 := of_decide_eq_true hm
      unfold reachBytes at h1
      rw [Nat.add_mul, he] at h1
      omega
  clear hA0 hsz
  refine (none_any W on kind n m u hu l A cap rs hrl hrs hAn hrd hwf hreach hB).mono fun e W' ⟨he, bel⟩ => ?_
  subst he
  exact ⟨_, rfl, _, _, _, [], _, [], hW', trodAll_mk1 (shut_bool Try.underlying4 _), trodAll_mk1 (Below.trod laidOut (by kernel_rfl) (of_decide_eq_true (by kernel_rfl)) k0 bel lt0), rfl, bel.frame _, fun h => by cases h⟩

theorem over : Rows.symbolNoneRow.holds Try.pinned (OpenSpec.ofChange Rows.symbolNoneSpec) :=
  OpenClaim.holds_of_wide 8 Try.f8 rfl rfl rfl rfl rfl rfl rfl ⟨rfl, rfl, rfl, rfl, rfl⟩ rfl rfl rfl rfl rfl (by kernel_rfl) Try.func8 (by kernel_rfl)
    (of_decide_eq_true (by kernel_rfl)) (by unfold Func.isWrapper; first | (rw [if_pos (by decide +kernel)]; kernel_rfl) | (rw [if_neg (by decide +kernel)]; exact ⟨rfl, rfl⟩))
    (fun os started H enc _ => lifted os started H enc)

theorem proved : Rows.SymbolNoneSaid :=
  over
#print axioms proved
end Go.Proofs.Ythdpaakkamccbaa.symbolNone

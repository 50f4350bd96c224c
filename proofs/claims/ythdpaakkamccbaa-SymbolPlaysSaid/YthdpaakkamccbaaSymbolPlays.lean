/-
  SymbolPlays: for every two sizes and every script: two tables that stand together answer every call as the document's tables do. No condition beyond the row's own.
-/
import Derived.Test.YthdpaakkamccbaaSymOps
import Derived.SizedLaws
import Derived.ShutString
import Derived.Lib.SmallJoins
namespace Go.Proofs.Ythdpaakkamccbaa.symbolPlays
open Go.ChangeShapes Go.WideShapes Go.ChangeAt Go.RowKit Go.Deep

theorem mem_all {H : Type} {P : Program} {e : TypeId} {x : Nat} {d : DataW H} (hx : x ∈ d.weights P e) : ∀ {es : List (DataW H)}, d ∈ es → x ∈ DataW.weightsAll P e es
  | [], h => by simp at h
  | y :: r, h => by
    simp only [DataW.weightsAll, List.mem_append]
    rcases List.mem_cons.1 h with rfl | h
    · exact .inl hx
    · exact .inr (mem_all hx h)

set_option maxRecDepth 100000 in
theorem lifted (os : Os) (started : os.Started) (H : Type) (enc : TypeId × Value → H) :
    ReturnsInHanded {} Try.checked os 7 .any (Rows.symbolPlaysSpec.pre6 enc Try.prog Try.f7 Rows.symbolPlaysRow.domain false) (Rows.symbolPlaysSpec.post enc Try.prog Try.f7 false true false false) := by
  refine returnsInHanded_of_change_sized (C := Try.checked) own started (by kernel_rfl) Try.func7
    (ChangeSpec.witness6 (enc := enc) (C := Try.checked) false ⟨#[], #[.int .i64 0, .int .i64 0, .slice none 0 0], []⟩ 8 (by kernel_rfl) (by kernel_rfl) (by kernel_rfl) (by kernel_rfl)) ?_
  intro W base args ds gs before hval0 hW _ hsz0 _
  have hsz : (DataW.weightsEach Try.prog (Try.f7.params.toList ++ Rows.symbolPlaysSpec.plain.varTypes Try.prog) (ds ++ gs)).all (· ≤ reachBytes) = true := hsz0
  clear hsz0
  have hval : ∀ (j : Nat) t v, Try.f7.params[j]? = some t → args[j]? = some v → Value.okWide Try.prog W .any base t v := hval0
  have hW' := hW
  obtain ⟨p, q, hA0, hV, rfl, hfz, hnd⟩ := hW
  have hA : DataW.TrodAll enc Try.prog W 0 (fun _ => true) true Try.f7.params.toList args.toList ds p := hA0
  rw [Try.params7] at hA hval hsz
  obtain ⟨v0, v1, v2, d0, d1, d2, p0, p1, p2, rfl, rfl, rfl, h0, h1, h2⟩ := trodAll_three hA
  obtain ⟨rfl, rfl⟩ := trodVars_none hV
  have k2 := h2
  have lt2 : ∀ x ∈ p2, x.block < W.heap.size := by obtain ⟨m, hm⟩ := k2; exact DataW.trod_lt m _ _ _ hm
  obtain ⟨one, rfl, rfl, rfl, w0⟩ := open_int Try.underlying3 (hval 0 3 v0 rfl rfl) h0
  obtain ⟨two, rfl, rfl, rfl, w1⟩ := open_int Try.underlying3 (hval 1 3 v1 rfl rfl) h1
  obtain ⟨A, cap, os, rfl, hrd, hd⟩ := ops_shape (hval 2 55 v2 rfl rfl) h2
  have hb : Try.prog.bytesOf 36 = 32 := by kernel_rfl
  have hb2 : 1 ≤ Try.prog.bytesOf 68 := of_decide_eq_true (by kernel_rfl)
  have hz : (DataW.weightsEach Try.prog [3, 3, 55] [(DataW.lit (.int .i64 one) : DataW H), .lit (.int .i64 two), d2]).all (· ≤ reachBytes) = true := hsz
  rw [List.all_eq_true] at hz
  have hlen : os.length ≤ 4611686018427387904 := by
    rcases hd with ⟨rfl, _⟩ | ⟨es, sp, rfl, he, _⟩
    · simp
    · have hm := hz ((es.length + sp.length) * Try.prog.bytesOf 68) (by
        simp only [DataW.weightsEach, DataW.weights, Try.underlying55, List.append_nil, List.mem_append, List.mem_cons]
        simp)
      have h1 := of_decide_eq_true hm
      unfold reachBytes at h1
      have := Nat.mul_le_mul_left (es.length + sp.length) hb2
      omega
  have hgood : ∀ o ∈ os, o.good W := by
    intro o ho
    rcases hd with ⟨rfl, _⟩ | ⟨es, sp, rfl, he, hall⟩
    · simp at ho
    · obtain ⟨i, hi, rfl⟩ := List.mem_iff_getElem.1 ho
      obtain ⟨e, hei, hf⟩ := hall i hi
      refine ⟨hf.v, hf.len, hf.rs, hf.nil_, hf.rd, hf.wf, ?_⟩
      obtain ⟨a0, a1, a2, a3, a4, a5, a6, hea, hd⟩ := hf.data
      rcases hd with ⟨hnil, _⟩ | ⟨es', sp', rfl, he'⟩
      · rw [hnil]; simp
      · have hme : e ∈ es := List.mem_of_getElem? hei
        have hin : (es'.length + sp'.length) * 32 ∈ e.weights Try.prog 68 := by
          rw [hea]
          simp only [DataW.weightsEach, DataW.weights, Try.underlying68, Try.underlying22, hb, List.map, List.append_nil, List.mem_append, List.mem_cons]
          simp
        have hm := hz ((es'.length + sp'.length) * 32) (by
          have := mem_all hin hme
          simp only [DataW.weightsEach, DataW.weights, Try.underlying55, List.append_nil, List.nil_append, List.mem_append, List.mem_cons]
          exact .inr (.inl this))
        have h1 := of_decide_eq_true hm
        unfold reachBytes at h1
        rw [Nat.add_mul, he'] at h1
        omega
  clear hA0 hsz hz
  refine (plays_any one two A cap os W hrd hgood hlen).mono fun e W' ⟨he, bel⟩ => ?_
  subst he
  exact ⟨_, rfl, _, _, _, [], _, [], hW', trodAll_mk1 (shut_bool Try.underlying4 _), trodAll_mk3 (shut_int Try.underlying3 w0) (shut_int Try.underlying3 w1) (Below.trod laidOut (by kernel_rfl) (of_decide_eq_true (by kernel_rfl)) k2 bel lt2), rfl, bel.frame _, fun h => by cases h⟩

theorem over : Rows.symbolPlaysRow.holds Try.pinned (OpenSpec.ofChange Rows.symbolPlaysSpec) :=
  OpenClaim.holds_of_wide 7 Try.f7 rfl rfl rfl rfl rfl rfl rfl ⟨rfl, rfl, rfl, rfl, rfl⟩ rfl rfl rfl rfl rfl (by kernel_rfl) Try.func7 (by kernel_rfl)
    (of_decide_eq_true (by kernel_rfl)) (by unfold Func.isWrapper; first | (rw [if_pos (by decide +kernel)]; kernel_rfl) | (rw [if_neg (by decide +kernel)]; exact ⟨rfl, rfl⟩))
    (fun os started H enc _ => lifted os started H enc)

theorem proved : Rows.SymbolPlaysSaid :=
  over
#print axioms proved
end Go.Proofs.Ythdpaakkamccbaa.symbolPlays

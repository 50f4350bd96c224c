/-
  The walk of JournalBursts.
-/
import Derived.Test.YtamhfhodhjoapaaSum
import Derived.Test.YtamhfhodhjoapaaBurst
import Derived.Deep.LoopGhost
import Derived.Deep.DeepCutAuto
import Derived.Deep.QuietTactic
import Derived.BigQuiet
import Derived.Laws.IdiomStrings
namespace Go.Proofs.Ytamhfhodhjoapaa
open Go.RowKit

theorem tmod_neg (k n : Int) (hk : k < 0) (hn : 1 ≤ n) : (k.tmod n < 0 → k.tmod n + n = k % n) ∧ (¬ k.tmod n < 0 → k.tmod n = k % n) := by
  have h1 := Int.tmod_eq_emod (a := k) (b := n)
  have h2 := Int.emod_nonneg k (show n ≠ 0 by omega)
  have h3 := Int.emod_lt_of_pos k (show 0 < n by omega)
  have h5 : ¬ 0 ≤ k := by omega
  by_cases hd : n ∣ k
  · have : k % n = 0 := Int.emod_eq_zero_of_dvd hd
    simp only [h5, hd, false_or, if_true] at h1
    omega
  · simp only [h5, hd, false_or, if_false] at h1
    omega

set_option maxHeartbeats 400000 in
theorem round_any (k n : Int) (w : World) (h0 : -9223372036854775808 ≤ k) (h1 : k ≤ 9223372036854775807) (hn : 1 ≤ n) (hn2 : n ≤ 140737488351232) :
    Calls Try.prog 7 #[.int .i64 k, .int .i64 n] w fun e w' => e = .returned (.int .i64 (k % n)) ∧ w' = w := by
  by_cases hk : 0 ≤ k
  · have hm := Int.emod_nonneg k (show n ≠ 0 by omega)
    go_enter Try.func7, Try.ntmps7
    go_wp2
    go_ret
    exact ⟨rfl, rfl⟩
  · have hm := tmod_neg k n (by omega) hn
    have h3 := Int.emod_nonneg k (show n ≠ 0 by omega)
    have h4 := Int.emod_lt_of_pos k (show 0 < n by omega)
    obtain ⟨t, ht⟩ : ∃ t, k.tmod n = t := ⟨_, rfl⟩
    rw [ht] at hm
    by_cases hneg : t < 0
    · have e := hm.1 hneg
      have e' := Lib.hid e
      have hb : -n ≤ t := by omega
      clear hm e
      go_enter Try.func7, Try.ntmps7
      go_wp2
      go_ret
      exact ⟨ret_int e'.out, rfl⟩
    · have e := hm.2 hneg
      have e' := Lib.hid e
      clear hm e
      go_enter Try.func7, Try.ntmps7
      go_wp2
      go_ret
      exact ⟨ret_int e'.out, rfl⟩

end Go.Proofs.Ytamhfhodhjoapaa

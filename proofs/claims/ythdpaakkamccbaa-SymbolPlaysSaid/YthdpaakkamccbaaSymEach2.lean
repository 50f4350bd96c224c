/-
  Walks: find; each with find and with Value handed to it.
-/
import Derived.Test.YthdpaakkamccbaaSymEach
namespace Go.Proofs.Ythdpaakkamccbaa
open Go.RowKit Go.Maps

theorem ptr_find {w : World} {tb most : Nat} {vs : List Val} {S : List Nat} (h : Tab w tb most vs S) (v : Val) (hv : v.wf) :
    Calls Try.prog 34 #[.pointer (some ⟨tb, 0, none⟩), v.agg] w fun e w' => e = .returned (.tuple #[.int .i32 (numOf vs v : Int), .int .i64 (if v ∈ vs then 0 else 21)]) ∧ Below w.heap.size w w' := by
  have hf : ∀ o, Calls Try.prog 14 #[.pointer (some ⟨tb, 0, none⟩), v.agg] (w.alloc o) fun e w' => e = .returned (.tuple #[.int .i32 (numOf vs v : Int), .bool (decide (v ∈ vs))]) ∧ Below (w.alloc o).heap.size (w.alloc o) w' :=
    fun o => find_any (h.same fun k hk => Below.heap_alloc _ _ k (h.lt k hk)) v hv
  by_cases hm : v ∈ vs
  · rw [decide_eq_true hm] at hf
    rw [if_pos hm]
    have Hf := Lib.hid hf
    clear hf hm
    generalize (numOf vs v : Int) = q at Hf ⊢
    obtain ⟨vk, vn, s⟩ := v
    simp only [Val.agg] at Hf ⊢
    go_enter Try.func34, Try.ntmps34
    go_wp2_with (go_at_call 14; refine (Hf.out _).mono ?_; rintro e W1 ⟨rfl, hb1⟩)
    go_ret2
    exact ⟨rfl, ((Below.refl _ _).alloc (Nat.le_refl _) _).trans (hb1.mono (by simp))⟩
  · have hq : numOf vs v = 0 := by unfold numOf; rw [if_neg hm]
    rw [decide_eq_false hm] at hf
    rw [if_neg hm, hq]
    rw [hq] at hf
    have Hf := Lib.hid hf
    clear hf hm hq
    obtain ⟨vk, vn, s⟩ := v
    simp only [Val.agg] at Hf ⊢
    go_enter Try.func34, Try.ntmps34
    go_wp2_with (go_at_call 14; refine (Hf.out _).mono ?_; rintro e W1 ⟨rfl, hb1⟩)
    go_ret2
    exact ⟨rfl, ((Below.refl _ _).alloc (Nat.le_refl _) _).trans (hb1.mono (by simp))⟩

/-- one by one, to the first that is none of them. -/
def seekGo (vs : List Val) : List Val → List Nat → List Nat × Int
  | [], ns => (ns, 0)
  | u :: us, ns => if u ∈ vs then seekGo vs us (ns ++ [vs.idxOf u]) else (ns, 21)
theorem seekGo_cons (vs : List Val) (u : Val) (us : List Val) (ns : List Nat) : seekGo vs (u :: us) ns = if u ∈ vs then seekGo vs us (ns ++ [vs.idxOf u]) else (ns, 21) := rfl

set_option maxHeartbeats 1000000 in
theorem each_find (rb tb most : Nat) (vs us : List Val) (A : Option Addr) (cap : Nat) (S : List Nat) (w : World) (hT : Tab w tb most vs S) (hrd : RdV w A us) (hdis : us ≠ [] → ∀ a, A = some a → a.block ≠ rb)
    (hwf : ∀ u ∈ us, u.wf) (hlen : us.length ≤ 24) (hrow : Blk w rb 43 (rowOf [])) (hrb : rb ∉ S) :
    Calls Try.prog 32 #[.slice (some ⟨rb, 0, none⟩) 24 24, .slice A us.length cap, .func (.func 34) #[.pointer (some ⟨tb, 0, none⟩)] #[]] w fun e w' =>
      e = .returned (.int .i64 (seekGo vs us []).2) ∧ Blk w' rb 43 (rowOf (seekGo vs us []).1) ∧ Chg [rb] w w' := by
  obtain ⟨n, hn⟩ : ∃ n, us.length = n := ⟨_, rfl⟩
  rw [hn] at hlen ⊢
  have Hn := Lib.hid hn
  clear hn
  have Hrd := Lib.hid hrd
  have Hdis := Lib.hid hdis
  have HT := Lib.hid hT
  have Hrow := Lib.hid hrow
  have Hwf := Lib.hid hwf
  clear hrd hdis hT hrow hwf
  go_enter Try.func32, Try.ntmps32
  go_wp2
  go_loopg [13] n (fun gk i wx => ∃ (j : Nat) (ns : List Nat), j ≤ n ∧ gk = n - j ∧ i = .int .i64 j ∧ ns.length = j ∧ seekGo vs us [] = seekGo vs (us.drop j) ns ∧ Blk wx rb 43 (rowOf ns) ∧ Chg [rb] w wx)
  case atStart => exact ⟨0, [], Nat.zero_le _, rfl, rfl, rfl, rfl, Hrow.out, Chg.refl _ _⟩
  case round =>
    obtain ⟨j, ns, hj, rfl, rfl, hnl, hgo, hrow, hC⟩ := hrel
    have hT : Tab wr tb most vs S := HT.out.chg hC (fun k hk hm => hrb (by simp at hm; subst hm; exact hk))
    by_cases hlt : j < n
    · have hul : j < us.length := by rw [Hn.out]; exact hlt
      have hrdr : RdV wr A us := by
        intro hne
        obtain ⟨b, off, rfl, hb, hc⟩ := Hrd.out hne
        have e := hC.block b hb (by simpa using Hdis.out hne _ rfl)
        exact RdV.keep (w := w) (fun _ => ⟨b, off, rfl, hb, hc⟩) hC.size (fun a ha => by cases ha; exact e) hne
      obtain ⟨b, off, rfl, hb, hc⟩ := hrdr (by intro h; rw [h] at hul; simp at hul)
      obtain ⟨d0, d1, d2⟩ := hc j hul
      have hfind := fun o => ptr_find (show Tab (wr.alloc o) tb most vs S from hT.same fun k hk => Below.heap_alloc _ _ k (hT.lt k hk)) (us[j]) (Hwf.out _ (List.getElem_mem hul))
      rw [List.drop_eq_getElem_cons hul, seekGo_cons] at hgo
      have hrl := hrow.lt
      have Hx : Hid (∀ o, (wr.alloc o).heap.size = wr.heap.size + 1) := Lib.hid (fun o => by simp)
      have Hrow' := Lib.hid hrow
      have HC := Lib.hid hC
      clear hc hrdr hrow hC hT
      by_cases hm : us[j] ∈ vs
      · have hq : numOf vs us[j] = vs.idxOf us[j] := by unfold numOf; rw [if_pos hm]
        rw [hq] at hfind
        simp only [if_pos hm] at hfind hgo
        have Hfind := Lib.hid hfind
        have Hgo := Lib.hid hgo
        clear hfind hgo hm hq
        generalize us[j] = v at Hfind d0 d1 d2 Hgo
        generalize vs.idxOf v = num at Hfind Hgo
        obtain ⟨vk, vn, s⟩ := v
        simp only [Val.agg] at Hfind d0 d1 d2
        go_wp2_with fail
        refine (Hfind.out _).mono ?_
        rintro e W2 ⟨rfl, hb2⟩
        have hrow2 : Blk W2 rb 43 (rowOf ns) := (Hrow'.out.alloc _).same (hb2.block rb (by rw [Hx.out]; omega))
        have hCC : Chg [rb] w W2 := (HC.out.alloc _).trans (Chg.of_below [] hb2) (fun x hx => by cases hx)
        have z0 : W2.cell? ⟨rb, j, none⟩ = some (.int .i32 0) := by rw [hrow2.cell, ← hnl]; exact rowOf_at ns (by omega)
        have z1 : W2.frozen? ⟨rb, j, none⟩ = false := hrow2.frozen j
        have hrow3 : Blk (W2.setCell ⟨rb, j, none⟩ (.int .i32 (num : Int))) rb 43 (rowOf (ns ++ [num])) := by
          rw [← rowOf_set ns num (by omega), hnl]; exact hrow2.set_ j _
        have hC3 : Chg [rb] w (W2.setCell ⟨rb, j, none⟩ (.int .i32 (num : Int))) := hCC.setCell (.inl (by simp)) _
        have Hrow3 := Lib.hid hrow3
        have HC3 := Lib.hid hC3
        have Hnl := Lib.hid hnl
        clear hrow3 hC3 hb2 hrow2 hCC hnl
        go_wp2
        go_roundg (n - (j + 1))
        case measure => omega
        case rel => exact ⟨j + 1, ns ++ [num], by omega, rfl, by go_num, by rw [List.length_append, Hnl.out]; rfl, Hgo.out, Hrow3.out, HC3.out⟩
      · have hq : numOf vs us[j] = 0 := by unfold numOf; rw [if_neg hm]
        rw [hq] at hfind
        simp only [if_neg hm] at hfind hgo
        have Hfind := Lib.hid hfind
        have Hgo := Lib.hid hgo
        clear hfind hgo hm hq
        generalize us[j] = v at Hfind d0 d1 d2
        obtain ⟨vk, vn, s⟩ := v
        simp only [Val.agg] at Hfind d0 d1 d2
        go_wp2_with fail
        refine (Hfind.out _).mono ?_
        rintro e W2 ⟨rfl, hb2⟩
        have hrow2 : Blk W2 rb 43 (rowOf ns) := (Hrow'.out.alloc _).same (hb2.block rb (by rw [Hx.out]; omega))
        have hCC : Chg [rb] w W2 := (HC.out.alloc _).trans (Chg.of_below [] hb2) (fun x hx => by cases hx)
        have HR2 := Lib.hid hrow2
        have HCC := Lib.hid hCC
        clear hb2 hrow2 hCC
        go_wp2
        go_ret
        rw [Hgo.out]
        exact ⟨rfl, HR2.out, HCC.out⟩
    · obtain rfl : j = n := by omega
      rw [List.drop_of_length_le (by rw [Hn.out]; omega)] at hgo
      have Hend := Lib.hid (show seekGo vs us [] = (ns, 0) by rw [hgo]; rfl)
      have Hrow' := Lib.hid hrow
      have HC := Lib.hid hC
      clear hrow hC hgo hT
      go_wp2
      go_ret
      rw [Hend.out]
      exact ⟨rfl, Hrow'.out, HC.out⟩

end Go.Proofs.Ythdpaakkamccbaa

/-
  Walks: Add in one contract; each with Add, find, Value handed to it.
-/
import Derived.Test.YthdpaakkamccbaaSymFilled
import Derived.Laws.CopyRow
namespace Go.Proofs.Ythdpaakkamccbaa
open Go.RowKit Go.Maps

/-- what Add does: the values behind it, the number, the error's number. -/
def addStep (most : Nat) (vs : List Val) (u : Val) : List Val × Nat × Int :=
  if u.ok = false then (vs, 0, 10) else if u ∈ vs then (vs, vs.idxOf u, 0) else if vs.length < most then (vs ++ [u], vs.length, 0) else (vs, 0, 20)

theorem add_any {w : World} {tb most : Nat} {vs : List Val} {S : List Nat} (h : Tab w tb most vs S) (u : Val) (hu : u.wf) :
    Calls Try.prog 16 #[.pointer (some ⟨tb, 0, none⟩), u.agg] w fun e w' => ∃ S', e = .returned (.tuple #[.int .i32 ((addStep most vs u).2.1 : Int), .int .i64 (addStep most vs u).2.2]) ∧ Tab w' tb most (addStep most vs u).1 S' ∧ Chg S w w' ∧ Grew w.heap.size S S' := by
  unfold addStep
  by_cases h1 : u.ok = false
  · simp only [if_pos h1]
    exact (add_bad h u h1).mono fun e w' ⟨he, hb⟩ => ⟨S, he, h.below hb, Chg.of_below _ hb, Grew.refl _ _⟩
  · have hok : u.ok = true := by cases hh : u.ok; exact absurd hh h1; rfl
    simp only [if_neg h1]
    by_cases h2 : u ∈ vs
    · simp only [if_pos h2]
      exact (add_old h u hu hok h2).mono fun e w' ⟨he, hb⟩ => ⟨S, he, h.below hb, Chg.of_below _ hb, Grew.refl _ _⟩
    · simp only [if_neg h2]
      by_cases h3 : vs.length < most
      · simp only [if_pos h3]
        exact add_new h u hu hok h2 h3
      · simp only [if_neg h3]
        exact (add_full h u hu hok h2 (by omega)).mono fun e w' ⟨he, hb⟩ => ⟨S, he, h.below hb, Chg.of_below _ hb, Grew.refl _ _⟩

theorem addStep_bound {most : Nat} {vs : List Val} {u : Val} (hl : vs.length ≤ most) : (addStep most vs u).2.1 ≤ most := by
  unfold addStep
  split
  · exact Nat.zero_le _
  · split
    · rename_i _ h; exact Nat.le_trans (Nat.le_of_lt (idx_lt h)) hl
    · split
      · exact hl
      · exact Nat.zero_le _

/-- one by one, to the first error. -/
def addGo (most : Nat) : List Val → List Val → List Nat → List Val × List Nat × Int
  | [], vs, ns => (vs, ns, 0)
  | u :: us, vs, ns => if (addStep most vs u).2.2 = 0 then addGo most us (addStep most vs u).1 (ns ++ [(addStep most vs u).2.1]) else ((addStep most vs u).1, ns, (addStep most vs u).2.2)

theorem addGo_cons (most : Nat) (u : Val) (us vs : List Val) (ns : List Nat) : addGo most (u :: us) vs ns = if (addStep most vs u).2.2 = 0 then addGo most us (addStep most vs u).1 (ns ++ [(addStep most vs u).2.1]) else ((addStep most vs u).1, ns, (addStep most vs u).2.2) := rfl

/-- a row's cells: these numbers, then noughts. -/
def rowOf (ns : List Nat) : Array Value := ((ns.map fun n : Nat => Value.int .i32 (n : Int)) ++ List.replicate (24 - ns.length) (Value.int .i32 0)).toArray
theorem rowOf_size (ns : List Nat) (h : ns.length ≤ 24) : (rowOf ns).size = 24 := by
  unfold rowOf; simp; omega
theorem rowOf_at (ns : List Nat) (h : ns.length < 24) : (rowOf ns)[ns.length]? = some (.int .i32 0) := by
  unfold rowOf
  have hl : (ns.map fun n : Nat => Value.int .i32 (n : Int)).length = ns.length := by simp
  rw [List.getElem?_toArray, List.getElem?_append_right (by omega), hl, Nat.sub_self, List.getElem?_replicate, if_pos (by omega)]
theorem rowOf_set (ns : List Nat) (n : Nat) (h : ns.length < 24) : (rowOf ns).setIfInBounds ns.length (.int .i32 (n : Int)) = rowOf (ns ++ [n]) := by
  unfold rowOf
  have hl : (ns.map fun n : Nat => Value.int .i32 (n : Int)).length = ns.length := by simp
  have e : 24 - ns.length = 24 - (ns ++ [n]).length + 1 := by rw [List.length_append, List.length_singleton]; omega
  rw [List.setIfInBounds_toArray, List.set_append_right _ _ (by omega), hl, Nat.sub_self, e, List.replicate_succ, List.set_cons_zero, List.map_append]
  simp

set_option maxHeartbeats 1000000 in
theorem each_add (rb tb most : Nat) (vs us : List Val) (A : Option Addr) (cap : Nat) (S : List Nat) (w : World) (hT : Tab w tb most vs S) (hrd : RdV w A us) (hdis : us ≠ [] → ∀ a, A = some a → a.block ∉ rb :: S)
    (hwf : ∀ u ∈ us, u.wf) (hlen : us.length ≤ 24) (hrow : Blk w rb 43 (rowOf [])) (hrb : rb ∉ S) :
    Calls Try.prog 32 #[.slice (some ⟨rb, 0, none⟩) 24 24, .slice A us.length cap, .func (.func 16) #[.pointer (some ⟨tb, 0, none⟩)] #[]] w fun e w' =>
      ∃ S', e = .returned (.int .i64 (addGo most us vs []).2.2) ∧ Tab w' tb most (addGo most us vs []).1 S' ∧ Blk w' rb 43 (rowOf (addGo most us vs []).2.1) ∧ Chg (rb :: S) w w' ∧ Grew w.heap.size S S' ∧ rb ∉ S' := by
  obtain ⟨n, hn⟩ : ∃ n, us.length = n := ⟨_, rfl⟩
  rw [hn] at hlen ⊢
  have Hn := Lib.hid hn
  clear hn
  have Hrd := Lib.hid hrd
  have Hdis := Lib.hid hdis
  have HT := Lib.hid hT
  have Hrow := Lib.hid hrow
  have Hwf := Lib.hid hwf
  have hlm : most ≤ 2147483647 := by obtain ⟨_, _, _, _, ht, _⟩ := hT; exact ht.most
  clear hrd hdis hT hrow hwf
  go_enter Try.func32, Try.ntmps32
  go_wp2
  go_loopg [13] n (fun gk i wx => ∃ (j : Nat) (vs' : List Val) (ns : List Nat) (S' : List Nat), j ≤ n ∧ gk = n - j ∧ i = .int .i64 j ∧ ns.length = j ∧ addGo most us vs [] = addGo most (us.drop j) vs' ns ∧ Tab wx tb most vs' S' ∧ Blk wx rb 43 (rowOf ns) ∧ Chg (rb :: S) w wx ∧ Grew w.heap.size S S' ∧ rb ∉ S')
  case atStart => exact ⟨0, vs, [], S, Nat.zero_le _, rfl, rfl, rfl, rfl, HT.out, Hrow.out, Chg.refl _ _, Grew.refl _ _, hrb⟩
  case round =>
    obtain ⟨j, vs', ns, S', hj, rfl, rfl, hnl, hgo, hT, hrow, hC, hS', hrb'⟩ := hrel
    by_cases hlt : j < n
    · have hul : j < us.length := by rw [Hn.out]; exact hlt
      have hrdr : RdV wr A us := by
        intro hne
        obtain ⟨b, off, rfl, hb, hc⟩ := Hrd.out hne
        have e := hC.block b hb (Hdis.out hne _ rfl)
        exact RdV.keep (w := w) (fun _ => ⟨b, off, rfl, hb, hc⟩) hC.size (fun a ha => by cases ha; exact e) hne
      obtain ⟨b, off, rfl, hb, hc⟩ := hrdr (by intro h; rw [h] at hul; simp at hul)
      obtain ⟨d0, d1, d2⟩ := hc j hul
      have hlive : ∀ o, Tab (wr.alloc o) tb most vs' S' := fun o => hT.same fun k hk => Below.heap_alloc _ _ k (hT.lt k hk)
      have hadd := fun o => add_any (hlive o) (us[j]) (Hwf.out _ (List.getElem_mem hul))
      have hbound := addStep_bound (u := us[j]) (show vs'.length ≤ most by obtain ⟨_, _, _, _, ht, _⟩ := hT; exact ht.le)
      rw [List.drop_eq_getElem_cons hul] at hgo
      clear hc hrdr hlive
      have Hadd := Lib.hid hadd
      have HT' := Lib.hid hT
      have HS' := Lib.hid hS'
      have Hrow' := Lib.hid hrow
      have HC := Lib.hid hC
      have Hgo := Lib.hid hgo
      have Hrb' := Lib.hid hrb'
      have hrl := hrow.lt
      clear hadd hT hS' hrow hC hgo hrb'
      generalize us[j] = v at Hadd d0 d1 d2 Hgo hbound
      obtain ⟨vk, vn, s⟩ := v
      simp only [Val.agg] at Hadd d0 d1 d2
      have Hx : Hid (∀ o, (wr.alloc o).heap.size = wr.heap.size + 1) := Lib.hid (fun o => by simp)
      obtain ⟨q, hq⟩ : ∃ q, addStep most vs' ⟨vk, vn, s⟩ = q := ⟨_, rfl⟩
      rw [hq] at hbound
      rw [addGo_cons] at Hgo
      rw [hq] at Hadd Hgo
      clear hq
      obtain ⟨vs2, num, code⟩ := q
      simp only at Hadd Hgo hbound
      go_wp2_with fail
      refine (Hadd.out _).mono ?_
      rintro e W2 ⟨S2, rfl, hT2, hC2, hS2⟩
      have hrb2 : rb ∉ S2 := fun h => by
        rcases hS2 rb h with h | h
        · exact Hrb'.out h
        · rw [Hx.out] at h; omega
      have hrow2 : Blk W2 rb 43 (rowOf ns) := (Hrow'.out.alloc _).same (hC2.block rb (by rw [Hx.out]; omega) Hrb'.out)
      have hCC : Chg (rb :: S) w W2 := (HC.out.alloc _).trans hC2 (fun x hx => by
        rcases HS'.out x hx with h | h
        · left; exact List.mem_cons_of_mem _ h
        · right; exact h)
      have hSS : Grew w.heap.size S S2 := ⟨fun k hk => by
        rcases hS2 k hk with h | h
        · exact HS'.out k h
        · right; have := HC.out.size; rw [Hx.out] at h; omega, hS2.map.trans HS'.out.map⟩
      by_cases hcode : code = 0
      · subst hcode
        have z0 : W2.cell? ⟨rb, j, none⟩ = some (.int .i32 0) := by rw [hrow2.cell, ← hnl]; exact rowOf_at ns (by omega)
        have z1 : W2.frozen? ⟨rb, j, none⟩ = false := hrow2.frozen j
        have hrow3 : Blk (W2.setCell ⟨rb, j, none⟩ (.int .i32 (num : Int))) rb 43 (rowOf (ns ++ [num])) := by
          rw [← rowOf_set ns num (by omega), hnl]; exact hrow2.set_ j _
        have hT3 : Tab (W2.setCell ⟨rb, j, none⟩ (.int .i32 (num : Int))) tb most vs2 S2 := hT2.same fun k hk => Below.heap_setCell _ _ _ _ (fun e => hrb2 (by have e' : k = rb := e; rw [← e']; exact hk))
        have hC3 : Chg (rb :: S) w (W2.setCell ⟨rb, j, none⟩ (.int .i32 (num : Int))) := hCC.setCell (.inl (by simp)) _
        have Hrow3 := Lib.hid hrow3
        have HT3 := Lib.hid hT3
        have HC3 := Lib.hid hC3
        have HSS := Lib.hid hSS
        have Hrb2 := Lib.hid hrb2
        have Hnl := Lib.hid hnl
        clear hrow3 hT3 hC3 hSS hrb2 hT2 hC2 hS2 hrow2 hCC hnl
        go_wp2
        go_roundg (n - (j + 1))
        case measure => omega
        case rel =>
          refine ⟨j + 1, vs2, ns ++ [num], S2, by omega, rfl, by go_num, by rw [List.length_append, Hnl.out]; rfl, ?_, HT3.out, Hrow3.out, HC3.out, HSS.out, Hrb2.out⟩
          rw [Hgo.out]; simp
      · have hne : (code != 0) = true := by simpa using hcode
        have hend : addGo most us vs [] = (vs2, ns, code) := by rw [Hgo.out]; simp [hcode]
        have Hend := Lib.hid hend
        have HSS := Lib.hid hSS
        have Hrb2 := Lib.hid hrb2
        have HT2 := Lib.hid hT2
        have HR2 := Lib.hid hrow2
        have HCC := Lib.hid hCC
        clear hend hSS hrb2 hT2 hC2 hS2 hrow2 hCC hcode
        go_wp2
        go_ret
        rw [Hend.out]
        exact ⟨S2, rfl, HT2.out, HR2.out, HCC.out, HSS.out, Hrb2.out⟩
    · obtain rfl : j = n := by omega
      rw [List.drop_of_length_le (by rw [Hn.out]; omega)] at hgo
      have Hend := Lib.hid (show addGo most us vs [] = (vs', ns, 0) by rw [hgo]; rfl)
      have HT' := Lib.hid hT
      have Hrow' := Lib.hid hrow
      have HC := Lib.hid hC
      have HS' := Lib.hid hS'
      have Hrb' := Lib.hid hrb'
      clear hT hrow hC hS' hrb' hgo
      go_wp2
      go_ret
      rw [Hend.out]
      exact ⟨S', rfl, HT'.out, Hrow'.out, HC.out, HS'.out, Hrb'.out⟩

end Go.Proofs.Ythdpaakkamccbaa

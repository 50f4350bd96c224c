/-
  Walks: has a rule more parts than are gone through? Only that it is answered.
-/
import Derived.Test.YtgjdgincebchhaaGreatDoorPlan2
import Derived.Maps.AppendAt
import Derived.Deep.LoopGhost
namespace Go.Proofs.YtgjdgincebchhaaGreatDoor
open Go Go.RowKit

/-- a list of its own is read. -/
theorem rd_of_own {w : World} {base : Nat} {e : TypeId} {size : Nat} {v : Value} {n : Nat} {xs : List Value} (h : w.ownsRow base e size v n xs) : ∃ A cap, v = .slice A n cap ∧ Rd w A xs := by
  obtain ⟨h1, h2⟩ := h
  rcases h2 with ⟨rfl, rfl⟩ | ⟨g, cap, cur, rfl, hg, hh, hn, hc, hs, ht⟩
  · exact ⟨none, 0, rfl, fun hne => absurd (List.eq_nil_of_length_eq_zero (by rw [h1, Nat.zero_mul])) hne⟩
  · refine ⟨some ⟨g, 0, none⟩, cap, rfl, fun _ => ⟨g, 0, rfl, (Array.getElem?_eq_some_iff.1 hh).1, fun j v hj => ?_⟩⟩
    rw [Nat.zero_add, cell_of_row _ _ _ _ _ _ hh]
    rw [← ht, List.getElem?_take] at hj
    split at hj
    · rw [← Array.getElem?_toList]; exact hj
    · cases hj
theorem new_news (w : World) (cs : List Value) (t : TypeId) : ∀ j u, cs[j]? = some u → (w.alloc (.cells cs.toArray t)).cell? ((⟨w.heap.size, 0, none⟩ : Addr).add j) = some u := fun j u hj => by
  have h := new_range w cs t j u hj
  have e : (⟨w.heap.size, 0, none⟩ : Addr).add j = ⟨w.heap.size, 0 + j, none⟩ := by
    unfold Addr.add
    split
    · rename_i h0; subst h0; rfl
    · rfl
  rw [e]
  exact h
theorem own_ge {w : World} {base : Nat} {e : TypeId} {size : Nat} {v : Value} {n : Nat} {xs : List Value} (h : w.ownsRow base e size v n xs) : ∀ k, v.ownBlock = some k → base ≤ k := by
  obtain ⟨h1, h2⟩ := h
  rcases h2 with ⟨rfl, rfl⟩ | ⟨g, cap, cur, rfl, hg, _⟩
  · intro k hk; cases hk
  · intro k hk
    have hk : some g = some k := hk
    injection hk with hk
    omega
theorem exCells_append (a b : List Ex) : (exCells (a ++ b)).flatten = (exCells a).flatten ++ (exCells b).flatten := by simp [exCells]
theorem exCells_take (es : List Ex) (k : Nat) (h : k < es.length) : (exCells (es.take (k + 1))).flatten = (exCells (es.take k)).flatten ++ (es[k]).cells := by
  rw [List.take_succ_eq_append_getElem h, exCells_append]
  simp [exCells]
theorem exCells_flat (es : List Ex) : (exCells es).flatten.length = es.length * 6 := by rw [flat_length (exCells_len es), exCells_length]
theorem Ex.liesL_mem {w : World} {es : List Ex} (h : Ex.liesL w es) {e : Ex} (he : e ∈ es) : e.lies w := by
  obtain ⟨i, hi, rfl⟩ := List.mem_iff_getElem.1 he
  exact Ex.liesL_at h (List.getElem?_eq_getElem hi)
/-- the cells of one of them. -/
theorem rd_one {w : World} {A : Option Addr} {es : List Ex} (h : Rd w A (exCells es).flatten) (i : Nat) (hi : i < es.length) : ∃ b o, A = some ⟨b, o, none⟩ ∧ b < w.heap.size ∧ w.rangeAt b (o + i * 6) (es[i]).cells := by
  have hne : (exCells es).flatten ≠ [] := by
    intro e
    have := exCells_flat es
    rw [e] at this
    simp at this
    omega
  obtain ⟨b, o, rfl, hb, hr⟩ := h hne
  refine ⟨b, o, rfl, hb, ?_⟩
  have := rangeAt_part hr (i * 6) 6
  rw [flat_part (exCells_len es) i (by rw [exCells_length]; exact hi)] at this
  simpa [exCells] using this

set_option maxHeartbeats 4000000 in
set_option maxRecDepth 10000 in
theorem exprParts_any (e : Ex) (left : Nat) (w : World) (h1 : left ≤ 1048576) (hl : e.lies w) :
    Calls Tryz.prog 134 #[.agg e.cells.toArray, .int .i64 (left : Int)] w fun x w' => ∃ r : Nat, x = .returned (.int .i64 (r : Int)) ∧ r ≤ left + 1 ∧ Below w.heap.size w w' := by
  obtain ⟨i0, hi, hz0, hz1, hz2⟩ := info_parts infoExpr
  have hce := Lib.hid (show ∃ q v k m s A n cap, e.cells = [.int .i8 q, .string v, .int .i8 k, .int .i64 m, .string s, .slice A n cap] by cases e; exact ⟨_, _, _, _, _, _, _, _, rfl⟩)
  obtain ⟨q, v, k, m, s, A, n, cap, hce⟩ := hce.out
  have Hce := Lib.hid hce
  rw [hce]
  have Hl := Lib.hid hl
  clear hce hl
  go_enter Tryz.func134, Tryz.ntmps134
  go_wp2
  go_loopg [5, 6, 7] 65540 (fun gk sn sl sd wx => ∃ (nn d : Nat) (A : Option Addr) (m cap : Nat) (es : List Ex), gk = 65540 - d ∧ d ≤ 65537 ∧ sn = .int .i64 (nn : Int) ∧ nn ≤ left ∧ sl = .slice A m cap ∧ es.length = m ∧ sd = .int .i64 (d : Int) ∧ Rd wx A (exCells es).flatten ∧ m ≤ left + 1 ∧ (∀ e ∈ es, e.lies wx) ∧ Below w.heap.size w wx)
  case atStart =>
    have hB : Below w.heap.size w ((w.alloc (.cells #[.int .i8 q, .string v, .int .i8 k, .int .i64 m, .string s, .slice A n cap] 91)).alloc (.cells #[.int .i8 q, .string v, .int .i8 k, .int .i64 m, .string s, .slice A n cap] 91)) := (new_below w _).trans ((new_below _ _).mono (by simp))
    refine ⟨0, 0, _, _, _, [e], rfl, by omega, rfl, by omega, rfl, rfl, rfl, fun _ => ⟨_, _, rfl, by simp, ?_⟩, by simp, ?_, hB⟩
    · have h := new_range (w.alloc (.cells #[.int .i8 q, .string v, .int .i8 k, .int .i64 m, .string s, .slice A n cap] 91)) [.int .i8 q, .string v, .int .i8 k, .int .i64 m, .string s, .slice A n cap] 91
      simp only [exCells, List.map_cons, List.map_nil, List.flatten_cons, List.flatten_nil, List.append_nil]
      rw [Hce.out]
      simpa using h
    · intro e' he'
      rw [List.mem_singleton] at he'
      rw [he']
      exact Ex.lies_below hB Hl.out
  case round =>
    obtain ⟨nn, d, A, m, cap, es, rfl, hd, rfl, hnn, rfl, hm, rfl, hrd, hel, hlies, hB⟩ := hrel
    obtain ⟨W1, rfl⟩ : ∃ W1, W1 = wr := ⟨_, rfl⟩
    have Hm := Lib.hid hm
    have HB := Lib.hid hB
    have Hlies := Lib.hid hlies
    have Hrd := Lib.hid hrd
    clear hB hlies hrd hm
    by_cases hm0 : m = 0
    · subst hm0
      go_wp2
      go_returns
      exact ⟨nn, rfl, by omega, HB.out⟩
    · have hm1 : 0 < m := by omega
      clear hm0
      by_cases hn : nn + m ≤ left
      · by_cases hdd : d ≤ 65536
        · go_wp2
          go_loopg [8, 9] m (fun gk sx si wo => ∃ (i c : Nat) (acc : List Ex), i ≤ m ∧ gk = m - i ∧ si = .int .i64 (i : Int) ∧ acc.length = c ∧ wo.ownsRow W1.heap.size 91 6 sx c (exCells acc).flatten ∧ nn + m + c ≤ left ∧ (∀ e ∈ acc, e.lies W1) ∧ Below W1.heap.size W1 wo)
          case atStart => exact ⟨0, 0, [], Nat.zero_le _, rfl, rfl, rfl, World.ownsRow_nil _ _ _ _, hn, by simp, Below.refl _ _⟩
          case round =>
            obtain ⟨i, c, acc, hi1, rfl, rfl, hc, hown, hcl, haccl, hB2⟩ := hrel
            obtain ⟨W2, rfl⟩ : ∃ W2, W2 = wr := ⟨_, rfl⟩
            obtain ⟨A2, cap2, rfl, hrd2⟩ := rd_of_own hown
            have Hc := Lib.hid hc
            have Hown := Lib.hid hown
            have Haccl := Lib.hid haccl
            have HB2 := Lib.hid hB2
            have Hrd2 := Lib.hid hrd2
            clear hc hown haccl hB2 hrd2
            by_cases hlt : i < m
            · have him : i < es.length := by rw [Hm.out]; exact hlt
              obtain ⟨b, o, rfl, hbl, hsrc⟩ := rd_one Hrd.out i him
              have hlie := Hlies.out _ (List.getElem_mem him)
              generalize es[i] = ee at hsrc hlie
              clear him
              obtain ⟨q1, v1, k1, m1, s1, A1, cap1, kids⟩ := ee
              unfold Ex.lies at hlie
              obtain ⟨l1, l2, l3⟩ := hlie
              obtain ⟨p, hp⟩ : ∃ p, kids.length = p := ⟨_, rfl⟩
              have c5 : W2.cell? ⟨b, o + i * 6 + 5, none⟩ = some (.slice A1 p cap1) := by rw [← hp]; exact rangeAt_below hsrc HB2.out hbl 5 _ rfl
              have c5' : ∀ W, Below W1.heap.size W1 W → W.cell? ⟨b, o + i * 6 + 5, none⟩ = some (.slice A1 p cap1) := fun W hW => by rw [← hp]; exact rangeAt_below hsrc hW hbl 5 _ rfl
              rw [hp] at l2
              have Hp := Lib.hid hp
              have L1 := Lib.hid l1
              have L3 := Lib.hid l3
              have C5 := Lib.hid c5'
              clear hp l1 l3 c5' hsrc
              by_cases hg : nn + m + c + p ≤ left
              · go_wp2
                go_loopg [8, 10] p (fun gk sx sk wo => ∃ (k c3 : Nat), k ≤ p ∧ gk = p - k ∧ sk = .int .i64 (k : Int) ∧ c3 = c + k ∧ wo.ownsRow W1.heap.size 91 6 sx c3 (exCells (acc ++ kids.take k)).flatten ∧ Below W1.heap.size W1 wo)
                case atStart => exact ⟨0, c, Nat.zero_le _, rfl, rfl, rfl, by simpa using Hown.out, HB2.out⟩
                case round =>
                  obtain ⟨k, c3, hk1, rfl, rfl, hc3, hown3, hB3⟩ := hrel
                  obtain ⟨W3, rfl⟩ : ∃ W3, W3 = wr := ⟨_, rfl⟩
                  obtain ⟨A3, cap3, rfl, hrd3⟩ := rd_of_own hown3
                  have c5 := C5.out W3 hB3
                  have Hown3 := Lib.hid hown3
                  have HB3 := Lib.hid hB3
                  clear hown3 hrd3 hB3
                  by_cases hlt3 : k < p
                  · have hkl : k < kids.length := by rw [Hp.out]; exact hlt3
                    obtain ⟨b3, o3, rfl, hb3, hsrc3⟩ := rd_one L1.out k hkl
                    have htk := exCells_take kids k hkl
                    have hld := rangeAt_below hsrc3 HB3.out hb3
                    generalize kids[k] = e3 at htk hld
                    obtain ⟨q3, v3, k3, m3, s3, A4, cap4, kids3⟩ := e3
                    obtain ⟨p3, hp3⟩ : ∃ p3, kids3.length = p3 := ⟨_, rfl⟩
                    simp only [Ex.cells, hp3] at htk hld
                    have Htk := Lib.hid htk
                    have hi6 : (Tryz.prog.info? 91).map (·.size) = some [Value.int .i8 q3, .string v3, .int .i8 k3, .int .i64 m3, .string s3, .slice A4 p3 cap4].length := sizeExpr
                    have Hnew := Lib.hid (new_news W3 [.int .i8 q3, .string v3, .int .i8 k3, .int .i64 m3, .string s3, .slice A4 p3 cap4] 91)
                    have Hone := Lib.hid (show ∀ u ∈ [Value.int .i8 q3, .string v3, .int .i8 k3, .int .i64 m3, .string s3, .slice A4 p3 cap4], u.oneCell' = true by simp [Value.oneCell'])
                    have h63 : c3 + 1 ≤ maxLen := by unfold maxLen; omega
                    have h32 : (c3 + 1) * 80 ≤ 140737488355328 := by omega
                    have hW1 : W1.heap.size ≤ W3.heap.size + 1 := by have := HB3.out.size; omega
                    have Hc3 := Lib.hid hc3
                    clear htk hsrc3 hp3 hkl hc3
                    go_wp2_with (first
                      | (refine tw_at_load 91 _ rfl ?_; refine wpList_load_mid rfl 91 _ rfl b3 (o3 + k * 6) rfl [.int .i8 q3, .string v3, .int .i8 k3, .int .i64 m3, .string s3, .slice A4 p3 cap4] _ hld Tryz.underlying91 rfl hi6 ?_)
                      | (at_builtin; refine wpList_append_own_at _ rfl _ _ 89 rfl W1.heap.size 91 i0 _ 6 80 Tryz.underlying89 hi hz0 hz1 hz2 rfl (by decide) _ c3 _ rfl (Hown3.out.alloc _) ⟨W3.heap.size, 0, none⟩ 1 1 [.int .i8 q3, .string v3, .int .i8 k3, .int .i64 m3, .string s3, .slice A4 p3 cap4] rfl rfl Hnew.out Hone.out h63 h32 (by simpa using hW1) ?_))
                    intro v' W4 hown4 hgrow4 hnil4 hloc4
                    have hbel4 : Below W1.heap.size W1 W4 := (HB3.out.alloc HB3.out.size _).grown hgrow4 (by simpa using hW1) (own_ge Hown3.out)
                    have Hown4 := Lib.hid hown4
                    have Hbel4 := Lib.hid hbel4
                    clear hown4 hgrow4 hnil4 hloc4 hbel4
                    go_wp2
                    go_roundg (p - (k + 1))
                    case measure => omega
                    case rel =>
                      have hc3 := Hc3.out
                      refine ⟨k + 1, c3 + 1, by omega, rfl, by go_num, by omega, ?_, Hbel4.out⟩
                      rw [exCells_append, Htk.out, ← List.append_assoc, ← exCells_append]
                      exact Hown4.out
                  · obtain rfl : k = p := by omega
                    have hown5 := Hown3.out
                    rw [List.take_of_length_le (by rw [Hp.out]; exact Nat.le_refl _)] at hown5
                    have Hown5 := Lib.hid hown5
                    clear hown5
                    go_wp2
                    go_roundg (m - (i + 1))
                    case measure => omega
                    case rel =>
                      refine ⟨i + 1, c3, acc ++ kids, by omega, rfl, by go_num, by rw [List.length_append, Hc.out, Hp.out]; exact hc3.symm, Hown5.out, by omega, ?_, HB3.out⟩
                      intro e he
                      rcases List.mem_append.1 he with he | he
                      · exact Haccl.out e he
                      · exact Ex.liesL_mem L3.out he
              · go_wp2
                go_returns
                exact ⟨left + 1, by go_num, Nat.le_refl _, HB.out.trans (HB2.out.mono HB.out.size)⟩
            · obtain rfl : i = m := by omega
              go_wp2
              go_roundg (65540 - (d + 1))
              case measure => omega
              case rel =>
                exact ⟨nn + i, d + 1, A2, c, cap2, acc, rfl, by omega, by go_num, hn, rfl, Hc.out, by go_num, Hrd2.out, by omega, fun e he => Ex.lies_below HB2.out (Haccl.out e he), HB.out.trans (HB2.out.mono HB.out.size)⟩
        · go_wp2
          go_returns
          exact ⟨left + 1, by go_num, Nat.le_refl _, HB.out⟩
      · go_wp2
        go_returns
        exact ⟨left + 1, by go_num, Nat.le_refl _, HB.out⟩

end Go.Proofs.YtgjdgincebchhaaGreatDoor

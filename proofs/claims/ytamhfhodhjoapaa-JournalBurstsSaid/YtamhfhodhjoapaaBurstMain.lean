/-
  The walk of JournalBursts.
-/
import Derived.Test.YtamhfhodhjoapaaBurstMem
namespace Go.Proofs.Ytamhfhodhjoapaa
open Go.RowKit

theorem conv_held (W : World) (G k cap : Nat) (ys : List UInt8) (hl : ys.length = k) (h : Held W G ys) (m : Nat) :
    (convert 27 9 (.slice (some ⟨G, 0, none⟩) k cap)).run Try.prog (W.drewN m) = .ok (.string ⟨ys.toArray⟩) (W.drewN m) := by
  have h := run_convert_bytes_back (P := Try.prog) (W.drewN m) 27 9 5 ⟨G, 0, none⟩ cap ys Try.underlying27 Try.underlying5 Try.underlying9 (by
    intro j hj
    have := h j hj
    rw [show (⟨G, 0, none⟩ : Addr).add j = ⟨G, j, none⟩ from by unfold Addr.add; split <;> simp_all]
    exact this)
  rw [hl] at h
  exact h

theorem ret_bool {a b : Bool} (h : a = b) : Ending.returned (.bool a) = .returned (.bool b) := by rw [h]

theorem fin_ (B : ByteArray) (k : Nat) (ys : List UInt8) (h : Crc.sumList ys = Crc.sumList (B.data.toList.take k) → ys = B.data.toList.take k) :
    ((sumOf ⟨ys.toArray⟩ == sumOf (B.extract 0 k)) == (ys == (B.extract 0 k).toList)) = true := by
  rw [ByteArray.toList_eq, sumOf_cut, show (B.extract 0 k).data.toList = B.data.toList.take k from by simp [ByteArray.data_extract]]
  unfold sumOf
  by_cases hy : ys = B.data.toList.take k
  · subst hy
    simp
  · have h1 : (ys == B.data.toList.take k) = false := by simpa using hy
    have h2 : (((Crc.sumList ys).toNat : Int) == ((Crc.sumList (B.data.toList.take k)).toNat : Int)) = false := by
      rw [beq_eq_false_iff_ne]
      intro e
      exact hy (h (BitVec.eq_of_toNat_eq (by omega)))
    rw [h1]
    show ((((Crc.sumList ys).toNat : Int) == _) == false) = true
    rw [h2]; rfl

set_option maxRecDepth 100000 in
set_option maxHeartbeats 1000000 in
theorem burst_any (B C D : ByteArray) (at_ : Int) (O T : UInt8) (w : World) (hb : B.size ≤ 140737488351232) (hc : C.size ≤ 140737488351232) (hd : D.size ≤ 140737488351232)
    (a0 : -9223372036854775808 ≤ at_) (a1 : at_ ≤ 9223372036854775807) :
    Calls Try.prog 4 #[.agg #[.string B, .string C, .string D, .int .i64 at_, .int .u8 (O.toNat : Int), .int .u8 (T.toNat : Int)]] w fun e w' => e = .returned (.bool true) ∧ Below w.heap.size w w' := by
  obtain ⟨n, hn1, hn2, hn3, hn4⟩ : ∃ n : Nat, n ≤ B.size ∧ n ≤ C.size ∧ n ≤ D.size ∧ (n = B.size ∨ n = C.size ∨ n = D.size) := ⟨min B.size (min C.size D.size), by omega, by omega, by omega, by omega⟩
  have hmin := Lib.hid hn4
  clear hn4
  go_enter Try.func4, Try.ntmps4
  go_wp2
  go_region
  go_upto_region 4 with (go_at_call 5; refine (nine_any _).mono ?_; rintro e w' ⟨rfl, rfl⟩)
  go_cut [6] (fun v wx => v = .int .i64 n ∧ wx = (w.alloc (.cells #[.string B, .string C, .string D, .int .i64 at_, .int .u8 (O.toNat : Int), .int .u8 (T.toNat : Int)] 26)).drew)
  case first =>
    go_wp2
    all_goals
      go_meet
      refine ⟨?_, rfl⟩
      have := hmin.out
      first | rfl | (congr 1; omega)
  case rest =>
    obtain ⟨rfl, rfl⟩ := hcut
    by_cases h0 : n = 0
    · subst h0
      go_wp2
      go_ret
      exact ⟨rfl, ((Below.refl _ _).alloc (Nat.le_refl _) _).drew⟩
    · have hmk := made_bytes n (by omega)
      obtain ⟨ts, hts⟩ : ∃ ts, tog B C D n = ts := ⟨_, rfl⟩
      have hlen : ts.length = n := by rw [← hts]; exact tog_length B C D n hn1 hn2 hn3
      have hat : ∀ k (hk : k < n), (ts[k]'(by omega)) = B[k] ^^^ C[k] ^^^ D[k] := by
        intro k hk; subst hts; exact tog_at B C D n k hn1 hn2 hn3 hk
      have Hlen := Lib.hid hlen
      have Hat := Lib.hid hat
      have Hts := Lib.hid hts
      clear hat hts
      go_upto_region 8 with fail
      clear hmk
      rw [← filled_none ts n]
      go_wp2
      go_loopg [8] n (fun gk i wx => ∃ k : Nat, k ≤ n ∧ gk = n - k ∧ i = .int .i64 k ∧ Blk wx w.heap.size 26 (argCells B C D at_ O.toNat T.toNat) ∧ Blk wx (w.heap.size + 1) 5 (filled ts n k) ∧ Below w.heap.size w wx ∧ wx.heap.size = w.heap.size + 2)
      case atStart =>
        exact ⟨0, Nat.zero_le _, rfl, rfl, ((Blk.new w _ _).alloc _).drew, two_new w _ _ _, (((Below.refl _ _).alloc (Nat.le_refl _) _).alloc (by simp) _).drew, by simp⟩
      case round =>
        obtain ⟨k, hk, rfl, rfl, hB1, hB2, hbel, hsz⟩ := hrel
        by_cases hlt : k < n
        · have hlt1 : k < B.size := by omega
          have hlt2 : k < C.size := by omega
          have hlt3 : k < D.size := by omega
          have hcell : wr.cell? ⟨w.heap.size + 1, k, none⟩ = some (.int .u8 0) := by rw [hB2.cell]; exact filled_at ts n k hlt Hlen.out
          have hfr : wr.frozen? ⟨w.heap.size + 1, k, none⟩ = false := hB2.frozen k
          have hx := bits_three B[k] C[k] D[k]
          obtain ⟨x, hxx⟩ : ∃ x, B[k] ^^^ C[k] ^^^ D[k] = x := ⟨_, rfl⟩
          have Hx := Lib.hid hxx
          rw [hxx] at hx
          clear hxx
          go_wp2
          go_region
          go_wp2
          go_roundg (n - (k + 1))
          case measure => omega
          case rel =>
            refine ⟨k + 1, by omega, rfl, by go_num, hB1.drew.far (by simp) _, ?_, (hbel.drew.setCell (by simp) _), by simp [hsz]⟩
            have hs := filled_set ts n k hlt Hlen.out
            rw [Hat.out k hlt, Hx.out] at hs
            rw [← hs]
            exact hB2.drew.set_ k _
        · obtain rfl : k = n := by omega
          have hfull : filled ts k k = (ts.map (fun b : UInt8 => Value.int .u8 (b.toNat : Int))).toArray := by
            unfold filled
            rw [List.take_of_length_le (by rw [Hlen.out]; omega), Nat.sub_self]; simp
          rw [hfull] at hB2
          clear hfull
          have hconv : ∀ m, (convert 27 9 (.slice (some ⟨w.heap.size + 1, 0, none⟩) k k)).run Try.prog (wr.drewN m) = .ok (.string ⟨ts.toArray⟩) (wr.drewN m) := by
            intro m
            have h := run_convert_bytes_back (P := Try.prog) (wr.drewN m) 27 9 5 ⟨w.heap.size + 1, 0, none⟩ k ts Try.underlying27 Try.underlying5 Try.underlying9 (by
              intro j hj
              have := (hB2.drewN m).cell j
              rw [show (⟨w.heap.size + 1, 0, none⟩ : Addr).add j = ⟨w.heap.size + 1, j, none⟩ from by unfold Addr.add; split <;> simp_all, this]
              simp [hj])
            rw [Hlen.out] at h
            exact h
          have h3 : bits .xor .u16 (bits .xor .u16 (sumOf (B.extract 0 k)) (sumOf (C.extract 0 k))) (sumOf (D.extract 0 k)) = sumOf ⟨ts.toArray⟩ := by
            rw [sumOf_cut, sumOf_cut, sumOf_cut, bits_xor16, bits_xor16, ← Hts.out]
            unfold tog sumOf
            rw [← Crc.affine _ _ _ (by simp; omega) (by simp; omega)]
          have q0 : (ByteArray.mk ts.toArray).size ≤ 140737488351232 := by show ts.toArray.size ≤ _; rw [List.size_toArray, Hlen.out]; omega
          have q1 : ∀ X : ByteArray, X.size ≤ 140737488351232 → (X.extract 0 k).size ≤ 140737488351232 := by intro X h; simp; omega
          go_upto_region 12 with fail
          go_quiet ((go_at_call 5; refine Calls.quiet_of_same (sumOf_any _ _ ?_); first | exact q0 | exact q1 _ hb | exact q1 _ hc | exact q1 _ hd))
          clear h3 hconv
          obtain ⟨m, hm⟩ : ∃ m : Nat, at_ % (k : Int) = m := ⟨(at_ % (k : Int)).toNat, by have := Int.emod_nonneg at_ (show (k : Int) ≠ 0 by omega); omega⟩
          have hmk : m < k := by have := Int.emod_lt_of_pos at_ (show 0 < (k : Int) by omega); omega
          have cr : ∀ W, Calls Try.prog 7 #[.int .i64 at_, .int .i64 (k : Int)] W fun e w' => e = .returned (.int .i64 (m : Int)) ∧ w' = W := by
            intro W; have h := round_any at_ k W a0 a1 (by omega) (by omega); rw [hm] at h; exact h
          have CR := Lib.hid cr
          clear cr hm
          have hat3 : wr.cell? ⟨w.heap.size, 3, none⟩ = some (.int .i64 at_) := hB1.cell 3
          go_upto_region 15 with (go_at_call 7; refine (CR.out _).mono ?_; rintro e w' ⟨rfl, rfl⟩)
          have hB3 := hB1.drewN nq
          have hbl : Below w.heap.size w (wr.drewN nq) := ⟨hbel.os, hbel.tape, hbel.output, hbel.size, hbel.block⟩
          clear hat3 hB1 hB2 hbel CR
          generalize wr.drewN nq = W1 at hB3 hbl ⊢
          obtain ⟨g1, g2⟩ := cap_ge W1 B.size 5 hb
          have hcv := run_bytes_of_string (P := Try.prog) W1 9 27 5 B Try.underlying9 Try.underlying27 Try.underlying5
          generalize grownCap W1 B.size 0 5 = cap at hcv g1 g2
          have g3 : k ≤ cap := by omega
          have hcells : ∀ j (hj : j < k), (W1.drew.alloc (.cells (bytesRow B cap) 5 ((bytesRow B cap).size, (bytesRow B cap).size + 1))).cell? ⟨W1.heap.size, j, none⟩ = some (.int .u8 (B[j].toNat : Int)) := by
            intro j hj; rw [new_cell]; exact bytesRow_at B cap j (by omega)
          have hfrees : ∀ j, j < k → (W1.drew.alloc (.cells (bytesRow B cap) 5 ((bytesRow B cap).size, (bytesRow B cap).size + 1))).frozen? ⟨W1.heap.size, j, none⟩ = false := by
            intro j hj; exact new_free _ _ _ _ _ (by rw [bytesRow_size B cap g1]; omega)
          have hB4 := hB3.drew.alloc (.cells (bytesRow B cap) 5 ((bytesRow B cap).size, (bytesRow B cap).size + 1))
          have hbl2 := hbl.drew.alloc hbl.size (.cells (bytesRow B cap) 5 ((bytesRow B cap).size, (bytesRow B cap).size + 1))
          have hG := hB3.lt
          generalize W1.drew.alloc (.cells (bytesRow B cap) 5 ((bytesRow B cap).size, (bytesRow B cap).size + 1)) = W2 at hcv hcells hfrees hB4 hbl2
          have Hcells := Lib.hid hcells
          have Hfrees := Lib.hid hfrees
          clear hcells hfrees hB3 hbl
          go_cut [10] (fun v wx => ∃ (cap G : Nat), v = .slice (some ⟨G, 0, none⟩) k cap ∧ k ≤ cap ∧ w.heap.size < G ∧ Held wx G (B.data.toList.take k) ∧ Open wx G k ∧ Blk wx w.heap.size 26 (argCells B C D at_ O.toNat T.toNat) ∧ Below w.heap.size w wx)
          case first =>
            go_wp2
            go_meet
            refine ⟨cap, W1.heap.size, rfl, g3, hG, ?_, Hfrees.out, hB4, hbl2⟩
            intro j hj
            rw [List.length_take] at hj
            have := Hcells.out j (by omega)
            rw [this, List.getElem_take]
            rfl
          case rest =>
            obtain ⟨cap, G, rfl, g3, hG, hheld, hopen, hB4, hbl2⟩ := hcut
            have hmB : m < B.size := by omega
            have hl0 : (B.data.toList.take k).length = k := by
              rw [List.length_take, show B.data.toList.length = B.size from rfl]; omega
            have hc0 : wc.cell? ⟨G, m, none⟩ = some (.int .u8 (B[m].toNat : Int)) := by
              have := hheld m (by omega)
              rw [this, List.getElem_take]; rfl
            have hf0 := hopen m hmk
            have h4 : wc.cell? ⟨w.heap.size, 4, none⟩ = some (.int .u8 (O.toNat : Int)) := hB4.cell 4
            have h5 : wc.cell? ⟨w.heap.size, 5, none⟩ = some (.int .u8 (T.toNat : Int)) := hB4.cell 5
            have hx1 := bits_xor8 B[m] O
            obtain ⟨v1, hv1⟩ : ∃ v, B[m] ^^^ O = v := ⟨_, rfl⟩
            rw [hv1] at hx1
            clear hv1
            have hne : w.heap.size ≠ G := by omega
            by_cases hm1 : m + 1 < k
            · have hmB1 : m + 1 < B.size := by omega
              have hc1 : wc.cell? ⟨G, m + 1, none⟩ = some (.int .u8 (B[m + 1].toNat : Int)) := by
                have := hheld (m + 1) (by omega)
                rw [this, List.getElem_take]; rfl
              have hf1 := hopen (m + 1) hm1
              have hx2 := bits_xor8 B[m + 1] T
              obtain ⟨v2, hv2⟩ : ∃ v, B[m + 1] ^^^ T = v := ⟨_, rfl⟩
              rw [hv2] at hx2
              clear hv2
              have HH := Lib.hid ((hheld.set_ m v1).set_ (m + 1) v2)
              have HB := Lib.hid ((hbl2.setCell (p := ⟨G, m, none⟩) (by simp; omega) (.int .u8 (v1.toNat : Int))).setCell (p := ⟨G, m + 1, none⟩) (by simp; omega) (.int .u8 (v2.toNat : Int)))
              clear hheld hopen hbl2 hB4
              go_wp2
              go_region
              go_wp2
              go_region
              go_upto_region 19 with fail
              have HH2 : Held ((wc.setCell ⟨G, m, none⟩ (.int .u8 (v1.toNat : Int))).setCell ⟨G, m + 1, none⟩ (.int .u8 (v2.toNat : Int))).drew.drew G (((B.data.toList.take k).set m v1).set (m + 1) v2) := HH.out
              have HB2 : Below w.heap.size w ((wc.setCell ⟨G, m, none⟩ (.int .u8 (v1.toNat : Int))).setCell ⟨G, m + 1, none⟩ (.int .u8 (v2.toNat : Int))).drew.drew := HB.out.drew.drew
              clear HH HB hc0 hc1 hf0 hf1 h4 h5 hx1 hx2
              generalize ((wc.setCell ⟨G, m, none⟩ (.int .u8 (v1.toNat : Int))).setCell ⟨G, m + 1, none⟩ (.int .u8 (v2.toNat : Int))).drew.drew = Wf at HH2 HB2 ⊢
              have hly : (((B.data.toList.take k).set m v1).set (m + 1) v2).length = k := by simp only [List.length_set]; exact hl0
              have hcv2 := conv_held Wf G k cap _ hly HH2
              have hz0 : (ByteArray.mk (((B.data.toList.take k).set m v1).set (m + 1) v2).toArray).size ≤ 140737488351232 := by
                show (((B.data.toList.take k).set m v1).set (m + 1) v2).toArray.size ≤ _
                rw [List.size_toArray, hly]; omega
              generalize hys : ((B.data.toList.take k).set m v1).set (m + 1) v2 = ys at HH2 hly hcv2 hz0
              go_quiet ((go_at_call 5; refine Calls.quiet_of_same (sumOf_any _ _ ?_); first | exact hz0 | exact q1 _ hb))
              have hfin := Lib.hid (fin_ B k ys (by rw [← hys]; exact Crc.burst _ m v1 v2 (by omega)))
              go_wp2
              go_ret
              exact ⟨ret_bool hfin.out, HB2.trans ⟨rfl, rfl, rfl, Nat.le_refl _, fun _ _ => rfl⟩⟩
            · obtain ⟨v2, hv2⟩ : ∃ v : UInt8, v = T := ⟨T, rfl⟩
              clear hv2
              have HH := Lib.hid (hheld.set_ m v1)
              have HB := Lib.hid (hbl2.setCell (p := ⟨G, m, none⟩) (by simp; omega) (.int .u8 (v1.toNat : Int)))
              clear hheld hopen hbl2 hB4
              go_wp2
              go_region
              go_upto_region 19 with fail
              have HH2 : Held (wc.setCell ⟨G, m, none⟩ (.int .u8 (v1.toNat : Int))).drew G ((B.data.toList.take k).set m v1) := HH.out
              have HB2 : Below w.heap.size w (wc.setCell ⟨G, m, none⟩ (.int .u8 (v1.toNat : Int))).drew := HB.out.drew
              clear HH HB hc0 hf0 h4 h5 hx1
              generalize (wc.setCell ⟨G, m, none⟩ (.int .u8 (v1.toNat : Int))).drew = Wf at HH2 HB2 ⊢
              have hly : ((B.data.toList.take k).set m v1).length = k := by simp only [List.length_set]; exact hl0
              have hcv2 := conv_held Wf G k cap _ hly HH2
              have hz0 : (ByteArray.mk ((B.data.toList.take k).set m v1).toArray).size ≤ 140737488351232 := by
                show ((B.data.toList.take k).set m v1).toArray.size ≤ _
                rw [List.size_toArray, hly]; omega
              generalize hys : (B.data.toList.take k).set m v1 = ys at HH2 hly hcv2 hz0
              go_quiet ((go_at_call 5; refine Calls.quiet_of_same (sumOf_any _ _ ?_); first | exact hz0 | exact q1 _ hb))
              have hfin := Lib.hid (fin_ B k ys (by rw [← hys]; have := Crc.burst (B.data.toList.take k) m v1 v2 (by omega); rw [List.set_eq_of_length_le (by rw [List.length_set, hl0]; omega)] at this; exact this))
              go_wp2
              go_ret
              exact ⟨ret_bool hfin.out, HB2.trans ⟨rfl, rfl, rfl, Nat.le_refl _, fun _ _ => rfl⟩⟩
end Go.Proofs.Ytamhfhodhjoapaa

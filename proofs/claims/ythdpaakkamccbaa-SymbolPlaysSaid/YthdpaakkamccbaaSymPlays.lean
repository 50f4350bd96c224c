/-
  SymbolPlays's walk.
-/
import Derived.Test.YthdpaakkamccbaaSymPlay2
namespace Go.Proofs.Ythdpaakkamccbaa
open Go.RowKit Go.Maps

set_option maxRecDepth 100000 in
set_option maxHeartbeats 4000000 in
theorem plays_any (one two : Int) (A : Option Addr) (cap : Nat) (os : List OpV) (w : World) (hrd : RdO w A os) (hgood : ∀ o ∈ os, o.good w) (hlen : os.length ≤ 4611686018427387904) :
    Calls Try.prog 7 #[.int .i64 one, .int .i64 two, .slice A os.length cap] w fun e w' => e = .returned (.bool true) ∧ Below w.heap.size w w' := by
  have hbt := build_two one two
  have hbb := build_both2
  have hlives := Lib.hid lives_any
  have Hrd := Lib.hid hrd
  have Hgood := Lib.hid hgood
  obtain ⟨len, hl⟩ : ∃ n, os.length = n := ⟨_, rfl⟩
  rw [hl] at hlen ⊢
  have Hl := Lib.hid hl
  clear hrd hgood hl
  go_enter Try.func7, Try.ntmps7
  go_upto_block 0 with fail
  obtain ⟨W0, hW0⟩ : ∃ W0, (w.alloc (.cells #[.int .i64 one, .int .i64 two] 56)).alloc (.cells #[.pointer none, .pointer none, .nilFunc, .pointer none, .pointer none, .nilFunc] 62) = W0 := ⟨_, rfl⟩
  rw [hW0]
  obtain ⟨hB, b1, b2, hs⟩ : Below w.heap.size w W0 ∧ Blk W0 w.heap.size 56 #[.int .i64 one, .int .i64 two] ∧ Blk W0 (w.heap.size + 1) 62 #[.pointer none, .pointer none, .nilFunc, .pointer none, .pointer none, .nilFunc] ∧ W0.heap.size = w.heap.size + 2 := by rw [← hW0]; exact two_new w _ _ _ _
  have Hz0 := Lib.hid (two_zero (w := W0) (B := w.heap.size) b2)
  have Hs := Lib.hid hs
  have HB := Lib.hid hB
  have Hb1 := Lib.hid b1
  clear hW0 hs hB b1 b2
  go_wp2_with fail
  go_loopg [9] 2 (fun gk i wx => ∃ j : Nat, j ≤ 2 ∧ gk = 2 - j ∧ i = .int .i64 (j : Int) ∧ Below w.heap.size w wx ∧ Blk wx w.heap.size 56 #[.int .i64 one, .int .i64 two] ∧ Two wx w.heap.size (w.heap.size + 1))
  case atStart => exact ⟨0, by omega, rfl, rfl, HB.out, Hb1.out, _, _, _, _, _, _, _, _, _, _, _, _, _, Hz0.out⟩
  case round =>
    obtain ⟨j, hj, rfl, rfl, hbw, hmb, htwo⟩ := hrel
    obtain ⟨wo, rfl⟩ : ∃ wo : World, wo = wr := ⟨_, rfl⟩
    by_cases hlt : j < 2
    · obtain ⟨bc, tv0, rv0, tv1, rv1, k0, k1, st0, st1, S1, S2, S3, S4, htw⟩ := htwo
      have Htw := Lib.hid htw
      have Hbw := Lib.hid hbw
      have Hmb := Lib.hid hmb
      have hlb := htw.p0.blk.lt
      have hj2 : j = 0 ∨ j = 1 := by omega
      clear htw hbw hmb hj
      rcases hj2 with rfl | rfl
      · -- round 0
        obtain ⟨⟨st, code⟩, hN⟩ : ∃ R, newA one = R := ⟨_, rfl⟩
        have hn1 := new_any one wo
        have hn2 := fun W => ref_new_any one W
        rw [hN] at hn1
        simp only [hN] at hn1 hn2
        have Hn1 := Lib.hid hn1
        have Hn2 := Lib.hid hn2
        have cm := Hmb.out.cell 0
        simp only [List.getElem?_toArray, List.getElem?_cons_zero] at cm
        clear hn1 hn2 hN
        have hfin : ∀ (Wx Wy : World) (p q : Option Addr) (S S' : List Nat), Below wo.heap.size wo Wx → PT Wx (.pointer p) st S → (∀ k ∈ S, wo.heap.size ≤ k) → Below Wx.heap.size Wx Wy → RT Wy (.pointer q) st S' → (∀ k ∈ S', Wx.heap.size ≤ k) →
            Below w.heap.size w (((Wy.setCell ⟨w.heap.size + 1, 0, none⟩ (.pointer p)).setCell ⟨w.heap.size + 1, 1, none⟩ (.pointer q)).setCell ⟨w.heap.size + 1, 2, none⟩ .nilFunc) ∧ Blk (((Wy.setCell ⟨w.heap.size + 1, 0, none⟩ (.pointer p)).setCell ⟨w.heap.size + 1, 1, none⟩ (.pointer q)).setCell ⟨w.heap.size + 1, 2, none⟩ .nilFunc) w.heap.size 56 #[.int .i64 one, .int .i64 two] ∧ Two (((Wy.setCell ⟨w.heap.size + 1, 0, none⟩ (.pointer p)).setCell ⟨w.heap.size + 1, 1, none⟩ (.pointer q)).setCell ⟨w.heap.size + 1, 2, none⟩ .nilFunc) w.heap.size (w.heap.size + 1) := fun Wx Wy p q S S' hbx hp hS hby hr hS' => by
          have hxy : Below wo.heap.size wo Wy := hbx.trans (hby.mono hbx.size)
          refine ⟨(((Hbw.out.trans (hxy.mono Hbw.out.size)).setCell (p := ⟨w.heap.size + 1, 0, none⟩) (by show w.heap.size ≤ w.heap.size + 1; omega) _).setCell (p := ⟨w.heap.size + 1, 1, none⟩) (by show w.heap.size ≤ w.heap.size + 1; omega) _).setCell (p := ⟨w.heap.size + 1, 2, none⟩) (by show w.heap.size ≤ w.heap.size + 1; omega) _, (((Hmb.out.same (hxy.block _ Hmb.out.lt)).far (p := ⟨w.heap.size + 1, 0, none⟩) (by show w.heap.size ≠ w.heap.size + 1; omega) _).far (p := ⟨w.heap.size + 1, 1, none⟩) (by show w.heap.size ≠ w.heap.size + 1; omega) _).far (p := ⟨w.heap.size + 1, 2, none⟩) (by show w.heap.size ≠ w.heap.size + 1; omega) _, ?_⟩
          exact ⟨_, _, _, _, _, _, _, _, _, _, _, _, _, Htw.out.put0 Hbw.out.size hbx hp hS hby hr hS'⟩
        have Hfin := Lib.hid hfin
        clear hfin
        have hsome : ∀ i, i < 6 → ∀ Wy : World, Below wo.heap.size wo Wy → (Wy.cell? ⟨w.heap.size + 1, i, none⟩).isSome = true ∧ Wy.frozen? ⟨w.heap.size + 1, i, none⟩ = false := fun i hi Wy hb => by
          have hk := Htw.out.p0.blk.same (hb.block _ hlb)
          have hsz : 5 < bc.size := (Array.getElem?_eq_some_iff.1 Htw.out.c5).1
          exact ⟨by rw [hk.cell, Array.getElem?_eq_getElem (by omega)]; rfl, hk.frozen _⟩
        have Hsome := Lib.hid hsome
        clear hsome
        by_cases hst : st = none
        · have Hst := Lib.hid hst
          clear hst
          go_wp2_with (first
            | (go_at_call 22; refine Hn1.out.mono ?_; rintro e Wx ⟨p, S, rfl, hp, hS, hbx, hpn⟩
               obtain rfl := hpn.2 Hst.out
               have cm2 := (hbx.cell Hmb.out.lt).trans cm
               have Hp := Lib.hid hp
               have HS := Lib.hid hS
               have Hbx := Lib.hid hbx
               clear hp hS hbx hpn)
            | (go_at_call 23; refine (Hn2.out Wx).mono ?_; rintro e Wy ⟨q, S', rfl, hr, hS', hby, hqn⟩
               obtain rfl := hqn.2 Hst.out
               have hf := Hfin.out Wx Wy _ _ S S' Hbx.out Hp.out HS.out hby hr hS'
               have hxy := Hbx.out.trans (hby.mono Hbx.out.size)
               obtain ⟨u0, z0⟩ := Option.isSome_iff_exists.1 (Hsome.out 0 (by omega) Wy hxy).1
               have y0 := (Hsome.out 0 (by omega) Wy hxy).2
               obtain ⟨u1, z1⟩ := Option.isSome_iff_exists.1 (Hsome.out 1 (by omega) Wy hxy).1
               have y1 := (Hsome.out 1 (by omega) Wy hxy).2
               obtain ⟨u2, z2⟩ := Option.isSome_iff_exists.1 (Hsome.out 2 (by omega) Wy hxy).1
               have y2 := (Hsome.out 2 (by omega) Wy hxy).2
               have Hf := Lib.hid hf
               clear hf hr hS' hby hxy hqn))
          go_roundg (2 - (0 + 1))
          case measure => omega
          case rel => exact ⟨0 + 1, by omega, rfl, by go_num, Hf.out⟩
        · have Hst := Lib.hid hst
          clear hst
          go_wp2_with (first
            | (go_at_call 22; refine Hn1.out.mono ?_; rintro e Wx ⟨p, S, rfl, hp, hS, hbx, hpn⟩
               obtain ⟨pa, rfl⟩ : ∃ a, p = some a := by cases p with | none => exact absurd (hpn.1 rfl) Hst.out | some a => exact ⟨a, rfl⟩
               have cm2 := (hbx.cell Hmb.out.lt).trans cm
               have Hp := Lib.hid hp
               have HS := Lib.hid hS
               have Hbx := Lib.hid hbx
               clear hp hS hbx hpn)
            | (go_at_call 23; refine (Hn2.out Wx).mono ?_; rintro e Wy ⟨q, S', rfl, hr, hS', hby, hqn⟩
               obtain ⟨qa, rfl⟩ : ∃ a, q = some a := by cases q with | none => exact absurd (hqn.1 rfl) Hst.out | some a => exact ⟨a, rfl⟩
               have hf := Hfin.out Wx Wy _ _ S S' Hbx.out Hp.out HS.out hby hr hS'
               have hxy := Hbx.out.trans (hby.mono Hbx.out.size)
               obtain ⟨u0, z0⟩ := Option.isSome_iff_exists.1 (Hsome.out 0 (by omega) Wy hxy).1
               have y0 := (Hsome.out 0 (by omega) Wy hxy).2
               obtain ⟨u1, z1⟩ := Option.isSome_iff_exists.1 (Hsome.out 1 (by omega) Wy hxy).1
               have y1 := (Hsome.out 1 (by omega) Wy hxy).2
               obtain ⟨u2, z2⟩ := Option.isSome_iff_exists.1 (Hsome.out 2 (by omega) Wy hxy).1
               have y2 := (Hsome.out 2 (by omega) Wy hxy).2
               have Hf := Lib.hid hf
               clear hf hr hS' hby hxy hqn))
          go_roundg (2 - (0 + 1))
          case measure => omega
          case rel => exact ⟨0 + 1, by omega, rfl, by go_num, Hf.out⟩
      · -- round 1
        obtain ⟨⟨st, code⟩, hN⟩ : ∃ R, newA two = R := ⟨_, rfl⟩
        have hn1 := new_any two wo
        have hn2 := fun W => ref_new_any two W
        rw [hN] at hn1
        simp only [hN] at hn1 hn2
        have Hn1 := Lib.hid hn1
        have Hn2 := Lib.hid hn2
        have cm := Hmb.out.cell 1
        simp only [List.getElem?_toArray, List.getElem?_cons_zero, List.getElem?_cons_succ] at cm
        clear hn1 hn2 hN
        have hfin : ∀ (Wx Wy : World) (p q : Option Addr) (S S' : List Nat), Below wo.heap.size wo Wx → PT Wx (.pointer p) st S → (∀ k ∈ S, wo.heap.size ≤ k) → Below Wx.heap.size Wx Wy → RT Wy (.pointer q) st S' → (∀ k ∈ S', Wx.heap.size ≤ k) →
            Below w.heap.size w (((Wy.setCell ⟨w.heap.size + 1, 3, none⟩ (.pointer p)).setCell ⟨w.heap.size + 1, 4, none⟩ (.pointer q)).setCell ⟨w.heap.size + 1, 5, none⟩ .nilFunc) ∧ Blk (((Wy.setCell ⟨w.heap.size + 1, 3, none⟩ (.pointer p)).setCell ⟨w.heap.size + 1, 4, none⟩ (.pointer q)).setCell ⟨w.heap.size + 1, 5, none⟩ .nilFunc) w.heap.size 56 #[.int .i64 one, .int .i64 two] ∧ Two (((Wy.setCell ⟨w.heap.size + 1, 3, none⟩ (.pointer p)).setCell ⟨w.heap.size + 1, 4, none⟩ (.pointer q)).setCell ⟨w.heap.size + 1, 5, none⟩ .nilFunc) w.heap.size (w.heap.size + 1) := fun Wx Wy p q S S' hbx hp hS hby hr hS' => by
          have hxy : Below wo.heap.size wo Wy := hbx.trans (hby.mono hbx.size)
          refine ⟨(((Hbw.out.trans (hxy.mono Hbw.out.size)).setCell (p := ⟨w.heap.size + 1, 3, none⟩) (by show w.heap.size ≤ w.heap.size + 1; omega) _).setCell (p := ⟨w.heap.size + 1, 4, none⟩) (by show w.heap.size ≤ w.heap.size + 1; omega) _).setCell (p := ⟨w.heap.size + 1, 5, none⟩) (by show w.heap.size ≤ w.heap.size + 1; omega) _, (((Hmb.out.same (hxy.block _ Hmb.out.lt)).far (p := ⟨w.heap.size + 1, 3, none⟩) (by show w.heap.size ≠ w.heap.size + 1; omega) _).far (p := ⟨w.heap.size + 1, 4, none⟩) (by show w.heap.size ≠ w.heap.size + 1; omega) _).far (p := ⟨w.heap.size + 1, 5, none⟩) (by show w.heap.size ≠ w.heap.size + 1; omega) _, ?_⟩
          exact ⟨_, _, _, _, _, _, _, _, _, _, _, _, _, Htw.out.put1 Hbw.out.size hbx hp hS hby hr hS'⟩
        have Hfin := Lib.hid hfin
        clear hfin
        have hsome : ∀ i, i < 6 → ∀ Wy : World, Below wo.heap.size wo Wy → (Wy.cell? ⟨w.heap.size + 1, i, none⟩).isSome = true ∧ Wy.frozen? ⟨w.heap.size + 1, i, none⟩ = false := fun i hi Wy hb => by
          have hk := Htw.out.p0.blk.same (hb.block _ hlb)
          have hsz : 5 < bc.size := (Array.getElem?_eq_some_iff.1 Htw.out.c5).1
          exact ⟨by rw [hk.cell, Array.getElem?_eq_getElem (by omega)]; rfl, hk.frozen _⟩
        have Hsome := Lib.hid hsome
        clear hsome
        by_cases hst : st = none
        · have Hst := Lib.hid hst
          clear hst
          go_wp2_with (first
            | (go_at_call 22; refine Hn1.out.mono ?_; rintro e Wx ⟨p, S, rfl, hp, hS, hbx, hpn⟩
               obtain rfl := hpn.2 Hst.out
               have cm2 := (hbx.cell Hmb.out.lt).trans cm
               have Hp := Lib.hid hp
               have HS := Lib.hid hS
               have Hbx := Lib.hid hbx
               clear hp hS hbx hpn)
            | (go_at_call 23; refine (Hn2.out Wx).mono ?_; rintro e Wy ⟨q, S', rfl, hr, hS', hby, hqn⟩
               obtain rfl := hqn.2 Hst.out
               have hf := Hfin.out Wx Wy _ _ S S' Hbx.out Hp.out HS.out hby hr hS'
               have hxy := Hbx.out.trans (hby.mono Hbx.out.size)
               obtain ⟨u0, z0⟩ := Option.isSome_iff_exists.1 (Hsome.out 3 (by omega) Wy hxy).1
               have y0 := (Hsome.out 3 (by omega) Wy hxy).2
               obtain ⟨u1, z1⟩ := Option.isSome_iff_exists.1 (Hsome.out 4 (by omega) Wy hxy).1
               have y1 := (Hsome.out 4 (by omega) Wy hxy).2
               obtain ⟨u2, z2⟩ := Option.isSome_iff_exists.1 (Hsome.out 5 (by omega) Wy hxy).1
               have y2 := (Hsome.out 5 (by omega) Wy hxy).2
               have Hf := Lib.hid hf
               clear hf hr hS' hby hxy hqn))
          go_roundg (2 - (1 + 1))
          case measure => omega
          case rel => exact ⟨1 + 1, by omega, rfl, by go_num, Hf.out⟩
        · have Hst := Lib.hid hst
          clear hst
          go_wp2_with (first
            | (go_at_call 22; refine Hn1.out.mono ?_; rintro e Wx ⟨p, S, rfl, hp, hS, hbx, hpn⟩
               obtain ⟨pa, rfl⟩ : ∃ a, p = some a := by cases p with | none => exact absurd (hpn.1 rfl) Hst.out | some a => exact ⟨a, rfl⟩
               have cm2 := (hbx.cell Hmb.out.lt).trans cm
               have Hp := Lib.hid hp
               have HS := Lib.hid hS
               have Hbx := Lib.hid hbx
               clear hp hS hbx hpn)
            | (go_at_call 23; refine (Hn2.out Wx).mono ?_; rintro e Wy ⟨q, S', rfl, hr, hS', hby, hqn⟩
               obtain ⟨qa, rfl⟩ : ∃ a, q = some a := by cases q with | none => exact absurd (hqn.1 rfl) Hst.out | some a => exact ⟨a, rfl⟩
               have hf := Hfin.out Wx Wy _ _ S S' Hbx.out Hp.out HS.out hby hr hS'
               have hxy := Hbx.out.trans (hby.mono Hbx.out.size)
               obtain ⟨u0, z0⟩ := Option.isSome_iff_exists.1 (Hsome.out 3 (by omega) Wy hxy).1
               have y0 := (Hsome.out 3 (by omega) Wy hxy).2
               obtain ⟨u1, z1⟩ := Option.isSome_iff_exists.1 (Hsome.out 4 (by omega) Wy hxy).1
               have y1 := (Hsome.out 4 (by omega) Wy hxy).2
               obtain ⟨u2, z2⟩ := Option.isSome_iff_exists.1 (Hsome.out 5 (by omega) Wy hxy).1
               have y2 := (Hsome.out 5 (by omega) Wy hxy).2
               have Hf := Lib.hid hf
               clear hf hr hS' hby hxy hqn))
          go_roundg (2 - (1 + 1))
          case measure => omega
          case rel => exact ⟨1 + 1, by omega, rfl, by go_num, Hf.out⟩
    · obtain rfl : j = 2 := by omega
      obtain ⟨V0, rfl⟩ : ∃ V0 : World, V0 = wo := ⟨_, rfl⟩
      have Hbw := Lib.hid hbw
      have Htwo := Lib.hid htwo
      have hlb : w.heap.size + 1 < V0.heap.size := by obtain ⟨_, _, _, _, _, _, _, _, _, _, _, _, _, h⟩ := htwo; exact h.p0.blk.lt
      have Hlb := Lib.hid hlb
      clear hbw hmb htwo hj Hz0 HB Hb1 Hs hbt hbb hlb
      go_wp2_with fail
      go_loopg [14] len (fun gk i wx => ∃ j : Nat, j ≤ len ∧ gk = len - j ∧ i = .int .i64 (j : Int) ∧ Below w.heap.size w wx ∧ Two wx w.heap.size (w.heap.size + 1))
      case atStart => exact ⟨0, Nat.zero_le _, rfl, rfl, Hbw.out, Htwo.out⟩
      case round =>
        obtain ⟨j, hj, rfl, rfl, hbx, htwo⟩ := hrel
        obtain ⟨wi, rfl⟩ : ∃ wi : World, wi = wr := ⟨_, rfl⟩
        by_cases hlt2 : j < len
        · have hjl : j < os.length := by rw [Hl.out]; exact hlt2
          have hg := Hgood.out _ (List.getElem_mem hjl)
          obtain ⟨b, off, rfl, hblt, hrg⟩ := Hrd.out (by intro h; rw [h] at hjl; simp at hjl)
          have hrgj := hrg j hjl
          obtain ⟨o, ho⟩ : ∃ o, os[j] = o := ⟨_, rfl⟩
          rw [ho] at hg hrgj
          clear ho hrg
          obtain ⟨R, hR⟩ : ∃ R : List Value, o.cells.toList = R := ⟨_, rfl⟩
          have hRarr : (Value.agg R.toArray) = .agg (opC o.on o.kind o.n o.m o.v (.slice o.A o.l.length o.cap) o.rs) := by rw [← hR]; rfl
          have hinfo : (Try.prog.info? 68).map (·.size) = some R.length := by
            rw [← hR, Array.length_toList]
            exact op_info o.on o.kind o.n o.m o.v _ o.rs hg.len
          rw [hR] at hrgj
          have hon : wi.cell? ⟨b, off + j * 32, none⟩ = some (.int .i64 o.on) := by
            have h0 := hrgj 0 (.int .i64 o.on) (by rw [← hR]; rfl)
            exact (hbx.cell (p := ⟨b, off + j * 32, none⟩) hblt).trans h0
          have Hg := Lib.hid hg
          have HRarr := Lib.hid hRarr
          have Hinfo := Lib.hid hinfo
          have Hrg := Lib.hid hrgj
          have Hblt := Lib.hid hblt
          have Hbx := Lib.hid hbx
          have Htwo := Lib.hid htwo
          have hlb2 : w.heap.size + 1 < wi.heap.size := by obtain ⟨_, _, _, _, _, _, _, _, _, _, _, _, _, h⟩ := htwo; exact h.p0.blk.lt
          clear hg hrgj hblt hbx htwo hR hjl hRarr hinfo
          go_upto_if 64 with fail
          go_cut [15] (fun kv wx => (kv = .int .i64 0 ∨ kv = .int .i64 1) ∧ wx = wi)
          case first =>
            go_wp2_with fail
            all_goals (go_meet; exact ⟨by simp, rfl⟩)
          case rest =>
            obtain ⟨h15, rfl⟩ := hcut
            obtain ⟨W, rfl⟩ : ∃ W : World, W = wc := ⟨_, rfl⟩
            clear hon
            rcases h15 with rfl | rfl
            · -- pair 0
              obtain ⟨bc, tv0, rv0, tv1, rv1, k0, k1, st0, st1, S1, S2, S3, S4, htw⟩ := Htwo.out
              have htwd := htw.below (drew_below W)
              have hbd := Hbx.out.trans ((drew_below W).mono Hbx.out.size)
              have Hbd := Lib.hid hbd
              have Htwd := Lib.hid htwd
              have HSd := Lib.hid (show Below w.heap.size w W.drew ∧ W.drew.cell? ⟨w.heap.size + 1, 0, none⟩ = some tv0 ∧ W.drew.cell? ⟨w.heap.size + 1, 1, none⟩ = some rv0 ∧ W.drew.cell? ⟨w.heap.size + 1, 3, none⟩ = some tv1 ∧ W.drew.cell? ⟨w.heap.size + 1, 4, none⟩ = some rv1 from ⟨hbd, (htwd.p0.blk.cell _).trans htwd.p0.at0, (htwd.p0.blk.cell _).trans htwd.p0.at1, (htwd.p1.blk.cell _).trans htwd.p1.at0, (htwd.p1.blk.cell _).trans htwd.p1.at1⟩)
              have Hdo := Lib.hid (does_any htwd.p0 htwd.k0 htwd.c2 o.on o.kind o.n o.m o.v Hg.out.v o.l o.A o.cap o.rs Hg.out.len Hg.out.rs Hg.out.nil_ (Hg.out.rd.below hbd) Hg.out.wf Hg.out.reach (fun hne a ha => by
                obtain ⟨b', off', hA', hlt', _⟩ := Hg.out.rd hne
                rw [ha] at hA'
                obtain rfl := Option.some.inj hA'
                refine ⟨fun hm => ?_, fun hm => ?_, Nat.lt_of_lt_of_le hlt' hbd.size⟩
                · have := htwd.new0 _ (List.mem_append_left _ hm); exact absurd hlt' (Nat.not_lt.2 this)
                · have := htwd.new0 _ (List.mem_append_right _ hm); exact absurd hlt' (Nat.not_lt.2 this)))
              clear htw htwd hbd Htwo
              go_upto_region 17 with fail
              refine wp_region_ord [(0, false), (1, false), (2, false), (3, false), (4, false), (5, false), (6, true), (7, false), (8, false), (9, false), (10, false), (11, false), (13, false), (14, false), (15, false), (12, true), (16, true), (17, false), (18, false), (19, false), (20, false), (21, false), (22, false), (24, false), (25, false), (26, false), (23, true), (27, true), (28, false), (29, false)] (fun W' => Below w.heap.size w W' ∧ W'.cell? ⟨w.heap.size + 1, 0, none⟩ = some tv0 ∧ W'.cell? ⟨w.heap.size + 1, 1, none⟩ = some rv0 ∧ W'.cell? ⟨w.heap.size + 1, 3, none⟩ = some tv1 ∧ W'.cell? ⟨w.heap.size + 1, 4, none⟩ = some rv1) (by kernel_rfl) (by kernel_rfl) rfl (by kernel_rfl) (by rintro c a w ⟨_, h, _⟩; cases h) HSd.out ?_
              simp only [pickH, List.filterMap_cons, List.filterMap_nil, List.getElem?_toArray, List.getElem?_cons_succ, List.getElem?_cons_zero, Option.map_some]
              refine' ord_take (v := _) (by rfl) (fun wx hSw => ?hy1) ?rest1
              case hy1 => (go_simp; try exact rfl)
              simp only [Act.put, List.setIfInBounds_toArray, List.set_cons_zero, List.set_cons_succ]
              refine' ord_take (v := _) (by rfl) (fun wx hSw => ?hy2) ?rest2
              case hy2 => (go_simp; try exact rfl)
              simp only [Act.put, List.setIfInBounds_toArray, List.set_cons_zero, List.set_cons_succ]
              refine' ord_take (v := _) (by rfl) (fun wx hSw => ?hy3) ?rest3
              case hy3 => (go_simp; try exact rfl)
              simp only [Act.put, List.setIfInBounds_toArray, List.set_cons_zero, List.set_cons_succ]
              refine' ord_take (v := _) (by rfl) (fun wx hSw => ?hy4) ?rest4
              case hy4 => (go_simp; try exact rfl)
              simp only [Act.put, List.setIfInBounds_toArray, List.set_cons_zero, List.set_cons_succ]
              refine' ord_take (v := _) (by rfl) (fun wx hSw => ?hy5) ?rest5
              case hy5 => (go_simp; try exact rfl)
              simp only [Act.put, List.setIfInBounds_toArray, List.set_cons_zero, List.set_cons_succ]
              refine ord_take' (yieldsIf_load_mid (by rfl) 68 _ rfl b (off + j * 32) (by rfl) R _ (fun wx hSw => rangeAt_below Hrg.out hSw.1 Hblt.out) Try.underlying68 rfl Hinfo.out) ?_
              simp only [Act.put, List.setIfInBounds_toArray, List.set_cons_zero, List.set_cons_succ]
              refine ord_call (by rfl) (fun K hK => ?_)
              go_simp
              rw [HRarr.out]
              refine Hdo.out.mono ?_
              rintro e Wt ⟨rfl, haf⟩
              obtain ⟨bc', k0', st0', S1', S2', htw, hCt⟩ := TwoAt.first (w := W.drew) Htwd.out Hbd.out.size haf
              have Htw := Lib.hid htw
              have Hbt := Lib.hid (show Below w.heap.size w Wt from Hbd.out.trans (hCt.below Hbd.out.size (fun x hx => by
                rcases List.mem_cons.1 hx with rfl | hx
                · omega
                · exact Htwd.out.new0 x hx)))
              have HSt := Lib.hid (show Below w.heap.size w Wt ∧ Wt.cell? ⟨w.heap.size + 1, 0, none⟩ = some tv0 ∧ Wt.cell? ⟨w.heap.size + 1, 1, none⟩ = some rv0 ∧ Wt.cell? ⟨w.heap.size + 1, 3, none⟩ = some tv1 ∧ Wt.cell? ⟨w.heap.size + 1, 4, none⟩ = some rv1 from ⟨Hbt.out, (htw.p0.blk.cell _).trans htw.p0.at0, (htw.p0.blk.cell _).trans htw.p0.at1, (htw.p1.blk.cell _).trans htw.p1.at0, (htw.p1.blk.cell _).trans htw.p1.at1⟩)
              have Hl1 := Lib.hid (pt_len htw.p0.pt)
              have Hl2 := Lib.hid (rt_len htw.p0.rt)
              have Hl3 := Lib.hid (pt_len htw.p1.pt)
              have Hl4 := Lib.hid (rt_len htw.p1.rt)
              clear htw hCt haf
              refine hK.out _ _ HSt.out ?_
              clear hK K
              refine' ord_take (v := _) (by rfl) (fun wx hSw => ?hy6) ?rest6
              case hy6 => (go_simp; try exact rfl)
              simp only [Act.put, List.setIfInBounds_toArray, List.set_cons_zero, List.set_cons_succ]
              refine' ord_take (v := _) (by rfl) (fun wx hSw => ?hy7) ?rest7
              case hy7 => (go_simp; try exact rfl)
              simp only [Act.put, List.setIfInBounds_toArray, List.set_cons_zero, List.set_cons_succ]
              refine' ord_take (v := _) (by rfl) (fun wx hSw => ?hy8) ?rest8
              case hy8 => (go_simp; try exact rfl)
              simp only [Act.put, List.setIfInBounds_toArray, List.set_cons_zero, List.set_cons_succ]
              refine' ord_take (v := _) (by rfl) (fun wx hSw => ?hy9) ?rest9
              case hy9 => (go_simp; try exact rfl)
              simp only [Act.put, List.setIfInBounds_toArray, List.set_cons_zero, List.set_cons_succ]
              refine' ord_take (v := _) (by rfl) (fun wx hSw => ?hy10) ?rest10
              case hy10 => (obtain ⟨_, d0, d1, d3, d4⟩ := hSw; go_simp; try exact rfl)
              simp only [Act.put, List.setIfInBounds_toArray, List.set_cons_zero, List.set_cons_succ]
              refine' ord_take (v := _) (by rfl) (fun wx hSw => ?hy11) ?rest11
              case hy11 => (go_simp; try exact rfl)
              simp only [Act.put, List.setIfInBounds_toArray, List.set_cons_zero, List.set_cons_succ]
              refine' ord_take (v := _) (by rfl) (fun wx hSw => ?hy12) ?rest12
              case hy12 => (go_simp; try exact rfl)
              simp only [Act.put, List.setIfInBounds_toArray, List.set_cons_zero, List.set_cons_succ]
              refine' ord_take (v := _) (by rfl) (fun wx hSw => ?hy13) ?rest13
              case hy13 => (obtain ⟨_, d0, d1, d3, d4⟩ := hSw; go_simp; try exact rfl)
              simp only [Act.put, List.setIfInBounds_toArray, List.set_cons_zero, List.set_cons_succ]
              refine ord_call (by rfl) (fun K hK => ?_)
              go_simp
              refine Hl1.out.mono ?_
              rintro e Wl ⟨rfl, hWl⟩
              subst hWl
              refine hK.out _ _ HSt.out ?_
              clear hK K
              refine ord_call (by rfl) (fun K hK => ?_)
              go_simp
              refine Hl2.out.mono ?_
              rintro e Wl ⟨rfl, hWl⟩
              subst hWl
              refine hK.out _ _ HSt.out ?_
              clear hK K
              refine' ord_take (v := _) (by rfl) (fun wx hSw => ?hy14) ?rest14
              case hy14 => (go_simp; try exact rfl)
              simp only [Act.put, List.setIfInBounds_toArray, List.set_cons_zero, List.set_cons_succ]
              refine' ord_take (v := _) (by rfl) (fun wx hSw => ?hy15) ?rest15
              case hy15 => (go_simp; try exact rfl)
              simp only [Act.put, List.setIfInBounds_toArray, List.set_cons_zero, List.set_cons_succ]
              refine' ord_take (v := _) (by rfl) (fun wx hSw => ?hy16) ?rest16
              case hy16 => (go_simp; try exact rfl)
              simp only [Act.put, List.setIfInBounds_toArray, List.set_cons_zero, List.set_cons_succ]
              refine' ord_take (v := _) (by rfl) (fun wx hSw => ?hy17) ?rest17
              case hy17 => (go_simp; try exact rfl)
              simp only [Act.put, List.setIfInBounds_toArray, List.set_cons_zero, List.set_cons_succ]
              refine' ord_take (v := _) (by rfl) (fun wx hSw => ?hy18) ?rest18
              case hy18 => (go_simp; try exact rfl)
              simp only [Act.put, List.setIfInBounds_toArray, List.set_cons_zero, List.set_cons_succ]
              refine' ord_take (v := _) (by rfl) (fun wx hSw => ?hy19) ?rest19
              case hy19 => (obtain ⟨_, d0, d1, d3, d4⟩ := hSw; go_simp; try exact rfl)
              simp only [Act.put, List.setIfInBounds_toArray, List.set_cons_zero, List.set_cons_succ]
              refine' ord_take (v := _) (by rfl) (fun wx hSw => ?hy20) ?rest20
              case hy20 => (go_simp; try exact rfl)
              simp only [Act.put, List.setIfInBounds_toArray, List.set_cons_zero, List.set_cons_succ]
              refine' ord_take (v := _) (by rfl) (fun wx hSw => ?hy21) ?rest21
              case hy21 => (go_simp; try exact rfl)
              simp only [Act.put, List.setIfInBounds_toArray, List.set_cons_zero, List.set_cons_succ]
              refine' ord_take (v := _) (by rfl) (fun wx hSw => ?hy22) ?rest22
              case hy22 => (obtain ⟨_, d0, d1, d3, d4⟩ := hSw; go_simp; try exact rfl)
              simp only [Act.put, List.setIfInBounds_toArray, List.set_cons_zero, List.set_cons_succ]
              refine ord_call (by rfl) (fun K hK => ?_)
              go_simp
              refine Hl3.out.mono ?_
              rintro e Wl ⟨rfl, hWl⟩
              subst hWl
              refine hK.out _ _ HSt.out ?_
              clear hK K
              refine ord_call (by rfl) (fun K hK => ?_)
              go_simp
              refine Hl4.out.mono ?_
              rintro e Wl ⟨rfl, hWl⟩
              subst hWl
              refine hK.out _ _ HSt.out ?_
              clear hK K
              refine' ord_take (v := _) (by rfl) (fun wx hSw => ?hy23) ?rest23
              case hy23 => (go_simp; try exact rfl)
              simp only [Act.put, List.setIfInBounds_toArray, List.set_cons_zero, List.set_cons_succ]
              refine' ord_take (v := _) (by rfl) (fun wx hSw => ?hy24) ?rest24
              case hy24 => (go_simp; try exact rfl)
              simp only [Act.put, List.setIfInBounds_toArray, List.set_cons_zero, List.set_cons_succ]
              refine ord_nil ?_
              go_wp2_with fail
              go_roundg (len - (j + 1))
              case measure => omega
              case rel => exact ⟨j + 1, by omega, rfl, by go_num, Hbt.out, _, _, _, _, _, _, _, _, _, _, _, _, _, Htw.out⟩
            · -- pair 1
              obtain ⟨bc, tv0, rv0, tv1, rv1, k0, k1, st0, st1, S1, S2, S3, S4, htw⟩ := Htwo.out
              have htwd := htw.below (drew_below W)
              have hbd := Hbx.out.trans ((drew_below W).mono Hbx.out.size)
              have Hbd := Lib.hid hbd
              have Htwd := Lib.hid htwd
              have HSd := Lib.hid (show Below w.heap.size w W.drew ∧ W.drew.cell? ⟨w.heap.size + 1, 0, none⟩ = some tv0 ∧ W.drew.cell? ⟨w.heap.size + 1, 1, none⟩ = some rv0 ∧ W.drew.cell? ⟨w.heap.size + 1, 3, none⟩ = some tv1 ∧ W.drew.cell? ⟨w.heap.size + 1, 4, none⟩ = some rv1 from ⟨hbd, (htwd.p0.blk.cell _).trans htwd.p0.at0, (htwd.p0.blk.cell _).trans htwd.p0.at1, (htwd.p1.blk.cell _).trans htwd.p1.at0, (htwd.p1.blk.cell _).trans htwd.p1.at1⟩)
              have Hdo := Lib.hid (does_any htwd.p1 htwd.k1 htwd.c5 o.on o.kind o.n o.m o.v Hg.out.v o.l o.A o.cap o.rs Hg.out.len Hg.out.rs Hg.out.nil_ (Hg.out.rd.below hbd) Hg.out.wf Hg.out.reach (fun hne a ha => by
                obtain ⟨b', off', hA', hlt', _⟩ := Hg.out.rd hne
                rw [ha] at hA'
                obtain rfl := Option.some.inj hA'
                refine ⟨fun hm => ?_, fun hm => ?_, Nat.lt_of_lt_of_le hlt' hbd.size⟩
                · have := htwd.new1 _ (List.mem_append_left _ hm); exact absurd hlt' (Nat.not_lt.2 this)
                · have := htwd.new1 _ (List.mem_append_right _ hm); exact absurd hlt' (Nat.not_lt.2 this)))
              clear htw htwd hbd Htwo
              go_upto_region 17 with fail
              refine wp_region_ord [(0, false), (1, false), (2, false), (3, false), (4, false), (5, false), (6, true), (7, false), (8, false), (9, false), (10, false), (11, false), (13, false), (14, false), (15, false), (12, true), (16, true), (17, false), (18, false), (19, false), (20, false), (21, false), (22, false), (24, false), (25, false), (26, false), (23, true), (27, true), (28, false), (29, false)] (fun W' => Below w.heap.size w W' ∧ W'.cell? ⟨w.heap.size + 1, 0, none⟩ = some tv0 ∧ W'.cell? ⟨w.heap.size + 1, 1, none⟩ = some rv0 ∧ W'.cell? ⟨w.heap.size + 1, 3, none⟩ = some tv1 ∧ W'.cell? ⟨w.heap.size + 1, 4, none⟩ = some rv1) (by kernel_rfl) (by kernel_rfl) rfl (by kernel_rfl) (by rintro c a w ⟨_, h, _⟩; cases h) HSd.out ?_
              simp only [pickH, List.filterMap_cons, List.filterMap_nil, List.getElem?_toArray, List.getElem?_cons_succ, List.getElem?_cons_zero, Option.map_some]
              refine' ord_take (v := _) (by rfl) (fun wx hSw => ?hy25) ?rest25
              case hy25 => (go_simp; try exact rfl)
              simp only [Act.put, List.setIfInBounds_toArray, List.set_cons_zero, List.set_cons_succ]
              refine' ord_take (v := _) (by rfl) (fun wx hSw => ?hy26) ?rest26
              case hy26 => (go_simp; try exact rfl)
              simp only [Act.put, List.setIfInBounds_toArray, List.set_cons_zero, List.set_cons_succ]
              refine' ord_take (v := _) (by rfl) (fun wx hSw => ?hy27) ?rest27
              case hy27 => (go_simp; try exact rfl)
              simp only [Act.put, List.setIfInBounds_toArray, List.set_cons_zero, List.set_cons_succ]
              refine' ord_take (v := _) (by rfl) (fun wx hSw => ?hy28) ?rest28
              case hy28 => (go_simp; try exact rfl)
              simp only [Act.put, List.setIfInBounds_toArray, List.set_cons_zero, List.set_cons_succ]
              refine' ord_take (v := _) (by rfl) (fun wx hSw => ?hy29) ?rest29
              case hy29 => (go_simp; try exact rfl)
              simp only [Act.put, List.setIfInBounds_toArray, List.set_cons_zero, List.set_cons_succ]
              refine ord_take' (yieldsIf_load_mid (by rfl) 68 _ rfl b (off + j * 32) (by rfl) R _ (fun wx hSw => rangeAt_below Hrg.out hSw.1 Hblt.out) Try.underlying68 rfl Hinfo.out) ?_
              simp only [Act.put, List.setIfInBounds_toArray, List.set_cons_zero, List.set_cons_succ]
              refine ord_call (by rfl) (fun K hK => ?_)
              go_simp
              rw [HRarr.out]
              refine Hdo.out.mono ?_
              rintro e Wt ⟨rfl, haf⟩
              obtain ⟨bc', k1', st1', S3', S4', htw, hCt⟩ := TwoAt.second (w := W.drew) Htwd.out Hbd.out.size haf
              have Htw := Lib.hid htw
              have Hbt := Lib.hid (show Below w.heap.size w Wt from Hbd.out.trans (hCt.below Hbd.out.size (fun x hx => by
                rcases List.mem_cons.1 hx with rfl | hx
                · omega
                · exact Htwd.out.new1 x hx)))
              have HSt := Lib.hid (show Below w.heap.size w Wt ∧ Wt.cell? ⟨w.heap.size + 1, 0, none⟩ = some tv0 ∧ Wt.cell? ⟨w.heap.size + 1, 1, none⟩ = some rv0 ∧ Wt.cell? ⟨w.heap.size + 1, 3, none⟩ = some tv1 ∧ Wt.cell? ⟨w.heap.size + 1, 4, none⟩ = some rv1 from ⟨Hbt.out, (htw.p0.blk.cell _).trans htw.p0.at0, (htw.p0.blk.cell _).trans htw.p0.at1, (htw.p1.blk.cell _).trans htw.p1.at0, (htw.p1.blk.cell _).trans htw.p1.at1⟩)
              have Hl1 := Lib.hid (pt_len htw.p0.pt)
              have Hl2 := Lib.hid (rt_len htw.p0.rt)
              have Hl3 := Lib.hid (pt_len htw.p1.pt)
              have Hl4 := Lib.hid (rt_len htw.p1.rt)
              clear htw hCt haf
              refine hK.out _ _ HSt.out ?_
              clear hK K
              refine' ord_take (v := _) (by rfl) (fun wx hSw => ?hy30) ?rest30
              case hy30 => (go_simp; try exact rfl)
              simp only [Act.put, List.setIfInBounds_toArray, List.set_cons_zero, List.set_cons_succ]
              refine' ord_take (v := _) (by rfl) (fun wx hSw => ?hy31) ?rest31
              case hy31 => (go_simp; try exact rfl)
              simp only [Act.put, List.setIfInBounds_toArray, List.set_cons_zero, List.set_cons_succ]
              refine' ord_take (v := _) (by rfl) (fun wx hSw => ?hy32) ?rest32
              case hy32 => (go_simp; try exact rfl)
              simp only [Act.put, List.setIfInBounds_toArray, List.set_cons_zero, List.set_cons_succ]
              refine' ord_take (v := _) (by rfl) (fun wx hSw => ?hy33) ?rest33
              case hy33 => (go_simp; try exact rfl)
              simp only [Act.put, List.setIfInBounds_toArray, List.set_cons_zero, List.set_cons_succ]
              refine' ord_take (v := _) (by rfl) (fun wx hSw => ?hy34) ?rest34
              case hy34 => (obtain ⟨_, d0, d1, d3, d4⟩ := hSw; go_simp; try exact rfl)
              simp only [Act.put, List.setIfInBounds_toArray, List.set_cons_zero, List.set_cons_succ]
              refine' ord_take (v := _) (by rfl) (fun wx hSw => ?hy35) ?rest35
              case hy35 => (go_simp; try exact rfl)
              simp only [Act.put, List.setIfInBounds_toArray, List.set_cons_zero, List.set_cons_succ]
              refine' ord_take (v := _) (by rfl) (fun wx hSw => ?hy36) ?rest36
              case hy36 => (go_simp; try exact rfl)
              simp only [Act.put, List.setIfInBounds_toArray, List.set_cons_zero, List.set_cons_succ]
              refine' ord_take (v := _) (by rfl) (fun wx hSw => ?hy37) ?rest37
              case hy37 => (obtain ⟨_, d0, d1, d3, d4⟩ := hSw; go_simp; try exact rfl)
              simp only [Act.put, List.setIfInBounds_toArray, List.set_cons_zero, List.set_cons_succ]
              refine ord_call (by rfl) (fun K hK => ?_)
              go_simp
              refine Hl1.out.mono ?_
              rintro e Wl ⟨rfl, hWl⟩
              subst hWl
              refine hK.out _ _ HSt.out ?_
              clear hK K
              refine ord_call (by rfl) (fun K hK => ?_)
              go_simp
              refine Hl2.out.mono ?_
              rintro e Wl ⟨rfl, hWl⟩
              subst hWl
              refine hK.out _ _ HSt.out ?_
              clear hK K
              refine' ord_take (v := _) (by rfl) (fun wx hSw => ?hy38) ?rest38
              case hy38 => (go_simp; try exact rfl)
              simp only [Act.put, List.setIfInBounds_toArray, List.set_cons_zero, List.set_cons_succ]
              refine' ord_take (v := _) (by rfl) (fun wx hSw => ?hy39) ?rest39
              case hy39 => (go_simp; try exact rfl)
              simp only [Act.put, List.setIfInBounds_toArray, List.set_cons_zero, List.set_cons_succ]
              refine' ord_take (v := _) (by rfl) (fun wx hSw => ?hy40) ?rest40
              case hy40 => (go_simp; try exact rfl)
              simp only [Act.put, List.setIfInBounds_toArray, List.set_cons_zero, List.set_cons_succ]
              refine' ord_take (v := _) (by rfl) (fun wx hSw => ?hy41) ?rest41
              case hy41 => (go_simp; try exact rfl)
              simp only [Act.put, List.setIfInBounds_toArray, List.set_cons_zero, List.set_cons_succ]
              refine' ord_take (v := _) (by rfl) (fun wx hSw => ?hy42) ?rest42
              case hy42 => (go_simp; try exact rfl)
              simp only [Act.put, List.setIfInBounds_toArray, List.set_cons_zero, List.set_cons_succ]
              refine' ord_take (v := _) (by rfl) (fun wx hSw => ?hy43) ?rest43
              case hy43 => (obtain ⟨_, d0, d1, d3, d4⟩ := hSw; go_simp; try exact rfl)
              simp only [Act.put, List.setIfInBounds_toArray, List.set_cons_zero, List.set_cons_succ]
              refine' ord_take (v := _) (by rfl) (fun wx hSw => ?hy44) ?rest44
              case hy44 => (go_simp; try exact rfl)
              simp only [Act.put, List.setIfInBounds_toArray, List.set_cons_zero, List.set_cons_succ]
              refine' ord_take (v := _) (by rfl) (fun wx hSw => ?hy45) ?rest45
              case hy45 => (go_simp; try exact rfl)
              simp only [Act.put, List.setIfInBounds_toArray, List.set_cons_zero, List.set_cons_succ]
              refine' ord_take (v := _) (by rfl) (fun wx hSw => ?hy46) ?rest46
              case hy46 => (obtain ⟨_, d0, d1, d3, d4⟩ := hSw; go_simp; try exact rfl)
              simp only [Act.put, List.setIfInBounds_toArray, List.set_cons_zero, List.set_cons_succ]
              refine ord_call (by rfl) (fun K hK => ?_)
              go_simp
              refine Hl3.out.mono ?_
              rintro e Wl ⟨rfl, hWl⟩
              subst hWl
              refine hK.out _ _ HSt.out ?_
              clear hK K
              refine ord_call (by rfl) (fun K hK => ?_)
              go_simp
              refine Hl4.out.mono ?_
              rintro e Wl ⟨rfl, hWl⟩
              subst hWl
              refine hK.out _ _ HSt.out ?_
              clear hK K
              refine' ord_take (v := _) (by rfl) (fun wx hSw => ?hy47) ?rest47
              case hy47 => (go_simp; try exact rfl)
              simp only [Act.put, List.setIfInBounds_toArray, List.set_cons_zero, List.set_cons_succ]
              refine' ord_take (v := _) (by rfl) (fun wx hSw => ?hy48) ?rest48
              case hy48 => (go_simp; try exact rfl)
              simp only [Act.put, List.setIfInBounds_toArray, List.set_cons_zero, List.set_cons_succ]
              refine ord_nil ?_
              go_wp2_with fail
              go_roundg (len - (j + 1))
              case measure => omega
              case rel => exact ⟨j + 1, by omega, rfl, by go_num, Hbt.out, _, _, _, _, _, _, _, _, _, _, _, _, _, Htw.out⟩
        · obtain rfl : j = len := by omega
          clear hlt2 hj
          obtain ⟨W, rfl⟩ : ∃ W : World, W = wi := ⟨_, rfl⟩
          obtain ⟨bc, tv0, rv0, tv1, rv1, k0, k1, st0, st1, S1, S2, S3, S4, htw⟩ := htwo
          obtain ⟨p0, rfl⟩ := htw.p0.pt.ptr
          obtain ⟨p1, rfl⟩ := htw.p1.pt.ptr
          have Htw := Lib.hid htw
          have Hbx := Lib.hid hbx
          clear htw hbx
          go_upto_region 19 with fail
          have hcb : ∀ wx, Below W.heap.size W wx → wx.cell? ⟨w.heap.size + 1, 0, none⟩ = some (.pointer p0) ∧ wx.cell? ⟨w.heap.size + 1, 1, none⟩ = some rv0 ∧ wx.cell? ⟨w.heap.size + 1, 3, none⟩ = some (.pointer p1) ∧ wx.cell? ⟨w.heap.size + 1, 4, none⟩ = some rv1 := fun wx hb => by
            have h := Htw.out.below hb
            exact ⟨(h.p0.blk.cell _).trans h.p0.at0, (h.p0.blk.cell _).trans h.p0.at1, (h.p1.blk.cell _).trans h.p1.at0, (h.p1.blk.cell _).trans h.p1.at1⟩
          have Hcb := Lib.hid hcb
          have Hone0 := Lib.hid (show (Value.pointer p0).oneCell' = true from rfl)
          have Hone1 := Lib.hid (show (Value.pointer p1).oneCell' = true from rfl)
          clear hcb
          refine wp_region_ord [(0, false), (1, false), (2, false), (4, false), (5, false), (6, false), (3, true), (7, true), (8, true), (9, false), (10, false), (11, false), (12, false), (14, false), (15, false), (16, false), (13, true), (17, true), (18, true), (19, false), (20, false), (21, true), (22, false), (23, false)] (fun W' => Below W.heap.size W W') (by kernel_rfl) (by kernel_rfl) rfl (by kernel_rfl) (by rintro c a w ⟨_, h, _⟩; cases h) (drew_below W) ?_
          simp only [pickH, List.filterMap_cons, List.filterMap_nil, List.getElem?_toArray, List.getElem?_cons_succ, List.getElem?_cons_zero, Option.map_some]
          refine' ord_take (v := _) (by rfl) (fun wx hSw => ?hy49) ?rest49
          case hy49 => (go_simp; try exact rfl)
          simp only [Act.put, List.setIfInBounds_toArray, List.set_cons_zero, List.set_cons_succ]
          refine' ord_take (v := _) (by rfl) (fun wx hSw => ?hy50) ?rest50
          case hy50 => (go_simp; try exact rfl)
          simp only [Act.put, List.setIfInBounds_toArray, List.set_cons_zero, List.set_cons_succ]
          refine' ord_take (v := _) (by rfl) (fun wx hSw => ?hy51) ?rest51
          case hy51 => (obtain ⟨d0, d1, d3, d4⟩ := Hcb.out wx hSw; go_simp; try exact rfl)
          simp only [Act.put, List.setIfInBounds_toArray, List.set_cons_zero, List.set_cons_succ]
          refine' ord_take (v := _) (by rfl) (fun wx hSw => ?hy52) ?rest52
          case hy52 => (go_simp; try exact rfl)
          simp only [Act.put, List.setIfInBounds_toArray, List.set_cons_zero, List.set_cons_succ]
          refine' ord_take (v := _) (by rfl) (fun wx hSw => ?hy53) ?rest53
          case hy53 => (go_simp; try exact rfl)
          simp only [Act.put, List.setIfInBounds_toArray, List.set_cons_zero, List.set_cons_succ]
          refine' ord_take (v := _) (by rfl) (fun wx hSw => ?hy54) ?rest54
          case hy54 => (obtain ⟨d0, d1, d3, d4⟩ := Hcb.out wx hSw; go_simp; try exact rfl)
          simp only [Act.put, List.setIfInBounds_toArray, List.set_cons_zero, List.set_cons_succ]
          refine ord_call (by rfl) (fun K hK => ?_)
          go_simp
          refine (all_any (.pointer p0) _ (Hone0.out)).mono ?_
          rintro e U1 ⟨rfl, hw1⟩
          have HbU1 := Lib.hid (show Below W.heap.size W U1 from (drew_below W).trans (by rw [hw1]; exact (tup_new _ _ _).1.mono (drew_below W).size))
          have HkbU := Lib.hid (show Blk U1 W.drew.heap.size 25 #[(.pointer p0)] by rw [hw1]; exact Blk.new _ _ _)
          have HraU := Lib.hid (rt_all (Htw.out.p0.rt.below HbU1.out))
          clear hw1
          refine hK.out _ _ HbU1.out ?_
          clear hK K
          refine ord_call (by rfl) (fun K hK => ?_)
          go_simp
          refine HraU.out.mono ?_
          rintro e U2 ⟨BU, capU, rfl, hNU, _, hbU⟩
          have HbU2 := Lib.hid (show Below W.heap.size W U2 from HbU1.out.trans (hbU.mono HbU1.out.size))
          have HtU := Lib.hid (tells_any (HkbU.out.same (hbU.block _ HkbU.out.lt)) (Htw.out.p0.pt.below HbU2.out) BU capU hNU (-1))
          clear hNU hbU
          refine hK.out _ _ HbU2.out ?_
          clear hK K
          refine ord_call (by rfl) (fun K hK => ?_)
          go_simp
          refine HtU.out.mono ?_
          rintro e U3 ⟨rfl, hbU⟩
          have HbU3 := Lib.hid (show Below W.heap.size W U3 from HbU2.out.trans (hbU.mono HbU2.out.size))
          clear hbU
          refine hK.out _ _ HbU3.out ?_
          clear hK K
          refine' ord_take (v := _) (by rfl) (fun wx hSw => ?hy55) ?rest55
          case hy55 => (go_simp; try exact rfl)
          simp only [Act.put, List.setIfInBounds_toArray, List.set_cons_zero, List.set_cons_succ]
          refine' ord_take (v := _) (by rfl) (fun wx hSw => ?hy56) ?rest56
          case hy56 => (go_simp; try exact rfl)
          simp only [Act.put, List.setIfInBounds_toArray, List.set_cons_zero, List.set_cons_succ]
          refine' ord_take (v := _) (by rfl) (fun wx hSw => ?hy57) ?rest57
          case hy57 => (go_simp; try exact rfl)
          simp only [Act.put, List.setIfInBounds_toArray, List.set_cons_zero, List.set_cons_succ]
          refine' ord_take (v := _) (by rfl) (fun wx hSw => ?hy58) ?rest58
          case hy58 => (obtain ⟨d0, d1, d3, d4⟩ := Hcb.out wx hSw; go_simp; try exact rfl)
          simp only [Act.put, List.setIfInBounds_toArray, List.set_cons_zero, List.set_cons_succ]
          refine' ord_take (v := _) (by rfl) (fun wx hSw => ?hy59) ?rest59
          case hy59 => (go_simp; try exact rfl)
          simp only [Act.put, List.setIfInBounds_toArray, List.set_cons_zero, List.set_cons_succ]
          refine' ord_take (v := _) (by rfl) (fun wx hSw => ?hy60) ?rest60
          case hy60 => (go_simp; try exact rfl)
          simp only [Act.put, List.setIfInBounds_toArray, List.set_cons_zero, List.set_cons_succ]
          refine' ord_take (v := _) (by rfl) (fun wx hSw => ?hy61) ?rest61
          case hy61 => (obtain ⟨d0, d1, d3, d4⟩ := Hcb.out wx hSw; go_simp; try exact rfl)
          simp only [Act.put, List.setIfInBounds_toArray, List.set_cons_zero, List.set_cons_succ]
          refine ord_call (by rfl) (fun K hK => ?_)
          go_simp
          refine (all_any (.pointer p1) _ (Hone1.out)).mono ?_
          rintro e V1 ⟨rfl, hw1⟩
          have HbV1 := Lib.hid (show Below W.heap.size W V1 from HbU3.out.trans (by rw [hw1]; exact (tup_new _ _ _).1.mono HbU3.out.size))
          have HkbV := Lib.hid (show Blk V1 U3.heap.size 25 #[(.pointer p1)] by rw [hw1]; exact Blk.new _ _ _)
          have HraV := Lib.hid (rt_all (Htw.out.p1.rt.below HbV1.out))
          clear hw1
          refine hK.out _ _ HbV1.out ?_
          clear hK K
          refine ord_call (by rfl) (fun K hK => ?_)
          go_simp
          refine HraV.out.mono ?_
          rintro e V2 ⟨BV, capV, rfl, hNV, _, hbV⟩
          have HbV2 := Lib.hid (show Below W.heap.size W V2 from HbV1.out.trans (hbV.mono HbV1.out.size))
          have HtV := Lib.hid (tells_any (HkbV.out.same (hbV.block _ HkbV.out.lt)) (Htw.out.p1.pt.below HbV2.out) BV capV hNV (-1))
          clear hNV hbV
          refine hK.out _ _ HbV2.out ?_
          clear hK K
          refine ord_call (by rfl) (fun K hK => ?_)
          go_simp
          refine HtV.out.mono ?_
          rintro e V3 ⟨rfl, hbV⟩
          have HbV3 := Lib.hid (show Below W.heap.size W V3 from HbV2.out.trans (hbV.mono HbV2.out.size))
          clear hbV
          refine hK.out _ _ HbV3.out ?_
          clear hK K
          refine' ord_take (v := _) (by rfl) (fun wx hSw => ?hy62) ?rest62
          case hy62 => (go_simp; try exact rfl)
          simp only [Act.put, List.setIfInBounds_toArray, List.set_cons_zero, List.set_cons_succ]
          refine' ord_take (v := _) (by rfl) (fun wx hSw => ?hy63) ?rest63
          case hy63 => (go_simp; try exact rfl)
          simp only [Act.put, List.setIfInBounds_toArray, List.set_cons_zero, List.set_cons_succ]
          refine ord_call (by rfl) (fun K hK => ?_)
          go_simp
          refine (hlives.out V3).mono ?_
          rintro e Wz ⟨rfl, hbz⟩
          have HbWz := Lib.hid (show Below W.heap.size W Wz from HbV3.out.trans (hbz.mono HbV3.out.size))
          clear hbz
          refine hK.out _ _ HbWz.out ?_
          clear hK K
          refine' ord_take (v := _) (by rfl) (fun wx hSw => ?hy64) ?rest64
          case hy64 => (go_simp; try exact rfl)
          simp only [Act.put, List.setIfInBounds_toArray, List.set_cons_zero, List.set_cons_succ]
          refine' ord_take (v := _) (by rfl) (fun wx hSw => ?hy65) ?rest65
          case hy65 => (go_simp; try exact rfl)
          simp only [Act.put, List.setIfInBounds_toArray, List.set_cons_zero, List.set_cons_succ]
          refine ord_nil ?_
          go_wp2
          go_ret
          exact ⟨by simp, Hbx.out.trans (HbWz.out.mono Hbx.out.size)⟩

end Go.Proofs.Ythdpaakkamccbaa

import Derived.Test.YthigbklhngihkaaGreatDoorMOrderOwnl
import Derived.StillTailTactics
import Derived.Deep.RegionLaw
set_option linter.unusedVariables false
set_option linter.unusedSimpArgs false
set_option maxRecDepth 100000
namespace Go.Proofs.YthigbklhngihkaaGreatDoor.P
open Go.RowKit Go.Proofs.YthigbklhngihkaaGreatDoorW.PrintWords Go.Proofs.YthigbklhngihkaaGreatDoorW.PrintMore Go.Proofs.YthigbklhngihkaaGreatDoorW.PrintLast
set_option maxHeartbeats 1000000 in
theorem Same_any : ∀ (x : V) (cs : List Value) (y : V) (ds : List Value) (w : World), k28.K w x cs → k28.K w y ds →
 Calls Tryz.prog 18 #[.agg cs.toArray, .agg ds.toArray] w fun e w' => e = .returned (.bool (same x y)) ∧ Below w.heap.size w w' := by
 refine V.ind fun x ih => ?_
 intro cs y ds w hKx hKy
 obtain ⟨A2, c2, A5, c5, A6, c6, rfl, l2, g2, l5, g5, l6, g6⟩ := k28_open hKx
 obtain ⟨B2, d2, B5, d5, B6, d6, rfl, m2, r2, m5, r5, m6, r6⟩ := k28_open hKy
 have HX2 := Lib.hid g2
 have HX5 := Lib.hid g5
 have HX6 := Lib.hid g6
 have HY2 := Lib.hid r2
 have HY5 := Lib.hid r5
 have HY6 := Lib.hid r6
 have hl5 := g5.2.1
 have hl6 := g6.2.1
 clear hKx hKy g2 g5 g6 r2 r5 r6 l2 l5 l6 m2 m5 m6
 have IH := Lib.hid ih
 clear ih
 have hB0 : Below w.heap.size w ((w.alloc (Obj.cells #[Value.int IntKind.i64 x.f0, Value.bool x.f1.f0, Value.slice A2 x.f1.f1.length c2, Value.int IntKind.i64 x.f1.f2, Value.string x.f2, Value.slice A5 x.f3.length c5, Value.slice A6 x.f4.length c6] 28 (0, 0))).alloc (Obj.cells #[Value.int IntKind.i64 y.f0, Value.bool y.f1.f0, Value.slice B2 y.f1.f1.length d2, Value.int IntKind.i64 y.f1.f2, Value.string y.f2, Value.slice B5 y.f3.length d5, Value.slice B6 y.f4.length d6] 28 (0, 0))) := ((Below.refl _ _).alloc (Nat.le_refl _) _).alloc (by simp) _
 have g1 := blk_new (w.alloc (Obj.cells #[Value.int IntKind.i64 x.f0, Value.bool x.f1.f0, Value.slice A2 x.f1.f1.length c2, Value.int IntKind.i64 x.f1.f2, Value.string x.f2, Value.slice A5 x.f3.length c5, Value.slice A6 x.f4.length c6] 28 (0, 0))) (Obj.cells #[Value.int IntKind.i64 y.f0, Value.bool y.f1.f0, Value.slice B2 y.f1.f1.length d2, Value.int IntKind.i64 y.f1.f2, Value.string y.f2, Value.slice B5 y.f3.length d5, Value.slice B6 y.f4.length d6] 28 (0, 0))
 have g0 := blk_new w (Obj.cells #[Value.int IntKind.i64 x.f0, Value.bool x.f1.f0, Value.slice A2 x.f1.f1.length c2, Value.int IntKind.i64 x.f1.f2, Value.string x.f2, Value.slice A5 x.f3.length c5, Value.slice A6 x.f4.length c6] 28 (0, 0))
 replace g0 := (((Below.refl _ (w.alloc (Obj.cells #[Value.int IntKind.i64 x.f0, Value.bool x.f1.f0, Value.slice A2 x.f1.f1.length c2, Value.int IntKind.i64 x.f1.f2, Value.string x.f2, Value.slice A5 x.f3.length c5, Value.slice A6 x.f4.length c6] 28 (0, 0)))).alloc (Nat.le_refl _) (Obj.cells #[Value.int IntKind.i64 y.f0, Value.bool y.f1.f0, Value.slice B2 y.f1.f1.length d2, Value.int IntKind.i64 y.f1.f2, Value.string y.f2, Value.slice B5 y.f3.length d5, Value.slice B6 y.f4.length d6] 28 (0, 0))).block _ (blk_lt g0)).trans g0
 rw [show (w.alloc (Obj.cells #[Value.int IntKind.i64 x.f0, Value.bool x.f1.f0, Value.slice A2 x.f1.f1.length c2, Value.int IntKind.i64 x.f1.f2, Value.string x.f2, Value.slice A5 x.f3.length c5, Value.slice A6 x.f4.length c6] 28 (0, 0))).heap.size = w.heap.size + 1 by simp] at g1
 have G := Lib.hid (And.intro g0 g1)
 have HB0 := Lib.hid hB0
 have HLE : Hid (w.heap.size ≤ ((w.alloc (Obj.cells #[Value.int IntKind.i64 x.f0, Value.bool x.f1.f0, Value.slice A2 x.f1.f1.length c2, Value.int IntKind.i64 x.f1.f2, Value.string x.f2, Value.slice A5 x.f3.length c5, Value.slice A6 x.f4.length c6] 28 (0, 0))).alloc (Obj.cells #[Value.int IntKind.i64 y.f0, Value.bool y.f1.f0, Value.slice B2 y.f1.f1.length d2, Value.int IntKind.i64 y.f1.f2, Value.string y.f2, Value.slice B5 y.f3.length d5, Value.slice B6 y.f4.length d6] 28 (0, 0))).heap.size) := Lib.hid hB0.size
 clear g0 g1 hB0
 cases h0 : (x.f0 == y.f0) with
 | false =>
  have h0b : (x.f0 != y.f0) = true := by simp [bne, h0]
  have hn : x ≠ y := by intro h; rw [h] at h0; simp at h0
  rw [same_ne hn]
  clear hn
  go_enter Tryz.func18, Tryz.ntmps18
  go_wp2
  go_ret
  exact ⟨rfl, HB0.out⟩
 | true =>
  have h0b : (x.f0 != y.f0) = false := by simp [bne, h0]
  cases h1 : same x.f1 y.f1 with
  | false =>
   have hn : x ≠ y := by intro h; rw [h, same_refl] at h1; cases h1
   rw [same_ne hn]
   clear hn
   go_enter Tryz.func18, Tryz.ntmps18
   go_wp2_with (first | (go_at_call 64; (with_reducible refine (dsame_any x.f1 y.f1 _ _ _ _ _ ?ha ?hb).mono ?_); (case ha => exact Kd.C_below HX2.out HB0.out); (case hb => exact Kd.C_below HY2.out HB0.out); rw [h1]; rintro e w1 ⟨rfl, hB1⟩; obtain ⟨hcl0, hfz0⟩ := bcells G.out.1 hB1; obtain ⟨hcl1, hfz1⟩ := bcells G.out.2 hB1; have hB2 := HB0.out.trans (hB1.mono HLE.out)))
   go_ret
   exact ⟨rfl, hB2⟩
  | true =>
   cases h2 : (x.f2.toList == y.f2.toList) with
   | false =>
    have h2b : (x.f2.toList != y.f2.toList) = true := by simp only [bne, h2]; rfl
    have hn : x ≠ y := by intro h; rw [h] at h2; simp at h2
    rw [same_ne hn]
    clear hn
    go_enter Tryz.func18, Tryz.ntmps18
    go_wp2_with (first | (go_at_call 64; (with_reducible refine (dsame_any x.f1 y.f1 _ _ _ _ _ ?ha ?hb).mono ?_); (case ha => exact Kd.C_below HX2.out HB0.out); (case hb => exact Kd.C_below HY2.out HB0.out); rw [h1]; rintro e w1 ⟨rfl, hB1⟩; obtain ⟨hcl0, hfz0⟩ := bcells G.out.1 hB1; obtain ⟨hcl1, hfz1⟩ := bcells G.out.2 hB1; have hB2 := HB0.out.trans (hB1.mono HLE.out)))
    go_ret
    exact ⟨rfl, hB2⟩
   | true =>
    have h2b : (x.f2.toList != y.f2.toList) = false := by simp only [bne, h2]; rfl
    cases h3 : ((x.f3.length : Int) == (y.f3.length : Int)) with
    | false =>
     have h3b : ((x.f3.length : Int) != (y.f3.length : Int)) = true := by simp [bne, h3]
     have hn : x ≠ y := by intro h; rw [h] at h3; simp at h3
     rw [same_ne hn]
     clear hn
     go_enter Tryz.func18, Tryz.ntmps18
     go_wp2_with (first | (go_at_call 64; (with_reducible refine (dsame_any x.f1 y.f1 _ _ _ _ _ ?ha ?hb).mono ?_); (case ha => exact Kd.C_below HX2.out HB0.out); (case hb => exact Kd.C_below HY2.out HB0.out); rw [h1]; rintro e w1 ⟨rfl, hB1⟩; obtain ⟨hcl0, hfz0⟩ := bcells G.out.1 hB1; obtain ⟨hcl1, hfz1⟩ := bcells G.out.2 hB1; have hB2 := HB0.out.trans (hB1.mono HLE.out)))
     go_ret
     exact ⟨rfl, hB2⟩
    | true =>
     have h3b : ((x.f3.length : Int) != (y.f3.length : Int)) = false := by simp [bne, h3]
     cases h4 : ((x.f4.length : Int) == (y.f4.length : Int)) with
     | false =>
      have h4b : ((x.f4.length : Int) != (y.f4.length : Int)) = true := by simp [bne, h4]
      have hn : x ≠ y := by intro h; rw [h] at h4; simp at h4
      rw [same_ne hn]
      clear hn
      go_enter Tryz.func18, Tryz.ntmps18
      go_wp2_with (first | (go_at_call 64; (with_reducible refine (dsame_any x.f1 y.f1 _ _ _ _ _ ?ha ?hb).mono ?_); (case ha => exact Kd.C_below HX2.out HB0.out); (case hb => exact Kd.C_below HY2.out HB0.out); rw [h1]; rintro e w1 ⟨rfl, hB1⟩; obtain ⟨hcl0, hfz0⟩ := bcells G.out.1 hB1; obtain ⟨hcl1, hfz1⟩ := bcells G.out.2 hB1; have hB2 := HB0.out.trans (hB1.mono HLE.out)))
      go_ret
      exact ⟨rfl, hB2⟩
     | true =>
      have h4b : ((x.f4.length : Int) != (y.f4.length : Int)) = false := by simp [bne, h4]
      have hq3 : x.f3.length = y.f3.length := by have := eq_of_beq h3; omega
      have hq4 : x.f4.length = y.f4.length := by have := eq_of_beq h4; omega
      have HE : Hid (x.f0 = y.f0 ∧ x.f1 = y.f1 ∧ x.f2 = y.f2 ∧ x.f3.length = y.f3.length ∧ x.f4.length = y.f4.length) := Lib.hid ⟨eq_of_beq h0, same_iff.1 h1, toL_inj2.1 (eq_of_beq h2), hq3, hq4⟩
      clear hq3 hq4
      go_enter Tryz.func18, Tryz.ntmps18
      go_wp2_with (first | (go_at_call 64; (with_reducible refine (dsame_any x.f1 y.f1 _ _ _ _ _ ?ha ?hb).mono ?_); (case ha => exact Kd.C_below HX2.out HB0.out); (case hb => exact Kd.C_below HY2.out HB0.out); rw [h1]; rintro e w1 ⟨rfl, hB1⟩; obtain ⟨hcl0, hfz0⟩ := bcells G.out.1 hB1; obtain ⟨hcl1, hfz1⟩ := bcells G.out.2 hB1; have hB2 := HB0.out.trans (hB1.mono HLE.out)))
      have HB2 := Lib.hid hB2
      have HL2 : Hid (w.heap.size ≤ w1.heap.size) := Lib.hid hB2.size
      have G2 := Lib.hid (And.intro (blk_below2 G.out.1 hB1) (blk_below2 G.out.2 hB1))
      clear hB2 hB1 hcl0 hfz0 hcl1 hfz1
      clear h0 h2 h3 h4 h0b h2b h3b h4b h1
      go_loopw [5] (fun vi wr => ∃ k : Nat, k ≤ x.f4.length ∧ vi = .int .i64 k ∧ Hid (∀ i, i < k → x.f4.getD i ByteArray.empty = y.f4.getD i ByteArray.empty) ∧ Below w1.heap.size w1 wr) (fun vi _ => x.f4.length - (intOf vi).toNat)
      case atStart => exact ⟨0, Nat.zero_le _, rfl, Lib.hid (fun i h => absurd h (by omega)), Below.refl _ _⟩
      case round =>
       obtain ⟨k, hk, rfl, hu, hB⟩ := hrel
       have HB := Lib.hid hB
       have hBW := Lib.hid (HB2.out.trans (hB.mono HL2.out))
       obtain ⟨hcl0, hfz0⟩ := bcells G2.out.1 hB
       obtain ⟨hcl1, hfz1⟩ := bcells G2.out.2 hB
       clear hB
       by_cases hlt : k < x.f4.length
       · obtain ⟨ad, rfl, hx⟩ := Kd.at_string (Kd.C_below HX6.out hBW.out) (k : Int) (by omega) (by omega)
         obtain ⟨bd, rfl, hy⟩ := Kd.at_string (Kd.C_below HY6.out hBW.out) (k : Int) (by omega) (by have := HE.out; omega)
         rw [Int.toNat_natCast] at hx hy
         have e1 : rdOf ByteArray.empty x.f4 (k : Int) = x.f4.getD k ByteArray.empty := by unfold rdOf; rw [Int.toNat_natCast]
         have e2 : rdOf ByteArray.empty y.f4 (k : Int) = y.f4.getD k ByteArray.empty := by unfold rdOf; rw [Int.toNat_natCast]
         rw [e1] at hx
         rw [e2] at hy
         clear e1 e2
         obtain ⟨xa, ha⟩ : ∃ xa, xa = x.f4.getD k ByteArray.empty := ⟨_, rfl⟩
         obtain ⟨xb, hb⟩ : ∃ xb, xb = y.f4.getD k ByteArray.empty := ⟨_, rfl⟩
         rw [← ha] at hx
         rw [← hb] at hy
         have hw : wrap64 ((k : Int) + 1) = ((k + 1 : Nat) : Int) := by unfold wrap64; omega
         have hlt2 : (k : Int) < (y.f4.length : Int) := by have := HE.out; omega
         have hlt1 : (k : Int) < (x.f4.length : Int) := by omega
         cases hab : (xa.toList == xb.toList) with
         | false =>
          have habn : (xa.toList != xb.toList) = true := by simp only [bne, hab]; rfl
          have hr : Hid (same x y = false) := Lib.hid (same_ne (by intro h; rw [ha, hb, h] at hab; simp at hab))
          clear ha hb hu
          go_wp2
          go_quiet (fail)
          go_wp2
          go_ret
          exact ⟨by rw [hr.out]; rfl, pw_below_drewN hBW.out _⟩
         | true =>
          have habn : (xa.toList != xb.toList) = false := by simp only [bne, hab]; rfl
          have hu' : Hid (∀ i, i < k + 1 → x.f4.getD i ByteArray.empty = y.f4.getD i ByteArray.empty) := Lib.hid (fun i hi => by
           rcases Nat.lt_or_ge i k with h | h
           · exact hu.out i h
           · obtain rfl : i = k := by omega
             rw [← ha, ← hb]; exact toL_inj2.1 (eq_of_beq hab))
          clear ha hb hu
          go_wp2
          go_quiet (fail)
          go_wp2
          go_roundw
          case rel => exact ⟨k + 1, by omega, by go_num, hu', pw_below_drewN HB.out _⟩
          case measure => simp [intOf]; omega
       · obtain rfl : k = x.f4.length := by omega
         have HU4 : Hid (x.f4 = y.f4) := Lib.hid (ext_getD _ HE.out.2.2.2.2 hu.out)
         have HL3 : Hid (w1.heap.size ≤ wr.heap.size) := Lib.hid HB.out.size
         have G3 := Lib.hid (And.intro (blk_below2 G2.out.1 HB.out) (blk_below2 G2.out.2 HB.out))
         clear hu
         go_wp2
         clear hcl0 hfz0 hcl1 hfz1
         go_loopw [6] (fun vi wr2 => ∃ k : Nat, k ≤ x.f3.length ∧ vi = .int .i64 k ∧ Hid (∀ i, i < k → x.f3.getD i z28 = y.f3.getD i z28) ∧ Below w1.heap.size w1 wr2) (fun vi _ => x.f3.length - (intOf vi).toNat)
         case atStart => exact ⟨0, Nat.zero_le _, rfl, Lib.hid (fun i h => absurd h (by omega)), HB.out⟩
         case round =>
          clear hBW HB hlt hk HL3 G3
          obtain ⟨k, hk, rfl, hu, hB⟩ := hrel
          have HB := Lib.hid hB
          have hBW := Lib.hid (HB2.out.trans (hB.mono HL2.out))
          obtain ⟨hcl0, hfz0⟩ := bcells G2.out.1 hB
          obtain ⟨hcl1, hfz1⟩ := bcells G2.out.2 hB
          clear hB
          by_cases hlt : k < x.f3.length
          · have hlt2 : k < y.f3.length := by have := HE.out; omega
            obtain ⟨ad, a0, a1, a2, a3, a4, a5, a6, rfl, hKa, p0, p1, p2, p3, p4, p5, p6⟩ := at_V HX5.out hBW.out k hlt
            obtain ⟨bd, b0, b1, b2, b3, b4, b5, b6, rfl, hKb, q0, q1, q2, q3, q4, q5, q6⟩ := at_V HY5.out hBW.out k hlt2
            have HKA := Lib.hid hKa
            have HKB := Lib.hid hKb
            have hmem : rd_T28 x.f3 (k : Int) ∈ x.f3 := by unfold rd_T28; simp [hlt]
            have HC := Lib.hid (IH.out _ hmem)
            have hxk : x.f3.getD k z28 = rd_T28 x.f3 (k : Int) := by unfold rd_T28; rw [Int.toNat_natCast]
            have hyk : y.f3.getD k z28 = rd_T28 y.f3 (k : Int) := by unfold rd_T28; rw [Int.toNat_natCast]
            have hlt2' : (k : Int) < (y.f3.length : Int) := by omega
            have hlt1' : (k : Int) < (x.f3.length : Int) := by omega
            have hw : wrap64 ((k : Int) + 1) = ((k + 1 : Nat) : Int) := by unfold wrap64; omega
            clear hKa hKb hmem
            cases hab : same (rd_T28 x.f3 (k : Int)) (rd_T28 y.f3 (k : Int)) with
            | false =>
             have hr : Hid (same x y = false) := Lib.hid (same_ne (by intro h; rw [h, same_refl] at hab; cases hab))
             clear hu hxk hyk
             go_upto_region 11 with (fail)
             go_still_tail 10, (by kernel_rfl)
             change wpList _ _ _ _ _ (wr.drewN 1)
             have HBD : Hid (Below w.heap.size w (wr.drewN 1)) := Lib.hid (pw_below_drewN hBW.out _)
             have HBE : Hid (Below w1.heap.size w1 (wr.drewN 1)) := Lib.hid (pw_below_drewN HB.out _)
             have hszd := HBD.out.size
             have hszd1 := HBE.out.size
             generalize wr.drewN 1 = wd at HBD HBE hszd hszd1 ⊢
             have HCC := Lib.hid (HC.out [a0, a1, a2, a3, a4, a5, a6] _ [b0, b1, b2, b3, b4, b5, b6] wd (k28.K_below HBD.out HKA.out) (k28.K_below HBD.out HKB.out))
             go_wp2_with (first | (go_at_call 18; refine HCC.out.mono ?_; rw [hab]; rintro e w5 ⟨rfl, hB5⟩; have HB5 := Lib.hid (HBD.out.trans (hB5.mono hszd)); have HB6 := Lib.hid (HBE.out.trans (hB5.mono hszd1))))
             go_ret
             exact ⟨by rw [hr.out]; rfl, HB5.out⟩
            | true =>
             have hu' : Hid (∀ i, i < k + 1 → x.f3.getD i z28 = y.f3.getD i z28) := Lib.hid (fun i hi => by
              rcases Nat.lt_or_ge i k with h | h
              · exact hu.out i h
              · obtain rfl : i = k := by omega
                rw [hxk, hyk]; exact same_iff.1 hab)
             clear hu hxk hyk
             go_upto_region 11 with (fail)
             go_still_tail 10, (by kernel_rfl)
             change wpList _ _ _ _ _ (wr.drewN 1)
             have HBD : Hid (Below w.heap.size w (wr.drewN 1)) := Lib.hid (pw_below_drewN hBW.out _)
             have HBE : Hid (Below w1.heap.size w1 (wr.drewN 1)) := Lib.hid (pw_below_drewN HB.out _)
             have hszd := HBD.out.size
             have hszd1 := HBE.out.size
             generalize wr.drewN 1 = wd at HBD HBE hszd hszd1 ⊢
             have HCC := Lib.hid (HC.out [a0, a1, a2, a3, a4, a5, a6] _ [b0, b1, b2, b3, b4, b5, b6] wd (k28.K_below HBD.out HKA.out) (k28.K_below HBD.out HKB.out))
             go_wp2_with (first | (go_at_call 18; refine HCC.out.mono ?_; rw [hab]; rintro e w5 ⟨rfl, hB5⟩; have HB5 := Lib.hid (HBD.out.trans (hB5.mono hszd)); have HB6 := Lib.hid (HBE.out.trans (hB5.mono hszd1))))
             go_roundw
             case rel => exact ⟨k + 1, by omega, by go_num, hu', HB6.out⟩
             case measure => simp [intOf]; omega
          · obtain rfl : k = x.f3.length := by omega
            have hr : Hid (same x y = true) := Lib.hid (same_iff.2 (by
             obtain ⟨e0, e1, e2, e3, e4⟩ := HE.out
             have e5 := ext_getD _ e3 hu.out
             have e6 := HU4.out
             cases x; cases y; simp only [S28.mk.injEq]; exact ⟨e0, e1, e2, e5, e6⟩))
            clear hu
            go_wp2
            go_ret
            exact ⟨by rw [hr.out]; rfl, hBW.out⟩
theorem same_agg {n : Int} {l r : List V} : same (⟨n, ⟨false, [], 0⟩, ByteArray.empty, l, []⟩ : V) ⟨n, ⟨false, [], 0⟩, ByteArray.empty, r, []⟩ = same l r := by
 cases h : same l r with
 | true => rw [same_iff.1 h]; exact same_refl _
 | false => exact same_ne (by intro e; injection e with _ _ _ e4 _; rw [e4, same_refl] at h; cases h)
set_option maxHeartbeats 1000000 in
theorem SameAll_any (l r : List V) (A : Option Addr) (c : Nat) (B : Option Addr) (d : Nat) (w : World) (hl : l.length ≤ c) (hA : k28.C w A l.length l) (hr : r.length ≤ d) (hB : k28.C w B r.length r) :
 Calls Tryz.prog 35 #[.slice A l.length c, .slice B r.length d] w fun e w' => e = .returned (.bool (same l r)) ∧ Below w.heap.size w w' := by
 have HA := Lib.hid hA
 have HB := Lib.hid hB
 have hla := hA.2.1
 clear hA hB
 have hK : ∀ (W : World) (l : List V) (A : Option Addr) (c : Nat), l.length ≤ c → k28.C W A l.length l → k28.K W ⟨5, ⟨false, [], 0⟩, ByteArray.empty, l, []⟩ [.int .i64 5, .bool false, .slice none 0 0, .int .i64 0, .string ByteArray.empty, .slice A l.length c, .slice none 0 0] :=
  fun W l A c hl h => k28_mk W ⟨5, ⟨false, [], 0⟩, ByteArray.empty, l, []⟩ (Nat.zero_le 0) (Kd.C_nil _ _) hl h (Nat.zero_le 0) (Kd.C_nil _ _)
 have HC := Lib.hid (Same_any ⟨5, ⟨false, [], 0⟩, ByteArray.empty, l, []⟩ _ ⟨5, ⟨false, [], 0⟩, ByteArray.empty, r, []⟩ _ w (hK w l A c hl HA.out) (hK w r B d hr HB.out))
 clear hK
 go_enter Tryz.func35, Tryz.ntmps35
 go_wp2_with (first | (go_at_call 18; refine HC.out.mono ?_; rw [same_agg]; rintro e w1 ⟨rfl, hB1⟩))
 go_ret
 exact ⟨rfl, hB1⟩
theorem field3 (a0 : Int) (a1 : Bool) (A2 : Option Addr) (n2 c2 : Nat) (a3 : Int) (a4 : ByteArray) (A5 : Option Addr) (n5 c5 : Nat) (A6 : Option Addr) (n6 c6 : Nat) (W : World) :
 Sem.run Tryz.prog (Instr.field 28 (.agg #[.int .i64 a0, .bool a1, .slice A2 n2 c2, .int .i64 a3, .string a4, .slice A5 n5 c5, .slice A6 n6 c6]) 3) W = .ok (.slice A5 n5 c5) W := by kernel_rfl
def listV (l : List V) : V := ⟨0, ⟨false, [], 0⟩, ByteArray.empty, l, []⟩
theorem OkV.list {l : List V} (h : ∀ x ∈ l, OkV x) (hl : l.length ≤ 1073741824) : OkV (listV l) :=
 OkV.mk _ (by show (Lit.int .i64 0).wf = true; rfl) (fun n hn => absurd hn (by unfold listV; simp)) (by show (Lit.int .i64 0).wf = true; rfl) (by unfold listV; simp) (fun n hn => absurd hn (by unfold listV; simp)) (by unfold listV; simp) hl (by unfold listV; simp) h
set_option maxHeartbeats 1000000 in
theorem Clones_any (l : List V) (A : Option Addr) (c : Nat) (w : World) (hl : l.length ≤ c) (hA : k28.C w A l.length l) (hO : ∀ x ∈ l, OkV x) (hn : l.length ≤ 1073741824) :
 Calls Tryz.prog 78 #[.slice A l.length c] w fun e w' => ∃ v, e = .returned v ∧ k28.R 28 w' w.heap.size (fun _ => True) v l ∧ Below w.heap.size w w' := by
 have HC := Lib.hid (Clone_any (listV l) _ w (k28_mk w (listV l) (Nat.zero_le 0) (Kd.C_nil _ _) hl hA (Nat.zero_le 0) (Kd.C_nil _ _)) (OkV.list hO hn))
 clear hA hO
 go_enter Tryz.func78, Tryz.ntmps78
 go_wp2_with (first | (go_at_call 66; refine HC.out.mono ?_; rintro e w1 ⟨cs, rfl, hM, hB1⟩; obtain ⟨v2, v5, v6, rfl, r2, r5, r6⟩ := k28_openM hM; obtain ⟨E2, s2, rfl⟩ := Kd.R_slice r2; obtain ⟨E5, s5, rfl⟩ := Kd.R_slice r5; obtain ⟨E6, s6, rfl⟩ := Kd.R_slice r6; have hfd := field3 (listV l).f0 (listV l).f1.f0 E2 (listV l).f1.f1.length s2 (listV l).f1.f2 (listV l).f2 E5 (listV l).f3.length s5 E6 (listV l).f4.length s6))
 go_ret
 exact ⟨_, rfl, r5, hB1⟩
theorem orL_zero {l : List Int} (h : ∀ x ∈ l, x = 0) : orL l = 0 := by
 induction l with
 | nil => rfl
 | cons x l ih =>
  rw [orL, if_pos (h x List.mem_cons_self)]
  exact ih fun y hy => h y (List.mem_cons_of_mem _ hy)
def vchks (l : List V) : Int := orL (l.map vchk)
theorem vchks_app (l : List V) (k : Nat) (hk : k ≤ l.length) (h : ∀ i, i < k → vchk (rd_T28 l (i : Int)) = 0) : vchks l = vchks (l.drop k) := by
 unfold vchks
 conv => lhs; rw [← List.take_append_drop k l, List.map_append]
 refine (orL_app _ _).trans (if_pos (orL_zero fun x hx => ?_))
 obtain ⟨y, hy, rfl⟩ := List.mem_map.1 hx
 obtain ⟨i, hi, rfl⟩ := List.mem_iff_getElem.1 hy
 rw [List.length_take] at hi
 have := h i (by omega)
 rw [show rd_T28 l (i : Int) = (l.take k)[i] by unfold rd_T28; rw [List.getElem_take]; simp [show i < l.length by omega]] at this
 exact this
theorem vchks_at (l : List V) (k : Nat) (hk : k < l.length) (h : ∀ i, i < k → vchk (rd_T28 l (i : Int)) = 0) (hn : vchk (rd_T28 l (k : Int)) ≠ 0) : vchks l = vchk (rd_T28 l (k : Int)) := by
 rw [vchks_app l k (by omega) h]
 have : rd_T28 l (k : Int) = l[k] := by unfold rd_T28; simp [hk]
 rw [this] at hn ⊢
 unfold vchks
 rw [List.drop_eq_getElem_cons hk, List.map_cons, orL, if_neg hn]
theorem vchks_all (l : List V) (h : ∀ i, i < l.length → vchk (rd_T28 l (i : Int)) = 0) : vchks l = 0 := by
 rw [vchks_app l l.length (Nat.le_refl _) h, List.drop_length]
 rfl
set_option maxHeartbeats 1000000 in
theorem Checks_any (l : List V) (A : Option Addr) (c : Nat) (w : World) (hLD : LaidW w) (hA : k28.C w A l.length l) (hO : ∀ x ∈ l, OkV x) :
 Calls Tryz.prog 118 #[.slice A l.length c] w fun e w' => e = .returned (.int .i64 (vchks l)) ∧ Below w.heap.size w w' := by
 have HA := Lib.hid hA
 have HO := Lib.hid hO
 have HL := Lib.hid hLD
 have hlen := hA.2.1
 clear hA hO hLD
 go_enter Tryz.func118, Tryz.ntmps118
 go_wp2
 go_loopw [8] (fun vi wr => ∃ k : Nat, k ≤ l.length ∧ vi = .int .i64 k ∧ Hid (∀ i, i < k → vchk (rd_T28 l (i : Int)) = 0) ∧ Below w.heap.size w wr) (fun vi _ => l.length - (intOf vi).toNat)
 case atStart => exact ⟨0, Nat.zero_le _, rfl, Lib.hid (fun i h => absurd h (by omega)), Below.refl _ _⟩
 case round =>
  obtain ⟨k, hk, rfl, hu, hB⟩ := hrel
  have HB := Lib.hid hB
  have hsz := hB.size
  clear hB
  by_cases hlt : k < l.length
  · obtain ⟨ad, D2, d2, D5, d5, D6, d6, rfl, q0, q1, q2, q3, q4, q5, q6, m2, G2, m5, G5, m6, G6⟩ := at_T28 (Kd.C_below HA.out HB.out) (k : Int) (by omega) (by omega)
    rw [Int.toNat_natCast] at q0 q1 q2 q3 q4 q5 q6
    have hKa := k28_mk wr (rd_T28 l k) m2 G2 m5 G5 m6 G6
    clear m2 G2 m5 G5 m6 G6
    have hmem : rd_T28 l (k : Int) ∈ l := by unfold rd_T28; simp [hlt]
    have HC := Lib.hid (Check_any _ _ (wr.alloc (.cells #[.int .i64 (rd_T28 l k).f0, .bool (rd_T28 l k).f1.f0, .slice D2 (rd_T28 l k).f1.f1.length d2, .int .i64 (rd_T28 l k).f1.f2, .string (rd_T28 l k).f2, .slice D5 (rd_T28 l k).f3.length d5, .slice D6 (rd_T28 l k).f4.length d6] 28)) ((HL.out.below HB.out).below ((Below.refl _ _).alloc (Nat.le_refl _) _)) (k28.K_below ((Below.refl _ _).alloc (Nat.le_refl _) _) hKa) (HO.out _ hmem))
    have hw : wrap64 ((k : Int) + 1) = ((k + 1 : Nat) : Int) := by unfold wrap64; omega
    clear hKa hmem
    by_cases hz : vchk (rd_T28 l (k : Int)) = 0
    · have hu' : Hid (∀ i, i < k + 1 → vchk (rd_T28 l (i : Int)) = 0) := Lib.hid (fun i hi => by
       rcases Nat.lt_or_ge i k with h | h
       · exact hu.out i h
       · obtain rfl : i = k := by omega
         exact hz)
      clear hu
      go_wp2_with (first | (go_at_call 62; refine HC.out.mono ?_; rw [hz]; rintro e w2 ⟨rfl, hB2⟩; have HB2 := Lib.hid (below_box HB.out hsz hB2)))
      go_roundw
      case rel => exact ⟨k + 1, by omega, by go_num, hu', HB2.out⟩
      case measure => simp [intOf]; omega
    · have hr : Hid (vchks l = vchk (rd_T28 l (k : Int))) := Lib.hid (vchks_at l k hlt hu.out hz)
      have hzb : (vchk (rd_T28 l (k : Int)) != 0) = true := by simpa using hz
      clear hu
      generalize vchk (rd_T28 l (k : Int)) = v at *
      go_wp2_with (first | (go_at_call 62; refine HC.out.mono ?_; rintro e w2 ⟨rfl, hB2⟩; have HB2 := Lib.hid (below_box HB.out hsz hB2)))
      go_ret
      exact ⟨by rw [hr.out]; rfl, HB2.out⟩
  · obtain rfl : k = l.length := by omega
    have hr : Hid (vchks l = 0) := Lib.hid (vchks_all l hu.out)
    clear hu
    go_wp2
    go_ret
    exact ⟨by rw [hr.out]; rfl, HB.out⟩
structure OwnMid (w wc : World) (x : V) (A2 : Option Addr) (c2 : Nat) (A5 : Option Addr) (c5 : Nat) (A6 : Option Addr) (c6 : Nat) (B2 : Option Addr) (d2 : Nat) (B6 : Option Addr) (d6 : Nat) (B5 : Option Addr) (d5 : Nat) (k : Nat) : Prop where
 box : wc.heap[w.heap.size]? = some (.cells #[.int .i64 x.f0, .bool x.f1.f0, .slice A2 x.f1.f1.length c2, .int .i64 x.f1.f2, .string x.f2, .slice A5 x.f3.length c5, .slice A6 x.f4.length c6] 28 (0, 0))
 res : wc.heap[w.heap.size + 1]? = some (.cells #[.int .i64 0, .bool false, .slice none 0 0, .int .i64 0, .string ⟨#[]⟩, .slice none 0 0, .slice none 0 0] 28 (0, 0))
 out : wc.heap[w.heap.size + 2]? = some (.cells #[.int .i64 x.f0, .bool x.f1.f0, .slice B2 x.f1.f1.length d2, .int .i64 x.f1.f2, .string x.f2, .slice B5 k d5, .slice B6 x.f4.length d6] 28 (0, 0))
 r2 : (Kd.int .u32).R 131 wc (w.heap.size + 3) (fun _ => True) (.slice B2 x.f1.f1.length d2) x.f1.f1
 r5 : k28.R 28 wc (w.heap.size + 3) (fun _ => True) (.slice B5 k d5) (x.f3.take k)
 r6 : Kd.string.R 9 wc (w.heap.size + 3) (fun _ => True) (.slice B6 x.f4.length d6) x.f4
 below : Below w.heap.size w wc
theorem own_step {w wr Wd w5 w7 : World} {x : V} {A2 A5 A6 B2 B5 B6 : Option Addr} {c2 c5 c6 d2 d5 d6 k : Nat} {v1 : Value} (hM : OwnMid w wr x A2 c2 A5 c5 A6 c6 B2 d2 B6 d6 B5 d5 k) (hlt : k < x.f3.length)
 (hWd : Below wr.heap.size wr Wd) (hB5 : Below Wd.heap.size Wd w5) (hR : k28.R 28 w7 (w.heap.size + 3) (fun _ => True) v1 (x.f3.take k ++ [rd_T28 x.f3 (k : Int)])) (hB7 : Below (w.heap.size + 3) w5 w7) (hg : w5.grownBy w7 (Value.slice B5 k d5).ownBlock) :
 ∃ B d, v1 = .slice B (k + 1) d ∧ OwnMid w (w7.setCell ⟨w.heap.size + 2, 5, none⟩ v1) x A2 c2 A5 c5 A6 c6 B2 d2 B6 d6 B d (k + 1) := by
 obtain ⟨B, d, rfl⟩ := Kd.R_slice hR
 have hk : (x.f3.take k ++ [rd_T28 x.f3 (k : Int)]) = x.f3.take (k + 1) := by
  rw [List.take_succ_eq_append_getElem hlt]
  unfold rd_T28
  simp [hlt]
 have hl : (x.f3.take k ++ [rd_T28 x.f3 (k : Int)]).length = k + 1 := by simp; omega
 rw [hl] at hR ⊢
 rw [hk] at hR
 have h5 : Below wr.heap.size wr w5 := hWd.trans (hB5.mono hWd.size)
 have sz := blk_lt hM.out
 have h5s := h5.size
 have old : ∀ {g o}, g < w.heap.size + 3 → wr.heap[g]? = some o → w7.heap[g]? = some o := fun hg' h => (hB7.block _ hg').trans (blk_below3 h h5)
 have mv : ∀ {α : Type} {D : Kd α} {e : Nat} {v : Value} {xs : List α}, D.R e w7 (w.heap.size + 3) (fun _ => True) v xs → D.R e (w7.setCell ⟨w.heap.size + 2, 5, none⟩ (.slice B (k + 1) d)) (w.heap.size + 3) (fun _ => True) v xs := fun h =>
  Kd.R_mono (Kd.R_move (Kd.R_bound h) (fun j hj => Below.heap_setCell _ _ _ _ (by simp; omega))) (fun _ _ => trivial)
 have hty := Kd.R_typed (Kd.R_below hM.r5 h5)
 refine ⟨B, d, rfl, ?_, ?_, ?_, ?_, ?_, ?_, ?_⟩
 · exact blk_far (old (by omega) hM.box) (by simp) _
 · exact blk_far (old (by omega) hM.res) (by simp) _
 · have h1 := blk_set (old (by omega) hM.out) 5 (.slice B (k + 1) d)
   rw [h1]
   rfl
 · exact mv (Kd.R_over' (Kd.R_below hM.r2 h5) hty (by decide) hg)
 · exact mv hR
 · exact mv (Kd.R_over' (Kd.R_below hM.r6 h5) hty (by decide) hg)
 · exact ((below_go hM.below h5).trans (hB7.mono (by omega))).setCell (p := ⟨w.heap.size + 2, 5, none⟩) (by simp) _
theorem own_first {w W3 w1 w6 : World} {x : V} {A2 A5 A6 B2 B6 : Option Addr} {c2 c5 c6 d2 d6 : Nat} (hA : Below w.heap.size w W3) (hz : W3.heap.size = w.heap.size + 3)
 (hx : W3.heap[w.heap.size]? = some (.cells #[.int .i64 x.f0, .bool x.f1.f0, .slice A2 x.f1.f1.length c2, .int .i64 x.f1.f2, .string x.f2, .slice A5 x.f3.length c5, .slice A6 x.f4.length c6] 28 (0, 0))) (hy : W3.heap[w.heap.size + 1]? = some (.cells #[.int .i64 0, .bool false, .slice none 0 0, .int .i64 0, .string ⟨#[]⟩, .slice none 0 0, .slice none 0 0] 28 (0, 0))) (ho : W3.heap[w.heap.size + 2]? = some (.cells #[.int .i64 x.f0, .bool x.f1.f0, .slice none 0 0, .int .i64 x.f1.f2, .string x.f2, .slice none 0 0, .slice none 0 0] 28 (0, 0)))
 (hR2 : (Kd.int .u32).R 131 w1 (w.heap.size + 3) (fun _ => True) (.slice B2 x.f1.f1.length d2) x.f1.f1) (hB1 : Below (w.heap.size + 3) W3 w1)
 (hR6 : Kd.string.R 9 w6 (w.heap.size + 3) (fun _ => True) (.slice B6 x.f4.length d6) x.f4) (hB6 : Below (w.heap.size + 3) (w1.setCell ⟨w.heap.size + 2, 2, none⟩ (.slice B2 x.f1.f1.length d2)) w6)
 (hg6 : (w1.setCell ⟨w.heap.size + 2, 2, none⟩ (.slice B2 x.f1.f1.length d2)).grownBy w6 none) :
 OwnMid w (w6.setCell ⟨w.heap.size + 2, 6, none⟩ (.slice B6 x.f4.length d6)) x A2 c2 A5 c5 A6 c6 B2 d2 B6 d6 none 0 0 := by
 have hs1 := hB1.size
 have old : ∀ {g o}, g < w.heap.size + 3 → W3.heap[g]? = some o → w1.heap[g]? = some o := fun hg' h => (hB1.block _ hg').trans h
 have old6 : ∀ {g o}, g < w.heap.size + 3 → (w1.setCell ⟨w.heap.size + 2, 2, none⟩ (.slice B2 x.f1.f1.length d2)).heap[g]? = some o → w6.heap[g]? = some o := fun hg' h => (hB6.block _ hg').trans h
 have mv : ∀ {W : World} {α : Type} {D : Kd α} {e : Nat} {v : Value} {xs : List α} (i : Nat) (u : Value), D.R e W (w.heap.size + 3) (fun _ => True) v xs → D.R e (W.setCell ⟨w.heap.size + 2, i, none⟩ u) (w.heap.size + 3) (fun _ => True) v xs := fun i u h =>
  Kd.R_mono (Kd.R_move (Kd.R_bound h) (fun j hj => Below.heap_setCell _ _ _ _ (by simp; omega))) (fun _ _ => trivial)
 refine ⟨?_, ?_, ?_, ?_, ?_, ?_, ?_⟩
 · exact blk_far (old6 (by omega) (blk_far (old (by omega) hx) (by simp) _)) (by simp) _
 · exact blk_far (old6 (by omega) (blk_far (old (by omega) hy) (by simp) _)) (by simp) _
 · have h1 := blk_set (old6 (by omega) (blk_set (old (by omega) ho) 2 (.slice B2 x.f1.f1.length d2))) 6 (.slice B6 x.f4.length d6)
   rw [h1]
   rfl
 · exact mv _ _ (Kd.R_mono (Kd.R_grown (Kd.R_bound (mv 2 _ hR2)) hg6 (fun k _ => by simp)) (fun _ _ => trivial))
 · rw [List.take_zero]
   exact Kd.R_nil _ _ _ _ _
 · exact mv _ _ hR6
 · have hw : Below w.heap.size w (w1.setCell ⟨w.heap.size + 2, 2, none⟩ (.slice B2 x.f1.f1.length d2)) := (hA.trans (hB1.mono (by omega))).setCell (p := ⟨w.heap.size + 2, 2, none⟩) (by simp) _
   exact (hw.trans (hB6.mono (by omega))).setCell (p := ⟨w.heap.size + 2, 6, none⟩) (by simp) _
theorem own_end {w wr : World} {x : V} {A2 A5 A6 B2 B5 B6 : Option Addr} {c2 c5 c6 d2 d5 d6 : Nat} (hM : OwnMid w wr x A2 c2 A5 c5 A6 c6 B2 d2 B6 d6 B5 d5 x.f3.length) :
 k28.M (wr.setCells (w.heap.size + 1) 0 [.int .i64 x.f0, .bool x.f1.f0, .slice B2 x.f1.f1.length d2, .int .i64 x.f1.f2, .string x.f2, .slice B5 x.f3.length d5, .slice B6 x.f4.length d6]) w.heap.size (fun _ => True) x [.int .i64 x.f0, .bool x.f1.f0, .slice B2 x.f1.f1.length d2, .int .i64 x.f1.f2, .string x.f2, .slice B5 x.f3.length d5, .slice B6 x.f4.length d6] ∧ Below w.heap.size w (wr.setCells (w.heap.size + 1) 0 [.int .i64 x.f0, .bool x.f1.f0, .slice B2 x.f1.f1.length d2, .int .i64 x.f1.f2, .string x.f2, .slice B5 x.f3.length d5, .slice B6 x.f4.length d6]) ∧ (wr.setCells (w.heap.size + 1) 0 [.int .i64 x.f0, .bool x.f1.f0, .slice B2 x.f1.f1.length d2, .int .i64 x.f1.f2, .string x.f2, .slice B5 x.f3.length d5, .slice B6 x.f4.length d6]).heap[w.heap.size + 1]? = some (.cells #[.int .i64 x.f0, .bool x.f1.f0, .slice B2 x.f1.f1.length d2, .int .i64 x.f1.f2, .string x.f2, .slice B5 x.f3.length d5, .slice B6 x.f4.length d6] 28 (0, 0)) := by
 have far : ∀ j, j ≠ w.heap.size + 1 → (wr.setCells (w.heap.size + 1) 0 [.int .i64 x.f0, .bool x.f1.f0, .slice B2 x.f1.f1.length d2, .int .i64 x.f1.f2, .string x.f2, .slice B5 x.f3.length d5, .slice B6 x.f4.length d6]).heap[j]? = wr.heap[j]? := fun j hj => setCells_far _ _ j hj
 have mv : ∀ {α : Type} {d : Kd α} {e : Nat} {v : Value} {xs : List α}, d.R e wr (w.heap.size + 3) (fun _ => True) v xs → d.R e (wr.setCells (w.heap.size + 1) 0 [.int .i64 x.f0, .bool x.f1.f0, .slice B2 x.f1.f1.length d2, .int .i64 x.f1.f2, .string x.f2, .slice B5 x.f3.length d5, .slice B6 x.f4.length d6]) w.heap.size (fun _ => True) v xs := fun h =>
  Kd.R_lower (Kd.R_mono (Kd.R_move (Kd.R_bound h) (fun j hj => far j (by omega))) (fun _ _ => trivial)) (by omega)
 have hk := setCells_same (w.heap.size + 1) [.int .i64 x.f0, .bool x.f1.f0, .slice B2 x.f1.f1.length d2, .int .i64 x.f1.f2, .string x.f2, .slice B5 x.f3.length d5, .slice B6 x.f4.length d6] 0 wr
 have h5 := hM.r5
 rw [List.take_length] at h5
 refine ⟨k28_mkM _ _ _ x (mv hM.r2) (mv h5) (mv hM.r6), ?_, ?_⟩
 · exact hM.below.trans ⟨hk.1, hk.2.1, hk.2.2.1, Nat.le_of_eq hk.2.2.2.symm, fun j hj => far j (by omega)⟩
 · obtain ⟨cur, h1, h2, h3⟩ := setCells_row [.int .i64 x.f0, .bool x.f1.f0, .slice B2 x.f1.f1.length d2, .int .i64 x.f1.f2, .string x.f2, .slice B5 x.f3.length d5, .slice B6 x.f4.length d6] 0 wr _ hM.res (by simp)
   rw [h1]
   have : cur = #[.int .i64 x.f0, .bool x.f1.f0, .slice B2 x.f1.f1.length d2, .int .i64 x.f1.f2, .string x.f2, .slice B5 x.f3.length d5, .slice B6 x.f4.length d6] := by rw [← Array.toList_inj, h3]; simp
   rw [this]
theorem M_for {α β : Type} {d : Kd α} {d' : Kd β} {e base : Nat} {ok' : Nat → Prop} {W w5 : World} {v : Value} {xs : List β} {x : α} {cs : List Value} (hu : d'.R e W base ok' v xs) (h : d.M w5 W.heap.size (fun _ => True) x cs) (hb : base ≤ W.heap.size) : d.M w5 base (fun j => True ∧ some j ≠ v.ownBlock) x cs := by
 obtain ⟨inner, ho⟩ := Kd.R_own hu
 exact d.M_lower hb (Kd.M_new h ho)
set_option maxHeartbeats 4000000 in
theorem Own_any : ∀ (x : V) (cs : List Value) (w : World), k28.K w x cs → OkV x →
 Calls Tryz.prog 52 #[.agg cs.toArray] w fun e w' => ∃ cs', e = .returned (.agg cs'.toArray) ∧ k28.M w' w.heap.size (fun _ => True) x cs' ∧ Below w.heap.size w w' := by
 refine V.ind fun x ih => ?_
 intro cs w hK hO
 obtain ⟨A2, c2, A5, c5, A6, c6, rfl, l2, g2, l5, g5, l6, g6⟩ := k28_open hK
 have HO := Lib.hid hO
 have n1 := hO.len1
 have n3 := hO.len3
 have n4 := hO.len4
 have IH := Lib.hid ih
 obtain ⟨W3, hW3⟩ : ∃ W3, W3 = ((w.alloc (.cells #[.int .i64 x.f0, .bool x.f1.f0, .slice A2 x.f1.f1.length c2, .int .i64 x.f1.f2, .string x.f2, .slice A5 x.f3.length c5, .slice A6 x.f4.length c6] 28)).alloc (.cells #[.int .i64 0, .bool false, .slice none 0 0, .int .i64 0, .string ⟨#[]⟩, .slice none 0 0, .slice none 0 0] 28)).alloc (.cells #[.int .i64 x.f0, .bool x.f1.f0, .slice none 0 0, .int .i64 x.f1.f2, .string x.f2, .slice none 0 0, .slice none 0 0] 28) := ⟨_, rfl⟩
 have hz : W3.heap.size = w.heap.size + 3 := by rw [hW3]; simp
 have hA : Below w.heap.size w W3 := by rw [hW3]; exact (((Below.refl _ _).alloc (Nat.le_refl _) _).alloc (by simp) _).alloc (by simp; omega) _
 have hx : W3.heap[w.heap.size]? = some (.cells #[.int .i64 x.f0, .bool x.f1.f0, .slice A2 x.f1.f1.length c2, .int .i64 x.f1.f2, .string x.f2, .slice A5 x.f3.length c5, .slice A6 x.f4.length c6] 28 (0, 0)) := by rw [hW3]; exact blk_alloc (blk_alloc (blk_new _ _) _) _
 have hy : W3.heap[w.heap.size + 1]? = some (.cells #[.int .i64 0, .bool false, .slice none 0 0, .int .i64 0, .string ⟨#[]⟩, .slice none 0 0, .slice none 0 0] 28 (0, 0)) := by rw [hW3]; have := blk_new (w.alloc (.cells #[.int .i64 x.f0, .bool x.f1.f0, .slice A2 x.f1.f1.length c2, .int .i64 x.f1.f2, .string x.f2, .slice A5 x.f3.length c5, .slice A6 x.f4.length c6] 28)) (.cells #[.int .i64 0, .bool false, .slice none 0 0, .int .i64 0, .string ⟨#[]⟩, .slice none 0 0, .slice none 0 0] 28); rw [World.size_alloc] at this; exact blk_alloc this _
 have ho : W3.heap[w.heap.size + 2]? = some (.cells #[.int .i64 x.f0, .bool x.f1.f0, .slice none 0 0, .int .i64 x.f1.f2, .string x.f2, .slice none 0 0, .slice none 0 0] 28 (0, 0)) := by rw [hW3]; have := blk_new ((w.alloc (.cells #[.int .i64 x.f0, .bool x.f1.f0, .slice A2 x.f1.f1.length c2, .int .i64 x.f1.f2, .string x.f2, .slice A5 x.f3.length c5, .slice A6 x.f4.length c6] 28)).alloc (.cells #[.int .i64 0, .bool false, .slice none 0 0, .int .i64 0, .string ⟨#[]⟩, .slice none 0 0, .slice none 0 0] 28)) (.cells #[.int .i64 x.f0, .bool x.f1.f0, .slice none 0 0, .int .i64 x.f1.f2, .string x.f2, .slice none 0 0, .slice none 0 0] 28); rw [World.size_alloc, World.size_alloc] at this; exact this
 have HA := Lib.hid hA
 have HX := Lib.hid hx
 have HY := Lib.hid hy
 have HE := Lib.hid ho
 have HZ := Lib.hid hz
 have HC2 := Lib.hid (Kd.C_below g2 hA)
 have HX5 := Lib.hid g5
 have HX6 := Lib.hid g6
 have HW3 := Lib.hid hW3
 clear ih hK hO g2 g5 g6 hA hx hy ho hz hW3
 rw [HW3.out] at HA HX HY HE HZ HC2
 go_enter Tryz.func52, Tryz.ntmps52
 go_wp2_with (first
  | (at_builtin; refine Kd.R_append_row (Value.int .u32) (0 : Int) (w.heap.size + 3) rfl (.tmp 12) (.tmp 15) 22 131 (.int .u32 0) 4 rfl Tryz.underlying22 infoU_ rfl (by decide) _ [] _ _ _ _ (fun _ => True) rfl rfl (fun _ _ => trivial) (Kd.R_nil _ _ _ _ _) HC2.out (Below.refl _ _) (by simp) (by simp; omega) ?_; intro v1 w1 hR1 hB1 hg1 hat1; obtain ⟨B2, d2, rfl⟩ := Kd.R_slice hR1; rw [List.nil_append] at hR1 ⊢; obtain ⟨hc0, hf0⟩ := bcells HX.out (hB1.mono (by rw [HZ.out]; omega)); obtain ⟨hc2, hf2⟩ := bcells HE.out (hB1.mono (by rw [HZ.out]; omega)))
  | (at_builtin; have hs1 := hB1.size; rw [HZ.out] at hs1; have hW4 : Below w.heap.size w (w1.setCell ⟨w.heap.size + 1 + 1, 2, none⟩ (.slice B2 x.f1.f1.length d2)) := (HA.out.trans (hB1.mono (by omega))).setCell (p := ⟨w.heap.size + 1 + 1, 2, none⟩) (by show w.heap.size ≤ w.heap.size + 1 + 1; omega) _; have ho4 := blk_set (blk_below2 HE.out (hB1.mono (by rw [HZ.out]; exact Nat.le_refl _))) 2 (.slice B2 x.f1.f1.length d2); refine Kd.R_append_row (Value.string) (⟨#[]⟩ : ByteArray) (w.heap.size + 3) rfl (.tmp 20) (.tmp 22) 26 9 (.string ⟨#[]⟩) 16 rfl Tryz.underlying26 infoS_ rfl (by decide) _ [] _ _ _ _ (fun _ => True) rfl rfl (fun _ _ => trivial) (Kd.R_nil _ _ _ _ _) (Kd.C_below HX6.out hW4) (Below.refl _ _) (by rw [World.size_setCell]; exact hs1) (by simp; omega) ?_; intro v6 w6 hR6 hB6 hg6 hat6; obtain ⟨B6, d6, rfl⟩ := Kd.R_slice hR6; rw [List.nil_append] at hR6 ⊢; have ho6 := (hB6.block _ (by omega)).trans ho4; obtain ⟨hc6, hf6⟩ := bcells ho6 (Below.refl _ _); have hm := own_first HA.out HZ.out HX.out HY.out HE.out hR1 hB1 hR6 hB6 hg6))
 have HM := Lib.hid hm
 clear hR1 hB1 hg1 hc0 hf0 hc2 hf2 hR6 hB6 hg6 hc6 hf6 hat1 hat6 hm hW4 ho4 ho6 hs1 HC2
 go_loopw [4] (fun vi wr => ∃ (k : Nat) (B5 : Option Addr) (d5 : Nat), k ≤ x.f3.length ∧ vi = .int .i64 k ∧ Hid (OwnMid w wr x A2 c2 A5 c5 A6 c6 B2 d2 B6 d6 B5 d5 k)) (fun vi _ => x.f3.length - (intOf vi).toNat)
 case atStart => exact ⟨0, none, 0, Nat.zero_le _, rfl, HM⟩
 case round =>
  clear HM
  obtain ⟨k, B5, d5, hk, rfl, hM⟩ := hrel
  have hbx := blk_cell hM.out.box
  have hbf := blk_frozen hM.out.box
  have hox := blk_cell hM.out.out
  have hof := blk_frozen hM.out.out
  by_cases hlt : k < x.f3.length
  · obtain ⟨ad, a0, a1, a2, a3, a4, a5, a6, rfl, hKa, p0, p1, p2, p3, p4, p5, p6⟩ := at_V HX5.out hM.out.below k hlt
    have hmem : rd_T28 x.f3 (k : Int) ∈ x.f3 := by unfold rd_T28; simp [hlt]
    have HKA := Lib.hid hKa
    have HC := Lib.hid (IH.out _ hmem)
    have HOk := Lib.hid (HO.out.kids _ hmem)
    have hw : wrap64 ((k : Int) + 1) = ((k + 1 : Nat) : Int) := by unfold wrap64; omega
    have hlt1 : (k : Int) < (x.f3.length : Int) := by omega
    clear hKa hmem
    go_upto_region 8 with (fail)
    have HWD : Hid (Below wr.heap.size wr wr.drew) := Lib.hid (below_drew (Below.refl _ _))
    have HOD := Lib.hid (blk_below2 hM.out.out HWD.out)
    have hszd := blk_lt HOD.out
    have HRD := Lib.hid (Kd.R_below hM.out.r5 HWD.out)
    go_region_law (first
     | (refine Kd.R_append_step k28 (w0 := w5) (w.heap.size + 3) (by simp [Region.wanted]) (.tmp 33) (.tmp 40) 25 28 (.agg #[.int .i64 0, .bool false, .slice none 0 0, .int .i64 0, .string ⟨#[]⟩, .slice none 0 0, .slice none 0 0]) 112 rfl Tryz.underlying25 infoV_ rfl (by decide) (by omega) (.slice B5 k d5) (x.f3.take k) (rd_T28 x.f3 (k : Int)) [.int .i64 (rd_T28 x.f3 (k : Int)).f0, .bool (rd_T28 x.f3 (k : Int)).f1.f0, .slice E2 (rd_T28 x.f3 (k : Int)).f1.f1.length s2, .int .i64 (rd_T28 x.f3 (k : Int)).f1.f2, .string (rd_T28 x.f3 (k : Int)).f2, .slice E5 (rd_T28 x.f3 (k : Int)).f3.length s5, .slice E6 (rd_T28 x.f3 (k : Int)).f4.length s6] (fun _ => True) (fun j => True ∧ some j ≠ (Value.slice B5 k d5).ownBlock) rfl rfl hMF (fun _ hk => hk) (fun _ _ => trivial) (Kd.R_below HRD.out hB5) (Below.refl _ _) hsz5 (by rw [List.length_take]; omega) ?_; intro v1 w7 hR7 hB7 hg7 hat7; obtain ⟨B7, d7, rfl, hm7⟩ := own_step hM.out hlt HWD.out hB5 hR7 hB7 hg7; obtain ⟨ho7, hfo7⟩ := bcells ((hB7.block _ (by omega)).trans (blk_below2 HOD.out hB5)) (Below.refl _ _))
     | (go_simp; go_at_call 52; refine (HC.out [a0, a1, a2, a3, a4, a5, a6] _ (k28.K_below (below_drew hM.out.below) HKA.out) HOk.out).mono ?_; rintro e w5 ⟨cs5, rfl, hM5, hB5⟩; have hsz5 : w.heap.size + 3 ≤ w5.heap.size := by { have := hB5.size; omega }; have hMF := M_for HRD.out hM5 (by omega); obtain ⟨v2, v5, v6, rfl, r2, r5, r6⟩ := k28_openM hM5; obtain ⟨E2, s2, rfl⟩ := Kd.R_slice r2; obtain ⟨E5, s5, rfl⟩ := Kd.R_slice r5; obtain ⟨E6, s6, rfl⟩ := Kd.R_slice r6; obtain ⟨ho5, hfo5⟩ := bcells HOD.out hB5; have hoa := fun (o : Obj) => (bcells (blk_alloc (blk_below2 HOD.out hB5) o) (Below.refl _ _)).1))
    all_goals
     replace hm7 : OwnMid w (w7.setCell ⟨w.heap.size + 1 + 1, 5, none⟩ (.slice B7 (k + 1) d7)) x A2 c2 (some ad) c5 A6 c6 B2 d2 B6 d6 B7 d7 (k + 1) := hm7
     generalize w7.setCell ⟨w.heap.size + 1 + 1, 5, none⟩ (.slice B7 (k + 1) d7) = W8 at hm7 ⊢
     have HM8 := Lib.hid hm7
     clear hm7 ho7 hfo7 hoa ho5 hfo5 hMF hM5 hB5 r2 r5 r6 hR7 hB7 hg7 hat7 HRD HOD HWD hszd hsz5 p0 p1 p2 p3 p4 p5 p6 hbx hbf hox hof hM HKA HC HOk IH HO HX5 HX6 l2 l5 l6
     rename_i qa ka aa qb kb ab
     refine ab _ _ ?_
     go_wp2_with fail
     exact ⟨⟨k + 1, B7, d7, hlt, rfl, HM8⟩, by show x.f3.length - (k + 1) < x.f3.length - k; clear hw; omega⟩
  · obtain rfl : k = x.f3.length := by omega
    have hrx := blk_cell hM.out.res
    have hrf := blk_frozen hM.out.res
    have hfin := own_end hM.out
    clear IH HO HX5 HX6 l2 l5 l6
    go_wp2
    rw [setCells7] at hfin
    obtain ⟨W7, hW7⟩ : ∃ W7, W7 = (((((((wr.setCell ⟨w.heap.size + 1, 0, none⟩ (.int .i64 x.f0)).setCell ⟨w.heap.size + 1, 1, none⟩ (.bool x.f1.f0)).setCell ⟨w.heap.size + 1, 2, none⟩ (.slice B2 x.f1.f1.length d2)).setCell ⟨w.heap.size + 1, 3, none⟩ (.int .i64 x.f1.f2)).setCell ⟨w.heap.size + 1, 4, none⟩ (.string x.f2)).setCell ⟨w.heap.size + 1, 5, none⟩ (.slice B5 x.f3.length d5)).setCell ⟨w.heap.size + 1, 6, none⟩ (.slice B6 x.f4.length d6)) := ⟨_, rfl⟩
    rw [← hW7]
    have hf2 : k28.M W7 w.heap.size (fun _ => True) x [.int .i64 x.f0, .bool x.f1.f0, .slice B2 x.f1.f1.length d2, .int .i64 x.f1.f2, .string x.f2, .slice B5 x.f3.length d5, .slice B6 x.f4.length d6] ∧ Below w.heap.size w W7 ∧ W7.heap[w.heap.size + 1]? = some (.cells #[.int .i64 x.f0, .bool x.f1.f0, .slice B2 x.f1.f1.length d2, .int .i64 x.f1.f2, .string x.f2, .slice B5 x.f3.length d5, .slice B6 x.f4.length d6] 28 (0, 0)) := by rw [hW7]; exact hfin
    clear hfin hW7 hbx hbf hrx hrf hM hox hof
    obtain ⟨hm, hbw, hre⟩ := hf2
    have hrc := blk_cell hre
    refine bodyPost_ret (v := .agg #[.int .i64 x.f0, .bool x.f1.f0, .slice B2 x.f1.f1.length d2, .int .i64 x.f1.f2, .string x.f2, .slice B5 x.f3.length d5, .slice B6 x.f4.length d6]) ?_ rfl ⟨_, rfl, hm, hbw⟩
    simp [results, Tryz.f52, go_sem, hrc]
set_option maxHeartbeats 2000000 in
theorem Copies_any (l : List V) (A : Option Addr) (c : Nat) (w : World) (hA : k28.C w A l.length l) (hO : ∀ x ∈ l, OkV x) (hn : l.length ≤ 1073741824) :
 Calls Tryz.prog 21 #[.slice A l.length c] w fun e w' => ∃ v, e = .returned v ∧ k28.R 28 w' w.heap.size (fun _ => True) v l ∧ Below w.heap.size w w' := by
 have HA := Lib.hid hA
 have HO := Lib.hid hO
 clear hA hO
 go_enter Tryz.func21, Tryz.ntmps21
 go_wp2
 go_loopw [3, 4] (fun vo vi wr => ∃ k : Nat, k ≤ l.length ∧ vi = .int .i64 k ∧ Hid (k28.R 28 wr w.heap.size (fun _ => True) vo (l.take k)) ∧ Below w.heap.size w wr) (fun _ vi _ => l.length - (intOf vi).toNat)
 case atStart => exact ⟨0, Nat.zero_le _, rfl, Lib.hid (by rw [List.take_zero]; exact Kd.R_nil _ _ _ _ _), Below.refl _ _⟩
 case round =>
  obtain ⟨k, hk, rfl, HR, hB⟩ := hrel
  have HB := Lib.hid hB
  have hsz := hB.size
  clear hB
  by_cases hlt : k < l.length
  · obtain ⟨ad, a0, a1, a2, a3, a4, a5, a6, rfl, hKa, p0, p1, p2, p3, p4, p5, p6⟩ := at_V HA.out HB.out k hlt
    have hmem : rd_T28 l (k : Int) ∈ l := by unfold rd_T28; simp [hlt]
    have HC := Lib.hid (Own_any _ [a0, a1, a2, a3, a4, a5, a6] wr (k28.K_below HB.out hKa) (HO.out _ hmem))
    have hw : wrap64 ((k : Int) + 1) = ((k + 1 : Nat) : Int) := by unfold wrap64; omega
    have hk1 : (l.take k ++ [rd_T28 l (k : Int)]) = l.take (k + 1) := by
     rw [List.take_succ_eq_append_getElem hlt]
     unfold rd_T28
     simp [hlt]
    have HK1 := Lib.hid hk1
    clear hKa hmem hk1
    go_wp2_with (first
     | (go_at_call 52; refine HC.out.mono ?_; rintro e w5 ⟨cs5, rfl, hM5, hB5⟩; have hMF := M_for HR.out hM5 hsz; have hR5 := Kd.R_below HR.out hB5; have hsz5 : w.heap.size ≤ w5.heap.size := Nat.le_trans hsz hB5.size; obtain ⟨v2, v5, v6, rfl, r2, r5, r6⟩ := k28_openM hM5; obtain ⟨E2, s2, rfl⟩ := Kd.R_slice r2; obtain ⟨E5, s5, rfl⟩ := Kd.R_slice r5; obtain ⟨E6, s6, rfl⟩ := Kd.R_slice r6)
     | (at_builtin; refine Kd.R_append k28 (w0 := w5) w.heap.size rfl (.tmp 11) (.tmp 17) 25 28 (.agg #[.int .i64 0, .bool false, .slice none 0 0, .int .i64 0, .string ⟨#[]⟩, .slice none 0 0, .slice none 0 0]) 112 rfl Tryz.underlying25 infoV_ rfl (by decide) (by omega) _ _ _ _ (fun _ => True) _ rfl rfl hMF (fun _ hk => hk) (fun _ _ => trivial) hR5 (Below.refl _ _) hsz5 (by rw [List.length_take]; omega) ?_; intro v1 w7 hR7 hB7 hg7 hat7; rw [HK1.out] at hR7; have HR7 := Lib.hid hR7; have HB8 := Lib.hid (HB.out.trans ((hB5.mono hsz).trans hB7)); clear hR7 hB7 hg7 hat7 hMF hM5 hB5 r2 r5 r6 hR5 hsz5))
    go_roundw
    case rel => exact ⟨k + 1, hlt, by go_num, HR7, HB8.out⟩
    case measure => simp [intOf]; omega
  · obtain rfl : k = l.length := by omega
    have hr := HR.out
    rw [List.take_length] at hr
    clear HR
    go_wp2
    go_ret
    exact ⟨_, rfl, hr, HB.out⟩
def GoodS (S : Nat → Nat → Nat → Prop) (t : Nat) (v : Value) : Prop := ∃ A m c, v = .slice A m c ∧ m ≤ 9223372036854775807 ∧ (0 < m → ∃ g n, A = some ⟨g, 0, none⟩ ∧ S g t n ∧ m ≤ n)
def GoodV (S : Nat → Nat → Nat → Prop) (cs : List Value) : Prop := ∃ a0 a1 v2 a3 a4 v5 v6, cs = [.int .i64 a0, .bool a1, v2, .int .i64 a3, .string a4, v5, v6] ∧ GoodS S 131 v2 ∧ GoodS S 28 v5 ∧ GoodS S 9 v6
structure Good (S : Nat → Nat → Nat → Prop) (w : World) : Prop where
 blk : ∀ b t n, S b t n → (∃ cs, w.heap[b]? = some (.cells cs t (0, 0))) ∧ (t = 131 ∨ t = 28 ∨ t = 9)
 num : ∀ b n, S b 131 n → ∀ j, j < n → ∃ x, w.cell? ⟨b, j, none⟩ = some (.int .u32 x)
 str : ∀ b n, S b 9 n → ∀ j, j < n → ∃ s, w.cell? ⟨b, j, none⟩ = some (.string s)
 val : ∀ b n, S b 28 n → ∀ j, j < n → ∃ cs, GoodV S cs ∧ ∀ i u, cs[i]? = some u → w.cell? ⟨b, j * 7 + i, none⟩ = some u
structure Only (S : Nat → Nat → Nat → Prop) (w w' : World) : Prop where
 os : w'.os = w.os
 tape : w'.tape = w.tape
 output : w'.output = w.output
 size : w.heap.size ≤ w'.heap.size
 block : ∀ b, b < w.heap.size → (∀ t n, ¬ S b t n) → w'.heap[b]? = w.heap[b]?
theorem Only.refl (S : Nat → Nat → Nat → Prop) (w : World) : Only S w w := ⟨rfl, rfl, rfl, Nat.le_refl _, fun _ _ _ => rfl⟩
theorem Only.trans {S : Nat → Nat → Nat → Prop} {a b c : World} (h : Only S a b) (k : Only S b c) : Only S a c :=
 ⟨k.os.trans h.os, k.tape.trans h.tape, k.output.trans h.output, Nat.le_trans h.size k.size, fun g hg hn => (k.block g (by have := h.size; omega) hn).trans (h.block g hg hn)⟩
theorem Only.alloc {S : Nat → Nat → Nat → Prop} {w w' : World} (h : Only S w w') (o : Obj) : Only S w (w'.alloc o) := by
 have hb := (Below.refl w'.heap.size w').alloc (Nat.le_refl _) o
 exact h.trans ⟨hb.os, hb.tape, hb.output, hb.size, fun g hg _ => hb.block g hg⟩
theorem Only.drewN {S : Nat → Nat → Nat → Prop} {w w' : World} (h : Only S w w') (m : Nat) : Only S w (w'.drewN m) := by
 have hb := pw_below_drewN (Below.refl w'.heap.size w') m
 exact h.trans ⟨hb.os, hb.tape, hb.output, hb.size, fun g hg _ => hb.block g hg⟩
theorem Good.below {S : Nat → Nat → Nat → Prop} {w w' : World} (h : Good S w) (hb : Below w.heap.size w w') : Good S w' := by
 have lt : ∀ {b t n}, S b t n → b < w.heap.size := fun hs => by
  obtain ⟨⟨cs, hc⟩, _⟩ := h.blk _ _ _ hs
  exact blk_lt hc
 refine ⟨fun b t n hs => ?_, fun b n hs j hj => ?_, fun b n hs j hj => ?_, fun b n hs j hj => ?_⟩
 · obtain ⟨⟨cs, hc⟩, ht⟩ := h.blk _ _ _ hs
   exact ⟨⟨cs, (hb.block _ (lt hs)).trans hc⟩, ht⟩
 · obtain ⟨x, hx⟩ := h.num b n hs j hj
   exact ⟨x, pw_cell_below hb hx⟩
 · obtain ⟨x, hx⟩ := h.str b n hs j hj
   exact ⟨x, pw_cell_below hb hx⟩
 · obtain ⟨cs, hg, hx⟩ := h.val b n hs j hj
   exact ⟨cs, hg, fun i u hu => pw_cell_below hb (hx i u hu)⟩
theorem Good.type {S : Nat → Nat → Nat → Prop} {w : World} (h : Good S w) {b t n t' n' : Nat} (h1 : S b t n) (h2 : S b t' n') : t = t' := by
 obtain ⟨⟨cs, hc⟩, _⟩ := h.blk _ _ _ h1
 obtain ⟨⟨cs', hc'⟩, _⟩ := h.blk _ _ _ h2
 have := hc.symm.trans hc'
 injection this with this
 injection this
theorem Good.lt {S : Nat → Nat → Nat → Prop} {w : World} (h : Good S w) {b t n : Nat} (h1 : S b t n) : b < w.heap.size := by
 obtain ⟨⟨cs, hc⟩, _⟩ := h.blk _ _ _ h1
 exact blk_lt hc
theorem blk_setCell {w : World} {b t : Nat} {cs : Array Value} (h : w.heap[b]? = some (.cells cs t (0, 0))) (g j : Nat) (x : Value) : ∃ cs', (w.setCell ⟨g, j, none⟩ x).heap[b]? = some (.cells cs' t (0, 0)) := by
 by_cases hbg : b = g
 · subst hbg; exact ⟨_, blk_set h j x⟩
 · exact ⟨cs, blk_far h hbg x⟩
theorem cell_set {w : World} {q p : Addr} {u x : Value} (h : w.cell? q = some u) : (q = p ∧ (w.setCell p x).cell? q = some x) ∨ (q ≠ p ∧ (w.setCell p x).cell? q = some u) := by
 by_cases hq : q = p
 · subst hq; exact .inl ⟨rfl, by first | exact World.cell?_setCell_same _ _ _ h | exact World.cell?_setCell_same _ h | exact World.cell?_setCell_same _ _ h⟩
 · exact .inr ⟨hq, by first | exact (World.cell?_setCell_other _ _ _ _ (Ne.symm hq)).trans h | exact (World.cell?_setCell_other _ (Ne.symm hq)).trans h | exact (World.cell?_setCell_other _ _ _ (Ne.symm hq)).trans h | exact (World.cell?_setCell_other _ _ (Ne.symm hq)).trans h⟩
theorem Good.setNum {S : Nat → Nat → Nat → Prop} {w : World} (h : Good S w) {g n : Nat} (hs : S g 131 n) (j : Nat) (z : Int) : Good S (w.setCell ⟨g, j, none⟩ (.int .u32 z)) := by
 refine ⟨fun b t m hb => ?_, fun b m hb i hi => ?_, fun b m hb i hi => ?_, fun b m hb i hi => ?_⟩
 · obtain ⟨⟨cs, hc⟩, ht⟩ := h.blk _ _ _ hb
   exact ⟨blk_setCell hc _ _ _, ht⟩
 · obtain ⟨x, hx⟩ := h.num b m hb i hi
   rcases cell_set (p := ⟨g, j, none⟩) (x := .int .u32 z) hx with ⟨_, h1⟩ | ⟨_, h1⟩
   · exact ⟨z, h1⟩
   · exact ⟨x, h1⟩
 · obtain ⟨x, hx⟩ := h.str b m hb i hi
   rcases cell_set (p := ⟨g, j, none⟩) (x := .int .u32 z) hx with ⟨e, _⟩ | ⟨_, h1⟩
   · injection e with e1 _ _
     subst e1
     exact absurd (h.type hs hb) (by decide)
   · exact ⟨x, h1⟩
 · obtain ⟨cs, hg, hx⟩ := h.val b m hb i hi
   refine ⟨cs, hg, fun k u hu => ?_⟩
   rcases cell_set (p := ⟨g, j, none⟩) (x := .int .u32 z) (hx k u hu) with ⟨e, _⟩ | ⟨_, h1⟩
   · injection e with e1 _ _
     subst e1
     exact absurd (h.type hs hb) (by decide)
   · exact h1
theorem Good.setStr {S : Nat → Nat → Nat → Prop} {w : World} (h : Good S w) {g n : Nat} (hs : S g 9 n) (j : Nat) (z : ByteArray) : Good S (w.setCell ⟨g, j, none⟩ (.string z)) := by
 refine ⟨fun b t m hb => ?_, fun b m hb i hi => ?_, fun b m hb i hi => ?_, fun b m hb i hi => ?_⟩
 · obtain ⟨⟨cs, hc⟩, ht⟩ := h.blk _ _ _ hb
   exact ⟨blk_setCell hc _ _ _, ht⟩
 · obtain ⟨x, hx⟩ := h.num b m hb i hi
   rcases cell_set (p := ⟨g, j, none⟩) (x := .string z) hx with ⟨e, _⟩ | ⟨_, h1⟩
   · injection e with e1 _ _
     subst e1
     exact absurd (h.type hs hb) (by decide)
   · exact ⟨x, h1⟩
 · obtain ⟨x, hx⟩ := h.str b m hb i hi
   rcases cell_set (p := ⟨g, j, none⟩) (x := .string z) hx with ⟨_, h1⟩ | ⟨_, h1⟩
   · exact ⟨z, h1⟩
   · exact ⟨x, h1⟩
 · obtain ⟨cs, hg, hx⟩ := h.val b m hb i hi
   refine ⟨cs, hg, fun k u hu => ?_⟩
   rcases cell_set (p := ⟨g, j, none⟩) (x := .string z) (hx k u hu) with ⟨e, _⟩ | ⟨_, h1⟩
   · injection e with e1 _ _
     subst e1
     exact absurd (h.type hs hb) (by decide)
   · exact h1
theorem Good.setVal {S : Nat → Nat → Nat → Prop} {w : World} (h : Good S w) {g n k : Nat} (hs : S g 28 n) (hk : k < n) {cs' : List Value} (hV : GoodV S cs') : Good S (w.setCells g (k * 7) cs') := by
 have hl' : cs'.length = 7 := by obtain ⟨_, _, _, _, _, _, _, rfl, _⟩ := hV; rfl
 have hso : ∀ j, j < cs'.length → (w.cell? ⟨g, k * 7 + j, none⟩).isSome = true := fun j hj => by
  obtain ⟨cs, hg, hx⟩ := h.val g n hs k hk
  have hl : cs.length = 7 := by obtain ⟨_, _, _, _, _, _, _, rfl, _⟩ := hg; rfl
  rw [hx j cs[j] (List.getElem?_eq_getElem (by omega))]
  rfl
 have keep : ∀ {b i : Nat} {u : Value}, w.cell? ⟨b, i, none⟩ = some u → b ≠ g → (w.setCells g (k * 7) cs').cell? ⟨b, i, none⟩ = some u := fun hu hb => by
  rw [World.cell?_setCells_out g cs' (k * 7) w _ (fun e _ => absurd e hb)]; exact hu
 refine ⟨fun b t m hb => ?_, fun b m hb i hi => ?_, fun b m hb i hi => ?_, fun b m hb i hi => ?_⟩
 · obtain ⟨⟨cs, hc⟩, ht⟩ := h.blk _ _ _ hb
   refine ⟨?_, ht⟩
   by_cases hbg : b = g
   · subst hbg
     obtain ⟨cur, h1, h2, h3⟩ := setCells_row cs' (k * 7) w _ hc (by
      rw [hl']
      have := hso 6 (by omega)
      rw [blk_cell hc] at this
      have := (Array.getElem?_eq_some_iff.1 (Option.isSome_iff_exists.1 this).choose_spec).1
      omega)
     exact ⟨cur, h1⟩
   · exact ⟨cs, (setCells_far cs' _ b hbg).trans hc⟩
 · obtain ⟨x, hx⟩ := h.num b m hb i hi
   exact ⟨x, keep hx (by rintro rfl; exact absurd (h.type hs hb) (by decide))⟩
 · obtain ⟨x, hx⟩ := h.str b m hb i hi
   exact ⟨x, keep hx (by rintro rfl; exact absurd (h.type hs hb) (by decide))⟩
 · obtain ⟨cs, hg, hx⟩ := h.val b m hb i hi
   have hl : cs.length = 7 := by obtain ⟨_, _, _, _, _, _, _, rfl, _⟩ := hg; rfl
   by_cases hbg : b = g
   · subst hbg
     by_cases hik : i = k
     · subst hik
       refine ⟨cs', hV, fun q u hu => ?_⟩
       obtain ⟨hq, rfl⟩ := List.getElem?_eq_some_iff.1 hu
       exact World.cell?_setCells_in b cs' (i * 7) w hso q hq
     · refine ⟨cs, hg, fun q u hu => ?_⟩
       obtain ⟨hq, _⟩ := List.getElem?_eq_some_iff.1 hu
       rw [World.cell?_setCells_out b cs' (k * 7) w _ (fun _ _ => by show i * 7 + q < k * 7 ∨ k * 7 + cs'.length ≤ i * 7 + q; omega)]
       exact hx q u hu
   · exact ⟨cs, hg, fun q u hu => keep (hx q u hu) hbg⟩
theorem Only.setCell {S : Nat → Nat → Nat → Prop} {w w' : World} (h : Only S w w') {g t n : Nat} (hs : S g t n) (j : Nat) (x : Value) : Only S w (w'.setCell ⟨g, j, none⟩ x) := by
 have hb := Below.refl 0 w'
 refine h.trans ⟨rfl, rfl, rfl, by simp, fun b hb hn => ?_⟩
 exact Below.heap_setCell _ _ _ _ (by rintro rfl; exact hn t n hs)
theorem Only.setCells {S : Nat → Nat → Nat → Prop} {w w' : World} (h : Only S w w') {g t n : Nat} (hs : S g t n) (j : Nat) (cs : List Value) : Only S w (w'.setCells g j cs) := by
 have hk := setCells_same g cs j w'
 refine h.trans ⟨hk.1, hk.2.1, hk.2.2.1, Nat.le_of_eq hk.2.2.2.symm, fun b hb hn => setCells_far cs _ b (by rintro rfl; exact hn t n hs)⟩
structure KeepG (w : World) (g : Nat) (w' : World) : Prop where
 os : w'.os = w.os
 tape : w'.tape = w.tape
 output : w'.output = w.output
 size : w.heap.size ≤ w'.heap.size
 block : ∀ b, b < w.heap.size → b ≠ g → w'.heap[b]? = w.heap[b]?
theorem KeepG.refl (w : World) (g : Nat) : KeepG w g w := ⟨rfl, rfl, rfl, Nat.le_refl _, fun _ _ _ => rfl⟩
theorem KeepG.trans {w a b : World} {g : Nat} (h : KeepG w g a) (k : KeepG a g b) : KeepG w g b := ⟨k.os.trans h.os, k.tape.trans h.tape, k.output.trans h.output, Nat.le_trans h.size k.size, fun j hj hn => (k.block j (by have := h.size; omega) hn).trans (h.block j hj hn)⟩
theorem KeepG.then {w a b : World} {g : Nat} (h : KeepG w g a) {B : Nat} (hb : Below B a b) (hB : w.heap.size ≤ B) : KeepG w g b :=
 ⟨hb.os.trans h.os, hb.tape.trans h.tape, hb.output.trans h.output, Nat.le_trans h.size hb.size, fun j hj hn => (hb.block j (by omega)).trans (h.block j hj hn)⟩
theorem KeepG.setCells {w a : World} {g : Nat} (h : KeepG w g a) (cs : List Value) (o : Nat) : KeepG w g (a.setCells g o cs) := by
 have hk := setCells_same g cs o a
 exact ⟨hk.1.trans h.os, hk.2.1.trans h.tape, hk.2.2.1.trans h.output, by rw [hk.2.2.2]; exact h.size, fun j hj hn => (setCells_far cs o j hn).trans (h.block j hj hn)⟩
theorem KeepG.drew {w a : World} {g : Nat} (h : KeepG w g a) : KeepG w g a.drew := h.then (below_drew (Below.refl _ _)) h.size
theorem KeepG.below {w0 w W : World} {B g : Nat} (h : KeepG w g W) (hb : Below B w0 w) (hg : B ≤ g) (hB : B ≤ w.heap.size) : Below B w0 W :=
 hb.trans ⟨h.os, h.tape, h.output, h.size, fun j hj => h.block j (by omega) (by omega)⟩
structure PEl where
 row : List Value
 key : V
 val : V
 tag : Nat
def elt (x y : PEl) : Prop := vord x.key y.key < 0 ∨ (vord x.key y.key = 0 ∧ x.tag < y.tag)
theorem elt_trans {x y z : PEl} (h : elt x y) (k : elt y z) : elt x z := by
 have t := vord_tr x.key y.key z.key
 rcases h with h | ⟨h, h'⟩ <;> rcases k with k | ⟨k, k'⟩
 · exact .inl (t.lt1 h (by omega))
 · exact .inl (t.lt1 h (by omega))
 · exact .inl (t.lt2 (by omega) k)
 · exact .inr ⟨t.eq h k, by omega⟩
theorem elt_irr {x y : PEl} (h : elt x y) (k : elt y x) : False := by
 have a := vord_anti x.key y.key
 rcases h with h | ⟨h, h'⟩ <;> rcases k with k | ⟨k, k'⟩ <;> omega
theorem elt_of_ge {x y : PEl} (h : ¬ vord x.key y.key < 0) (ht : y.tag < x.tag) : elt y x := by
 have a := vord_anti x.key y.key
 by_cases h0 : vord x.key y.key = 0
 · exact .inr ⟨by omega, ht⟩
 · exact .inl (by omega)
structure RowOk (e : PEl) : Prop where
 len : e.row.length = 14
 one : ∀ u ∈ e.row, u.oneCell' = true
structure SW (w0 : World) (g : Nat) (els : List PEl) (W : World) : Prop where
 keep : KeepG w0 g W
 at_ : ∀ i (e : PEl), els[i]? = some e → W.rangeAt g (i * 14) e.row
 there : W.there g 0 (els.length * 14)
 ok : ∀ e ∈ els, RowOk e
theorem there_part {W : World} {g n i : Nat} (h : W.there g 0 (n * 14)) (hi : i < n) : W.there g (i * 14) 14 := fun j hj => by
 have := h (i * 14 + j) (by omega)
 rwa [Nat.zero_add] at this
theorem SW.grow {w0 W W' : World} {g : Nat} {els : List PEl} (h : SW w0 g els W) (hg : g < w0.heap.size) (hb : Below W.heap.size W W') : SW w0 g els W' := by
 have hgW : g < W.heap.size := Nat.lt_of_lt_of_le hg h.keep.size
 have hc : ∀ o, W'.cell? ⟨g, o, none⟩ = W.cell? ⟨g, o, none⟩ := fun o => World.cell?_of_block (hb.block g hgW)
 have hf : ∀ o, W'.frozen? ⟨g, o, none⟩ = W.frozen? ⟨g, o, none⟩ := fun o => World.frozen?_of_block (hb.block g hgW)
 exact ⟨h.keep.then hb h.keep.size, fun i e hi j v hv => by rw [hc]; exact h.at_ i e hi j v hv, fun j hj => by rw [hc, hf]; exact h.there j hj, h.ok⟩
theorem SW.drew {w0 W : World} {g : Nat} {els : List PEl} (h : SW w0 g els W) : SW w0 g els W.drew :=
 ⟨h.keep.drew, fun i e hi => by rw [World.rangeAt_drew]; exact h.at_ i e hi, by rw [World.there_drew]; exact h.there, h.ok⟩
theorem SW.swap {w0 W : World} {g : Nat} {els : List PEl} (h : SW w0 g els W) {i j : Nat} {x y : PEl} (hi : els[i]? = some x) (hj : els[j]? = some y) (hij : i ≠ j) :
 SW w0 g ((els.set i y).set j x) ((W.setCells g (i * 14) y.row).setCells g (j * 14) x.row) := by
 have hil : i < els.length := (List.getElem?_eq_some_iff.1 hi).1
 have hjl : j < els.length := (List.getElem?_eq_some_iff.1 hj).1
 have hx := h.ok x (List.mem_of_getElem? hi)
 have hy := h.ok y (List.mem_of_getElem? hj)
 refine ⟨(h.keep.setCells _ _).setCells _ _, fun k e hk => ?_, ?_, fun e he => ?_⟩
 · have ti : W.there g (i * 14) y.row.length := by rw [hy.len]; exact there_part h.there hil
   have tj : (W.setCells g (i * 14) y.row).there g (j * 14) x.row.length := by rw [hx.len]; exact World.there_setCells (there_part h.there hjl) _ _ _
   by_cases hkj : k = j
   · subst hkj
     rw [List.getElem?_set_self (by simpa using hjl)] at hk
     obtain rfl := Option.some.inj hk
     exact World.rangeAt_setCells_same _ _ _ _ tj
   · rw [List.getElem?_set_ne (Ne.symm hkj)] at hk
     by_cases hki : k = i
     · subst hki
       rw [List.getElem?_set_self hil] at hk
       obtain rfl := Option.some.inj hk
       exact World.rangeAt_setCells_apart (World.rangeAt_setCells_same _ _ _ _ ti) _ _ _ (by rw [hx.len, hy.len]; omega)
     · rw [List.getElem?_set_ne (Ne.symm hki)] at hk
       have he := h.ok e (List.mem_of_getElem? hk)
       exact World.rangeAt_setCells_apart (World.rangeAt_setCells_apart (h.at_ k e hk) _ _ _ (by rw [he.len, hy.len]; omega)) _ _ _ (by rw [he.len, hx.len]; omega)
 · have := World.there_setCells (World.there_setCells h.there g (i * 14) y.row) g (j * 14) x.row
   simpa using this
 · rcases List.mem_or_eq_of_mem_set he with he | rfl
   · rcases List.mem_or_eq_of_mem_set he with he | rfl
     · exact h.ok e he
     · exact hy
   · exact hx
theorem set_pair {els : List PEl} {A B : List PEl} {x y : PEl} {M : List PEl} (h : els = A ++ x :: (M ++ y :: B)) : (els.set A.length y).set (A.length + 1 + M.length) x = A ++ y :: (M ++ x :: B) := by
 subst h
 rw [List.set_append_right _ _ (Nat.le_refl _), Nat.sub_self, List.set_cons_zero, List.set_append_right _ _ (by omega), show A.length + 1 + M.length - A.length = M.length + 1 by omega, List.set_cons_succ, List.set_append_right _ _ (Nat.le_refl _), Nat.sub_self, List.set_cons_zero]
theorem at_head {A B : List PEl} {x : PEl} : (A ++ x :: B)[A.length]? = some x := by simp
theorem at_far {A M B : List PEl} {x y : PEl} : (A ++ x :: (M ++ y :: B))[A.length + 1 + M.length]? = some y := by
 rw [List.getElem?_append_right (by omega), show A.length + 1 + M.length - A.length = M.length + 1 by omega, List.getElem?_cons_succ, List.getElem?_append_right (Nat.le_refl _), Nat.sub_self]
 rfl
end Go.Proofs.YthigbklhngihkaaGreatDoor.P

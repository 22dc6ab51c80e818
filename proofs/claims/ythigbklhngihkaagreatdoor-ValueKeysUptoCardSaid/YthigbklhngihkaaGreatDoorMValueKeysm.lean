import Derived.Test.YthigbklhngihkaaGreatDoorMValueKeysl
import Derived.StillTailTactics
import Derived.Deep.RegionLaw
set_option linter.unusedVariables false
set_option linter.unusedSimpArgs false
set_option maxRecDepth 100000
namespace Go.Proofs.YthigbklhngihkaaGreatDoor.P
open Go.RowKit Go.Proofs.YthigbklhngihkaaGreatDoorW.PrintWords Go.Proofs.YthigbklhngihkaaGreatDoorW.PrintMore Go.Proofs.YthigbklhngihkaaGreatDoorW.PrintLast
set_option maxHeartbeats 1000000 in
theorem Same_any : ∀ (x : V) (cs : List Value) (y : V) (ds : List Value) (w : World), k28.K w x cs → k28.K w y ds →
 Calls Tryz.prog 18 #[.agg cs.toArray, .agg ds.toArray] w fun e w' => e = .returned (.bool (same x y)) ∧ Below w.heap.size w w' := by
 refine V.ind fun x ih => ?_
 intro cs y ds w hKx hKy
 obtain ⟨A2, c2, A5, c5, A6, c6, rfl, l2, g2, l5, g5, l6, g6⟩ := k28_open hKx
 obtain ⟨B2, d2, B5, d5, B6, d6, rfl, m2, r2, m5, r5, m6, r6⟩ := k28_open hKy
 have HX2 := Lib.hid g2
 have HX5 := Lib.hid g5
 have HX6 := Lib.hid g6
 have HY2 := Lib.hid r2
 have HY5 := Lib.hid r5
 have HY6 := Lib.hid r6
 have hl5 := g5.2.1
 have hl6 := g6.2.1
 clear hKx hKy g2 g5 g6 r2 r5 r6 l2 l5 l6 m2 m5 m6
 have IH := Lib.hid ih
 clear ih
 have hB0 : Below w.heap.size w ((w.alloc (Obj.cells #[Value.int IntKind.i64 x.f0, Value.bool x.f1.f0, Value.slice A2 x.f1.f1.length c2, Value.int IntKind.i64 x.f1.f2, Value.string x.f2, Value.slice A5 x.f3.length c5, Value.slice A6 x.f4.length c6] 28 (0, 0))).alloc (Obj.cells #[Value.int IntKind.i64 y.f0, Value.bool y.f1.f0, Value.slice B2 y.f1.f1.length d2, Value.int IntKind.i64 y.f1.f2, Value.string y.f2, Value.slice B5 y.f3.length d5, Value.slice B6 y.f4.length d6] 28 (0, 0))) := ((Below.refl _ _).alloc (Nat.le_refl _) _).alloc (by simp) _
 have g1 := blk_new (w.alloc (Obj.cells #[Value.int IntKind.i64 x.f0, Value.bool x.f1.f0, Value.slice A2 x.f1.f1.length c2, Value.int IntKind.i64 x.f1.f2, Value.string x.f2, Value.slice A5 x.f3.length c5, Value.slice A6 x.f4.length c6] 28 (0, 0))) (Obj.cells #[Value.int IntKind.i64 y.f0, Value.bool y.f1.f0, Value.slice B2 y.f1.f1.length d2, Value.int IntKind.i64 y.f1.f2, Value.string y.f2, Value.slice B5 y.f3.length d5, Value.slice B6 y.f4.length d6] 28 (0, 0))
 have g0 := blk_new w (Obj.cells #[Value.int IntKind.i64 x.f0, Value.bool x.f1.f0, Value.slice A2 x.f1.f1.length c2, Value.int IntKind.i64 x.f1.f2, Value.string x.f2, Value.slice A5 x.f3.length c5, Value.slice A6 x.f4.length c6] 28 (0, 0))
 replace g0 := (((Below.refl _ (w.alloc (Obj.cells #[Value.int IntKind.i64 x.f0, Value.bool x.f1.f0, Value.slice A2 x.f1.f1.length c2, Value.int IntKind.i64 x.f1.f2, Value.string x.f2, Value.slice A5 x.f3.length c5, Value.slice A6 x.f4.length c6] 28 (0, 0)))).alloc (Nat.le_refl _) (Obj.cells #[Value.int IntKind.i64 y.f0, Value.bool y.f1.f0, Value.slice B2 y.f1.f1.length d2, Value.int IntKind.i64 y.f1.f2, Value.string y.f2, Value.slice B5 y.f3.length d5, Value.slice B6 y.f4.length d6] 28 (0, 0))).block _ (blk_lt g0)).trans g0
 rw [show (w.alloc (Obj.cells #[Value.int IntKind.i64 x.f0, Value.bool x.f1.f0, Value.slice A2 x.f1.f1.length c2, Value.int IntKind.i64 x.f1.f2, Value.string x.f2, Value.slice A5 x.f3.length c5, Value.slice A6 x.f4.length c6] 28 (0, 0))).heap.size = w.heap.size + 1 by simp] at g1
 have G := Lib.hid (And.intro g0 g1)
 have HB0 := Lib.hid hB0
 have HLE : Hid (w.heap.size ≤ ((w.alloc (Obj.cells #[Value.int IntKind.i64 x.f0, Value.bool x.f1.f0, Value.slice A2 x.f1.f1.length c2, Value.int IntKind.i64 x.f1.f2, Value.string x.f2, Value.slice A5 x.f3.length c5, Value.slice A6 x.f4.length c6] 28 (0, 0))).alloc (Obj.cells #[Value.int IntKind.i64 y.f0, Value.bool y.f1.f0, Value.slice B2 y.f1.f1.length d2, Value.int IntKind.i64 y.f1.f2, Value.string y.f2, Value.slice B5 y.f3.length d5, Value.slice B6 y.f4.length d6] 28 (0, 0))).heap.size) := Lib.hid hB0.size
 clear g0 g1 hB0
 cases h0 : (x.f0 == y.f0) with
 | false =>
  have h0b : (x.f0 != y.f0) = true := by simp [bne, h0]
  have hn : x ≠ y := by intro h; rw [h] at h0; simp at h0
  rw [same_ne hn]
  clear hn
  go_enter Tryz.func18, Tryz.ntmps18
  go_wp2
  go_ret
  exact ⟨rfl, HB0.out⟩
 | true =>
  have h0b : (x.f0 != y.f0) = false := by simp [bne, h0]
  cases h1 : same x.f1 y.f1 with
  | false =>
   have hn : x ≠ y := by intro h; rw [h, same_refl] at h1; cases h1
   rw [same_ne hn]
   clear hn
   go_enter Tryz.func18, Tryz.ntmps18
   go_wp2_with (first | (go_at_call 64; (with_reducible refine (dsame_any x.f1 y.f1 _ _ _ _ _ ?ha ?hb).mono ?_); (case ha => exact Kd.C_below HX2.out HB0.out); (case hb => exact Kd.C_below HY2.out HB0.out); rw [h1]; rintro e w1 ⟨rfl, hB1⟩; obtain ⟨hcl0, hfz0⟩ := bcells G.out.1 hB1; obtain ⟨hcl1, hfz1⟩ := bcells G.out.2 hB1; have hB2 := HB0.out.trans (hB1.mono HLE.out)))
   go_ret
   exact ⟨rfl, hB2⟩
  | true =>
   cases h2 : (x.f2.toList == y.f2.toList) with
   | false =>
    have h2b : (x.f2.toList != y.f2.toList) = true := by simp only [bne, h2]; rfl
    have hn : x ≠ y := by intro h; rw [h] at h2; simp at h2
    rw [same_ne hn]
    clear hn
    go_enter Tryz.func18, Tryz.ntmps18
    go_wp2_with (first | (go_at_call 64; (with_reducible refine (dsame_any x.f1 y.f1 _ _ _ _ _ ?ha ?hb).mono ?_); (case ha => exact Kd.C_below HX2.out HB0.out); (case hb => exact Kd.C_below HY2.out HB0.out); rw [h1]; rintro e w1 ⟨rfl, hB1⟩; obtain ⟨hcl0, hfz0⟩ := bcells G.out.1 hB1; obtain ⟨hcl1, hfz1⟩ := bcells G.out.2 hB1; have hB2 := HB0.out.trans (hB1.mono HLE.out)))
    go_ret
    exact ⟨rfl, hB2⟩
   | true =>
    have h2b : (x.f2.toList != y.f2.toList) = false := by simp only [bne, h2]; rfl
    cases h3 : ((x.f3.length : Int) == (y.f3.length : Int)) with
    | false =>
     have h3b : ((x.f3.length : Int) != (y.f3.length : Int)) = true := by simp [bne, h3]
     have hn : x ≠ y := by intro h; rw [h] at h3; simp at h3
     rw [same_ne hn]
     clear hn
     go_enter Tryz.func18, Tryz.ntmps18
     go_wp2_with (first | (go_at_call 64; (with_reducible refine (dsame_any x.f1 y.f1 _ _ _ _ _ ?ha ?hb).mono ?_); (case ha => exact Kd.C_below HX2.out HB0.out); (case hb => exact Kd.C_below HY2.out HB0.out); rw [h1]; rintro e w1 ⟨rfl, hB1⟩; obtain ⟨hcl0, hfz0⟩ := bcells G.out.1 hB1; obtain ⟨hcl1, hfz1⟩ := bcells G.out.2 hB1; have hB2 := HB0.out.trans (hB1.mono HLE.out)))
     go_ret
     exact ⟨rfl, hB2⟩
    | true =>
     have h3b : ((x.f3.length : Int) != (y.f3.length : Int)) = false := by simp [bne, h3]
     cases h4 : ((x.f4.length : Int) == (y.f4.length : Int)) with
     | false =>
      have h4b : ((x.f4.length : Int) != (y.f4.length : Int)) = true := by simp [bne, h4]
      have hn : x ≠ y := by intro h; rw [h] at h4; simp at h4
      rw [same_ne hn]
      clear hn
      go_enter Tryz.func18, Tryz.ntmps18
      go_wp2_with (first | (go_at_call 64; (with_reducible refine (dsame_any x.f1 y.f1 _ _ _ _ _ ?ha ?hb).mono ?_); (case ha => exact Kd.C_below HX2.out HB0.out); (case hb => exact Kd.C_below HY2.out HB0.out); rw [h1]; rintro e w1 ⟨rfl, hB1⟩; obtain ⟨hcl0, hfz0⟩ := bcells G.out.1 hB1; obtain ⟨hcl1, hfz1⟩ := bcells G.out.2 hB1; have hB2 := HB0.out.trans (hB1.mono HLE.out)))
      go_ret
      exact ⟨rfl, hB2⟩
     | true =>
      have h4b : ((x.f4.length : Int) != (y.f4.length : Int)) = false := by simp [bne, h4]
      have hq3 : x.f3.length = y.f3.length := by have := eq_of_beq h3; omega
      have hq4 : x.f4.length = y.f4.length := by have := eq_of_beq h4; omega
      have HE : Hid (x.f0 = y.f0 ∧ x.f1 = y.f1 ∧ x.f2 = y.f2 ∧ x.f3.length = y.f3.length ∧ x.f4.length = y.f4.length) := Lib.hid ⟨eq_of_beq h0, same_iff.1 h1, toL_inj2.1 (eq_of_beq h2), hq3, hq4⟩
      clear hq3 hq4
      go_enter Tryz.func18, Tryz.ntmps18
      go_wp2_with (first | (go_at_call 64; (with_reducible refine (dsame_any x.f1 y.f1 _ _ _ _ _ ?ha ?hb).mono ?_); (case ha => exact Kd.C_below HX2.out HB0.out); (case hb => exact Kd.C_below HY2.out HB0.out); rw [h1]; rintro e w1 ⟨rfl, hB1⟩; obtain ⟨hcl0, hfz0⟩ := bcells G.out.1 hB1; obtain ⟨hcl1, hfz1⟩ := bcells G.out.2 hB1; have hB2 := HB0.out.trans (hB1.mono HLE.out)))
      have HB2 := Lib.hid hB2
      have HL2 : Hid (w.heap.size ≤ w1.heap.size) := Lib.hid hB2.size
      have G2 := Lib.hid (And.intro (blk_below2 G.out.1 hB1) (blk_below2 G.out.2 hB1))
      clear hB2 hB1 hcl0 hfz0 hcl1 hfz1
      clear h0 h2 h3 h4 h0b h2b h3b h4b h1
      go_loopw [5] (fun vi wr => ∃ k : Nat, k ≤ x.f4.length ∧ vi = .int .i64 k ∧ Hid (∀ i, i < k → x.f4.getD i ByteArray.empty = y.f4.getD i ByteArray.empty) ∧ Below w1.heap.size w1 wr) (fun vi _ => x.f4.length - (intOf vi).toNat)
      case atStart => exact ⟨0, Nat.zero_le _, rfl, Lib.hid (fun i h => absurd h (by omega)), Below.refl _ _⟩
      case round =>
       obtain ⟨k, hk, rfl, hu, hB⟩ := hrel
       have HB := Lib.hid hB
       have hBW := Lib.hid (HB2.out.trans (hB.mono HL2.out))
       obtain ⟨hcl0, hfz0⟩ := bcells G2.out.1 hB
       obtain ⟨hcl1, hfz1⟩ := bcells G2.out.2 hB
       clear hB
       by_cases hlt : k < x.f4.length
       · obtain ⟨ad, rfl, hx⟩ := Kd.at_string (Kd.C_below HX6.out hBW.out) (k : Int) (by omega) (by omega)
         obtain ⟨bd, rfl, hy⟩ := Kd.at_string (Kd.C_below HY6.out hBW.out) (k : Int) (by omega) (by have := HE.out; omega)
         rw [Int.toNat_natCast] at hx hy
         have e1 : rdOf ByteArray.empty x.f4 (k : Int) = x.f4.getD k ByteArray.empty := by unfold rdOf; rw [Int.toNat_natCast]
         have e2 : rdOf ByteArray.empty y.f4 (k : Int) = y.f4.getD k ByteArray.empty := by unfold rdOf; rw [Int.toNat_natCast]
         rw [e1] at hx
         rw [e2] at hy
         clear e1 e2
         obtain ⟨xa, ha⟩ : ∃ xa, xa = x.f4.getD k ByteArray.empty := ⟨_, rfl⟩
         obtain ⟨xb, hb⟩ : ∃ xb, xb = y.f4.getD k ByteArray.empty := ⟨_, rfl⟩
         rw [← ha] at hx
         rw [← hb] at hy
         have hw : wrap64 ((k : Int) + 1) = ((k + 1 : Nat) : Int) := by unfold wrap64; omega
         have hlt2 : (k : Int) < (y.f4.length : Int) := by have := HE.out; omega
         have hlt1 : (k : Int) < (x.f4.length : Int) := by omega
         cases hab : (xa.toList == xb.toList) with
         | false =>
          have habn : (xa.toList != xb.toList) = true := by simp only [bne, hab]; rfl
          have hr : Hid (same x y = false) := Lib.hid (same_ne (by intro h; rw [ha, hb, h] at hab; simp at hab))
          clear ha hb hu
          go_wp2
          go_quiet (fail)
          go_wp2
          go_ret
          exact ⟨by rw [hr.out]; rfl, pw_below_drewN hBW.out _⟩
         | true =>
          have habn : (xa.toList != xb.toList) = false := by simp only [bne, hab]; rfl
          have hu' : Hid (∀ i, i < k + 1 → x.f4.getD i ByteArray.empty = y.f4.getD i ByteArray.empty) := Lib.hid (fun i hi => by
           rcases Nat.lt_or_ge i k with h | h
           · exact hu.out i h
           · obtain rfl : i = k := by omega
             rw [← ha, ← hb]; exact toL_inj2.1 (eq_of_beq hab))
          clear ha hb hu
          go_wp2
          go_quiet (fail)
          go_wp2
          go_roundw
          case rel => exact ⟨k + 1, by omega, by go_num, hu', pw_below_drewN HB.out _⟩
          case measure => simp [intOf]; omega
       · obtain rfl : k = x.f4.length := by omega
         have HU4 : Hid (x.f4 = y.f4) := Lib.hid (ext_getD _ HE.out.2.2.2.2 hu.out)
         have HL3 : Hid (w1.heap.size ≤ wr.heap.size) := Lib.hid HB.out.size
         have G3 := Lib.hid (And.intro (blk_below2 G2.out.1 HB.out) (blk_below2 G2.out.2 HB.out))
         clear hu
         go_wp2
         clear hcl0 hfz0 hcl1 hfz1
         go_loopw [6] (fun vi wr2 => ∃ k : Nat, k ≤ x.f3.length ∧ vi = .int .i64 k ∧ Hid (∀ i, i < k → x.f3.getD i z28 = y.f3.getD i z28) ∧ Below w1.heap.size w1 wr2) (fun vi _ => x.f3.length - (intOf vi).toNat)
         case atStart => exact ⟨0, Nat.zero_le _, rfl, Lib.hid (fun i h => absurd h (by omega)), HB.out⟩
         case round =>
          clear hBW HB hlt hk HL3 G3
          obtain ⟨k, hk, rfl, hu, hB⟩ := hrel
          have HB := Lib.hid hB
          have hBW := Lib.hid (HB2.out.trans (hB.mono HL2.out))
          obtain ⟨hcl0, hfz0⟩ := bcells G2.out.1 hB
          obtain ⟨hcl1, hfz1⟩ := bcells G2.out.2 hB
          clear hB
          by_cases hlt : k < x.f3.length
          · have hlt2 : k < y.f3.length := by have := HE.out; omega
            obtain ⟨ad, a0, a1, a2, a3, a4, a5, a6, rfl, hKa, p0, p1, p2, p3, p4, p5, p6⟩ := at_V HX5.out hBW.out k hlt
            obtain ⟨bd, b0, b1, b2, b3, b4, b5, b6, rfl, hKb, q0, q1, q2, q3, q4, q5, q6⟩ := at_V HY5.out hBW.out k hlt2
            have HKA := Lib.hid hKa
            have HKB := Lib.hid hKb
            have hmem : rd_T28 x.f3 (k : Int) ∈ x.f3 := by unfold rd_T28; simp [hlt]
            have HC := Lib.hid (IH.out _ hmem)
            have hxk : x.f3.getD k z28 = rd_T28 x.f3 (k : Int) := by unfold rd_T28; rw [Int.toNat_natCast]
            have hyk : y.f3.getD k z28 = rd_T28 y.f3 (k : Int) := by unfold rd_T28; rw [Int.toNat_natCast]
            have hlt2' : (k : Int) < (y.f3.length : Int) := by omega
            have hlt1' : (k : Int) < (x.f3.length : Int) := by omega
            have hw : wrap64 ((k : Int) + 1) = ((k + 1 : Nat) : Int) := by unfold wrap64; omega
            clear hKa hKb hmem
            cases hab : same (rd_T28 x.f3 (k : Int)) (rd_T28 y.f3 (k : Int)) with
            | false =>
             have hr : Hid (same x y = false) := Lib.hid (same_ne (by intro h; rw [h, same_refl] at hab; cases hab))
             clear hu hxk hyk
             go_upto_region 11 with (fail)
             go_still_tail 10, (by kernel_rfl)
             change wpList _ _ _ _ _ (wr.drewN 1)
             have HBD : Hid (Below w.heap.size w (wr.drewN 1)) := Lib.hid (pw_below_drewN hBW.out _)
             have HBE : Hid (Below w1.heap.size w1 (wr.drewN 1)) := Lib.hid (pw_below_drewN HB.out _)
             have hszd := HBD.out.size
             have hszd1 := HBE.out.size
             generalize wr.drewN 1 = wd at HBD HBE hszd hszd1 ⊢
             have HCC := Lib.hid (HC.out [a0, a1, a2, a3, a4, a5, a6] _ [b0, b1, b2, b3, b4, b5, b6] wd (k28.K_below HBD.out HKA.out) (k28.K_below HBD.out HKB.out))
             go_wp2_with (first | (go_at_call 18; refine HCC.out.mono ?_; rw [hab]; rintro e w5 ⟨rfl, hB5⟩; have HB5 := Lib.hid (HBD.out.trans (hB5.mono hszd)); have HB6 := Lib.hid (HBE.out.trans (hB5.mono hszd1))))
             go_ret
             exact ⟨by rw [hr.out]; rfl, HB5.out⟩
            | true =>
             have hu' : Hid (∀ i, i < k + 1 → x.f3.getD i z28 = y.f3.getD i z28) := Lib.hid (fun i hi => by
              rcases Nat.lt_or_ge i k with h | h
              · exact hu.out i h
              · obtain rfl : i = k := by omega
                rw [hxk, hyk]; exact same_iff.1 hab)
             clear hu hxk hyk
             go_upto_region 11 with (fail)
             go_still_tail 10, (by kernel_rfl)
             change wpList _ _ _ _ _ (wr.drewN 1)
             have HBD : Hid (Below w.heap.size w (wr.drewN 1)) := Lib.hid (pw_below_drewN hBW.out _)
             have HBE : Hid (Below w1.heap.size w1 (wr.drewN 1)) := Lib.hid (pw_below_drewN HB.out _)
             have hszd := HBD.out.size
             have hszd1 := HBE.out.size
             generalize wr.drewN 1 = wd at HBD HBE hszd hszd1 ⊢
             have HCC := Lib.hid (HC.out [a0, a1, a2, a3, a4, a5, a6] _ [b0, b1, b2, b3, b4, b5, b6] wd (k28.K_below HBD.out HKA.out) (k28.K_below HBD.out HKB.out))
             go_wp2_with (first | (go_at_call 18; refine HCC.out.mono ?_; rw [hab]; rintro e w5 ⟨rfl, hB5⟩; have HB5 := Lib.hid (HBD.out.trans (hB5.mono hszd)); have HB6 := Lib.hid (HBE.out.trans (hB5.mono hszd1))))
             go_roundw
             case rel => exact ⟨k + 1, by omega, by go_num, hu', HB6.out⟩
             case measure => simp [intOf]; omega
          · obtain rfl : k = x.f3.length := by omega
            have hr : Hid (same x y = true) := Lib.hid (same_iff.2 (by
             obtain ⟨e0, e1, e2, e3, e4⟩ := HE.out
             have e5 := ext_getD _ e3 hu.out
             have e6 := HU4.out
             cases x; cases y; simp only [S28.mk.injEq]; exact ⟨e0, e1, e2, e5, e6⟩))
            clear hu
            go_wp2
            go_ret
            exact ⟨by rw [hr.out]; rfl, hBW.out⟩
def listV (l : List V) : V := ⟨0, ⟨false, [], 0⟩, ByteArray.empty, l, []⟩
theorem OkV.list {l : List V} (h : ∀ x ∈ l, OkV x) (hl : l.length ≤ 1073741824) : OkV (listV l) :=
 OkV.mk _ (by show (Lit.int .i64 0).wf = true; rfl) (fun n hn => absurd hn (by unfold listV; simp)) (by show (Lit.int .i64 0).wf = true; rfl) (by unfold listV; simp) (fun n hn => absurd hn (by unfold listV; simp)) (by unfold listV; simp) hl (by unfold listV; simp) h
def vchks (l : List V) : Int := orL (l.map vchk)
structure OwnMid (w wc : World) (x : V) (A2 : Option Addr) (c2 : Nat) (A5 : Option Addr) (c5 : Nat) (A6 : Option Addr) (c6 : Nat) (B2 : Option Addr) (d2 : Nat) (B6 : Option Addr) (d6 : Nat) (B5 : Option Addr) (d5 : Nat) (k : Nat) : Prop where
 box : wc.heap[w.heap.size]? = some (.cells #[.int .i64 x.f0, .bool x.f1.f0, .slice A2 x.f1.f1.length c2, .int .i64 x.f1.f2, .string x.f2, .slice A5 x.f3.length c5, .slice A6 x.f4.length c6] 28 (0, 0))
 res : wc.heap[w.heap.size + 1]? = some (.cells #[.int .i64 0, .bool false, .slice none 0 0, .int .i64 0, .string ⟨#[]⟩, .slice none 0 0, .slice none 0 0] 28 (0, 0))
 out : wc.heap[w.heap.size + 2]? = some (.cells #[.int .i64 x.f0, .bool x.f1.f0, .slice B2 x.f1.f1.length d2, .int .i64 x.f1.f2, .string x.f2, .slice B5 k d5, .slice B6 x.f4.length d6] 28 (0, 0))
 r2 : (Kd.int .u32).R 131 wc (w.heap.size + 3) (fun _ => True) (.slice B2 x.f1.f1.length d2) x.f1.f1
 r5 : k28.R 28 wc (w.heap.size + 3) (fun _ => True) (.slice B5 k d5) (x.f3.take k)
 r6 : Kd.string.R 9 wc (w.heap.size + 3) (fun _ => True) (.slice B6 x.f4.length d6) x.f4
 below : Below w.heap.size w wc

def GoodS (S : Nat → Nat → Nat → Prop) (t : Nat) (v : Value) : Prop := ∃ A m c, v = .slice A m c ∧ m ≤ 9223372036854775807 ∧ (0 < m → ∃ g n, A = some ⟨g, 0, none⟩ ∧ S g t n ∧ m ≤ n)
def GoodV (S : Nat → Nat → Nat → Prop) (cs : List Value) : Prop := ∃ a0 a1 v2 a3 a4 v5 v6, cs = [.int .i64 a0, .bool a1, v2, .int .i64 a3, .string a4, v5, v6] ∧ GoodS S 131 v2 ∧ GoodS S 28 v5 ∧ GoodS S 9 v6
structure Good (S : Nat → Nat → Nat → Prop) (w : World) : Prop where
 blk : ∀ b t n, S b t n → (∃ cs, w.heap[b]? = some (.cells cs t (0, 0))) ∧ (t = 131 ∨ t = 28 ∨ t = 9)
 num : ∀ b n, S b 131 n → ∀ j, j < n → ∃ x, w.cell? ⟨b, j, none⟩ = some (.int .u32 x)
 str : ∀ b n, S b 9 n → ∀ j, j < n → ∃ s, w.cell? ⟨b, j, none⟩ = some (.string s)
 val : ∀ b n, S b 28 n → ∀ j, j < n → ∃ cs, GoodV S cs ∧ ∀ i u, cs[i]? = some u → w.cell? ⟨b, j * 7 + i, none⟩ = some u
structure Only (S : Nat → Nat → Nat → Prop) (w w' : World) : Prop where
 os : w'.os = w.os
 tape : w'.tape = w.tape
 output : w'.output = w.output
 size : w.heap.size ≤ w'.heap.size
 block : ∀ b, b < w.heap.size → (∀ t n, ¬ S b t n) → w'.heap[b]? = w.heap[b]?
theorem Only.refl (S : Nat → Nat → Nat → Prop) (w : World) : Only S w w := ⟨rfl, rfl, rfl, Nat.le_refl _, fun _ _ _ => rfl⟩
theorem Only.trans {S : Nat → Nat → Nat → Prop} {a b c : World} (h : Only S a b) (k : Only S b c) : Only S a c :=
 ⟨k.os.trans h.os, k.tape.trans h.tape, k.output.trans h.output, Nat.le_trans h.size k.size, fun g hg hn => (k.block g (by have := h.size; omega) hn).trans (h.block g hg hn)⟩
theorem Only.alloc {S : Nat → Nat → Nat → Prop} {w w' : World} (h : Only S w w') (o : Obj) : Only S w (w'.alloc o) := by
 have hb := (Below.refl w'.heap.size w').alloc (Nat.le_refl _) o
 exact h.trans ⟨hb.os, hb.tape, hb.output, hb.size, fun g hg _ => hb.block g hg⟩
theorem Only.drewN {S : Nat → Nat → Nat → Prop} {w w' : World} (h : Only S w w') (m : Nat) : Only S w (w'.drewN m) := by
 have hb := pw_below_drewN (Below.refl w'.heap.size w') m
 exact h.trans ⟨hb.os, hb.tape, hb.output, hb.size, fun g hg _ => hb.block g hg⟩
theorem Good.below {S : Nat → Nat → Nat → Prop} {w w' : World} (h : Good S w) (hb : Below w.heap.size w w') : Good S w' := by
 have lt : ∀ {b t n}, S b t n → b < w.heap.size := fun hs => by
  obtain ⟨⟨cs, hc⟩, _⟩ := h.blk _ _ _ hs
  exact blk_lt hc
 refine ⟨fun b t n hs => ?_, fun b n hs j hj => ?_, fun b n hs j hj => ?_, fun b n hs j hj => ?_⟩
 · obtain ⟨⟨cs, hc⟩, ht⟩ := h.blk _ _ _ hs
   exact ⟨⟨cs, (hb.block _ (lt hs)).trans hc⟩, ht⟩
 · obtain ⟨x, hx⟩ := h.num b n hs j hj
   exact ⟨x, pw_cell_below hb hx⟩
 · obtain ⟨x, hx⟩ := h.str b n hs j hj
   exact ⟨x, pw_cell_below hb hx⟩
 · obtain ⟨cs, hg, hx⟩ := h.val b n hs j hj
   exact ⟨cs, hg, fun i u hu => pw_cell_below hb (hx i u hu)⟩
theorem Good.type {S : Nat → Nat → Nat → Prop} {w : World} (h : Good S w) {b t n t' n' : Nat} (h1 : S b t n) (h2 : S b t' n') : t = t' := by
 obtain ⟨⟨cs, hc⟩, _⟩ := h.blk _ _ _ h1
 obtain ⟨⟨cs', hc'⟩, _⟩ := h.blk _ _ _ h2
 have := hc.symm.trans hc'
 injection this with this
 injection this
theorem Good.lt {S : Nat → Nat → Nat → Prop} {w : World} (h : Good S w) {b t n : Nat} (h1 : S b t n) : b < w.heap.size := by
 obtain ⟨⟨cs, hc⟩, _⟩ := h.blk _ _ _ h1
 exact blk_lt hc
theorem Only.setCell {S : Nat → Nat → Nat → Prop} {w w' : World} (h : Only S w w') {g t n : Nat} (hs : S g t n) (j : Nat) (x : Value) : Only S w (w'.setCell ⟨g, j, none⟩ x) := by
 have hb := Below.refl 0 w'
 refine h.trans ⟨rfl, rfl, rfl, by simp, fun b hb hn => ?_⟩
 exact Below.heap_setCell _ _ _ _ (by rintro rfl; exact hn t n hs)
theorem Only.setCells {S : Nat → Nat → Nat → Prop} {w w' : World} (h : Only S w w') {g t n : Nat} (hs : S g t n) (j : Nat) (cs : List Value) : Only S w (w'.setCells g j cs) := by
 have hk := setCells_same g cs j w'
 refine h.trans ⟨hk.1, hk.2.1, hk.2.2.1, Nat.le_of_eq hk.2.2.2.symm, fun b hb hn => setCells_far cs _ b (by rintro rfl; exact hn t n hs)⟩
structure KeepG (w : World) (g : Nat) (w' : World) : Prop where
 os : w'.os = w.os
 tape : w'.tape = w.tape
 output : w'.output = w.output
 size : w.heap.size ≤ w'.heap.size
 block : ∀ b, b < w.heap.size → b ≠ g → w'.heap[b]? = w.heap[b]?
theorem KeepG.refl (w : World) (g : Nat) : KeepG w g w := ⟨rfl, rfl, rfl, Nat.le_refl _, fun _ _ _ => rfl⟩
theorem KeepG.trans {w a b : World} {g : Nat} (h : KeepG w g a) (k : KeepG a g b) : KeepG w g b := ⟨k.os.trans h.os, k.tape.trans h.tape, k.output.trans h.output, Nat.le_trans h.size k.size, fun j hj hn => (k.block j (by have := h.size; omega) hn).trans (h.block j hj hn)⟩
theorem KeepG.then {w a b : World} {g : Nat} (h : KeepG w g a) {B : Nat} (hb : Below B a b) (hB : w.heap.size ≤ B) : KeepG w g b :=
 ⟨hb.os.trans h.os, hb.tape.trans h.tape, hb.output.trans h.output, Nat.le_trans h.size hb.size, fun j hj hn => (hb.block j (by omega)).trans (h.block j hj hn)⟩
theorem KeepG.setCells {w a : World} {g : Nat} (h : KeepG w g a) (cs : List Value) (o : Nat) : KeepG w g (a.setCells g o cs) := by
 have hk := setCells_same g cs o a
 exact ⟨hk.1.trans h.os, hk.2.1.trans h.tape, hk.2.2.1.trans h.output, by rw [hk.2.2.2]; exact h.size, fun j hj hn => (setCells_far cs o j hn).trans (h.block j hj hn)⟩
theorem KeepG.drew {w a : World} {g : Nat} (h : KeepG w g a) : KeepG w g a.drew := h.then (below_drew (Below.refl _ _)) h.size
theorem KeepG.below {w0 w W : World} {B g : Nat} (h : KeepG w g W) (hb : Below B w0 w) (hg : B ≤ g) (hB : B ≤ w.heap.size) : Below B w0 W :=
 hb.trans ⟨h.os, h.tape, h.output, h.size, fun j hj => h.block j (by omega) (by omega)⟩
structure PEl where
 row : List Value
 key : V
 val : V
 tag : Nat
def elt (x y : PEl) : Prop := vord x.key y.key < 0 ∨ (vord x.key y.key = 0 ∧ x.tag < y.tag)
theorem elt_trans {x y z : PEl} (h : elt x y) (k : elt y z) : elt x z := by
 have t := vord_tr x.key y.key z.key
 rcases h with h | ⟨h, h'⟩ <;> rcases k with k | ⟨k, k'⟩
 · exact .inl (t.lt1 h (by omega))
 · exact .inl (t.lt1 h (by omega))
 · exact .inl (t.lt2 (by omega) k)
 · exact .inr ⟨t.eq h k, by omega⟩
theorem elt_of_ge {x y : PEl} (h : ¬ vord x.key y.key < 0) (ht : y.tag < x.tag) : elt y x := by
 have a := vord_anti x.key y.key
 by_cases h0 : vord x.key y.key = 0
 · exact .inr ⟨by omega, ht⟩
 · exact .inl (by omega)
structure RowOk (e : PEl) : Prop where
 len : e.row.length = 14
 one : ∀ u ∈ e.row, u.oneCell' = true
structure SW (w0 : World) (g : Nat) (els : List PEl) (W : World) : Prop where
 keep : KeepG w0 g W
 at_ : ∀ i (e : PEl), els[i]? = some e → W.rangeAt g (i * 14) e.row
 there : W.there g 0 (els.length * 14)
 ok : ∀ e ∈ els, RowOk e
theorem there_part {W : World} {g n i : Nat} (h : W.there g 0 (n * 14)) (hi : i < n) : W.there g (i * 14) 14 := fun j hj => by
 have := h (i * 14 + j) (by omega)
 rwa [Nat.zero_add] at this
theorem SW.grow {w0 W W' : World} {g : Nat} {els : List PEl} (h : SW w0 g els W) (hg : g < w0.heap.size) (hb : Below W.heap.size W W') : SW w0 g els W' := by
 have hgW : g < W.heap.size := Nat.lt_of_lt_of_le hg h.keep.size
 have hc : ∀ o, W'.cell? ⟨g, o, none⟩ = W.cell? ⟨g, o, none⟩ := fun o => World.cell?_of_block (hb.block g hgW)
 have hf : ∀ o, W'.frozen? ⟨g, o, none⟩ = W.frozen? ⟨g, o, none⟩ := fun o => World.frozen?_of_block (hb.block g hgW)
 exact ⟨h.keep.then hb h.keep.size, fun i e hi j v hv => by rw [hc]; exact h.at_ i e hi j v hv, fun j hj => by rw [hc, hf]; exact h.there j hj, h.ok⟩
theorem SW.drew {w0 W : World} {g : Nat} {els : List PEl} (h : SW w0 g els W) : SW w0 g els W.drew :=
 ⟨h.keep.drew, fun i e hi => by rw [World.rangeAt_drew]; exact h.at_ i e hi, by rw [World.there_drew]; exact h.there, h.ok⟩
theorem SW.swap {w0 W : World} {g : Nat} {els : List PEl} (h : SW w0 g els W) {i j : Nat} {x y : PEl} (hi : els[i]? = some x) (hj : els[j]? = some y) (hij : i ≠ j) :
 SW w0 g ((els.set i y).set j x) ((W.setCells g (i * 14) y.row).setCells g (j * 14) x.row) := by
 have hil : i < els.length := (List.getElem?_eq_some_iff.1 hi).1
 have hjl : j < els.length := (List.getElem?_eq_some_iff.1 hj).1
 have hx := h.ok x (List.mem_of_getElem? hi)
 have hy := h.ok y (List.mem_of_getElem? hj)
 refine ⟨(h.keep.setCells _ _).setCells _ _, fun k e hk => ?_, ?_, fun e he => ?_⟩
 · have ti : W.there g (i * 14) y.row.length := by rw [hy.len]; exact there_part h.there hil
   have tj : (W.setCells g (i * 14) y.row).there g (j * 14) x.row.length := by rw [hx.len]; exact World.there_setCells (there_part h.there hjl) _ _ _
   by_cases hkj : k = j
   · subst hkj
     rw [List.getElem?_set_self (by simpa using hjl)] at hk
     obtain rfl := Option.some.inj hk
     exact World.rangeAt_setCells_same _ _ _ _ tj
   · rw [List.getElem?_set_ne (Ne.symm hkj)] at hk
     by_cases hki : k = i
     · subst hki
       rw [List.getElem?_set_self hil] at hk
       obtain rfl := Option.some.inj hk
       exact World.rangeAt_setCells_apart (World.rangeAt_setCells_same _ _ _ _ ti) _ _ _ (by rw [hx.len, hy.len]; omega)
     · rw [List.getElem?_set_ne (Ne.symm hki)] at hk
       have he := h.ok e (List.mem_of_getElem? hk)
       exact World.rangeAt_setCells_apart (World.rangeAt_setCells_apart (h.at_ k e hk) _ _ _ (by rw [he.len, hy.len]; omega)) _ _ _ (by rw [he.len, hx.len]; omega)
 · have := World.there_setCells (World.there_setCells h.there g (i * 14) y.row) g (j * 14) x.row
   simpa using this
 · rcases List.mem_or_eq_of_mem_set he with he | rfl
   · rcases List.mem_or_eq_of_mem_set he with he | rfl
     · exact h.ok e he
     · exact hy
   · exact hx
theorem set_pair {els : List PEl} {A B : List PEl} {x y : PEl} {M : List PEl} (h : els = A ++ x :: (M ++ y :: B)) : (els.set A.length y).set (A.length + 1 + M.length) x = A ++ y :: (M ++ x :: B) := by
 subst h
 rw [List.set_append_right _ _ (Nat.le_refl _), Nat.sub_self, List.set_cons_zero, List.set_append_right _ _ (by omega), show A.length + 1 + M.length - A.length = M.length + 1 by omega, List.set_cons_succ, List.set_append_right _ _ (Nat.le_refl _), Nat.sub_self, List.set_cons_zero]
theorem at_head {A B : List PEl} {x : PEl} : (A ++ x :: B)[A.length]? = some x := by simp
theorem at_far {A M B : List PEl} {x y : PEl} : (A ++ x :: (M ++ y :: B))[A.length + 1 + M.length]? = some y := by
 rw [List.getElem?_append_right (by omega), show A.length + 1 + M.length - A.length = M.length + 1 by omega, List.getElem?_cons_succ, List.getElem?_append_right (Nat.le_refl _), Nat.sub_self]
 rfl
theorem info_pair : ∀ r : List Value, r.length = 14 → (Tryz.prog.info? 102).map (·.size) = some r.length := fun r hr => by
 rw [hr]; kernel_rfl
theorem swap_step (A X M Y B : List PEl) (i : Nat) (hxy : X.length = Y.length) (hi : i < X.length) :
 A ++ (Y.take i ++ X.drop i) ++ M ++ (X.take i ++ Y.drop i) ++ B = (A ++ Y.take i) ++ X[i] :: ((X.drop (i + 1) ++ M ++ X.take i) ++ Y[i] :: (Y.drop (i + 1) ++ B)) ∧
 A ++ (Y.take (i + 1) ++ X.drop (i + 1)) ++ M ++ (X.take (i + 1) ++ Y.drop (i + 1)) ++ B = (A ++ Y.take i) ++ Y[i] :: ((X.drop (i + 1) ++ M ++ X.take i) ++ X[i] :: (Y.drop (i + 1) ++ B)) := by
 have hiy : i < Y.length := by omega
 constructor
 · rw [List.drop_eq_getElem_cons hi, List.drop_eq_getElem_cons hiy]; simp only [List.append_assoc, List.cons_append]
 · rw [List.take_succ_eq_append_getElem hi, List.take_succ_eq_append_getElem hiy]; simp only [List.append_assoc, List.cons_append, List.nil_append]
set_option maxHeartbeats 1000000 in
theorem swapRange_in (w0 : World) (g : Nat) (A X M Y B : List PEl) (N cap : Nat) (f : Value) (W : World) (hxy : X.length = Y.length) (hN : N = (A ++ X ++ M ++ Y ++ B).length) (hcap : N ≤ 1048576) (h : SW w0 g (A ++ X ++ M ++ Y ++ B) W) :
 Calls Tryz.prog 279 #[.slice (some ⟨g, 0, none⟩) N cap, .int .i64 A.length, .int .i64 (A.length + X.length + M.length : Nat), .int .i64 X.length, f] W fun e w' => e = .returned (.tuple #[]) ∧ SW w0 g (A ++ Y ++ M ++ X ++ B) w' := by
 obtain ⟨a, ha⟩ : ∃ a, a = A.length := ⟨_, rfl⟩
 obtain ⟨n, hn⟩ : ∃ n, n = X.length := ⟨_, rfl⟩
 obtain ⟨b, hb⟩ : ∃ b, b = A.length + X.length + M.length := ⟨_, rfl⟩
 rw [← hb, ← ha, ← hn]
 have hbn : b + n ≤ N := by rw [hN]; simp; omega
 have hab : a + n ≤ b := by omega
 have HXY := Lib.hid hxy
 have HN := Lib.hid hN
 have HA := Lib.hid ha
 have HNX := Lib.hid hn
 have HB := Lib.hid hb
 have H := Lib.hid h
 clear hxy hN ha hn hb h
 go_enter Tryz.func279, Tryz.ntmps279
 go_wp2
 go_loopw [10] (fun vi wr => ∃ i : Nat, i ≤ n ∧ vi = .int .i64 i ∧ Hid (SW w0 g (A ++ (Y.take i ++ X.drop i) ++ M ++ (X.take i ++ Y.drop i) ++ B) wr)) (fun vi _ => n - (intOf vi).toNat)
 case atStart => exact ⟨0, Nat.zero_le _, rfl, Lib.hid (by simpa using H.out)⟩
 case round =>
  obtain ⟨i, hi, rfl, HS⟩ := hrel
  by_cases hlt : i < n
  · have hiX : i < X.length := by rw [← HNX.out]; exact hlt
    have hiY : i < Y.length := by rw [← HXY.out]; exact hiX
    obtain ⟨e1, e2⟩ := swap_step A X M Y B i HXY.out hiX
    have hl1 : (A ++ Y.take i).length = a + i := by rw [List.length_append, List.length_take, HA.out]; omega
    have hl2 : (A ++ Y.take i).length + 1 + (X.drop (i + 1) ++ M ++ X.take i).length = b + i := by rw [hl1, HB.out]; simp only [List.length_append, List.length_drop, List.length_take]; have := HNX.out; have := HA.out; omega
    have hS := HS.out
    rw [e1] at hS
    generalize X[i] = x at *
    generalize Y[i] = y at *
    have hx : ((A ++ Y.take i) ++ x :: ((X.drop (i + 1) ++ M ++ X.take i) ++ y :: (Y.drop (i + 1) ++ B)))[a + i]? = some x := by rw [← hl1]; exact at_head
    have hy : ((A ++ Y.take i) ++ x :: ((X.drop (i + 1) ++ M ++ X.take i) ++ y :: (Y.drop (i + 1) ++ B)))[b + i]? = some y := by rw [← hl2]; exact at_far
    have hsw := hS.drew.swap hx hy (by omega)
    have hset := set_pair (els := (A ++ Y.take i) ++ x :: ((X.drop (i + 1) ++ M ++ X.take i) ++ y :: (Y.drop (i + 1) ++ B))) rfl
    rw [hl2, hl1] at hset
    rw [hset, ← e2] at hsw
    have ra := hS.at_ _ _ hx
    have rb := hS.at_ _ _ hy
    have okx := hS.ok x (by simp)
    have oky := hS.ok y (by simp)
    have ta := there_part hS.there (i := a + i) (List.getElem?_eq_some_iff.1 hx).1
    have tb := there_part hS.there (i := b + i) (List.getElem?_eq_some_iff.1 hy).1
    have lx := okx.len
    have ly := oky.len
    have ox := okx.one
    have oy := oky.one
    have ix := info_pair _ lx
    have iy := info_pair _ ly
    have HSW := Lib.hid hsw
    have HIB : Hid (i ≤ 4611686018427387904) := Lib.hid (by omega)
    have g1 : (0 : Int) ≤ (b : Int) + (i : Int) := by omega
    have g2 : (b : Int) + (i : Int) < (N : Int) := by omega
    have g3 : (0 : Int) ≤ (a : Int) + (i : Int) := by omega
    have g4 : (a : Int) + (i : Int) < (N : Int) := by omega
    have u1 : IntKind.i64.wrap ((b : Int) + (i : Int)) = (b : Int) + (i : Int) := by rw [wrap_in _ (by omega)]
    have u2 : IntKind.i64.wrap ((a : Int) + (i : Int)) = (a : Int) + (i : Int) := by rw [wrap_in _ (by omega)]
    have t1 : ((b : Int) + (i : Int)).toNat = b + i := by omega
    have t2 : ((a : Int) + (i : Int)).toNat = a + i := by omega
    have hap : b + i ≠ a + i := by omega
    have hap2 : (a + i) * 14 + 14 ≤ (b + i) * 14 := by omega
    have hu := Tryz.underlying102
    clear e1 e2 hl1 hl2 hS hx hy hsw hset okx oky HS hiX hiY
    go_upto_region 3 with (fail)
    have ra := (World.rangeAt_drew wr _ _ _).2 ra
    have rb := (World.rangeAt_drew wr _ _ _).2 rb
    have ta := (World.there_drew wr _ _ _).2 ta
    have tb2 := World.there_setCells ((World.there_drew wr _ _ _).2 tb) g ((a + i) * 14) y.row
    refine wp_region_any (by kernel_rfl) ?_
    change wpAny _ _ _ _ _ _ _ (World.drew _)
    refine wpAny_take (i := 0) (v := ?v_0) rfl (by kernel_rfl) (by kernel_rfl) (by kernel_rfl) (fun _ _ _ h => h) (Or.inl ⟨by rfl, ?hy_0⟩) ?rest_0
    case hy_0 => (intro w_; go_simp; try with_reducible rfl)
    simp only [Act.put, List.getElem_toArray, List.getElem_cons_zero, List.getElem_cons_succ, List.setIfInBounds_toArray, List.set_cons_zero, List.set_cons_succ]
    refine wpAny_take (i := 1) (v := ?v_1) rfl (by kernel_rfl) (by kernel_rfl) (by kernel_rfl) (fun _ _ _ h => h) (Or.inl ⟨by rfl, ?hy_1⟩) ?rest_1
    case hy_1 => (intro w_; go_simp; try with_reducible rfl)
    simp only [Act.put, List.getElem_toArray, List.getElem_cons_zero, List.getElem_cons_succ, List.setIfInBounds_toArray, List.set_cons_zero, List.set_cons_succ]
    refine wpAny_take (i := 2) (v := ?v_2) rfl (by kernel_rfl) (by kernel_rfl) (by kernel_rfl) (fun _ _ _ h => h) (Or.inl ⟨by rfl, ?hy_2⟩) ?rest_2
    case hy_2 => (intro w_; go_simp; try with_reducible rfl)
    simp only [Act.put, List.getElem_toArray, List.getElem_cons_zero, List.getElem_cons_succ, List.setIfInBounds_toArray, List.set_cons_zero, List.set_cons_succ]
    refine wpAny_take (i := 3) (v := ?v_3) rfl (by kernel_rfl) (by kernel_rfl) (by kernel_rfl) (fun _ _ _ h => h) (Or.inl ⟨by rfl, ?hy_3⟩) ?rest_3
    case hy_3 => (intro w_; go_simp; try with_reducible rfl)
    simp only [Act.put, List.getElem_toArray, List.getElem_cons_zero, List.getElem_cons_succ, List.setIfInBounds_toArray, List.set_cons_zero, List.set_cons_succ]
    refine wpAny_take (i := 4) (v := ?v_4) rfl (by kernel_rfl) (by kernel_rfl) (by kernel_rfl) (fun _ _ _ h => h) (Or.inl ⟨by rfl, ?hy_4⟩) ?rest_4
    case hy_4 => (intro w_; go_simp; try with_reducible rfl)
    simp only [Act.put, List.getElem_toArray, List.getElem_cons_zero, List.getElem_cons_succ, List.setIfInBounds_toArray, List.set_cons_zero, List.set_cons_succ]
    refine wpAny_take (i := 5) (v := ?v_5) rfl (by kernel_rfl) (by kernel_rfl) (by kernel_rfl) (fun _ _ _ h => h) (Or.inl ⟨by rfl, ?hy_5⟩) ?rest_5
    case hy_5 => (intro w_; go_simp; try with_reducible rfl)
    simp only [Act.put, List.getElem_toArray, List.getElem_cons_zero, List.getElem_cons_succ, List.setIfInBounds_toArray, List.set_cons_zero, List.set_cons_succ]
    refine wpAny_take (i := 6) (v := ?v_6) rfl (by kernel_rfl) (by kernel_rfl) (by kernel_rfl) (fun _ _ _ h => h) (Or.inl ⟨by rfl, ?hy_6⟩) ?rest_6
    case hy_6 => (intro w_; go_simp; try with_reducible rfl)
    simp only [Act.put, List.getElem_toArray, List.getElem_cons_zero, List.getElem_cons_succ, List.setIfInBounds_toArray, List.set_cons_zero, List.set_cons_succ]
    refine wpAny_take (i := 7) (v := ?v_7) rfl (by kernel_rfl) (by kernel_rfl) (by kernel_rfl) (fun _ _ _ h => h) (Or.inl ⟨by rfl, ?hy_7⟩) ?rest_7
    case hy_7 => (intro w_; go_simp; try with_reducible rfl)
    simp only [Act.put, List.getElem_toArray, List.getElem_cons_zero, List.getElem_cons_succ, List.setIfInBounds_toArray, List.set_cons_zero, List.set_cons_succ]
    refine wpAny_take (i := 8) (v := ?v_8) rfl (by kernel_rfl) (by kernel_rfl) (by kernel_rfl) (fun _ _ _ h => h) (Or.inl ⟨by rfl, ?hy_8⟩) ?rest_8
    case hy_8 => (intro w_; go_simp; try with_reducible rfl)
    simp only [Act.put, List.getElem_toArray, List.getElem_cons_zero, List.getElem_cons_succ, List.setIfInBounds_toArray, List.set_cons_zero, List.set_cons_succ]
    refine wpAny_take (i := 9) (v := ?v_9) rfl (by kernel_rfl) (by kernel_rfl) (by kernel_rfl) (fun _ _ _ h => h) (Or.inl ⟨by rfl, ?hy_9⟩) ?rest_9
    case hy_9 => (intro w_; go_simp; try with_reducible rfl)
    simp only [Act.put, List.getElem_toArray, List.getElem_cons_zero, List.getElem_cons_succ, List.setIfInBounds_toArray, List.set_cons_zero, List.set_cons_succ]
    refine wpAny_take (i := 10) (v := ?v_10) rfl (by kernel_rfl) (by kernel_rfl) (by kernel_rfl) (fun _ _ _ h => h) (Or.inl ⟨by rfl, ?hy_10⟩) ?rest_10
    case hy_10 => (intro w_; go_simp; try with_reducible rfl)
    simp only [Act.put, List.getElem_toArray, List.getElem_cons_zero, List.getElem_cons_succ, List.setIfInBounds_toArray, List.set_cons_zero, List.set_cons_succ]
    refine wpAny_take (i := 11) (v := ?v_11) rfl (by kernel_rfl) (by kernel_rfl) (by kernel_rfl) (fun _ _ _ h => h) (Or.inl ⟨by rfl, ?hy_11⟩) ?rest_11
    case hy_11 => (intro w_; go_simp; try with_reducible rfl)
    simp only [Act.put, List.getElem_toArray, List.getElem_cons_zero, List.getElem_cons_succ, List.setIfInBounds_toArray, List.set_cons_zero, List.set_cons_succ]
    refine wpAny_take (i := 12) (v := ?v_12) rfl (by kernel_rfl) (by kernel_rfl) (by kernel_rfl) (fun _ _ _ h => h) (Or.inl ⟨by rfl, ?hy_12⟩) ?rest_12
    case hy_12 => (intro w_; go_simp; try with_reducible rfl)
    simp only [Act.put, List.getElem_toArray, List.getElem_cons_zero, List.getElem_cons_succ, List.setIfInBounds_toArray, List.set_cons_zero, List.set_cons_succ]
    refine wpAny_take (i := 14) (v := ?v_13) rfl (by kernel_rfl) (by kernel_rfl) (by kernel_rfl) (fun _ _ _ h => h) (Or.inl ⟨by rfl, ?hy_13⟩) ?rest_13
    case hy_13 => (intro w_; go_simp; try with_reducible rfl)
    simp only [Act.put, List.getElem_toArray, List.getElem_cons_zero, List.getElem_cons_succ, List.setIfInBounds_toArray, List.set_cons_zero, List.set_cons_succ]
    refine wpAny_take (i := 15) (v := ?v_14) rfl (by kernel_rfl) (by kernel_rfl) (by kernel_rfl) (fun _ _ _ h => h) (Or.inl ⟨by rfl, ?hy_14⟩) ?rest_14
    case hy_14 => (intro w_; go_simp; try with_reducible rfl)
    simp only [Act.put, List.getElem_toArray, List.getElem_cons_zero, List.getElem_cons_succ, List.setIfInBounds_toArray, List.set_cons_zero, List.set_cons_succ]
    refine wpAny_take (i := 16) (v := ?v_15) rfl (by kernel_rfl) (by kernel_rfl) (by kernel_rfl) (fun _ _ _ h => h) (Or.inl ⟨by rfl, ?hy_15⟩) ?rest_15
    case hy_15 => (intro w_; go_simp; try with_reducible rfl)
    simp only [Act.put, List.getElem_toArray, List.getElem_cons_zero, List.getElem_cons_succ, List.setIfInBounds_toArray, List.set_cons_zero, List.set_cons_succ]
    refine wpAny_take (i := 17) (v := ?v_16) rfl (by kernel_rfl) (by kernel_rfl) (by kernel_rfl) (fun _ _ _ h => h) (Or.inl ⟨by rfl, ?hy_16⟩) ?rest_16
    case hy_16 => (intro w_; go_simp; try with_reducible rfl)
    simp only [Act.put, List.getElem_toArray, List.getElem_cons_zero, List.getElem_cons_succ, List.setIfInBounds_toArray, List.set_cons_zero, List.set_cons_succ]
    refine wpAny_take (i := 18) (v := ?v_17) rfl (by kernel_rfl) (by kernel_rfl) (by kernel_rfl) (fun _ _ _ h => h) (Or.inl ⟨by rfl, ?hy_17⟩) ?rest_17
    case hy_17 => (intro w_; go_simp; try with_reducible rfl)
    simp only [Act.put, List.getElem_toArray, List.getElem_cons_zero, List.getElem_cons_succ, List.setIfInBounds_toArray, List.set_cons_zero, List.set_cons_succ]
    refine wpAny_ready (rs := [13, 19]) (by kernel_rfl) (by simp) ?_
    refine (AllReady.cons rfl (fun K_ hK_ => ?_) (AllReady.cons rfl (fun K_ hK_ => ?_) AllReady.nil))
    rw [if_pos (by rfl)]
    refine' wp_load_mid _ _ rfl _ _ rfl _ _ ?hc_18 ?hu_18 ?hd_18 ?hi_18 ?rest_18
    case hc_18 => exact rb
    case hu_18 => exact hu
    case hd_18 => rfl
    case hi_18 => exact iy
    simp only [Act.put, List.getElem_toArray, List.getElem_cons_zero, List.getElem_cons_succ, List.setIfInBounds_toArray, List.set_cons_zero, List.set_cons_succ]
    refine hK_ _ _ ?_
    clear hK_ K_
    refine wpAny_ready (rs := [19]) (by kernel_rfl) (by simp) ?_
    refine (AllReady.cons rfl (fun K_ hK_ => ?_) AllReady.nil)
    rw [if_pos (by rfl)]
    refine' wp_load_mid _ _ rfl _ _ rfl _ _ ?hc_19 ?hu_19 ?hd_19 ?hi_19 ?rest_19
    case hc_19 => exact ra
    case hu_19 => exact hu
    case hd_19 => rfl
    case hi_19 => exact ix
    simp only [Act.put, List.getElem_toArray, List.getElem_cons_zero, List.getElem_cons_succ, List.setIfInBounds_toArray, List.set_cons_zero, List.set_cons_succ]
    refine hK_ _ _ ?_
    clear hK_ K_
    refine wpAny_take (i := 20) (v := ?v_20) rfl (by kernel_rfl) (by kernel_rfl) (by kernel_rfl) (fun _ _ _ h => h) (Or.inl ⟨by rfl, ?hy_20⟩) ?rest_20
    case hy_20 => (intro w_; go_simp; try with_reducible rfl)
    simp only [Act.put, List.getElem_toArray, List.getElem_cons_zero, List.getElem_cons_succ, List.setIfInBounds_toArray, List.set_cons_zero, List.set_cons_succ]
    refine wpAny_ready (rs := [21]) (by kernel_rfl) (by simp) ?_
    refine (AllReady.cons rfl (fun K_ hK_ => ?_) AllReady.nil)
    rw [if_pos (by rfl)]
    refine wp_store_mid _ _ _ rfl _ _ (List.toArray _) rfl rfl ?hc_21 ?hi_21 (all_oneCell_toArray oy) ?rest_21
    case hc_21 => (rw [List.size_toArray, ly]; exact ta)
    case hi_21 => (rw [List.size_toArray]; exact iy)
    simp only [Act.put, List.getElem_toArray, List.getElem_cons_zero, List.getElem_cons_succ, List.setIfInBounds_toArray, List.set_cons_zero, List.set_cons_succ, List.toList_toArray]
    refine hK_ _ _ ?_
    clear hK_ K_
    refine wpAny_take (i := 22) (v := ?v_22) rfl (by kernel_rfl) (by kernel_rfl) (by kernel_rfl) (fun _ _ _ h => h) (Or.inl ⟨by rfl, ?hy_22⟩) ?rest_22
    case hy_22 => (intro w_; go_simp; try with_reducible rfl)
    simp only [Act.put, List.getElem_toArray, List.getElem_cons_zero, List.getElem_cons_succ, List.setIfInBounds_toArray, List.set_cons_zero, List.set_cons_succ]
    refine wpAny_ready (rs := [23]) (by kernel_rfl) (by simp) ?_
    refine (AllReady.cons rfl (fun K_ hK_ => ?_) AllReady.nil)
    rw [if_pos (by rfl)]
    refine wp_store_mid _ _ _ rfl _ _ (List.toArray _) rfl rfl ?hc_23 ?hi_23 (all_oneCell_toArray ox) ?rest_23
    case hc_23 => (rw [List.size_toArray, lx]; exact tb2)
    case hi_23 => (rw [List.size_toArray]; exact ix)
    simp only [Act.put, List.getElem_toArray, List.getElem_cons_zero, List.getElem_cons_succ, List.setIfInBounds_toArray, List.set_cons_zero, List.set_cons_succ, List.toList_toArray]
    refine hK_ _ _ ?_
    clear hK_ K_
    refine wpAny_done (by kernel_rfl) ?_ _
    rotate_left
    rw [if_pos (by rfl)]
    refine' wp_load_mid _ _ rfl _ _ rfl _ _ ?hc_24 ?hu_24 ?hd_24 ?hi_24 ?rest_24
    case hc_24 => exact ra
    case hu_24 => exact hu
    case hd_24 => rfl
    case hi_24 => exact ix
    simp only [Act.put, List.getElem_toArray, List.getElem_cons_zero, List.getElem_cons_succ, List.setIfInBounds_toArray, List.set_cons_zero, List.set_cons_succ]
    refine hK_ _ _ ?_
    clear hK_ K_
    refine wpAny_ready (rs := [13]) (by kernel_rfl) (by simp) ?_
    refine (AllReady.cons rfl (fun K_ hK_ => ?_) AllReady.nil)
    rw [if_pos (by rfl)]
    refine' wp_load_mid _ _ rfl _ _ rfl _ _ ?hc_25 ?hu_25 ?hd_25 ?hi_25 ?rest_25
    case hc_25 => exact rb
    case hu_25 => exact hu
    case hd_25 => rfl
    case hi_25 => exact iy
    simp only [Act.put, List.getElem_toArray, List.getElem_cons_zero, List.getElem_cons_succ, List.setIfInBounds_toArray, List.set_cons_zero, List.set_cons_succ]
    refine hK_ _ _ ?_
    clear hK_ K_
    refine wpAny_take (i := 20) (v := ?v_26) rfl (by kernel_rfl) (by kernel_rfl) (by kernel_rfl) (fun _ _ _ h => h) (Or.inl ⟨by rfl, ?hy_26⟩) ?rest_26
    case hy_26 => (intro w_; go_simp; try with_reducible rfl)
    simp only [Act.put, List.getElem_toArray, List.getElem_cons_zero, List.getElem_cons_succ, List.setIfInBounds_toArray, List.set_cons_zero, List.set_cons_succ]
    refine wpAny_ready (rs := [21]) (by kernel_rfl) (by simp) ?_
    refine (AllReady.cons rfl (fun K_ hK_ => ?_) AllReady.nil)
    rw [if_pos (by rfl)]
    refine wp_store_mid _ _ _ rfl _ _ (List.toArray _) rfl rfl ?hc_27 ?hi_27 (all_oneCell_toArray oy) ?rest_27
    case hc_27 => (rw [List.size_toArray, ly]; exact ta)
    case hi_27 => (rw [List.size_toArray]; exact iy)
    simp only [Act.put, List.getElem_toArray, List.getElem_cons_zero, List.getElem_cons_succ, List.setIfInBounds_toArray, List.set_cons_zero, List.set_cons_succ, List.toList_toArray]
    refine hK_ _ _ ?_
    clear hK_ K_
    refine wpAny_take (i := 22) (v := ?v_28) rfl (by kernel_rfl) (by kernel_rfl) (by kernel_rfl) (fun _ _ _ h => h) (Or.inl ⟨by rfl, ?hy_28⟩) ?rest_28
    case hy_28 => (intro w_; go_simp; try with_reducible rfl)
    simp only [Act.put, List.getElem_toArray, List.getElem_cons_zero, List.getElem_cons_succ, List.setIfInBounds_toArray, List.set_cons_zero, List.set_cons_succ]
    refine wpAny_ready (rs := [23]) (by kernel_rfl) (by simp) ?_
    refine (AllReady.cons rfl (fun K_ hK_ => ?_) AllReady.nil)
    rw [if_pos (by rfl)]
    refine wp_store_mid _ _ _ rfl _ _ (List.toArray _) rfl rfl ?hc_29 ?hi_29 (all_oneCell_toArray ox) ?rest_29
    case hc_29 => (rw [List.size_toArray, lx]; exact tb2)
    case hi_29 => (rw [List.size_toArray]; exact ix)
    simp only [Act.put, List.getElem_toArray, List.getElem_cons_zero, List.getElem_cons_succ, List.setIfInBounds_toArray, List.set_cons_zero, List.set_cons_succ, List.toList_toArray]
    refine hK_ _ _ ?_
    clear hK_ K_
    refine wpAny_done (by kernel_rfl) ?_ _
    rotate_left
    all_goals
     clear ra rb ta tb tb2 ix iy ox oy lx ly hu g1 g2 g3 g4 u1 u2 t1 t2 hap hap2
     have hsw := HSW.out
     generalize (wr.drew.setCells g ((a + i) * 14) y.row).setCells g ((b + i) * 14) x.row = W9 at hsw ⊢
     have HS9 := Lib.hid hsw
     clear hsw HSW
     go_wp2_with fail
     go_roundw
     case rel => exact ⟨i + 1, hlt, by first | rfl | exact congrArg (Value.int .i64) (wrap64_up i HIB.out), HS9⟩
     case measure => first | (rw [wrap64_up i HIB.out]; show n - (i + 1) < n - i; omega) | (show n - (i + 1) < n - i; omega)
  · obtain rfl : i = n := by omega
    have hS := HS.out
    rw [show Y.take i = Y by rw [HNX.out, HXY.out, List.take_length], show X.drop i = [] by rw [HNX.out, List.drop_length], show X.take i = X by rw [HNX.out, List.take_length], show Y.drop i = [] by rw [HNX.out, HXY.out, List.drop_length], List.append_nil, List.append_nil] at hS
    have HS9 := Lib.hid hS
    clear hS HS
    go_wp2
    refine bodyPost_end (v := .tuple #[]) (by simp [results, Tryz.f279, go_sem]) rfl ⟨rfl, HS9.out⟩
set_option maxHeartbeats 1000000 in
theorem rotate_in (w0 : World) (g : Nat) (A X Y B : List PEl) (N cap : Nat) (f : Value) (W : World) (hX : X ≠ []) (hY : Y ≠ []) (hN : N = (A ++ X ++ Y ++ B).length) (hcap : N ≤ 1048576) (h : SW w0 g (A ++ X ++ Y ++ B) W) :
 Calls Tryz.prog 246 #[.slice (some ⟨g, 0, none⟩) N cap, .int .i64 A.length, .int .i64 (A.length + X.length : Nat), .int .i64 (A.length + X.length + Y.length : Nat), f] W fun e w' => e = .returned (.tuple #[]) ∧ SW w0 g (A ++ Y ++ X ++ B) w' := by
 obtain ⟨a, ha⟩ : ∃ a, a = A.length := ⟨_, rfl⟩
 obtain ⟨m, hm⟩ : ∃ m, m = A.length + X.length := ⟨_, rfl⟩
 obtain ⟨b, hb⟩ : ∃ b, b = A.length + X.length + Y.length := ⟨_, rfl⟩
 have hlx : 0 < X.length := List.length_pos_iff.2 hX
 have hly : 0 < Y.length := List.length_pos_iff.2 hY
 rw [← hb, ← hm, ← ha]
 have hbN : b ≤ N := by rw [hN]; simp; omega
 have ham : a ≤ m := by omega
 have hmb : m ≤ b := by omega
 have hi0 : (m : Int) - (a : Int) = (X.length : Int) := by omega
 have hj0 : (b : Int) - (m : Int) = (Y.length : Int) := by omega
 have HA := Lib.hid ha
 have HM := Lib.hid hm
 have HN := Lib.hid hN
 have H := Lib.hid h
 have HLX := Lib.hid hlx
 have HLY := Lib.hid hly
 clear hN ha hm hb h hX hY hlx hly
 go_enter Tryz.func246, Tryz.ntmps246
 go_wp2
 go_loopw [10, 11] (fun vi vj wr => ∃ (A' X' Y' B' : List PEl) (i j : Nat), vi = .int .i64 i ∧ vj = .int .i64 j ∧ 1 ≤ i ∧ 1 ≤ j ∧ i ≤ m ∧ m + j ≤ N ∧ Hid (X'.length = i ∧ Y'.length = j ∧ A'.length + i = m) ∧ Hid (A' ++ Y' ++ X' ++ B' = A ++ Y ++ X ++ B) ∧ Hid (SW w0 g (A' ++ X' ++ Y' ++ B') wr) ∧ Hid (N = (A' ++ X' ++ Y' ++ B').length)) (fun vi vj _ => (intOf vi).toNat + (intOf vj).toNat)
 case atStart => exact ⟨A, X, Y, B, X.length, Y.length, by first | rfl | simp [hi0], by first | rfl | simp [hj0], HLX.out, HLY.out, by omega, by omega, Lib.hid ⟨rfl, rfl, HM.out.symm⟩, Lib.hid rfl, H, HN⟩
 case round =>
  obtain ⟨A', X', Y', B', i, j, rfl, rfl, hi1, hj1, him, hjN, HL, HE, HS, HNN⟩ := hrel
  obtain ⟨l1, l2, l3⟩ := HL.out
  have g1 : (0 : Int) ≤ (m : Int) - (i : Int) := by omega
  by_cases hij : i = j
  · subst hij
    have hC := swapRange_in w0 g A' X' [] Y' B' N cap f wr (by omega) (by rw [List.append_nil]; exact HNN.out) hcap (by rw [List.append_nil]; exact HS.out)
    rw [List.append_nil, HE.out, l1, show ((A'.length : Nat) : Int) = (m : Int) - (i : Int) by omega, show A'.length + i + ([] : List PEl).length = m by simp; omega] at hC
    have HC := Lib.hid hC
    clear hC l1 l2 l3
    go_wp2_with (first | (go_at_call 279; (with_reducible refine HC.out.mono ?_); rintro e w2 ⟨rfl, hS2⟩))
    refine bodyPost_end (v := .tuple #[]) (by simp [results, Tryz.f246, go_sem]) rfl ⟨rfl, hS2⟩
  · by_cases hgt : j < i
    · have hb1 : ((i : Int) == (j : Int)) = false := by simp; omega
      have hne : ((i : Int) != (j : Int)) = true := by simp; omega
      have hgi : (j : Int) < (i : Int) := by omega
      have hs1 : (i : Int) - (j : Int) = ((i - j : Nat) : Int) := by omega
      have hpq : X' = X'.take j ++ X'.drop j := (List.take_append_drop _ _).symm
      have hlp : (X'.take j).length = j := by rw [List.length_take]; omega
      have hlq : (X'.drop j).length = i - j := by rw [List.length_drop]; omega
      have hC := swapRange_in w0 g A' (X'.take j) (X'.drop j) Y' B' N cap f wr (by omega) (by have := HNN.out; rw [hpq] at this; simpa using this) hcap (by have := HS.out; rw [hpq] at this; simpa using this)
      rw [hlp, hlq, show A'.length + j + (i - j) = m by omega, show ((A'.length : Nat) : Int) = (m : Int) - (i : Int) by omega] at hC
      have HC := Lib.hid hC
      have HR : Hid (∀ w2, SW w0 g (A' ++ Y' ++ X'.drop j ++ X'.take j ++ B') w2 → ∃ (A2 X2 Y2 B2 : List PEl), Hid (X2.length = i - j ∧ Y2.length = j ∧ A2.length + (i - j) = m) ∧ Hid (A2 ++ Y2 ++ X2 ++ B2 = A ++ Y ++ X ++ B) ∧ Hid (SW w0 g (A2 ++ X2 ++ Y2 ++ B2) w2) ∧ Hid (N = (A2 ++ X2 ++ Y2 ++ B2).length)) := Lib.hid (fun w2 h2 => ⟨A' ++ Y', X'.drop j, X'.take j, B', Lib.hid ⟨hlq, hlp, by rw [List.length_append]; omega⟩, Lib.hid (by
       have := HE.out
       rw [hpq] at this
       simpa using this), Lib.hid h2, Lib.hid (by
       have := HNN.out
       simp only [List.length_append, hlp, hlq] at this ⊢
       omega)⟩)
      clear hC l1 l2 l3 hpq hlp hlq
      go_wp2_with (first | (go_at_call 279; (with_reducible refine HC.out.mono ?_); rintro e w2 ⟨rfl, hS2⟩; have HS2 := Lib.hid hS2; clear hS2))
      go_roundw
      case rel =>
       obtain ⟨A2, X2, Y2, B2, r1, r2, r3, r4⟩ := HR.out _ HS2.out
       exact ⟨A2, X2, Y2, B2, i - j, j, by first | rfl | (rw [hs1]), rfl, by omega, by omega, by omega, by omega, r1, r2, r3, r4⟩
      case measure => show (i - j) + j < i + j; omega
    · have hb1 : ((i : Int) == (j : Int)) = false := by simp; omega
      have hne : ((i : Int) != (j : Int)) = true := by simp; omega
      have hgi : ¬ (j : Int) < (i : Int) := by omega
      have hs1 : (j : Int) - (i : Int) = ((j - i : Nat) : Int) := by omega
      have hpq : Y' = Y'.take (j - i) ++ Y'.drop (j - i) := (List.take_append_drop _ _).symm
      have hlp : (Y'.take (j - i)).length = j - i := by rw [List.length_take]; omega
      have hlq : (Y'.drop (j - i)).length = i := by rw [List.length_drop]; omega
      have hC := swapRange_in w0 g A' X' (Y'.take (j - i)) (Y'.drop (j - i)) B' N cap f wr (by omega) (by have := HNN.out; rw [hpq] at this; simpa using this) hcap (by have := HS.out; rw [hpq] at this; simpa using this)
      rw [hlp, l1, show ((A'.length + i + (j - i) : Nat) : Int) = (m : Int) + (j : Int) - (i : Int) by omega, show ((A'.length : Nat) : Int) = (m : Int) - (i : Int) by omega] at hC
      have HC := Lib.hid hC
      have g2 : (m : Int) + (j : Int) ≤ 1048576 := by omega
      have HR : Hid (∀ w2, SW w0 g (A' ++ Y'.drop (j - i) ++ Y'.take (j - i) ++ X' ++ B') w2 → ∃ (A2 X2 Y2 B2 : List PEl), Hid (X2.length = i ∧ Y2.length = j - i ∧ A2.length + i = m) ∧ Hid (A2 ++ Y2 ++ X2 ++ B2 = A ++ Y ++ X ++ B) ∧ Hid (SW w0 g (A2 ++ X2 ++ Y2 ++ B2) w2) ∧ Hid (N = (A2 ++ X2 ++ Y2 ++ B2).length)) := Lib.hid (fun w2 h2 => ⟨A', Y'.drop (j - i), Y'.take (j - i), X' ++ B', Lib.hid ⟨hlq, hlp, l3⟩, Lib.hid (by
       have := HE.out
       rw [hpq] at this
       simpa using this), Lib.hid (by simpa using h2), Lib.hid (by
       have := HNN.out
       simp only [List.length_append, hlp, hlq] at this ⊢
       omega)⟩)
      clear hC l1 l2 l3 hpq hlp hlq
      go_wp2_with (first | (go_at_call 279; (with_reducible refine HC.out.mono ?_); rintro e w2 ⟨rfl, hS2⟩; have HS2 := Lib.hid hS2; clear hS2))
      go_roundw
      case rel =>
       obtain ⟨A2, X2, Y2, B2, r1, r2, r3, r4⟩ := HR.out _ HS2.out
       exact ⟨A2, X2, Y2, B2, i, j - i, rfl, by first | rfl | (rw [hs1]), by omega, by omega, by omega, by omega, r1, r2, r3, r4⟩
      case measure => show i + (j - i) < i + j; omega
def CmpIn (w0 : World) (g cb : Nat) (U : PEl → Prop) : Prop := ∀ W, KeepG w0 g W → ∀ x y, U x → U y → Calls Tryz.prog 120 #[.agg x.row.toArray, .agg y.row.toArray, .pointer (some ⟨cb, 0, none⟩)] W fun e w' => e = .returned (.int .i64 (vord x.key y.key)) ∧ Below W.heap.size W w'
theorem sorted_mid {L R : List PEl} {x : PEl} (h : (L ++ R).Pairwise elt) (hl : ∀ y ∈ L, elt y x) (hr : ∀ y ∈ R, elt x y) : (L ++ x :: R).Pairwise elt := by
 rw [List.pairwise_append] at h ⊢
 refine ⟨h.1, List.pairwise_cons.2 ⟨hr, h.2.1⟩, fun a ha b hb => ?_⟩
 rcases List.mem_cons.1 hb with rfl | hb
 · exact hl a ha
 · exact h.2.2 a ha b hb
theorem last_below {L : List PEl} {x y : PEl} (h : (L ++ [y]).Pairwise elt) (hy : elt y x) : ∀ z ∈ L ++ [y], elt z x := fun z hz => by
 rcases List.mem_append.1 hz with hz | hz
 · exact elt_trans ((List.pairwise_append.1 h).2.2 z hz y List.mem_cons_self) hy
 · rw [List.mem_singleton.1 hz]; exact hy
structure InsAt (w0 : World) (g : Nat) (A S B : List PEl) (k : Nat) (W : World) : Prop where
 ex : ∃ S1 : List PEl, S1.Perm (S.take k) ∧ S1.Pairwise elt ∧ SW w0 g (A ++ S1 ++ S.drop k ++ B) W
structure InsIn (w0 : World) (g : Nat) (A S1 T : List PEl) (x : PEl) (l : Nat) (W : World) : Prop where
 ex : ∃ L R : List PEl, L.length = l ∧ L ++ R = S1 ∧ (∀ r ∈ R, elt x r) ∧ SW w0 g (A ++ L ++ x :: R ++ T) W
theorem InsIn.stop {w0 : World} {g : Nat} {A S S1 B : List PEl} {k l : Nat} {W : World} (hk : k < S.length) (hp : S1.Perm (S.take k)) (hs : S1.Pairwise elt) (h : InsIn w0 g A S1 (S.drop (k + 1) ++ B) S[k] l W)
 (hstop : ∀ L R : List PEl, L.length = l → L ++ R = S1 → ∀ y ∈ L, elt y S[k]) : InsAt w0 g A S B (k + 1) W := by
 obtain ⟨L, R, h1, h2, h3, h4⟩ := h.ex
 refine ⟨L ++ S[k] :: R, ?_, sorted_mid (by rw [h2]; exact hs) (hstop L R h1 h2) h3, by simpa using h4⟩
 rw [List.take_succ_eq_append_getElem hk]
 exact (List.perm_middle.trans ((h2 ▸ hp).cons _)).trans (List.perm_append_singleton _ _).symm
end Go.Proofs.YthigbklhngihkaaGreatDoor.P

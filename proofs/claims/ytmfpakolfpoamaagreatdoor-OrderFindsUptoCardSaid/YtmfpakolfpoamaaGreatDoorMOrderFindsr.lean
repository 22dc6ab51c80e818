/- Texts of this claim, one behind the other. -/
import Derived.Test.YtmfpakolfpoamaaGreatDoorMOrderFindsq
import Derived.Test.YtmfpakolfpoamaaGreatDoorMOrderFindsp
import Derived.StillTailTactics
import Derived.WalkLawsBesides
import Derived.Test.YtmfpakolfpoamaaGreatDoorMOrderFindsn
import Derived.Deep.RegionLaw
import Derived.Deep.MidRow
set_option maxRecDepth 100000
namespace Go.Proofs.YtmfpakolfpoamaaGreatDoor.P
set_option linter.unusedVariables false
set_option linter.unusedSimpArgs false
open Go.RowKit Go.Proofs.YtmfpakolfpoamaaGreatDoorW.PrintWords Go.Proofs.YtmfpakolfpoamaaGreatDoorW.PrintMore Go.Proofs.YtmfpakolfpoamaaGreatDoorW.PrintLast
set_option maxHeartbeats 1000000 in
theorem Same_any : ∀ (x : V) (cs : List Value) (y : V) (ds : List Value) (w : World), k34.K w x cs → k34.K w y ds →
 Calls Tryz.prog 20 #[.agg cs.toArray, .agg ds.toArray] w fun e w' => e = .returned (.bool (same x y)) ∧ Below w.heap.size w w' := by
 refine V.ind fun x ih => ?_
 intro cs y ds w hKx hKy
 obtain ⟨A2, c2, A5, c5, A6, c6, rfl, l2, g2, l5, g5, l6, g6⟩ := k34_open hKx
 obtain ⟨B2, d2, B5, d5, B6, d6, rfl, m2, r2, m5, r5, m6, r6⟩ := k34_open hKy
 have HX2 := Lib.hid g2
 have HX5 := Lib.hid g5
 have HX6 := Lib.hid g6
 have HY2 := Lib.hid r2
 have HY5 := Lib.hid r5
 have HY6 := Lib.hid r6
 have hl5 := g5.2.1
 have hl6 := g6.2.1
 clear hKx hKy g2 g5 g6 r2 r5 r6 l2 l5 l6 m2 m5 m6
 have IH := Lib.hid ih
 clear ih
 have hB0 : Below w.heap.size w ((w.alloc (Obj.cells #[Value.int IntKind.i64 x.f0, Value.bool x.f1.f0, Value.slice A2 x.f1.f1.length c2, Value.int IntKind.i64 x.f1.f2, Value.string x.f2, Value.slice A5 x.f3.length c5, Value.slice A6 x.f4.length c6] 34 (0, 0))).alloc (Obj.cells #[Value.int IntKind.i64 y.f0, Value.bool y.f1.f0, Value.slice B2 y.f1.f1.length d2, Value.int IntKind.i64 y.f1.f2, Value.string y.f2, Value.slice B5 y.f3.length d5, Value.slice B6 y.f4.length d6] 34 (0, 0))) := ((Below.refl _ _).alloc (Nat.le_refl _) _).alloc (by simp) _
 have g1 := blk_new (w.alloc (Obj.cells #[Value.int IntKind.i64 x.f0, Value.bool x.f1.f0, Value.slice A2 x.f1.f1.length c2, Value.int IntKind.i64 x.f1.f2, Value.string x.f2, Value.slice A5 x.f3.length c5, Value.slice A6 x.f4.length c6] 34 (0, 0))) (Obj.cells #[Value.int IntKind.i64 y.f0, Value.bool y.f1.f0, Value.slice B2 y.f1.f1.length d2, Value.int IntKind.i64 y.f1.f2, Value.string y.f2, Value.slice B5 y.f3.length d5, Value.slice B6 y.f4.length d6] 34 (0, 0))
 have g0 := blk_new w (Obj.cells #[Value.int IntKind.i64 x.f0, Value.bool x.f1.f0, Value.slice A2 x.f1.f1.length c2, Value.int IntKind.i64 x.f1.f2, Value.string x.f2, Value.slice A5 x.f3.length c5, Value.slice A6 x.f4.length c6] 34 (0, 0))
 replace g0 := (((Below.refl _ (w.alloc (Obj.cells #[Value.int IntKind.i64 x.f0, Value.bool x.f1.f0, Value.slice A2 x.f1.f1.length c2, Value.int IntKind.i64 x.f1.f2, Value.string x.f2, Value.slice A5 x.f3.length c5, Value.slice A6 x.f4.length c6] 34 (0, 0)))).alloc (Nat.le_refl _) (Obj.cells #[Value.int IntKind.i64 y.f0, Value.bool y.f1.f0, Value.slice B2 y.f1.f1.length d2, Value.int IntKind.i64 y.f1.f2, Value.string y.f2, Value.slice B5 y.f3.length d5, Value.slice B6 y.f4.length d6] 34 (0, 0))).block _ (blk_lt g0)).trans g0
 rw [show (w.alloc (Obj.cells #[Value.int IntKind.i64 x.f0, Value.bool x.f1.f0, Value.slice A2 x.f1.f1.length c2, Value.int IntKind.i64 x.f1.f2, Value.string x.f2, Value.slice A5 x.f3.length c5, Value.slice A6 x.f4.length c6] 34 (0, 0))).heap.size = w.heap.size + 1 by simp] at g1
 have G := Lib.hid (And.intro g0 g1)
 have HB0 := Lib.hid hB0
 have HLE : Hid (w.heap.size ≤ ((w.alloc (Obj.cells #[Value.int IntKind.i64 x.f0, Value.bool x.f1.f0, Value.slice A2 x.f1.f1.length c2, Value.int IntKind.i64 x.f1.f2, Value.string x.f2, Value.slice A5 x.f3.length c5, Value.slice A6 x.f4.length c6] 34 (0, 0))).alloc (Obj.cells #[Value.int IntKind.i64 y.f0, Value.bool y.f1.f0, Value.slice B2 y.f1.f1.length d2, Value.int IntKind.i64 y.f1.f2, Value.string y.f2, Value.slice B5 y.f3.length d5, Value.slice B6 y.f4.length d6] 34 (0, 0))).heap.size) := Lib.hid hB0.size
 clear g0 g1 hB0
 cases h0 : (x.f0 == y.f0) with
 | false =>
  have h0b : (x.f0 != y.f0) = true := by simp [bne, h0]
  have hn : x ≠ y := by intro h; rw [h] at h0; simp at h0
  rw [same_ne hn]
  clear hn
  go_enter Tryz.func20, Tryz.ntmps20
  go_wp2
  go_ret
  exact ⟨rfl, HB0.out⟩
 | true =>
  have h0b : (x.f0 != y.f0) = false := by simp [bne, h0]
  cases h1 : same x.f1 y.f1 with
  | false =>
   have hn : x ≠ y := by intro h; rw [h, same_refl] at h1; cases h1
   rw [same_ne hn]
   clear hn
   go_enter Tryz.func20, Tryz.ntmps20
   go_wp2_with (first | (go_at_call 45; (with_reducible refine (dsame_any x.f1 y.f1 _ _ _ _ _ ?ha ?hb).mono ?_); (case ha => exact Kd.C_below HX2.out HB0.out); (case hb => exact Kd.C_below HY2.out HB0.out); rw [h1]; rintro e w1 ⟨rfl, hB1⟩; obtain ⟨hcl0, hfz0⟩ := bcells G.out.1 hB1; obtain ⟨hcl1, hfz1⟩ := bcells G.out.2 hB1; have hB2 := HB0.out.trans (hB1.mono HLE.out)))
   go_ret
   exact ⟨rfl, hB2⟩
  | true =>
   cases h2 : (x.f2.toList == y.f2.toList) with
   | false =>
    have h2b : (x.f2.toList != y.f2.toList) = true := by simp only [bne, h2]; rfl
    have hn : x ≠ y := by intro h; rw [h] at h2; simp at h2
    rw [same_ne hn]
    clear hn
    go_enter Tryz.func20, Tryz.ntmps20
    go_wp2_with (first | (go_at_call 45; (with_reducible refine (dsame_any x.f1 y.f1 _ _ _ _ _ ?ha ?hb).mono ?_); (case ha => exact Kd.C_below HX2.out HB0.out); (case hb => exact Kd.C_below HY2.out HB0.out); rw [h1]; rintro e w1 ⟨rfl, hB1⟩; obtain ⟨hcl0, hfz0⟩ := bcells G.out.1 hB1; obtain ⟨hcl1, hfz1⟩ := bcells G.out.2 hB1; have hB2 := HB0.out.trans (hB1.mono HLE.out)))
    go_ret
    exact ⟨rfl, hB2⟩
   | true =>
    have h2b : (x.f2.toList != y.f2.toList) = false := by simp only [bne, h2]; rfl
    cases h3 : ((x.f3.length : Int) == (y.f3.length : Int)) with
    | false =>
     have h3b : ((x.f3.length : Int) != (y.f3.length : Int)) = true := by simp [bne, h3]
     have hn : x ≠ y := by intro h; rw [h] at h3; simp at h3
     rw [same_ne hn]
     clear hn
     go_enter Tryz.func20, Tryz.ntmps20
     go_wp2_with (first | (go_at_call 45; (with_reducible refine (dsame_any x.f1 y.f1 _ _ _ _ _ ?ha ?hb).mono ?_); (case ha => exact Kd.C_below HX2.out HB0.out); (case hb => exact Kd.C_below HY2.out HB0.out); rw [h1]; rintro e w1 ⟨rfl, hB1⟩; obtain ⟨hcl0, hfz0⟩ := bcells G.out.1 hB1; obtain ⟨hcl1, hfz1⟩ := bcells G.out.2 hB1; have hB2 := HB0.out.trans (hB1.mono HLE.out)))
     go_ret
     exact ⟨rfl, hB2⟩
    | true =>
     have h3b : ((x.f3.length : Int) != (y.f3.length : Int)) = false := by simp [bne, h3]
     cases h4 : ((x.f4.length : Int) == (y.f4.length : Int)) with
     | false =>
      have h4b : ((x.f4.length : Int) != (y.f4.length : Int)) = true := by simp [bne, h4]
      have hn : x ≠ y := by intro h; rw [h] at h4; simp at h4
      rw [same_ne hn]
      clear hn
      go_enter Tryz.func20, Tryz.ntmps20
      go_wp2_with (first | (go_at_call 45; (with_reducible refine (dsame_any x.f1 y.f1 _ _ _ _ _ ?ha ?hb).mono ?_); (case ha => exact Kd.C_below HX2.out HB0.out); (case hb => exact Kd.C_below HY2.out HB0.out); rw [h1]; rintro e w1 ⟨rfl, hB1⟩; obtain ⟨hcl0, hfz0⟩ := bcells G.out.1 hB1; obtain ⟨hcl1, hfz1⟩ := bcells G.out.2 hB1; have hB2 := HB0.out.trans (hB1.mono HLE.out)))
      go_ret
      exact ⟨rfl, hB2⟩
     | true =>
      have h4b : ((x.f4.length : Int) != (y.f4.length : Int)) = false := by simp [bne, h4]
      have hq3 : x.f3.length = y.f3.length := by have := eq_of_beq h3; omega
      have hq4 : x.f4.length = y.f4.length := by have := eq_of_beq h4; omega
      have HE : Hid (x.f0 = y.f0 ∧ x.f1 = y.f1 ∧ x.f2 = y.f2 ∧ x.f3.length = y.f3.length ∧ x.f4.length = y.f4.length) := Lib.hid ⟨eq_of_beq h0, same_iff.1 h1, toL_inj2.1 (eq_of_beq h2), hq3, hq4⟩
      clear hq3 hq4
      go_enter Tryz.func20, Tryz.ntmps20
      go_wp2_with (first | (go_at_call 45; (with_reducible refine (dsame_any x.f1 y.f1 _ _ _ _ _ ?ha ?hb).mono ?_); (case ha => exact Kd.C_below HX2.out HB0.out); (case hb => exact Kd.C_below HY2.out HB0.out); rw [h1]; rintro e w1 ⟨rfl, hB1⟩; obtain ⟨hcl0, hfz0⟩ := bcells G.out.1 hB1; obtain ⟨hcl1, hfz1⟩ := bcells G.out.2 hB1; have hB2 := HB0.out.trans (hB1.mono HLE.out)))
      have HB2 := Lib.hid hB2
      have HL2 : Hid (w.heap.size ≤ w1.heap.size) := Lib.hid hB2.size
      have G2 := Lib.hid (And.intro (blk_below2 G.out.1 hB1) (blk_below2 G.out.2 hB1))
      clear hB2 hB1 hcl0 hfz0 hcl1 hfz1
      clear h0 h2 h3 h4 h0b h2b h3b h4b h1
      go_loopw [5] (fun vi wr => ∃ k : Nat, k ≤ x.f4.length ∧ vi = .int .i64 k ∧ Hid (∀ i, i < k → x.f4.getD i ByteArray.empty = y.f4.getD i ByteArray.empty) ∧ Below w1.heap.size w1 wr) (fun vi _ => x.f4.length - (intOf vi).toNat)
      case atStart => exact ⟨0, Nat.zero_le _, rfl, Lib.hid (fun i h => absurd h (by omega)), Below.refl _ _⟩
      case round =>
       obtain ⟨k, hk, rfl, hu, hB⟩ := hrel
       have HB := Lib.hid hB
       have hBW := Lib.hid (HB2.out.trans (hB.mono HL2.out))
       obtain ⟨hcl0, hfz0⟩ := bcells G2.out.1 hB
       obtain ⟨hcl1, hfz1⟩ := bcells G2.out.2 hB
       clear hB
       by_cases hlt : k < x.f4.length
       · obtain ⟨ad, rfl, hx⟩ := Kd.at_string (Kd.C_below HX6.out hBW.out) (k : Int) (by omega) (by omega)
         obtain ⟨bd, rfl, hy⟩ := Kd.at_string (Kd.C_below HY6.out hBW.out) (k : Int) (by omega) (by have := HE.out; omega)
         rw [Int.toNat_natCast] at hx hy
         have e1 : rdOf ByteArray.empty x.f4 (k : Int) = x.f4.getD k ByteArray.empty := by unfold rdOf; rw [Int.toNat_natCast]
         have e2 : rdOf ByteArray.empty y.f4 (k : Int) = y.f4.getD k ByteArray.empty := by unfold rdOf; rw [Int.toNat_natCast]
         rw [e1] at hx
         rw [e2] at hy
         clear e1 e2
         obtain ⟨xa, ha⟩ : ∃ xa, xa = x.f4.getD k ByteArray.empty := ⟨_, rfl⟩
         obtain ⟨xb, hb⟩ : ∃ xb, xb = y.f4.getD k ByteArray.empty := ⟨_, rfl⟩
         rw [← ha] at hx
         rw [← hb] at hy
         have hw : wrap64 ((k : Int) + 1) = ((k + 1 : Nat) : Int) := by unfold wrap64; omega
         have hlt2 : (k : Int) < (y.f4.length : Int) := by have := HE.out; omega
         have hlt1 : (k : Int) < (x.f4.length : Int) := by omega
         cases hab : (xa.toList == xb.toList) with
         | false =>
          have habn : (xa.toList != xb.toList) = true := by simp only [bne, hab]; rfl
          have hr : Hid (same x y = false) := Lib.hid (same_ne (by intro h; rw [ha, hb, h] at hab; simp at hab))
          clear ha hb hu
          go_wp2
          go_quiet (fail)
          go_wp2
          go_ret
          exact ⟨by rw [hr.out]; rfl, pw_below_drewN hBW.out _⟩
         | true =>
          have habn : (xa.toList != xb.toList) = false := by simp only [bne, hab]; rfl
          have hu' : Hid (∀ i, i < k + 1 → x.f4.getD i ByteArray.empty = y.f4.getD i ByteArray.empty) := Lib.hid (fun i hi => by
           rcases Nat.lt_or_ge i k with h | h
           · exact hu.out i h
           · obtain rfl : i = k := by omega
             rw [← ha, ← hb]; exact toL_inj2.1 (eq_of_beq hab))
          clear ha hb hu
          go_wp2
          go_quiet (fail)
          go_wp2
          go_roundw
          case rel => exact ⟨k + 1, by omega, by go_num, hu', pw_below_drewN HB.out _⟩
          case measure => simp [intOf]; omega
       · obtain rfl : k = x.f4.length := by omega
         have HU4 : Hid (x.f4 = y.f4) := Lib.hid (ext_getD _ HE.out.2.2.2.2 hu.out)
         have HL3 : Hid (w1.heap.size ≤ wr.heap.size) := Lib.hid HB.out.size
         have G3 := Lib.hid (And.intro (blk_below2 G2.out.1 HB.out) (blk_below2 G2.out.2 HB.out))
         clear hu
         go_wp2
         clear hcl0 hfz0 hcl1 hfz1
         go_loopw [6] (fun vi wr2 => ∃ k : Nat, k ≤ x.f3.length ∧ vi = .int .i64 k ∧ Hid (∀ i, i < k → x.f3.getD i z34 = y.f3.getD i z34) ∧ Below w1.heap.size w1 wr2) (fun vi _ => x.f3.length - (intOf vi).toNat)
         case atStart => exact ⟨0, Nat.zero_le _, rfl, Lib.hid (fun i h => absurd h (by omega)), HB.out⟩
         case round =>
          clear hBW HB hlt hk HL3 G3
          obtain ⟨k, hk, rfl, hu, hB⟩ := hrel
          have HB := Lib.hid hB
          have hBW := Lib.hid (HB2.out.trans (hB.mono HL2.out))
          obtain ⟨hcl0, hfz0⟩ := bcells G2.out.1 hB
          obtain ⟨hcl1, hfz1⟩ := bcells G2.out.2 hB
          clear hB
          by_cases hlt : k < x.f3.length
          · have hlt2 : k < y.f3.length := by have := HE.out; omega
            obtain ⟨ad, a0, a1, a2, a3, a4, a5, a6, rfl, hKa, p0, p1, p2, p3, p4, p5, p6⟩ := at_V HX5.out hBW.out k hlt
            obtain ⟨bd, b0, b1, b2, b3, b4, b5, b6, rfl, hKb, q0, q1, q2, q3, q4, q5, q6⟩ := at_V HY5.out hBW.out k hlt2
            have HKA := Lib.hid hKa
            have HKB := Lib.hid hKb
            have hmem : rd_T34 x.f3 (k : Int) ∈ x.f3 := by unfold rd_T34; simp [hlt]
            have HC := Lib.hid (IH.out _ hmem)
            have hxk : x.f3.getD k z34 = rd_T34 x.f3 (k : Int) := by unfold rd_T34; rw [Int.toNat_natCast]
            have hyk : y.f3.getD k z34 = rd_T34 y.f3 (k : Int) := by unfold rd_T34; rw [Int.toNat_natCast]
            have hlt2' : (k : Int) < (y.f3.length : Int) := by omega
            have hlt1' : (k : Int) < (x.f3.length : Int) := by omega
            have hw : wrap64 ((k : Int) + 1) = ((k + 1 : Nat) : Int) := by unfold wrap64; omega
            clear hKa hKb hmem
            cases hab : same (rd_T34 x.f3 (k : Int)) (rd_T34 y.f3 (k : Int)) with
            | false =>
             have hr : Hid (same x y = false) := Lib.hid (same_ne (by intro h; rw [h, same_refl] at hab; cases hab))
             clear hu hxk hyk
             go_upto_region 11 with (fail)
             go_still_tail 10, (by kernel_rfl)
             change wpList _ _ _ _ _ (wr.drewN 1)
             have HBD : Hid (Below w.heap.size w (wr.drewN 1)) := Lib.hid (pw_below_drewN hBW.out _)
             have HBE : Hid (Below w1.heap.size w1 (wr.drewN 1)) := Lib.hid (pw_below_drewN HB.out _)
             have hszd := HBD.out.size
             have hszd1 := HBE.out.size
             generalize wr.drewN 1 = wd at HBD HBE hszd hszd1 ⊢
             have HCC := Lib.hid (HC.out [a0, a1, a2, a3, a4, a5, a6] _ [b0, b1, b2, b3, b4, b5, b6] wd (k34.K_below HBD.out HKA.out) (k34.K_below HBD.out HKB.out))
             go_wp2_with (first | (go_at_call 20; refine HCC.out.mono ?_; rw [hab]; rintro e w5 ⟨rfl, hB5⟩; have HB5 := Lib.hid (HBD.out.trans (hB5.mono hszd)); have HB6 := Lib.hid (HBE.out.trans (hB5.mono hszd1))))
             go_ret
             exact ⟨by rw [hr.out]; rfl, HB5.out⟩
            | true =>
             have hu' : Hid (∀ i, i < k + 1 → x.f3.getD i z34 = y.f3.getD i z34) := Lib.hid (fun i hi => by
              rcases Nat.lt_or_ge i k with h | h
              · exact hu.out i h
              · obtain rfl : i = k := by omega
                rw [hxk, hyk]; exact same_iff.1 hab)
             clear hu hxk hyk
             go_upto_region 11 with (fail)
             go_still_tail 10, (by kernel_rfl)
             change wpList _ _ _ _ _ (wr.drewN 1)
             have HBD : Hid (Below w.heap.size w (wr.drewN 1)) := Lib.hid (pw_below_drewN hBW.out _)
             have HBE : Hid (Below w1.heap.size w1 (wr.drewN 1)) := Lib.hid (pw_below_drewN HB.out _)
             have hszd := HBD.out.size
             have hszd1 := HBE.out.size
             generalize wr.drewN 1 = wd at HBD HBE hszd hszd1 ⊢
             have HCC := Lib.hid (HC.out [a0, a1, a2, a3, a4, a5, a6] _ [b0, b1, b2, b3, b4, b5, b6] wd (k34.K_below HBD.out HKA.out) (k34.K_below HBD.out HKB.out))
             go_wp2_with (first | (go_at_call 20; refine HCC.out.mono ?_; rw [hab]; rintro e w5 ⟨rfl, hB5⟩; have HB5 := Lib.hid (HBD.out.trans (hB5.mono hszd)); have HB6 := Lib.hid (HBE.out.trans (hB5.mono hszd1))))
             go_roundw
             case rel => exact ⟨k + 1, by omega, by go_num, hu', HB6.out⟩
             case measure => simp [intOf]; omega
          · obtain rfl : k = x.f3.length := by omega
            have hr : Hid (same x y = true) := Lib.hid (same_iff.2 (by
             obtain ⟨e0, e1, e2, e3, e4⟩ := HE.out
             have e5 := ext_getD _ e3 hu.out
             have e6 := HU4.out
             cases x; cases y; simp only [S34.mk.injEq]; exact ⟨e0, e1, e2, e5, e6⟩))
            clear hu
            go_wp2
            go_ret
            exact ⟨by rw [hr.out]; rfl, hBW.out⟩
theorem field3 (a0 : Int) (a1 : Bool) (A2 : Option Addr) (n2 c2 : Nat) (a3 : Int) (a4 : ByteArray) (A5 : Option Addr) (n5 c5 : Nat) (A6 : Option Addr) (n6 c6 : Nat) (W : World) :
 Sem.run Tryz.prog (Instr.field 34 (.agg #[.int .i64 a0, .bool a1, .slice A2 n2 c2, .int .i64 a3, .string a4, .slice A5 n5 c5, .slice A6 n6 c6]) 3) W = .ok (.slice A5 n5 c5) W := by kernel_rfl
def listV (l : List V) : V := ⟨0, ⟨false, [], 0⟩, ByteArray.empty, l, []⟩
theorem OkV.list {l : List V} (h : ∀ x ∈ l, OkV x) (hl : l.length ≤ 1073741824) : OkV (listV l) :=
 OkV.mk _ (by show (Lit.int .i64 0).wf = true; rfl) (fun n hn => absurd hn (by unfold listV; simp)) (by show (Lit.int .i64 0).wf = true; rfl) (by unfold listV; simp) (fun n hn => absurd hn (by unfold listV; simp)) (by unfold listV; simp) hl (by unfold listV; simp) h
set_option maxHeartbeats 1000000 in
theorem Clones_any (l : List V) (A : Option Addr) (c : Nat) (w : World) (hl : l.length ≤ c) (hA : k34.C w A l.length l) (hO : ∀ x ∈ l, OkV x) (hn : l.length ≤ 1073741824) :
 Calls Tryz.prog 50 #[.slice A l.length c] w fun e w' => ∃ v, e = .returned v ∧ k34.R 34 w' w.heap.size (fun _ => True) v l ∧ Below w.heap.size w w' := by
 have HC := Lib.hid (Clone_any (listV l) _ w (k34_mk w (listV l) (Nat.zero_le 0) (Kd.C_nil _ _) hl hA (Nat.zero_le 0) (Kd.C_nil _ _)) (OkV.list hO hn))
 clear hA hO
 go_enter Tryz.func50, Tryz.ntmps50
 go_wp2_with (first | (go_at_call 75; refine HC.out.mono ?_; rintro e w1 ⟨cs, rfl, hM, hB1⟩; obtain ⟨v2, v5, v6, rfl, r2, r5, r6⟩ := k34_openM hM; obtain ⟨E2, s2, rfl⟩ := Kd.R_slice r2; obtain ⟨E5, s5, rfl⟩ := Kd.R_slice r5; obtain ⟨E6, s6, rfl⟩ := Kd.R_slice r6; have hfd := field3 (listV l).f0 (listV l).f1.f0 E2 (listV l).f1.f1.length s2 (listV l).f1.f2 (listV l).f2 E5 (listV l).f3.length s5 E6 (listV l).f4.length s6))
 go_ret
 exact ⟨_, rfl, r5, hB1⟩
theorem orL_zero {l : List Int} (h : ∀ x ∈ l, x = 0) : orL l = 0 := by
 induction l with
 | nil => rfl
 | cons x l ih =>
  rw [orL, if_pos (h x List.mem_cons_self)]
  exact ih fun y hy => h y (List.mem_cons_of_mem _ hy)
def vchks (l : List V) : Int := orL (l.map vchk)
theorem vchks_app (l : List V) (k : Nat) (hk : k ≤ l.length) (h : ∀ i, i < k → vchk (rd_T34 l (i : Int)) = 0) : vchks l = vchks (l.drop k) := by
 unfold vchks
 conv => lhs; rw [← List.take_append_drop k l, List.map_append]
 refine (orL_app _ _).trans (if_pos (orL_zero fun x hx => ?_))
 obtain ⟨y, hy, rfl⟩ := List.mem_map.1 hx
 obtain ⟨i, hi, rfl⟩ := List.mem_iff_getElem.1 hy
 rw [List.length_take] at hi
 have := h i (by omega)
 rw [show rd_T34 l (i : Int) = (l.take k)[i] by unfold rd_T34; rw [List.getElem_take]; simp [show i < l.length by omega]] at this
 exact this
theorem vchks_at (l : List V) (k : Nat) (hk : k < l.length) (h : ∀ i, i < k → vchk (rd_T34 l (i : Int)) = 0) (hn : vchk (rd_T34 l (k : Int)) ≠ 0) : vchks l = vchk (rd_T34 l (k : Int)) := by
 rw [vchks_app l k (by omega) h]
 have : rd_T34 l (k : Int) = l[k] := by unfold rd_T34; simp [hk]
 rw [this] at hn ⊢
 unfold vchks
 rw [List.drop_eq_getElem_cons hk, List.map_cons, orL, if_neg hn]
theorem vchks_all (l : List V) (h : ∀ i, i < l.length → vchk (rd_T34 l (i : Int)) = 0) : vchks l = 0 := by
 rw [vchks_app l l.length (Nat.le_refl _) h, List.drop_length]
 rfl
set_option maxHeartbeats 1000000 in
theorem Checks_any (l : List V) (A : Option Addr) (c : Nat) (w : World) (hLD : LaidW w) (hA : k34.C w A l.length l) (hO : ∀ x ∈ l, OkV x) :
 Calls Tryz.prog 38 #[.slice A l.length c] w fun e w' => e = .returned (.int .i64 (vchks l)) ∧ Below w.heap.size w w' := by
 have HA := Lib.hid hA
 have HO := Lib.hid hO
 have HL := Lib.hid hLD
 have hlen := hA.2.1
 clear hA hO hLD
 go_enter Tryz.func38, Tryz.ntmps38
 go_wp2
 go_loopw [8] (fun vi wr => ∃ k : Nat, k ≤ l.length ∧ vi = .int .i64 k ∧ Hid (∀ i, i < k → vchk (rd_T34 l (i : Int)) = 0) ∧ Below w.heap.size w wr) (fun vi _ => l.length - (intOf vi).toNat)
 case atStart => exact ⟨0, Nat.zero_le _, rfl, Lib.hid (fun i h => absurd h (by omega)), Below.refl _ _⟩
 case round =>
  obtain ⟨k, hk, rfl, hu, hB⟩ := hrel
  have HB := Lib.hid hB
  have hsz := hB.size
  clear hB
  by_cases hlt : k < l.length
  · obtain ⟨ad, D2, d2, D5, d5, D6, d6, rfl, q0, q1, q2, q3, q4, q5, q6, m2, G2, m5, G5, m6, G6⟩ := at_T34 (Kd.C_below HA.out HB.out) (k : Int) (by omega) (by omega)
    rw [Int.toNat_natCast] at q0 q1 q2 q3 q4 q5 q6
    have hKa := k34_mk wr (rd_T34 l k) m2 G2 m5 G5 m6 G6
    clear m2 G2 m5 G5 m6 G6
    have hmem : rd_T34 l (k : Int) ∈ l := by unfold rd_T34; simp [hlt]
    have HC := Lib.hid (Check_any _ _ (wr.alloc (.cells #[.int .i64 (rd_T34 l k).f0, .bool (rd_T34 l k).f1.f0, .slice D2 (rd_T34 l k).f1.f1.length d2, .int .i64 (rd_T34 l k).f1.f2, .string (rd_T34 l k).f2, .slice D5 (rd_T34 l k).f3.length d5, .slice D6 (rd_T34 l k).f4.length d6] 34)) ((HL.out.below HB.out).below ((Below.refl _ _).alloc (Nat.le_refl _) _)) (k34.K_below ((Below.refl _ _).alloc (Nat.le_refl _) _) hKa) (HO.out _ hmem))
    have hw : wrap64 ((k : Int) + 1) = ((k + 1 : Nat) : Int) := by unfold wrap64; omega
    clear hKa hmem
    by_cases hz : vchk (rd_T34 l (k : Int)) = 0
    · have hu' : Hid (∀ i, i < k + 1 → vchk (rd_T34 l (i : Int)) = 0) := Lib.hid (fun i hi => by
       rcases Nat.lt_or_ge i k with h | h
       · exact hu.out i h
       · obtain rfl : i = k := by omega
         exact hz)
      clear hu
      go_wp2_with (first | (go_at_call 39; refine HC.out.mono ?_; rw [hz]; rintro e w2 ⟨rfl, hB2⟩; have HB2 := Lib.hid (below_box HB.out hsz hB2)))
      go_roundw
      case rel => exact ⟨k + 1, by omega, by go_num, hu', HB2.out⟩
      case measure => simp [intOf]; omega
    · have hr : Hid (vchks l = vchk (rd_T34 l (k : Int))) := Lib.hid (vchks_at l k hlt hu.out hz)
      have hzb : (vchk (rd_T34 l (k : Int)) != 0) = true := by simpa using hz
      clear hu
      generalize vchk (rd_T34 l (k : Int)) = v at *
      go_wp2_with (first | (go_at_call 39; refine HC.out.mono ?_; rintro e w2 ⟨rfl, hB2⟩; have HB2 := Lib.hid (below_box HB.out hsz hB2)))
      go_ret
      exact ⟨by rw [hr.out]; rfl, HB2.out⟩
  · obtain rfl : k = l.length := by omega
    have hr : Hid (vchks l = 0) := Lib.hid (vchks_all l hu.out)
    clear hu
    go_wp2
    go_ret
    exact ⟨by rw [hr.out]; rfl, HB.out⟩
structure OwnMid (w wc : World) (x : V) (A2 : Option Addr) (c2 : Nat) (A5 : Option Addr) (c5 : Nat) (A6 : Option Addr) (c6 : Nat) (B2 : Option Addr) (d2 : Nat) (B6 : Option Addr) (d6 : Nat) (B5 : Option Addr) (d5 : Nat) (k : Nat) : Prop where
 box : wc.heap[w.heap.size]? = some (.cells #[.int .i64 x.f0, .bool x.f1.f0, .slice A2 x.f1.f1.length c2, .int .i64 x.f1.f2, .string x.f2, .slice A5 x.f3.length c5, .slice A6 x.f4.length c6] 34 (0, 0))
 res : wc.heap[w.heap.size + 1]? = some (.cells #[.int .i64 0, .bool false, .slice none 0 0, .int .i64 0, .string ⟨#[]⟩, .slice none 0 0, .slice none 0 0] 34 (0, 0))
 out : wc.heap[w.heap.size + 2]? = some (.cells #[.int .i64 x.f0, .bool x.f1.f0, .slice B2 x.f1.f1.length d2, .int .i64 x.f1.f2, .string x.f2, .slice B5 k d5, .slice B6 x.f4.length d6] 34 (0, 0))
 r2 : (Kd.int .u32).R 90 wc (w.heap.size + 3) (fun _ => True) (.slice B2 x.f1.f1.length d2) x.f1.f1
 r5 : k34.R 34 wc (w.heap.size + 3) (fun _ => True) (.slice B5 k d5) (x.f3.take k)
 r6 : Kd.string.R 9 wc (w.heap.size + 3) (fun _ => True) (.slice B6 x.f4.length d6) x.f4
 below : Below w.heap.size w wc

def GoodS (S : Nat → Nat → Nat → Prop) (t : Nat) (v : Value) : Prop := ∃ A m c, v = .slice A m c ∧ m ≤ 9223372036854775807 ∧ (0 < m → ∃ g n, A = some ⟨g, 0, none⟩ ∧ S g t n ∧ m ≤ n)
def GoodV (S : Nat → Nat → Nat → Prop) (cs : List Value) : Prop := ∃ a0 a1 v2 a3 a4 v5 v6, cs = [.int .i64 a0, .bool a1, v2, .int .i64 a3, .string a4, v5, v6] ∧ GoodS S 90 v2 ∧ GoodS S 34 v5 ∧ GoodS S 9 v6
structure Good (S : Nat → Nat → Nat → Prop) (w : World) : Prop where
 blk : ∀ b t n, S b t n → (∃ cs, w.heap[b]? = some (.cells cs t (0, 0))) ∧ (t = 90 ∨ t = 34 ∨ t = 9)
 num : ∀ b n, S b 90 n → ∀ j, j < n → ∃ x, w.cell? ⟨b, j, none⟩ = some (.int .u32 x)
 str : ∀ b n, S b 9 n → ∀ j, j < n → ∃ s, w.cell? ⟨b, j, none⟩ = some (.string s)
 val : ∀ b n, S b 34 n → ∀ j, j < n → ∃ cs, GoodV S cs ∧ ∀ i u, cs[i]? = some u → w.cell? ⟨b, j * 7 + i, none⟩ = some u
structure Only (S : Nat → Nat → Nat → Prop) (w w' : World) : Prop where
 os : w'.os = w.os
 tape : w'.tape = w.tape
 output : w'.output = w.output
 size : w.heap.size ≤ w'.heap.size
 block : ∀ b, b < w.heap.size → (∀ t n, ¬ S b t n) → w'.heap[b]? = w.heap[b]?
theorem Only.refl (S : Nat → Nat → Nat → Prop) (w : World) : Only S w w := ⟨rfl, rfl, rfl, Nat.le_refl _, fun _ _ _ => rfl⟩
theorem Only.trans {S : Nat → Nat → Nat → Prop} {a b c : World} (h : Only S a b) (k : Only S b c) : Only S a c :=
 ⟨k.os.trans h.os, k.tape.trans h.tape, k.output.trans h.output, Nat.le_trans h.size k.size, fun g hg hn => (k.block g (by have := h.size; omega) hn).trans (h.block g hg hn)⟩
theorem Only.alloc {S : Nat → Nat → Nat → Prop} {w w' : World} (h : Only S w w') (o : Obj) : Only S w (w'.alloc o) := by
 have hb := (Below.refl w'.heap.size w').alloc (Nat.le_refl _) o
 exact h.trans ⟨hb.os, hb.tape, hb.output, hb.size, fun g hg _ => hb.block g hg⟩
theorem Only.drewN {S : Nat → Nat → Nat → Prop} {w w' : World} (h : Only S w w') (m : Nat) : Only S w (w'.drewN m) := by
 have hb := pw_below_drewN (Below.refl w'.heap.size w') m
 exact h.trans ⟨hb.os, hb.tape, hb.output, hb.size, fun g hg _ => hb.block g hg⟩
theorem Good.below {S : Nat → Nat → Nat → Prop} {w w' : World} (h : Good S w) (hb : Below w.heap.size w w') : Good S w' := by
 have lt : ∀ {b t n}, S b t n → b < w.heap.size := fun hs => by
  obtain ⟨⟨cs, hc⟩, _⟩ := h.blk _ _ _ hs
  exact blk_lt hc
 refine ⟨fun b t n hs => ?_, fun b n hs j hj => ?_, fun b n hs j hj => ?_, fun b n hs j hj => ?_⟩
 · obtain ⟨⟨cs, hc⟩, ht⟩ := h.blk _ _ _ hs
   exact ⟨⟨cs, (hb.block _ (lt hs)).trans hc⟩, ht⟩
 · obtain ⟨x, hx⟩ := h.num b n hs j hj
   exact ⟨x, pw_cell_below hb hx⟩
 · obtain ⟨x, hx⟩ := h.str b n hs j hj
   exact ⟨x, pw_cell_below hb hx⟩
 · obtain ⟨cs, hg, hx⟩ := h.val b n hs j hj
   exact ⟨cs, hg, fun i u hu => pw_cell_below hb (hx i u hu)⟩
theorem Good.type {S : Nat → Nat → Nat → Prop} {w : World} (h : Good S w) {b t n t' n' : Nat} (h1 : S b t n) (h2 : S b t' n') : t = t' := by
 obtain ⟨⟨cs, hc⟩, _⟩ := h.blk _ _ _ h1
 obtain ⟨⟨cs', hc'⟩, _⟩ := h.blk _ _ _ h2
 have := hc.symm.trans hc'
 injection this with this
 injection this
theorem Good.lt {S : Nat → Nat → Nat → Prop} {w : World} (h : Good S w) {b t n : Nat} (h1 : S b t n) : b < w.heap.size := by
 obtain ⟨⟨cs, hc⟩, _⟩ := h.blk _ _ _ h1
 exact blk_lt hc
theorem Only.setCell {S : Nat → Nat → Nat → Prop} {w w' : World} (h : Only S w w') {g t n : Nat} (hs : S g t n) (j : Nat) (x : Value) : Only S w (w'.setCell ⟨g, j, none⟩ x) := by
 have hb := Below.refl 0 w'
 refine h.trans ⟨rfl, rfl, rfl, by simp, fun b hb hn => ?_⟩
 exact Below.heap_setCell _ _ _ _ (by rintro rfl; exact hn t n hs)
theorem Only.setCells {S : Nat → Nat → Nat → Prop} {w w' : World} (h : Only S w w') {g t n : Nat} (hs : S g t n) (j : Nat) (cs : List Value) : Only S w (w'.setCells g j cs) := by
 have hk := setCells_same g cs j w'
 refine h.trans ⟨hk.1, hk.2.1, hk.2.2.1, Nat.le_of_eq hk.2.2.2.symm, fun b hb hn => setCells_far cs _ b (by rintro rfl; exact hn t n hs)⟩
structure KeepG (w : World) (g : Nat) (w' : World) : Prop where
 os : w'.os = w.os
 tape : w'.tape = w.tape
 output : w'.output = w.output
 size : w.heap.size ≤ w'.heap.size
 block : ∀ b, b < w.heap.size → b ≠ g → w'.heap[b]? = w.heap[b]?
theorem KeepG.refl (w : World) (g : Nat) : KeepG w g w := ⟨rfl, rfl, rfl, Nat.le_refl _, fun _ _ _ => rfl⟩
theorem KeepG.trans {w a b : World} {g : Nat} (h : KeepG w g a) (k : KeepG a g b) : KeepG w g b := ⟨k.os.trans h.os, k.tape.trans h.tape, k.output.trans h.output, Nat.le_trans h.size k.size, fun j hj hn => (k.block j (by have := h.size; omega) hn).trans (h.block j hj hn)⟩
theorem KeepG.then {w a b : World} {g : Nat} (h : KeepG w g a) {B : Nat} (hb : Below B a b) (hB : w.heap.size ≤ B) : KeepG w g b :=
 ⟨hb.os.trans h.os, hb.tape.trans h.tape, hb.output.trans h.output, Nat.le_trans h.size hb.size, fun j hj hn => (hb.block j (by omega)).trans (h.block j hj hn)⟩
theorem KeepG.setCells {w a : World} {g : Nat} (h : KeepG w g a) (cs : List Value) (o : Nat) : KeepG w g (a.setCells g o cs) := by
 have hk := setCells_same g cs o a
 exact ⟨hk.1.trans h.os, hk.2.1.trans h.tape, hk.2.2.1.trans h.output, by rw [hk.2.2.2]; exact h.size, fun j hj hn => (setCells_far cs o j hn).trans (h.block j hj hn)⟩
theorem KeepG.drew {w a : World} {g : Nat} (h : KeepG w g a) : KeepG w g a.drew := h.then (below_drew (Below.refl _ _)) h.size
theorem KeepG.below {w0 w W : World} {B g : Nat} (h : KeepG w g W) (hb : Below B w0 w) (hg : B ≤ g) (hB : B ≤ w.heap.size) : Below B w0 W :=
 hb.trans ⟨h.os, h.tape, h.output, h.size, fun j hj => h.block j (by omega) (by omega)⟩
structure PEl where
 row : List Value
 key : V
 val : V
 tag : Nat
def elt (x y : PEl) : Prop := vord x.key y.key < 0 ∨ (vord x.key y.key = 0 ∧ x.tag < y.tag)
theorem elt_trans {x y z : PEl} (h : elt x y) (k : elt y z) : elt x z := by
 have t := vord_tr x.key y.key z.key
 rcases h with h | ⟨h, h'⟩ <;> rcases k with k | ⟨k, k'⟩
 · exact .inl (t.lt1 h (by omega))
 · exact .inl (t.lt1 h (by omega))
 · exact .inl (t.lt2 (by omega) k)
 · exact .inr ⟨t.eq h k, by omega⟩
theorem elt_irr {x y : PEl} (h : elt x y) (k : elt y x) : False := by
 have a := vord_anti x.key y.key
 rcases h with h | ⟨h, h'⟩ <;> rcases k with k | ⟨k, k'⟩ <;> omega
theorem elt_of_ge {x y : PEl} (h : ¬ vord x.key y.key < 0) (ht : y.tag < x.tag) : elt y x := by
 have a := vord_anti x.key y.key
 by_cases h0 : vord x.key y.key = 0
 · exact .inr ⟨by omega, ht⟩
 · exact .inl (by omega)
structure RowOk (e : PEl) : Prop where
 len : e.row.length = 14
 one : ∀ u ∈ e.row, u.oneCell' = true
structure SW (w0 : World) (g : Nat) (els : List PEl) (W : World) : Prop where
 keep : KeepG w0 g W
 at_ : ∀ i (e : PEl), els[i]? = some e → W.rangeAt g (i * 14) e.row
 there : W.there g 0 (els.length * 14)
 ok : ∀ e ∈ els, RowOk e
theorem there_part {W : World} {g n i : Nat} (h : W.there g 0 (n * 14)) (hi : i < n) : W.there g (i * 14) 14 := fun j hj => by
 have := h (i * 14 + j) (by omega)
 rwa [Nat.zero_add] at this
theorem SW.grow {w0 W W' : World} {g : Nat} {els : List PEl} (h : SW w0 g els W) (hg : g < w0.heap.size) (hb : Below W.heap.size W W') : SW w0 g els W' := by
 have hgW : g < W.heap.size := Nat.lt_of_lt_of_le hg h.keep.size
 have hc : ∀ o, W'.cell? ⟨g, o, none⟩ = W.cell? ⟨g, o, none⟩ := fun o => World.cell?_of_block (hb.block g hgW)
 have hf : ∀ o, W'.frozen? ⟨g, o, none⟩ = W.frozen? ⟨g, o, none⟩ := fun o => World.frozen?_of_block (hb.block g hgW)
 exact ⟨h.keep.then hb h.keep.size, fun i e hi j v hv => by rw [hc]; exact h.at_ i e hi j v hv, fun j hj => by rw [hc, hf]; exact h.there j hj, h.ok⟩
theorem SW.drew {w0 W : World} {g : Nat} {els : List PEl} (h : SW w0 g els W) : SW w0 g els W.drew :=
 ⟨h.keep.drew, fun i e hi => by rw [World.rangeAt_drew]; exact h.at_ i e hi, by rw [World.there_drew]; exact h.there, h.ok⟩
theorem SW.swap {w0 W : World} {g : Nat} {els : List PEl} (h : SW w0 g els W) {i j : Nat} {x y : PEl} (hi : els[i]? = some x) (hj : els[j]? = some y) (hij : i ≠ j) :
 SW w0 g ((els.set i y).set j x) ((W.setCells g (i * 14) y.row).setCells g (j * 14) x.row) := by
 have hil : i < els.length := (List.getElem?_eq_some_iff.1 hi).1
 have hjl : j < els.length := (List.getElem?_eq_some_iff.1 hj).1
 have hx := h.ok x (List.mem_of_getElem? hi)
 have hy := h.ok y (List.mem_of_getElem? hj)
 refine ⟨(h.keep.setCells _ _).setCells _ _, fun k e hk => ?_, ?_, fun e he => ?_⟩
 · have ti : W.there g (i * 14) y.row.length := by rw [hy.len]; exact there_part h.there hil
   have tj : (W.setCells g (i * 14) y.row).there g (j * 14) x.row.length := by rw [hx.len]; exact World.there_setCells (there_part h.there hjl) _ _ _
   by_cases hkj : k = j
   · subst hkj
     rw [List.getElem?_set_self (by simpa using hjl)] at hk
     obtain rfl := Option.some.inj hk
     exact World.rangeAt_setCells_same _ _ _ _ tj
   · rw [List.getElem?_set_ne (Ne.symm hkj)] at hk
     by_cases hki : k = i
     · subst hki
       rw [List.getElem?_set_self hil] at hk
       obtain rfl := Option.some.inj hk
       exact World.rangeAt_setCells_apart (World.rangeAt_setCells_same _ _ _ _ ti) _ _ _ (by rw [hx.len, hy.len]; omega)
     · rw [List.getElem?_set_ne (Ne.symm hki)] at hk
       have he := h.ok e (List.mem_of_getElem? hk)
       exact World.rangeAt_setCells_apart (World.rangeAt_setCells_apart (h.at_ k e hk) _ _ _ (by rw [he.len, hy.len]; omega)) _ _ _ (by rw [he.len, hx.len]; omega)
 · have := World.there_setCells (World.there_setCells h.there g (i * 14) y.row) g (j * 14) x.row
   simpa using this
 · rcases List.mem_or_eq_of_mem_set he with he | rfl
   · rcases List.mem_or_eq_of_mem_set he with he | rfl
     · exact h.ok e he
     · exact hy
   · exact hx
theorem set_pair {els : List PEl} {A B : List PEl} {x y : PEl} {M : List PEl} (h : els = A ++ x :: (M ++ y :: B)) : (els.set A.length y).set (A.length + 1 + M.length) x = A ++ y :: (M ++ x :: B) := by
 subst h
 rw [List.set_append_right _ _ (Nat.le_refl _), Nat.sub_self, List.set_cons_zero, List.set_append_right _ _ (by omega), show A.length + 1 + M.length - A.length = M.length + 1 by omega, List.set_cons_succ, List.set_append_right _ _ (Nat.le_refl _), Nat.sub_self, List.set_cons_zero]
theorem at_head {A B : List PEl} {x : PEl} : (A ++ x :: B)[A.length]? = some x := by simp
theorem at_far {A M B : List PEl} {x y : PEl} : (A ++ x :: (M ++ y :: B))[A.length + 1 + M.length]? = some y := by
 rw [List.getElem?_append_right (by omega), show A.length + 1 + M.length - A.length = M.length + 1 by omega, List.getElem?_cons_succ, List.getElem?_append_right (Nat.le_refl _), Nat.sub_self]
 rfl
end Go.Proofs.YtmfpakolfpoamaaGreatDoor.P

/- Texts of this claim, one behind the other. -/
import Derived.Test.YtmfpakolfpoamaaGreatDoorMOrderFindsza
import Derived.Test.YtmfpakolfpoamaaGreatDoorMOrderFindszb
import Derived.Test.YtmfpakolfpoamaaGreatDoorMOrderFindsp
import Derived.Test.YtmfpakolfpoamaaGreatDoorMOrderFindsq
import Derived.Test.YtmfpakolfpoamaaGreatDoorMOrderFindsy
import Derived.Test.YtmfpakolfpoamaaGreatDoorMOrderFindsr
import Derived.Test.YtmfpakolfpoamaaGreatDoorMOrderFindsw
import Derived.Test.YtmfpakolfpoamaaGreatDoorMOrderFindsz
set_option maxRecDepth 100000
namespace Go.Proofs.YtmfpakolfpoamaaGreatDoor.P
set_option linter.unusedVariables false
set_option linter.unusedSimpArgs false
open Go.RowKit Go.Proofs.YtmfpakolfpoamaaGreatDoorW.PrintWords Go.Proofs.YtmfpakolfpoamaaGreatDoorW.PrintMore Go.Proofs.YtmfpakolfpoamaaGreatDoorW.PrintLast
theorem vtextsUp_stop (v : V) {k : Nat} (h : vtextsUp v k ≠ 0) : ∀ n, k ≤ n → n ≤ v.f4.length → vtextsUp v n = vtextsUp v k := by
 intro n
 induction n with
 | zero =>
   intro hk _
   obtain rfl : k = 0 := by omega
   rfl
 | succ n ih =>
  intro hk hn
  rcases Nat.lt_or_ge n k with hlt | hge
  · obtain rfl : k = n + 1 := by omega
    rfl
  · rw [vtextsUp_succ v n (by omega), ih hge (by omega), orL, if_neg h]
theorem vtextsUp_next (v : V) {k : Nat} (h : vtextsUp v k = 0) (hk : k < v.f4.length) : vtextsUp v (k + 1) = txt (rdOf ByteArray.empty v.f4 (k : Int)) := by
 rw [vtextsUp_succ v k hk, orL, if_pos h, orL]
 split
 · rename_i h2; rw [h2]; rfl
 · rfl
theorem pos_dec (n : Nat) : decide (0 < n) = !decide (n = 0) := by cases n <;> simp
def zD : D := ⟨false, [], 0⟩
theorem same_zD (d : D) : same d zD = (!d.f0 && d.f1.length == 0 && d.f2 == 0) := by
 rw [Bool.eq_iff_iff, same_iff]
 obtain ⟨a, b, c⟩ := d
 unfold zD
 simp only [S31.mk.injEq]
 cases a <;> cases b <;> simp
set_option maxHeartbeats 4000000 in
theorem rown_any (x : V) (cs : List Value) (w : World) (hK : k34.K w x cs) (hO : OkV x) :
 Calls Tryz.prog 104 #[.agg cs.toArray] w fun e w' => e = .returned (.int .i64 (vown x)) ∧ Below w.heap.size w w' := by
 obtain ⟨A2, c2, A5, c5, A6, c6, rfl, l2, g2, l5, g5, l6, g6⟩ := k34_open hK
 have HX2 := Lib.hid g2
 have HX6 := Lib.hid g6
 have hl5 := g5.2.1
 have hl6 := g6.2.1
 have HO := Lib.hid hO
 clear hK g2 g5 g6 l2 l5 l6 hO
 have HV : Hid (vown x = if x.f0 < 0 ∨ 6 < x.f0 then 23 else if vtexts x ≠ 0 then vtexts x else if 4096 < max x.f3.length x.f4.length then 5 else if vnumbers x && vused x && vrises x.f4 then 0 else 9) := Lib.hid rfl
 obtain ⟨r, hr⟩ : ∃ r, r = vown x := ⟨_, rfl⟩
 rw [← hr] at HV ⊢
 clear hr
 obtain ⟨W1, hW1⟩ : ∃ W1, W1 = w.alloc (.cells #[.int .i64 x.f0, .bool x.f1.f0, .slice A2 x.f1.f1.length c2, .int .i64 x.f1.f2, .string x.f2, .slice A5 x.f3.length c5, .slice A6 x.f4.length c6] 34) := ⟨_, rfl⟩
 have hb1 : Below w.heap.size w W1 := by rw [hW1]; exact (Below.refl _ _).alloc (Nat.le_refl _) _
 have hx1 : W1.heap[w.heap.size]? = some (.cells #[.int .i64 x.f0, .bool x.f1.f0, .slice A2 x.f1.f1.length c2, .int .i64 x.f1.f2, .string x.f2, .slice A5 x.f3.length c5, .slice A6 x.f4.length c6] 34 (0, 0)) := by rw [hW1]; exact blk_new _ _
 have HW1 := Lib.hid hW1
 have HB1 := Lib.hid hb1
 have HX1 := Lib.hid hx1
 obtain ⟨hcx, hfx⟩ := bcells hx1 (Below.refl _ _)
 clear hW1 hb1 hx1
 by_cases hk0 : x.f0 < 0
 · have HR : Hid (r = 23) := Lib.hid (by rw [HV.out, if_pos (.inl hk0)])
   go_enter Tryz.func104, Tryz.ntmps104
   go_upto_region 1 with (fail)
   rw [← HW1.out]
   go_wp2
   go_ret
   exact ⟨by rw [HR.out]; rfl, HB1.out⟩
 by_cases hk6 : 6 < x.f0
 · have HR : Hid (r = 23) := Lib.hid (by rw [HV.out, if_pos (.inr hk6)])
   go_enter Tryz.func104, Tryz.ntmps104
   go_upto_region 1 with (fail)
   rw [← HW1.out]
   go_wp2
   go_ret
   exact ⟨by rw [HR.out]; rfl, HB1.out⟩
 have HV2 : Hid (r = if vtexts x ≠ 0 then vtexts x else if 4096 < max x.f3.length x.f4.length then 5 else if vnumbers x && vused x && vrises x.f4 then 0 else 9) := Lib.hid (by rw [HV.out, if_neg (by omega)])
 have HT0 := Lib.hid (fun W => rtext_any x.f2 W HO.out.text)
 have hd0 : decide (x.f0 < 0) = false := decide_eq_false hk0
 have hd6 : decide (6 < x.f0) = false := decide_eq_false hk6
 have e0 : Hid (vtextsUp x 0 = txt x.f2) := Lib.hid rfl
 go_enter Tryz.func104, Tryz.ntmps104
 go_upto_region 1 with (fail)
 rw [← HW1.out]
 go_wp2_with (go_at_call 124; (with_reducible refine (HT0.out _).mono ?_); rintro e w2 ⟨rfl, hB2⟩; have HB2 := Lib.hid hB2; clear hB2)
 clear hcx hfx HT0 HW1 hd0 hd6
 go_loopw [3, 4] (fun ve vi wr => ∃ k : Nat, k ≤ x.f4.length ∧ vi = .int .i64 k ∧ ve = .int .i64 (vtextsUp x k) ∧ Hid (Below W1.heap.size W1 wr)) (fun ve vi _ => x.f4.length - (intOf vi).toNat)
 case atStart => exact ⟨0, Nat.zero_le _, rfl, by rw [e0.out], HB2⟩
 case round =>
  obtain ⟨k, hk, rfl, rfl, HB⟩ := hrel
  have HBW := Lib.hid (HB1.out.trans (HB.out.mono HB1.out.size))
  obtain ⟨hcx, hfx⟩ := bcells HX1.out HB.out
  have hkk : (0 : Int) ≤ (k : Int) := by omega
  by_cases hlt : k < x.f4.length
  · have hlt2 : (k : Int) < (x.f4.length : Int) := by omega
    have hlt3 : decide (k < x.f4.length) = true := by simpa using hlt
    by_cases ht : vtextsUp x k = 0
    · obtain ⟨ad, rfl, hx⟩ := Kd.at_string (Kd.C_below HX6.out HBW.out) (k : Int) (by omega) (by omega)
      rw [Int.toNat_natCast] at hx
      have hsz : (rdOf ByteArray.empty x.f4 (k : Int)).size ≤ 1073741824 := HO.out.keys _ (by unfold rdOf; simp [hlt])
      have HTX := Lib.hid (rtext_any (rdOf ByteArray.empty x.f4 (k : Int)) wr hsz)
      have HN := Lib.hid (vtextsUp_next x ht hlt)
      rw [ht]
      generalize rdOf ByteArray.empty x.f4 (k : Int) = s at *
      clear ht hsz
      go_wp2_with (go_at_call 124; (with_reducible refine (HTX.out).mono ?_); rintro e w3 ⟨rfl, hB3⟩; have HB3 := Lib.hid (HB.out.trans (hB3.mono HB.out.size)); clear hB3)
      go_roundw
      case rel => exact ⟨k + 1, by omega, by go_num, by rw [HN.out], HB3⟩
      case measure => simp [intOf]; omega
    · have ht2 : ((vtextsUp x k) == 0) = false := by simpa using ht
      have ht3 : ((vtextsUp x k) != 0) = true := by simpa using ht
      have HR : Hid (r = vtextsUp x k) := Lib.hid (by
       have e := vtextsUp_stop x ht x.f4.length (by omega) (Nat.le_refl _)
       have e2 : vtexts x = vtextsUp x k := e
       rw [HV2.out, e2, if_pos ht])
      generalize vtextsUp x k = te at *
      clear ht
      go_wp2
      go_ret
      exact ⟨by rw [HR.out]; rfl, HBW.out⟩
  · obtain rfl : k = x.f4.length := by omega
    have hlt2 : ¬ (x.f4.length : Int) < (x.f4.length : Int) := by omega
    have hlt3 : decide (x.f4.length < x.f4.length) = false := by simp
    have HV3 : Hid (r = if vtextsUp x x.f4.length ≠ 0 then vtextsUp x x.f4.length else if 4096 < max x.f3.length x.f4.length then 5 else if vnumbers x && vused x && vrises x.f4 then 0 else 9) := HV2
    by_cases ht : vtextsUp x x.f4.length = 0
    rotate_left
    · have ht3 : ((vtextsUp x x.f4.length) != 0) = true := by simpa using ht
      have HR : Hid (r = vtextsUp x x.f4.length) := Lib.hid (by rw [HV3.out, if_pos ht])
      generalize vtextsUp x x.f4.length = te at *
      clear ht
      go_wp2
      go_ret
      exact ⟨by rw [HR.out]; rfl, HBW.out⟩
    rw [ht]
    have HV4 : Hid (r = if 4096 < max x.f3.length x.f4.length then 5 else if vnumbers x && vused x && vrises x.f4 then 0 else 9) := Lib.hid (by rw [HV3.out, if_neg (by rw [ht]; simp)])
    clear ht hlt HV HV2 HV3 e0
    by_cases h3 : 4096 < x.f3.length
    · have HR : Hid (r = 5) := Lib.hid (by rw [HV4.out, if_pos (by omega)])
      have h3' : (4096 : Int) < (x.f3.length : Int) := by omega
      have h3'' : decide (4096 < x.f3.length) = true := by simpa using h3
      go_wp2
      go_ret
      exact ⟨by rw [HR.out]; rfl, HBW.out⟩
    have h3' : ¬ (4096 : Int) < (x.f3.length : Int) := by omega
    have h3'' : decide (4096 < x.f3.length) = false := by simpa using h3
    by_cases h4 : 4096 < x.f4.length
    · have HR : Hid (r = 5) := Lib.hid (by rw [HV4.out, if_pos (by omega)])
      have h4' : (4096 : Int) < (x.f4.length : Int) := by omega
      have h4'' : decide (4096 < x.f4.length) = true := by simpa using h4
      go_wp2
      go_ret
      exact ⟨by rw [HR.out]; rfl, HBW.out⟩
    have h4' : ¬ (4096 : Int) < (x.f4.length : Int) := by omega
    have h4'' : decide (4096 < x.f4.length) = false := by simpa using h4
    have HV5 : Hid (r = if vnumbers x && vused x && vrises x.f4 then 0 else 9) := Lib.hid (by rw [HV4.out, if_neg (by omega)])
    have HNM : Hid (vnumbers x = if x.f0 = 3 then dchk x.f1 == 0 else same x.f1 zD) := Lib.hid (by unfold vnumbers; rw [same_zD])
    have HCK := Lib.hid (fun W (hW : Below w.heap.size w W) => rdchk_any x.f1 A2 c2 W (Kd.C_below HX2.out hW) HO.out.dec)
    have HSM : Hid (∀ W, Below w.heap.size w W → Calls Tryz.prog 45 #[.agg #[.bool x.f1.f0, .slice A2 x.f1.f1.length c2, .int .i64 x.f1.f2], .agg #[.bool false, .slice none 0 0, .int .i64 0]] W fun e w' => e = .returned (.bool (same x.f1 zD)) ∧ Below W.heap.size W w') := Lib.hid (fun W hW => dsame_any x.f1 zD A2 c2 none 0 W (Kd.C_below HX2.out hW) (Kd.C_nil _ _))
    obtain ⟨b1, hb1⟩ : ∃ b, b = vnumbers x := ⟨_, rfl⟩
    obtain ⟨b2, hb2⟩ : ∃ b, b = vused x := ⟨_, rfl⟩
    rw [← hb1] at HNM
    rw [← hb1, ← hb2] at HV5
    have HUS := Lib.hid hb2
    clear hb1 hb2 HV4 h3 h4
    go_upto_region 12 with (fail)
    go_cut [49] (fun v wc => v = .bool (!b1) ∧ Hid (Below W1.heap.size W1 wc))
    case first =>
     by_cases hk3 : x.f0 = 3
     · have g1 : (x.f0 == 3) = true := by simp [hk3]
       have g2 : (x.f0 != 3) = false := by simp [hk3]
       have hn := HNM.out
       rw [if_pos hk3] at hn
       have HN := Lib.hid hn
       generalize dchk x.f1 = dk at *
       clear hn hk3 HNM
       go_wp2_with (go_at_call 125; (with_reducible refine (HCK.out _ HBW.out).mono ?_); rintro e w3 ⟨rfl, hB3⟩; have HB3 := Lib.hid (HB.out.trans (hB3.mono HB.out.size)); clear hB3)
       go_meet
       case rel => exact ⟨by rw [HN.out]; rfl, HB3⟩
     · have g1 : (x.f0 == 3) = false := by simp [hk3]
       have g2 : (x.f0 != 3) = true := by simp [hk3]
       have hn := HNM.out
       rw [if_neg hk3] at hn
       rw [← hn] at HSM
       clear hn hk3 HNM
       cases b1 with
       | true =>
        go_wp2_with (go_at_call 45; (with_reducible refine (HSM.out _ HBW.out).mono ?_); rintro e w3 ⟨rfl, hB3⟩; have HB3 := Lib.hid (HB.out.trans (hB3.mono HB.out.size)); clear hB3; obtain ⟨hcx3, hfx3⟩ := bcells HX1.out HB3.out)
        go_meet
        case rel => exact ⟨rfl, HB3⟩
       | false =>
        go_wp2_with (go_at_call 45; (with_reducible refine (HSM.out _ HBW.out).mono ?_); rintro e w3 ⟨rfl, hB3⟩; have HB3 := Lib.hid (HB.out.trans (hB3.mono HB.out.size)); clear hB3; obtain ⟨hcx3, hfx3⟩ := bcells HX1.out HB3.out)
        go_meet
        case rel => exact ⟨rfl, HB3⟩
    case rest =>
     obtain ⟨rfl, HBc⟩ := hcut
     clear hcx hfx
     obtain ⟨hcx, hfx⟩ := bcells HX1.out HBc.out
     have HBX := Lib.hid (HB1.out.trans (HBc.out.mono HB1.out.size))
     cases b1 with
     | false =>
      have HR : Hid (r = 9) := Lib.hid (by rw [HV5.out]; rfl)
      go_wp2
      go_ret
      exact ⟨by rw [HR.out]; rfl, HBX.out⟩
     | true =>
      go_upto_region 14 with (fail)
      go_cut [71] (fun v wc2 => v = .bool (!b2) ∧ wc2 = wc)
      case first =>
       have hu := HUS.out
       unfold vused at hu
       obtain ⟨bt, ht⟩ : ∃ b, x.f2.toList.isEmpty = b := ⟨_, rfl⟩
       rw [ht] at hu
       have hn3 : ((x.f3.length : Int) == 0) = decide (x.f3.length = 0) := by rw [Bool.eq_iff_iff]; simp
       have hp3 : decide (0 < x.f3.length) = !decide (x.f3.length = 0) := pos_dec _
       have hp4 : decide (0 < x.f4.length) = !decide (x.f4.length = 0) := pos_dec _
       have hq4 : ((x.f4.length : Int) == 0) = decide (x.f4.length = 0) := by rw [Bool.eq_iff_iff]; simp
       have hqq : ((x.f4.length : Int) == (x.f3.length : Int)) = decide (x.f4.length = x.f3.length) := by rw [Bool.eq_iff_iff]; simp; omega
       have hqn : ((x.f4.length : Int) != (x.f3.length : Int)) = !decide (x.f4.length = x.f3.length) := by rw [bne, hqq]
       rw [hn3] at hu
       by_cases hk6' : x.f0 = 6
       · have g1 : (x.f0 == 6) = true := by simp [hk6']
         have g2 : (x.f0 != 6) = false := by simp [hk6']
         have g3 : (x.f0 != 4) = true := by simp [hk6']
         have g4 : (x.f0 == 4) = false := by simp [hk6']
         have g5 : decide (x.f0 < 5) = false := by simp [hk6']
         have g6 : decide (5 ≤ x.f0) = true := by simp [hk6']
         rw [g4, g6, if_pos g1, hqq] at hu
         obtain ⟨bq, hbq⟩ : ∃ b, decide (x.f4.length = x.f3.length) = b := ⟨_, rfl⟩
         rw [hbq] at hu hqn hqq
         have HU := Lib.hid hu
         clear hu hn3 hp3 hp4 hq4 hbq hk6' HUS
         cases bt <;> cases bq <;>
         · go_wp2
           go_meet
           case rel => exact ⟨by rw [HU.out]; rfl, rfl⟩
       · have g1 : (x.f0 == 6) = false := by simp [hk6']
         have g2 : (x.f0 != 6) = true := by simp [hk6']
         obtain ⟨b4, h4⟩ : ∃ b, (x.f0 == 4) = b := ⟨_, rfl⟩
         have h4n : (x.f0 != 4) = !b4 := by rw [bne, h4]
         obtain ⟨b5, h5⟩ : ∃ b, decide (x.f0 < 5) = b := ⟨_, rfl⟩
         have h5n : decide (5 ≤ x.f0) = !b5 := by rw [← h5, Bool.eq_iff_iff]; simp
         rw [h4, h5n, if_neg (by rw [g1]; simp), hq4] at hu
         obtain ⟨b3, hb3⟩ : ∃ b, decide (x.f3.length = 0) = b := ⟨_, rfl⟩
         obtain ⟨bk, hbk⟩ : ∃ b, decide (x.f4.length = 0) = b := ⟨_, rfl⟩
         rw [hb3] at hu hp3
         rw [hbk] at hu hp4
         have HU := Lib.hid hu
         clear hu hn3 hq4 hqq hqn hb3 hbk hk6' HUS h5n
         cases b4 <;> cases b5 <;> cases bt <;> cases b3 <;> cases bk <;>
         · go_wp2
           go_meet
           case rel => exact ⟨by rw [HU.out]; rfl, rfl⟩
      case rest =>
       obtain ⟨rfl, rfl⟩ := hcut
       cases b2 with
       | false =>
        have HR : Hid (r = 9) := Lib.hid (by rw [HV5.out]; rfl)
        go_wp2
        go_ret
        exact ⟨by rw [HR.out]; rfl, HBX.out⟩
       | true =>
        have HV6 : Hid (r = if vrises x.f4 then 0 else 9) := Lib.hid (by rw [HV5.out]; rfl)
        clear HV5 HUS
        go_wp2
        go_loopw [5] (fun vi wr2 => ∃ k : Nat, 1 ≤ k ∧ (k ≤ x.f4.length ∨ x.f4.length = 0) ∧ vi = .int .i64 k ∧ Hid (k ≤ x.f4.length → vrisesUp x.f4 k = true) ∧ Hid (Below W1.heap.size W1 wr2)) (fun vi _ => x.f4.length - (intOf vi).toNat)
        case atStart => exact ⟨1, Nat.le_refl _, by omega, rfl, Lib.hid (fun _ => rfl), HBc⟩
        case round =>
         clear hcx hfx
         obtain ⟨k, hk1, hk2, rfl, hu, HBr⟩ := hrel
         have HBW2 := Lib.hid (HB1.out.trans (HBr.out.mono HB1.out.size))
         obtain ⟨hcx, hfx⟩ := bcells HX1.out HBr.out
         have hkk : (0 : Int) ≤ (k : Int) := by omega
         by_cases hlt : k < x.f4.length
         · obtain ⟨j, hj⟩ : ∃ j, j + 1 = k := ⟨k - 1, by omega⟩
           obtain ⟨ad, rfl, hx⟩ := Kd.at_string (Kd.C_below HX6.out HBW2.out) (k : Int) (by omega) (by omega)
           obtain ⟨ad', he, hy⟩ := Kd.at_string (Kd.C_below HX6.out HBW2.out) (j : Int) (by omega) (by omega)
           obtain rfl := Option.some.inj he
           rw [Int.toNat_natCast] at hx hy
           have e1 : rdOf ByteArray.empty x.f4 (k : Int) = x.f4.getD k ByteArray.empty := by unfold rdOf; rw [Int.toNat_natCast]
           have e2 : rdOf ByteArray.empty x.f4 (j : Int) = x.f4.getD j ByteArray.empty := by unfold rdOf; rw [Int.toNat_natCast]
           rw [e1] at hx
           rw [e2] at hy
           have hs := vrisesUp_succ x.f4 k
           rw [hu.out (by omega), show (k == 0) = false by simp; omega, show k - 1 = j by omega] at hs
           obtain ⟨a, ha⟩ : ∃ a, a = x.f4.getD k ByteArray.empty := ⟨_, rfl⟩
           obtain ⟨b, hb⟩ : ∃ b, b = x.f4.getD j ByteArray.empty := ⟨_, rfl⟩
           rw [← ha] at hx
           rw [← hb] at hy
           rw [← ha, ← hb] at hs
           have g3 : (k : Int) < (x.f4.length : Int) := by omega
           have g5 : IntKind.i64.wrap ((k : Int) - 1) = (j : Int) := by rw [wrap_in _ (by omega)]; omega
           have g6 : (j : Int) < (x.f4.length : Int) := by omega
           have hw : wrap64 ((k : Int) + 1) = ((k + 1 : Nat) : Int) := by unfold wrap64; omega
           clear ha hb hu e1 e2 hj
           cases hle : strLe a b with
           | true =>
            rw [hle] at hs
            have HR : Hid (r = 9) := Lib.hid (by rw [HV6.out, show vrises x.f4 = false from vrisesUp_false x.f4 (by rw [hs]; rfl) _ (by omega)]; rfl)
            have hle' : (Op.bytesLess a.toList b.toList || a.toList == b.toList) = true := hle
            clear hs hle
            go_wp2
            go_quiet (fail)
            go_wp2
            go_ret
            exact ⟨by rw [HR.out]; rfl, pw_below_drewN HBW2.out _⟩
           | false =>
            rw [hle] at hs
            have HS : Hid (k + 1 ≤ x.f4.length → vrisesUp x.f4 (k + 1) = true) := Lib.hid (fun _ => hs)
            have hle' : (Op.bytesLess a.toList b.toList || a.toList == b.toList) = false := hle
            clear hs hle
            go_wp2
            go_quiet (fail)
            go_wp2
            go_roundw
            case rel => exact ⟨k + 1, by omega, by omega, by go_num, HS, Lib.hid (pw_below_drewN HBr.out _)⟩
            case measure => simp [intOf]; omega
         · have HR : Hid (r = 0) := Lib.hid (by
            rcases hk2 with h | h
            · obtain rfl : k = x.f4.length := by omega
              rw [HV6.out, show vrises x.f4 = true from hu.out (Nat.le_refl _)]; rfl
            · have e : x.f4 = [] := List.eq_nil_of_length_eq_zero h
              rw [HV6.out, e]; rfl)
           have g3 : ¬ (k : Int) < (x.f4.length : Int) := by omega
           clear hu
           go_wp2
           go_ret
           exact ⟨by rw [HR.out]; rfl, HBW2.out⟩
theorem orL_cat : ∀ (l r : List Int), orL (l ++ r) = if orL l = 0 then orL r else orL l
 | [], r => by simp [orL]
 | x :: l, r => by
  rw [List.cons_append, orL, orL, orL_cat l r]
  by_cases h : x = 0
  · rw [if_pos h, if_pos h]
  · rw [if_neg h, if_neg h, if_neg h]
def vallE (x : V) : Int := orL ((vall x).map vown)
def vallUp (x : V) (k : Nat) : Int := orL ((x :: valls (x.f3.take k)).map vown)
theorem vallUp_zero (x : V) : vallUp x 0 = vown x := by
 unfold vallUp
 rw [List.take_zero, valls, List.map_cons, List.map_nil, orL, orL]
 split
 · rename_i h; rw [h]
 · rfl
theorem vallUp_all (x : V) : vallUp x x.f3.length = vallE x := by
 unfold vallUp vallE
 rw [List.take_length, vall_eq]
theorem vallUp_succ (x : V) {k : Nat} (h : k < x.f3.length) : vallUp x (k + 1) = if vallUp x k = 0 then vallE (rd_T34 x.f3 (k : Int)) else vallUp x k := by
 unfold vallUp vallE
 have e : rd_T34 x.f3 (k : Int) = x.f3[k] := by unfold rd_T34; simp [h]
 rw [List.take_succ_eq_append_getElem h, valls_app, valls_one, e, ← List.cons_append, List.map_append, orL_cat]
theorem vallUp_stop (x : V) {k : Nat} (h : vallUp x k ≠ 0) : ∀ n, k ≤ n → n ≤ x.f3.length → vallUp x n = vallUp x k := by
 intro n
 induction n with
 | zero =>
   intro hk _
   obtain rfl : k = 0 := by omega
   rfl
 | succ n ih =>
  intro hk hn
  rcases Nat.lt_or_ge n k with hlt | hge
  · obtain rfl : k = n + 1 := by omega
    rfl
  · rw [vallUp_succ x (by omega), ih hge (by omega), if_neg h]
theorem vchk_eq (v : V) : vchk v = if 64 < vdeep 1000 v then 42 else if 16384 < vsize v then 3 else vallE v := rfl
set_option maxHeartbeats 2000000 in
theorem rall_any : ∀ (x : V) (cs : List Value) (w : World), k34.K w x cs → OkV x →
 Calls Tryz.prog 78 #[.agg cs.toArray] w fun e w' => e = .returned (.int .i64 (vallE x)) ∧ Below w.heap.size w w' := by
 refine V.ind fun x ih => ?_
 intro cs w hK hO
 obtain ⟨A2, c2, A5, c5, A6, c6, rfl, l2, g2, l5, g5, l6, g6⟩ := k34_open hK
 have HK := Lib.hid hK
 have HC := Lib.hid g5
 have hlen := g5.2.1
 have IH := Lib.hid ih
 have HO := Lib.hid hO
 clear g2 l2 l5 g5 l6 g6 hK ih hO
 have HE := Lib.hid (vallUp_all x)
 have HZ := Lib.hid (vallUp_zero x)
 have HST := Lib.hid (fun k (h : vallUp x k ≠ 0) (hk : k ≤ x.f3.length) => vallUp_stop x h x.f3.length hk (Nat.le_refl _))
 have HSC := Lib.hid (fun k (h : k < x.f3.length) => vallUp_succ x h)
 obtain ⟨W1, hW1⟩ : ∃ W1, W1 = w.alloc (.cells #[.int .i64 x.f0, .bool x.f1.f0, .slice A2 x.f1.f1.length c2, .int .i64 x.f1.f2, .string x.f2, .slice A5 x.f3.length c5, .slice A6 x.f4.length c6] 34) := ⟨_, rfl⟩
 have hb1 : Below w.heap.size w W1 := by rw [hW1]; exact (Below.refl _ _).alloc (Nat.le_refl _) _
 have hx1 : W1.heap[w.heap.size]? = some (.cells #[.int .i64 x.f0, .bool x.f1.f0, .slice A2 x.f1.f1.length c2, .int .i64 x.f1.f2, .string x.f2, .slice A5 x.f3.length c5, .slice A6 x.f4.length c6] 34 (0, 0)) := by rw [hW1]; exact blk_new _ _
 have HW1 := Lib.hid hW1
 have HB1 := Lib.hid hb1
 have HX1 := Lib.hid hx1
 have HOWN := Lib.hid (rown_any x _ W1 (k34.K_below hb1 HK.out) HO.out)
 obtain ⟨hcx, hfx⟩ := bcells hx1 (Below.refl _ _)
 clear hW1 hb1 hx1
 go_enter Tryz.func78, Tryz.ntmps78
 go_upto_region 1 with (fail)
 rw [← HW1.out]
 go_wp2_with (go_at_call 104; (with_reducible refine (HOWN.out).mono ?_); rintro e w2 ⟨rfl, hB2⟩; have HB2 := Lib.hid hB2; clear hB2)
 clear hcx hfx HW1 HOWN
 go_loopw [3, 4] (fun ve vi wr => ∃ k : Nat, k ≤ x.f3.length ∧ vi = .int .i64 k ∧ ve = .int .i64 (vallUp x k) ∧ Hid (Below W1.heap.size W1 wr)) (fun ve vi _ => x.f3.length - (intOf vi).toNat)
 case atStart => exact ⟨0, Nat.zero_le _, rfl, by rw [HZ.out], HB2⟩
 case round =>
  obtain ⟨k, hk, rfl, rfl, HB⟩ := hrel
  have HBW := Lib.hid (HB1.out.trans (HB.out.mono HB1.out.size))
  obtain ⟨hcx, hfx⟩ := bcells HX1.out HB.out
  have hkk : (0 : Int) ≤ (k : Int) := by omega
  by_cases hlt : k < x.f3.length
  · have hlt2 : (k : Int) < (x.f3.length : Int) := by omega
    have hlt3 : decide (k < x.f3.length) = true := by simpa using hlt
    have hs := HSC.out k hlt
    by_cases ht : vallUp x k = 0
    · rw [if_pos ht] at hs
      obtain ⟨ad, a0, a1, a2, a3, a4, a5, a6, rfl, hKa, p0, p1, p2, p3, p4, p5, p6⟩ := at_V HC.out HBW.out k hlt
      have hmem : rd_T34 x.f3 (k : Int) ∈ x.f3 := by unfold rd_T34; simp [hlt]
      have HCC := Lib.hid (IH.out _ hmem [a0, a1, a2, a3, a4, a5, a6] wr (k34.K_below HBW.out hKa) (HO.out.kids _ hmem))
      have HS := Lib.hid hs
      rw [ht]
      generalize vallE (rd_T34 x.f3 (k : Int)) = ee at *
      clear hs ht hKa hmem
      go_wp2_with (go_at_call 78; (with_reducible refine (HCC.out).mono ?_); rintro e w3 ⟨rfl, hB3⟩; have HB3 := Lib.hid (HB.out.trans (hB3.mono HB.out.size)); clear hB3)
      go_roundw
      case rel => exact ⟨k + 1, by omega, by go_num, by rw [HS.out], HB3⟩
      case measure => simp [intOf]; omega
    · have ht2 : ((vallUp x k) == 0) = false := by simpa using ht
      have HR : Hid (vallE x = vallUp x k) := Lib.hid (by rw [← HE.out]; exact HST.out k ht hk)
      generalize vallUp x k = te at *
      clear ht hs
      go_wp2
      go_ret
      exact ⟨by rw [HR.out]; rfl, HBW.out⟩
  · obtain rfl : k = x.f3.length := by omega
    have hlt2 : ¬ (x.f3.length : Int) < (x.f3.length : Int) := by omega
    have hlt3 : decide (x.f3.length < x.f3.length) = false := by simp
    go_wp2
    go_ret
    exact ⟨by rw [← HE.out]; rfl, HBW.out⟩
set_option maxHeartbeats 1000000 in
theorem rCheck_any (x : V) (cs : List Value) (w : World) (hK : k34.K w x cs) (hO : OkV x) :
 Calls Tryz.prog 54 #[.agg cs.toArray] w fun e w' => e = .returned (.int .i64 (vchk x)) ∧ Below w.heap.size w w' := by
 obtain ⟨A2, c2, A5, c5, A6, c6, rfl, -⟩ := k34_open hK
 have HD := Lib.hid (fun W (hW : Below w.heap.size w W) => rDeep_any x _ W (k34.K_below hW hK))
 have HS := Lib.hid (fun W (hW : Below w.heap.size w W) => rSize_any x _ W (k34.K_below hW hK))
 have HA := Lib.hid (fun W (hW : Below w.heap.size w W) => rall_any x _ W (k34.K_below hW hK) hO)
 have HE := Lib.hid (vchk_eq x)
 obtain ⟨W1, hW1⟩ : ∃ W1, W1 = w.alloc (.cells #[.int .i64 x.f0, .bool x.f1.f0, .slice A2 x.f1.f1.length c2, .int .i64 x.f1.f2, .string x.f2, .slice A5 x.f3.length c5, .slice A6 x.f4.length c6] 34) := ⟨_, rfl⟩
 have hb1 : Below w.heap.size w W1 := by rw [hW1]; exact (Below.refl _ _).alloc (Nat.le_refl _) _
 have hx1 : W1.heap[w.heap.size]? = some (.cells #[.int .i64 x.f0, .bool x.f1.f0, .slice A2 x.f1.f1.length c2, .int .i64 x.f1.f2, .string x.f2, .slice A5 x.f3.length c5, .slice A6 x.f4.length c6] 34 (0, 0)) := by rw [hW1]; exact blk_new _ _
 have HW1 := Lib.hid hW1
 have HB1 := Lib.hid hb1
 have HX1 := Lib.hid hx1
 obtain ⟨hcx, hfx⟩ := bcells hx1 (Below.refl _ _)
 generalize vchk x = r at *
 generalize vdeep 1000 x = d at *
 generalize vsize x = s at *
 generalize vallE x = ee at *
 clear hW1 hb1 hx1 hK hO
 by_cases h1 : 64 < d
 · have HR : Hid (r = 42) := Lib.hid (by rw [HE.out, if_pos h1])
   have h1' : (64 : Int) < (d : Int) := by omega
   have h1'' : decide (64 < d) = true := by simpa using h1
   go_enter Tryz.func54, Tryz.ntmps54
   go_upto_block 0 with (fail)
   rw [← HW1.out]
   go_wp2_with (go_at_call 76; (with_reducible refine (HD.out _ HB1.out).mono ?_); rintro e w2 ⟨rfl, hB2⟩; have HB2 := Lib.hid (HB1.out.trans (hB2.mono HB1.out.size)); clear hB2)
   go_ret
   exact ⟨by rw [HR.out]; rfl, HB2.out⟩
 have h1' : ¬ (64 : Int) < (d : Int) := by omega
 have h1'' : decide (64 < d) = false := by simpa using h1
 by_cases h2 : 16384 < s
 · have HR : Hid (r = 3) := Lib.hid (by rw [HE.out, if_neg h1, if_pos h2])
   have h2' : (16384 : Int) < (s : Int) := by omega
   have h2'' : decide (16384 < s) = true := by simpa using h2
   clear h1
   go_enter Tryz.func54, Tryz.ntmps54
   go_upto_block 0 with (fail)
   rw [← HW1.out]
   go_wp2_with (first
    | (go_at_call 76; (with_reducible refine (HD.out _ HB1.out).mono ?_); rintro e w2 ⟨rfl, hB2⟩; obtain ⟨hcx2, hfx2⟩ := bcells HX1.out hB2; have HB2 := Lib.hid (HB1.out.trans (hB2.mono HB1.out.size)); clear hB2)
    | (go_at_call 77; (with_reducible refine (HS.out _ HB2.out).mono ?_); rintro e w3 ⟨rfl, hB3⟩; have HB3 := Lib.hid (HB2.out.trans (hB3.mono HB2.out.size)); clear hB3))
   go_ret
   exact ⟨by rw [HR.out]; rfl, HB3.out⟩
 · have HR : Hid (r = ee) := Lib.hid (by rw [HE.out, if_neg h1, if_neg h2])
   have h2' : ¬ (16384 : Int) < (s : Int) := by omega
   have h2'' : decide (16384 < s) = false := by simpa using h2
   clear h1 h2
   go_enter Tryz.func54, Tryz.ntmps54
   go_upto_block 0 with (fail)
   rw [← HW1.out]
   go_wp2_with (first
    | (go_at_call 76; (with_reducible refine (HD.out _ HB1.out).mono ?_); rintro e w2 ⟨rfl, hB2⟩; obtain ⟨hcx2, hfx2⟩ := bcells HX1.out hB2; have HX2 := Lib.hid (blk_below2 HX1.out hB2); have HB2 := Lib.hid (HB1.out.trans (hB2.mono HB1.out.size)); clear hB2)
    | (go_at_call 77; (with_reducible refine (HS.out _ HB2.out).mono ?_); rintro e w3 ⟨rfl, hB3⟩; obtain ⟨hcx3, hfx3⟩ := bcells HX2.out hB3; have HB3 := Lib.hid (HB2.out.trans (hB3.mono HB2.out.size)); clear hB3)
    | (go_at_call 78; (with_reducible refine (HA.out _ HB3.out).mono ?_); rintro e w4 ⟨rfl, hB4⟩; have HB4 := Lib.hid (HB3.out.trans (hB4.mono HB3.out.size)); clear hB4))
   go_ret
   exact ⟨by rw [HR.out]; rfl, HB4.out⟩
set_option maxHeartbeats 1000000 in
theorem rChecks_any (l : List V) (A : Option Addr) (c : Nat) (w : World) (hA : k34.C w A l.length l) (hO : ∀ x ∈ l, OkV x) :
 Calls Tryz.prog 53 #[.slice A l.length c] w fun e w' => e = .returned (.int .i64 (vchks l)) ∧ Below w.heap.size w w' := by
 have HA := Lib.hid hA
 have HO := Lib.hid hO
 have hlen := hA.2.1
 have HALL := Lib.hid (vchks_all l)
 have HAT := Lib.hid (vchks_at l)
 clear hA hO
 go_enter Tryz.func53, Tryz.ntmps53
 go_wp2
 go_loopw [3] (fun vi wr => ∃ k : Nat, k ≤ l.length ∧ vi = .int .i64 k ∧ Hid (∀ i, i < k → vchk (rd_T34 l (i : Int)) = 0) ∧ Hid (Below w.heap.size w wr)) (fun vi _ => l.length - (intOf vi).toNat)
 case atStart => exact ⟨0, Nat.zero_le _, rfl, Lib.hid (fun i h => absurd h (by omega)), Lib.hid (Below.refl _ _)⟩
 case round =>
  obtain ⟨k, hk, rfl, HU, HB⟩ := hrel
  have hkk : (0 : Int) ≤ (k : Int) := by omega
  by_cases hlt : k < l.length
  · have hlt2 : (k : Int) < (l.length : Int) := by omega
    obtain ⟨ad, a0, a1, a2, a3, a4, a5, a6, rfl, hKa, p0, p1, p2, p3, p4, p5, p6⟩ := at_V HA.out HB.out k hlt
    have hmem : rd_T34 l (k : Int) ∈ l := by unfold rd_T34; simp [hlt]
    have HCC := Lib.hid (rCheck_any _ [a0, a1, a2, a3, a4, a5, a6] wr (k34.K_below HB.out hKa) (HO.out _ hmem))
    have HA1 : Hid (vchk (rd_T34 l (k : Int)) ≠ 0 → vchks l = vchk (rd_T34 l (k : Int))) := Lib.hid (fun h => HAT.out k hlt HU.out h)
    have HA2 : Hid (vchk (rd_T34 l (k : Int)) = 0 → ∀ i, i < k + 1 → vchk (rd_T34 l (i : Int)) = 0) := Lib.hid (fun h i hi => by
     rcases Nat.lt_or_ge i k with h' | h'
     · exact HU.out i h'
     · obtain rfl : i = k := by omega
       exact h)
    generalize vchk (rd_T34 l (k : Int)) = e0 at *
    clear hKa hmem
    by_cases h0 : e0 = 0
    · subst h0
      have HU2 := Lib.hid (HA2.out rfl)
      go_wp2_with (go_at_call 54; (with_reducible refine (HCC.out).mono ?_); rintro e w3 ⟨rfl, hB3⟩; have HB3 := Lib.hid (HB.out.trans (hB3.mono HB.out.size)); clear hB3)
      go_roundw
      case rel => exact ⟨k + 1, by omega, by go_num, HU2, HB3⟩
      case measure => simp [intOf]; omega
    · have h1 : (e0 != 0) = true := by simpa using h0
      have HR := Lib.hid (HA1.out h0)
      clear h0
      go_wp2_with (go_at_call 54; (with_reducible refine (HCC.out).mono ?_); rintro e w3 ⟨rfl, hB3⟩; have HB3 := Lib.hid (HB.out.trans (hB3.mono HB.out.size)); clear hB3)
      go_ret
      exact ⟨by rw [HR.out]; rfl, HB3.out⟩
  · obtain rfl : k = l.length := by omega
    have hlt2 : ¬ (l.length : Int) < (l.length : Int) := by omega
    have HR := Lib.hid (HALL.out HU.out)
    go_wp2
    go_ret
    exact ⟨by rw [HR.out]; rfl, HB.out⟩
def sumB (na nb : Bool) (x y : Nat) : Bool × Nat := if na = nb then (na, x + y) else if y ≤ x then (na, x - y) else (nb, y - x)
theorem sumB_sg (na nb : Bool) (x y : Nat) : sg (sumB na nb x y).1 (sumB na nb x y).2 = sg na x + sg nb y := by
 unfold sumB
 by_cases h : na = nb
 · rw [if_pos h, h]
   unfold sg
   split <;> push_cast <;> omega
 · rw [if_neg h]
   by_cases hle : y ≤ x
   · rw [if_pos hle]
     unfold sg
     cases na <;> cases nb <;> simp at h ⊢ <;> omega
   · rw [if_neg hle]
     unfold sg
     cases na <;> cases nb <;> simp at h ⊢ <;> omega
theorem R_set3 {α : Type} {d : Kd α} {w : World} {e base : Nat} {ok : Nat → Prop} {v : Value} {xs : List α} (h : d.R e w base ok v xs) {g t : Nat} {o0 o1 o2 : Value} (hb : w.heap[g]? = some (.cells #[o0, o1, o2] t (0, 0))) (ht : ∀ q, q ∈ e :: d.E → q ≠ t) (v0 v1 v2 : Value) : d.R e (set3 w g v0 v1 v2) base ok v xs :=
 Kd.R_set (Kd.R_set (Kd.R_set h hb ht 0 v0) (blk_set hb 0 v0) ht 1 v1) (blk_set (blk_set hb 0 v0) 1 v1) ht 2 v2
theorem two_box {X : World} {g g' t t' : Nat} {o0 o1 o2 p0 p1 p2 : Value} (hne : g ≠ g') (h : X.heap[g]? = some (.cells #[o0, o1, o2] t (0, 0))) (h' : X.heap[g']? = some (.cells #[p0, p1, p2] t' (0, 0))) (v0 v1 v2 u0 u1 u2 : Value) :
 (set3 (set3 X g v0 v1 v2) g' u0 u1 u2).heap[g]? = some (.cells #[v0, v1, v2] t (0, 0)) ∧ (set3 (set3 X g v0 v1 v2) g' u0 u1 u2).heap[g']? = some (.cells #[u0, u1, u2] t' (0, 0)) :=
 ⟨(set3_far _ _ _ _ _ _ hne).trans (set3_row h _ _ _), set3_row ((set3_far _ _ _ _ _ _ hne.symm).trans h') _ _ _⟩
set_option maxHeartbeats 2000000 in
theorem Align_any (na nb : Bool) (m n : Nat) (e f : Int) (A B : Option Addr) (c d : Nat) (w : World) (hA : Kd.C (Kd.int .i64) w A (decs m).length (decs m)) (hB : Kd.C (Kd.int .i64) w B (decs n).length (decs n)) (hl : (decs m).length ≤ 10000) (hl2 : (decs n).length ≤ 10000) (he : -100000 ≤ e ∧ e ≤ 100000) (hf : -100000 ≤ f ∧ f ≤ 100000) (low : Int) (hlow : low = min e f) :
 Calls Tryz.prog 95 #[.agg #[.bool na, .slice A (decs m).length c, .int .i64 e], .agg #[.bool nb, .slice B (decs n).length d, .int .i64 f]] w fun x w' => ∃ G g H h, x = .returned (.tuple #[.agg #[.bool na, .slice G (decs (m * 10 ^ (e - low).toNat)).length g, .int .i64 low], .agg #[.bool nb, .slice H (decs (n * 10 ^ (f - low).toNat)).length h, .int .i64 low]]) ∧ Kd.R (Kd.int .i64) 3 w' w.heap.size (fun _ => True) (.slice G (decs (m * 10 ^ (e - low).toNat)).length g) (decs (m * 10 ^ (e - low).toNat)) ∧ Kd.R (Kd.int .i64) 3 w' w.heap.size (fun _ => True) (.slice H (decs (n * 10 ^ (f - low).toNat)).length h) (decs (n * 10 ^ (f - low).toNat)) ∧ Below w.heap.size w w' := by
 have HSA : Hid (∀ W, Below w.heap.size w W → Calls Tryz.prog 120 #[.slice A (decs m).length c, .int .i64 (e - low)] W fun x w' => ∃ v : Value, x = .returned v ∧ Kd.R (Kd.int .i64) 3 w' W.heap.size (fun _ => True) v (decs (m * 10 ^ (e - low).toNat)) ∧ Below W.heap.size W w') := Lib.hid (fun W hW => by
  have := Shift_any m (e - low).toNat A c W (Kd.C_below hA hW) (by omega) (by omega)
  rwa [show (((e - low).toNat : Nat) : Int) = e - low by omega] at this)
 have HSB : Hid (∀ W, Below w.heap.size w W → Calls Tryz.prog 120 #[.slice B (decs n).length d, .int .i64 (f - low)] W fun x w' => ∃ v : Value, x = .returned v ∧ Kd.R (Kd.int .i64) 3 w' W.heap.size (fun _ => True) v (decs (n * 10 ^ (f - low).toNat)) ∧ Below W.heap.size W w') := Lib.hid (fun W hW => by
  have := Shift_any n (f - low).toNat B d W (Kd.C_below hB hW) (by omega) (by omega)
  rwa [show (((f - low).toNat : Nat) : Int) = f - low by omega] at this)
 have hlo : -100000 ≤ low ∧ low ≤ e ∧ low ≤ f := by omega
 generalize decs (m * 10 ^ (e - low).toNat) = ra at *
 generalize decs (n * 10 ^ (f - low).toNat) = rb at *
 generalize (decs m).length = lm at *
 generalize (decs n).length = ln at *
 clear hA hB hl hl2
 obtain ⟨he1, he2⟩ := he
 obtain ⟨hf1, hf2⟩ := hf
 obtain ⟨hlo1, hlo2, hlo3⟩ := hlo
 obtain ⟨W4, hW4⟩ : ∃ W4, W4 = (((w.alloc (.cells #[.bool na, .slice A lm c, .int .i64 e] 101)).alloc (.cells #[.bool nb, .slice B ln d, .int .i64 f] 101)).alloc (.cells #[.bool false, .slice none 0 0, .int .i64 0] 101)).alloc (.cells #[.bool false, .slice none 0 0, .int .i64 0] 101) := ⟨_, rfl⟩
 have hb4 : Below w.heap.size w W4 := by rw [hW4]; exact ((((Below.refl _ _).alloc (Nat.le_refl _) _).alloc (by simp) _).alloc (by simp; omega) _).alloc (by simp; omega) _
 have h4a : W4.heap[w.heap.size]? = some (.cells #[.bool na, .slice A lm c, .int .i64 e] 101 (0, 0)) := by rw [hW4]; exact blk_alloc (blk_alloc (blk_alloc (blk_new _ _) _) _) _
 have h4b : W4.heap[w.heap.size + 1]? = some (.cells #[.bool nb, .slice B ln d, .int .i64 f] 101 (0, 0)) := by
  rw [hW4]
  have := blk_new (w.alloc (.cells #[.bool na, .slice A lm c, .int .i64 e] 101)) (.cells #[.bool nb, .slice B ln d, .int .i64 f] 101)
  rw [World.size_alloc] at this
  exact blk_alloc (blk_alloc this _) _
 have h4c : W4.heap[w.heap.size + 1 + 1]? = some (.cells #[.bool false, .slice none 0 0, .int .i64 0] 101 (0, 0)) := by
  rw [hW4]
  have := blk_new ((w.alloc (.cells #[.bool na, .slice A lm c, .int .i64 e] 101)).alloc (.cells #[.bool nb, .slice B ln d, .int .i64 f] 101)) (.cells #[.bool false, .slice none 0 0, .int .i64 0] 101)
  rw [World.size_alloc, World.size_alloc] at this
  exact blk_alloc this _
 have h4d : W4.heap[w.heap.size + 1 + 1 + 1]? = some (.cells #[.bool false, .slice none 0 0, .int .i64 0] 101 (0, 0)) := by
  rw [hW4]
  have := blk_new (((w.alloc (.cells #[.bool na, .slice A lm c, .int .i64 e] 101)).alloc (.cells #[.bool nb, .slice B ln d, .int .i64 f] 101)).alloc (.cells #[.bool false, .slice none 0 0, .int .i64 0] 101)) (.cells #[.bool false, .slice none 0 0, .int .i64 0] 101)
  rw [World.size_alloc, World.size_alloc, World.size_alloc] at this
  exact this
 have HB4 := Lib.hid hb4
 have H4A := Lib.hid h4a
 have H4B := Lib.hid h4b
 have H4C := Lib.hid h4c
 have H4D := Lib.hid h4d
 have HW4 := Lib.hid hW4
 have HLO := Lib.hid hlow
 have hz : w.heap.size + 4 ≤ W4.heap.size := by rw [hW4]; simp
 have HZ := Lib.hid hz
 clear hb4 h4a h4b h4c h4d hW4 hlow hz
 go_enter Tryz.func95, Tryz.ntmps95
 go_upto_region 1 with (fail)
 rw [← HW4.out]
 clear HW4
 obtain ⟨hca, hfa⟩ := bcells H4A.out (Below.refl _ _)
 obtain ⟨hcb, hfb⟩ := bcells H4B.out (Below.refl _ _)
 go_upto_region 2 with (fail)
 rw [← HLO.out]
 clear HLO
 go_upto_region 3 with (go_at_call 120; (with_reducible refine (HSA.out _ HB4.out).mono ?_); rintro x w5 ⟨v5, rfl, hR5, hB5⟩; obtain ⟨G5, g5, rfl⟩ := Kd.R_slice hR5; obtain ⟨hc5, hf5⟩ := bcells H4A.out hB5; have HR5 := Lib.hid hR5; have HB5 := Lib.hid hB5; clear hR5 hB5)
 obtain ⟨W5, hW5⟩ : ∃ W5, W5 = (w5.setCell ⟨w.heap.size, 1, none⟩ (.slice G5 ra.length g5)).setCell ⟨w.heap.size, 2, none⟩ (.int .i64 low) := ⟨_, rfl⟩
 have a5 := blk_below2 H4A.out HB5.out
 have HA5 : Hid (W5.heap[w.heap.size]? = some (.cells #[.bool na, .slice G5 ra.length g5, .int .i64 low] 101 (0, 0))) := Lib.hid (by rw [hW5]; exact blk_set (blk_set a5 1 _) 2 _)
 have HB5' : Hid (W5.heap[w.heap.size + 1]? = some (.cells #[.bool nb, .slice B ln d, .int .i64 f] 101 (0, 0))) := Lib.hid (by rw [hW5]; exact blk_far (blk_far (blk_below2 H4B.out HB5.out) (by dsimp only; omega) _) (by dsimp only; omega) _)
 have HC5 : Hid (W5.heap[w.heap.size + 1 + 1]? = some (.cells #[.bool false, .slice none 0 0, .int .i64 0] 101 (0, 0))) := Lib.hid (by rw [hW5]; exact blk_far (blk_far (blk_below2 H4C.out HB5.out) (by dsimp only; omega) _) (by dsimp only; omega) _)
 have HD5 : Hid (W5.heap[w.heap.size + 1 + 1 + 1]? = some (.cells #[.bool false, .slice none 0 0, .int .i64 0] 101 (0, 0))) := Lib.hid (by rw [hW5]; exact blk_far (blk_far (blk_below2 H4D.out HB5.out) (by dsimp only; omega) _) (by dsimp only; omega) _)
 have HR5' : Hid (Kd.R (Kd.int .i64) 3 W5 w.heap.size (fun _ => True) (.slice G5 ra.length g5) ra) := Lib.hid (by rw [hW5]; exact Kd.R_set (Kd.R_set (Kd.R_lower HR5.out HB4.out.size) a5 (by decide) 1 _) (blk_set a5 1 _) (by decide) 2 _)
 have HBB5 : Hid (Below w.heap.size w W5) := Lib.hid (by rw [hW5]; exact ((HB4.out.trans (HB5.out.mono HB4.out.size)).setCell (p := ⟨w.heap.size, 1, none⟩) (Nat.le_refl _) _).setCell (p := ⟨w.heap.size, 2, none⟩) (Nat.le_refl _) _)
 have hz5 : w.heap.size + 4 ≤ W5.heap.size := by
  have h1 := HB5.out.size
  have h2 := HZ.out
  rw [hW5]; simp; omega
 have HZ5 := Lib.hid hz5
 rw [← hW5]
 clear hW5 a5 hc5 hf5 hca hfa hcb hfb HR5 HB5 H4A H4B H4C H4D HB4 HZ HSA hz5
 obtain ⟨hcb, hfb⟩ := bcells HB5'.out (Below.refl _ _)
 go_upto_region 4 with (go_at_call 120; (with_reducible refine (HSB.out _ HBB5.out).mono ?_); rintro x w6 ⟨v6, rfl, hR6, hB6⟩; obtain ⟨G6, g6, rfl⟩ := Kd.R_slice hR6; obtain ⟨hc6, hf6⟩ := bcells HB5'.out hB6; have HR6 := Lib.hid hR6; have HB6 := Lib.hid hB6; clear hR6 hB6)
 obtain ⟨W6, hW6⟩ : ∃ W6, W6 = (w6.setCell ⟨w.heap.size + 1, 1, none⟩ (.slice G6 rb.length g6)).setCell ⟨w.heap.size + 1, 2, none⟩ (.int .i64 low) := ⟨_, rfl⟩
 have b6 := blk_below2 HB5'.out HB6.out
 have HA6 : Hid (W6.heap[w.heap.size]? = some (.cells #[.bool na, .slice G5 ra.length g5, .int .i64 low] 101 (0, 0))) := Lib.hid (by rw [hW6]; exact blk_far (blk_far (blk_below2 HA5.out HB6.out) (by dsimp only; omega) _) (by dsimp only; omega) _)
 have HB6' : Hid (W6.heap[w.heap.size + 1]? = some (.cells #[.bool nb, .slice G6 rb.length g6, .int .i64 low] 101 (0, 0))) := Lib.hid (by rw [hW6]; exact blk_set (blk_set b6 1 _) 2 _)
 have HC6 : Hid (W6.heap[w.heap.size + 1 + 1]? = some (.cells #[.bool false, .slice none 0 0, .int .i64 0] 101 (0, 0))) := Lib.hid (by rw [hW6]; exact blk_far (blk_far (blk_below2 HC5.out HB6.out) (by dsimp only; omega) _) (by dsimp only; omega) _)
 have HD6 : Hid (W6.heap[w.heap.size + 1 + 1 + 1]? = some (.cells #[.bool false, .slice none 0 0, .int .i64 0] 101 (0, 0))) := Lib.hid (by rw [hW6]; exact blk_far (blk_far (blk_below2 HD5.out HB6.out) (by dsimp only; omega) _) (by dsimp only; omega) _)
 have HRA : Hid (Kd.R (Kd.int .i64) 3 W6 w.heap.size (fun _ => True) (.slice G5 ra.length g5) ra) := Lib.hid (by rw [hW6]; exact Kd.R_set (Kd.R_set (Kd.R_below HR5'.out HB6.out) b6 (by decide) 1 _) (blk_set b6 1 _) (by decide) 2 _)
 have HRB : Hid (Kd.R (Kd.int .i64) 3 W6 w.heap.size (fun _ => True) (.slice G6 rb.length g6) rb) := Lib.hid (by rw [hW6]; exact Kd.R_set (Kd.R_set (Kd.R_lower HR6.out HBB5.out.size) b6 (by decide) 1 _) (blk_set b6 1 _) (by decide) 2 _)
 have HBB6 : Hid (Below w.heap.size w W6) := Lib.hid (by rw [hW6]; exact ((HBB5.out.trans (HB6.out.mono HBB5.out.size)).setCell (p := ⟨w.heap.size + 1, 1, none⟩) (by simp) _).setCell (p := ⟨w.heap.size + 1, 2, none⟩) (by simp) _)
 rw [← hW6]
 clear hW6 b6 hc6 hf6 hcb hfb HR6 HB6 HA5 HB5' HC5 HD5 HR5' HBB5 HSB HZ5
 obtain ⟨hca, hfa⟩ := bcells (blk_drew HA6.out) (Below.refl _ _)
 obtain ⟨hcb, hfb⟩ := bcells (blk_drew HB6'.out) (Below.refl _ _)
 obtain ⟨hcc, hfc⟩ := bcells (blk_drew HC6.out) (Below.refl _ _)
 obtain ⟨hcd, hfd⟩ := bcells (blk_drew HD6.out) (Below.refl _ _)
 obtain ⟨hca', hfa'⟩ := bcells HA6.out (Below.refl _ _)
 obtain ⟨hcb', hfb'⟩ := bcells HB6'.out (Below.refl _ _)
 obtain ⟨hcc', hfc'⟩ := bcells HC6.out (Below.refl _ _)
 obtain ⟨hcd', hfd'⟩ := bcells HD6.out (Below.refl _ _)
 have HX := two_box (g := w.heap.size + 1 + 1) (g' := w.heap.size + 1 + 1 + 1) (by omega) HC6.out HD6.out (.bool na) (.slice G5 ra.length g5) (.int .i64 low) (.bool nb) (.slice G6 rb.length g6) (.int .i64 low)
 obtain ⟨h71, h72⟩ := HX
 have h73 := Lib.hid (R_set3 (R_set3 HRA.out HC6.out (by decide) (.bool na) (.slice G5 ra.length g5) (.int .i64 low)) ((set3_far W6 (w.heap.size + 1 + 1) (.bool na) (.slice G5 ra.length g5) (.int .i64 low) (w.heap.size + 1 + 1 + 1) (by omega)).trans HD6.out) (by decide) (.bool nb) (.slice G6 rb.length g6) (.int .i64 low))
 have h74 := Lib.hid (R_set3 (R_set3 HRB.out HC6.out (by decide) (.bool na) (.slice G5 ra.length g5) (.int .i64 low)) ((set3_far W6 (w.heap.size + 1 + 1) (.bool na) (.slice G5 ra.length g5) (.int .i64 low) (w.heap.size + 1 + 1 + 1) (by omega)).trans HD6.out) (by decide) (.bool nb) (.slice G6 rb.length g6) (.int .i64 low))
 have h75 := Lib.hid (set3_below (set3_below HBB6.out (g := w.heap.size + 1 + 1) (by omega) (.bool na) (.slice G5 ra.length g5) (.int .i64 low)) (g := w.heap.size + 1 + 1 + 1) (by omega) (.bool nb) (.slice G6 rb.length g6) (.int .i64 low))
 have H71 := Lib.hid h71
 have H72 := Lib.hid h72
 clear h71 h72
 go_region_law (fail)
 all_goals
  rename_i q_ k_ a_
  refine a_ _ _ ?_
  clear a_ hca hfa hcb hfb hcc hfc hcd hfd hca' hfa' hcb' hfb' hcc' hfc' hcd' hfd' HA6 HB6' HC6 HD6 HRA HRB HBB6
  obtain ⟨X, hX⟩ : ∃ X, X = set3 (set3 W6 (w.heap.size + 1 + 1) (.bool na) (.slice G5 ra.length g5) (.int .i64 low)) (w.heap.size + 1 + 1 + 1) (.bool nb) (.slice G6 rb.length g6) (.int .i64 low) := ⟨_, rfl⟩
  rw [← hX] at H71 H72 h73 h74 h75
  simp only [set3] at hX
  rw [← hX]
  clear hX
  have HRA : Hid (Kd.R (Kd.int .i64) 3 X.drew w.heap.size (fun _ => True) (.slice G5 ra.length g5) ra) := Lib.hid (Kd.R_below h73.out (below_drew (Below.refl _ _)))
  have HRB : Hid (Kd.R (Kd.int .i64) 3 X.drew w.heap.size (fun _ => True) (.slice G6 rb.length g6) rb) := Lib.hid (Kd.R_below h74.out (below_drew (Below.refl _ _)))
  have HBX : Hid (Below w.heap.size w X.drew) := Lib.hid (below_drew h75.out)
  obtain ⟨y0, y1, y2⟩ := cells3 (blk_drew H71.out)
  obtain ⟨z0, z1, z2⟩ := cells3 (blk_drew H72.out)
  generalize X.drew = XD at *
  clear h73 h74 h75 H71 H72
  go_wp2_with fail
  exact bodyPost_ret (v := .tuple #[.agg #[.bool na, .slice G5 ra.length g5, .int .i64 low], .agg #[.bool nb, .slice G6 rb.length g6, .int .i64 low]]) (by simp [results, Tryz.f95, go_sem, y0, y1, y2, z0, z1, z2]) rfl ⟨_, _, _, _, rfl, HRA.out, HRB.out, HBX.out⟩
end Go.Proofs.YtmfpakolfpoamaaGreatDoor.P

/- Texts of this claim, one behind the other. -/
import Derived.Test.YtmfpakolfpoamaaGreatDoorMOrderFindsy
import Derived.Test.YtmfpakolfpoamaaGreatDoorMOrderFindsm
import Derived.Test.YtmfpakolfpoamaaGreatDoorMOrderFindsz
set_option maxRecDepth 100000
namespace Go.Proofs.YtmfpakolfpoamaaGreatDoor.P
set_option linter.unusedVariables false
set_option linter.unusedSimpArgs false
open Go.RowKit Go.Proofs.YtmfpakolfpoamaaGreatDoorW.PrintWords Go.Proofs.YtmfpakolfpoamaaGreatDoorW.PrintMore Go.Proofs.YtmfpakolfpoamaaGreatDoorW.PrintLast
def strip (m : Nat) : Nat × Nat := if h : m ≠ 0 ∧ m % 10 = 0 then ((strip (m / 10)).1, (strip (m / 10)).2 + 1) else (m, 0)
termination_by m
decreasing_by all_goals omega
theorem strip_ten {m : Nat} (h : m ≠ 0) (h0 : m % 10 = 0) : strip m = ((strip (m / 10)).1, (strip (m / 10)).2 + 1) := by rw [strip, dif_pos ⟨h, h0⟩]
theorem strip_end {m : Nat} (h0 : m % 10 ≠ 0) : strip m = (m, 0) := by rw [strip, dif_neg (fun hh => h0 hh.2)]
def madeD (neg : Bool) (m : Nat) (e : Int) : D × Int :=
 if m = 0 then (⟨false, [], 0⟩, 0) else if 300 < (decs (strip m).1).length then (⟨false, [], 0⟩, 51) else if e + (strip m).2 < -1000 ∨ 1000 < e + (strip m).2 then (⟨false, [], 0⟩, 52) else (⟨neg, limbs (strip m).1, e + (strip m).2⟩, 0)
theorem From_any (n : Nat) (w : World) (h : n < 18446744073709551616) : Calls Tryz.prog 105 #[.int .u64 n] w fun e w' => ∃ v : Value, e = .returned v ∧ Kd.R (Kd.int .u32) 90 w' w.heap.size (fun _ => True) v (limbs n) ∧ Below w.heap.size w w' := by
 by_cases h0 : n = 0
 · subst h0
   rw [limbs_zero]
   go_enter Tryz.func105, Tryz.ntmps105
   go_wp2
   go_ret
   exact ⟨_, rfl, Kd.R_nil _ _ _ _ _, Below.refl _ _⟩
 · have h0b : ((n : Int) == 0) = false := by rw [beq_eq_false_iff_ne]; omega
   by_cases h1 : n < 4294967296
   · have hl : limbs n = [(n : Int)] := by rw [limbs_pos h0, show n / 4294967296 = 0 by omega, limbs_zero, show n % 4294967296 = n by omega]
     have ho : (w.alloc (.cells #[.int .u32 (n : Int)] 90)).ownsRow w.heap.size 90 1 (.slice (some ⟨w.heap.size, 0, none⟩) 1 1) 1 (nums .u32 [(n : Int)]) := own_lit w w.heap.size 90 .u32 [(n : Int)] (Nat.le_refl _) (by simp)
     have hR : Kd.R (Kd.int .u32) 90 (w.alloc (.cells #[.int .u32 (n : Int)] 90)) w.heap.size (fun _ => True) (.slice (some ⟨w.heap.size, 0, none⟩) ([(n : Int)] : List Int).length 1) [(n : Int)] := Kd.R_of_own (enc := Value.int .u32) ho (fun _ _ => trivial)
     rw [hl]
     have HR := Lib.hid hR
     have hlt : (n : Int) < 4294967296 := by omega
     have e1 : (n : Int) % 4294967296 = (n : Int) := by omega
     clear ho hR hl h0 h1 h
     go_enter Tryz.func105, Tryz.ntmps105
     go_wp2
     go_ret
     exact ⟨_, rfl, HR.out, (Below.refl _ _).alloc (Nat.le_refl _) _⟩
   · have hl : limbs n = [((n % 4294967296 : Nat) : Int), ((n / 4294967296 : Nat) : Int)] := by rw [limbs_pos h0, limbs_pos (show n / 4294967296 ≠ 0 by omega), show n / 4294967296 / 4294967296 = 0 by omega, limbs_zero, show n / 4294967296 % 4294967296 = n / 4294967296 by omega]
     have ho : (w.alloc (.cells #[.int .u32 ((n % 4294967296 : Nat) : Int), .int .u32 ((n / 4294967296 : Nat) : Int)] 90)).ownsRow w.heap.size 90 1 (.slice (some ⟨w.heap.size, 0, none⟩) 2 2) 2 (nums .u32 [((n % 4294967296 : Nat) : Int), ((n / 4294967296 : Nat) : Int)]) := own_lit w w.heap.size 90 .u32 [((n % 4294967296 : Nat) : Int), ((n / 4294967296 : Nat) : Int)] (Nat.le_refl _) (by simp)
     have hR : Kd.R (Kd.int .u32) 90 (w.alloc (.cells #[.int .u32 ((n % 4294967296 : Nat) : Int), .int .u32 ((n / 4294967296 : Nat) : Int)] 90)) w.heap.size (fun _ => True) (.slice (some ⟨w.heap.size, 0, none⟩) ([((n % 4294967296 : Nat) : Int), ((n / 4294967296 : Nat) : Int)] : List Int).length 2) [((n % 4294967296 : Nat) : Int), ((n / 4294967296 : Nat) : Int)] := Kd.R_of_own (enc := Value.int .u32) ho (fun _ _ => trivial)
     rw [hl]
     have hd2 : n / 4294967296 < 4294967296 := by omega
     have e1 : (n : Int) % 4294967296 = ((n % 4294967296 : Nat) : Int) := by omega
     have e2 : (n : Int) / 4294967296 = ((n / 4294967296 : Nat) : Int) := by omega
     have e3 : ((n / 4294967296 : Nat) : Int) % 4294967296 = ((n / 4294967296 : Nat) : Int) := by omega
     have hlt : ¬ (n : Int) < 4294967296 := by omega
     generalize n % 4294967296 = a at *
     generalize n / 4294967296 = b at *
     have HR := Lib.hid hR
     have hh : (n : Int) < 18446744073709551616 := by omega
     clear ho hR hl h0 h1 h hd2 hh
     go_enter Tryz.func105, Tryz.ntmps105
     go_wp2
     go_ret
     exact ⟨_, rfl, HR.out, (Below.refl _ _).alloc (Nat.le_refl _) _⟩
theorem number_any (n : Nat) (w : World) (h : n < 18446744073709551616) : Calls Tryz.prog 79 #[.int .u64 n] w fun e w' => ∃ v : Value, e = .returned v ∧ Kd.R (Kd.int .i64) 3 w' w.heap.size (fun _ => True) v (decs n) ∧ Below w.heap.size w w' := by
 have HF := Lib.hid (From_any n w h)
 have hl : (limbs n).length ≤ 2 := limbs_len (k := 2) (by omega)
 have HD : Hid (∀ W A c, Kd.C (Kd.int .u32) W A (limbs n).length (limbs n) → Calls Tryz.prog 98 #[.slice A (limbs n).length c] W fun e w' => ∃ v : Value, e = .returned v ∧ Kd.R (Kd.int .i64) 3 w' W.heap.size (fun _ => True) v (decs n) ∧ Below W.heap.size W w') := Lib.hid (fun W A c hC => by
  have := Digits_any (limbs n) A c W hC (by omega) (okL_limbs n)
  rw [val_limbs] at this
  exact this)
 generalize limbs n = l at *
 generalize decs n = d at *
 clear h hl
 go_enter Tryz.func79, Tryz.ntmps79
 go_wp2_with (first
  | (go_at_call 105; (with_reducible refine (HF.out).mono ?_); rintro e w1 ⟨v1, rfl, hR1, hB1⟩; obtain ⟨A1, c1, rfl⟩ := Kd.R_slice hR1; have HR1 := Lib.hid (Kd.R_reads' hR1).2.2; have HB1 := Lib.hid hB1; clear hR1 hB1)
  | (go_at_call 98; (with_reducible refine (HD.out _ _ _ HR1.out).mono ?_); rintro e w2 ⟨v2, rfl, hR2, hB2⟩; have HR2 := Lib.hid (Kd.R_lower hR2 HB1.out.size); have HB2 := Lib.hid (HB1.out.trans (hB2.mono HB1.out.size)); clear hR2 hB2))
 go_ret
 exact ⟨_, rfl, HR2.out, HB2.out⟩
structure MadeAt (w W : World) (neg : Bool) (m : Nat) (e : Int) (A : Option Addr) (n c : Nat) (B : Option Addr) (ln d k z : Nat) : Prop where
 nz : k ≠ 0
 le : k ≤ m
 one : (strip m).1 = (strip k).1
 two : (strip m).2 = (strip k).2 + z
 len : ln = (decs k).length
 row : Kd.C (Kd.int .i64) w B (decs k).length (decs k)
 cap : ln ≤ d
 box : W.heap[w.heap.size]? = some (.cells #[.bool neg, .slice A n c, .int .i64 (e + z)] 101 (0, 0))
 res : W.heap[w.heap.size + 1]? = some (.cells #[.bool false, .slice none 0 0, .int .i64 0] 31 (0, 0))
 below : Below w.heap.size w W
theorem decs_drop {k : Nat} (h : k ≠ 0) : (decs k).drop 1 = decs (k / 10) := by rw [decs_pos h]; rfl
theorem decs_ten {k : Nat} (h : k ≠ 0) : rd (decs k) (0 : Int) = ((k % 10 : Nat) : Int) := by rw [decs_pos h]; rfl
theorem strip_len : ∀ m : Nat, (strip m).2 ≤ (decs m).length := by
 intro m
 induction m using Nat.strongRecOn with
 | _ m ih =>
  by_cases h : m ≠ 0 ∧ m % 10 = 0
  · rw [strip_ten h.1 h.2, decs_pos h.1, List.length_cons]
    have := ih (m / 10) (by omega)
    omega
  · rw [strip, dif_neg h]
    exact Nat.zero_le _
theorem MadeAt.step {w W : World} {neg : Bool} {m : Nat} {e : Int} {A : Option Addr} {n c : Nat} {B : Option Addr} {ln d k z : Nat} (h : MadeAt w W neg m e A n c B ln d k z) (h0 : k % 10 = 0) :
 MadeAt w (W.setCell ⟨w.heap.size, 2, none⟩ (.int .i64 (e + (z + 1 : Nat)))) neg m e A n c (if d = 1 then B else B.map (·.add 1)) (ln - 1) (d - 1) (k / 10) (z + 1) := by
 have hk := h.nz
 have hdl : (decs (k / 10)).length + 1 = ln := by rw [h.len, decs_pos hk, List.length_cons]
 refine ⟨by omega, by have := h.le; omega, by rw [h.one, strip_ten hk h0], by rw [h.two, strip_ten hk h0]; show (strip (k / 10)).2 + 1 + z = _; omega, by omega, ?_, by have := h.cap; omega, ?_, ?_, h.below.setCell (p := ⟨w.heap.size, 2, none⟩) (Nat.le_refl _) _⟩
 · have := Kd.C_drop h.row (m := 1) (by rw [← h.len]; omega) (c := d) (by rw [← h.len]; exact h.cap)
   rw [decs_drop hk] at this
   exact this
 · have := blk_set h.box 2 (.int .i64 (e + (z + 1 : Nat)))
   rw [this]
   rfl
 · exact blk_far h.res (by simp) _
set_option maxHeartbeats 4000000 in
theorem Made_any (neg : Bool) (m : Nat) (e : Int) (A : Option Addr) (c : Nat) (w : World) (hC : Kd.C (Kd.int .i64) w A (decs m).length (decs m)) (hc : (decs m).length ≤ c) (hl : (decs m).length ≤ 1000000) (he : -1000000000 ≤ e ∧ e ≤ 1000000000) :
 Calls Tryz.prog 81 #[.agg #[.bool neg, .slice A (decs m).length c, .int .i64 e]] w fun x w' => ∃ v : Value, x = .returned (.tuple #[.agg #[.bool (madeD neg m e).1.f0, v, .int .i64 (madeD neg m e).1.f2], .int .i64 (madeD neg m e).2]) ∧ Kd.R (Kd.int .u32) 90 w' w.heap.size (fun _ => True) v (madeD neg m e).1.f1 ∧ Below w.heap.size w w' := by
 have HTR := fun W (hW : Below w.heap.size w W) => Trim_any (decs m) A c W (Kd.C_below hC hW) hc (by omega) (okD_decs m)
 simp only [dval_decs] at HTR
 have HT := Lib.hid HTR
 clear HTR
 obtain ⟨n, hn⟩ : ∃ n, n = (decs m).length := ⟨_, rfl⟩
 obtain ⟨W2, hW2⟩ : ∃ W2, W2 = (w.alloc (.cells #[.bool neg, .slice A n c, .int .i64 e] 101)).alloc (.cells #[.bool false, .slice none 0 0, .int .i64 0] 31) := ⟨_, rfl⟩
 have hb2 : Below w.heap.size w W2 := by rw [hW2]; exact ((Below.refl _ _).alloc (Nat.le_refl _) _).alloc (by simp) _
 have hx2 : W2.heap[w.heap.size]? = some (.cells #[.bool neg, .slice A n c, .int .i64 e] 101 (0, 0)) := by rw [hW2]; exact blk_alloc (blk_new _ _) _
 have hr2 : W2.heap[w.heap.size + 1]? = some (.cells #[.bool false, .slice none 0 0, .int .i64 0] 31 (0, 0)) := by rw [hW2]; have := blk_new (w.alloc (.cells #[.bool neg, .slice A n c, .int .i64 e] 101)) (.cells #[.bool false, .slice none 0 0, .int .i64 0] 31); rwa [World.size_alloc] at this
 have HW2 := Lib.hid hW2
 have HB2 := Lib.hid hb2
 have HR2 := Lib.hid hr2
 have HTW := Lib.hid (HT.out W2 hb2)
 rw [← hn] at HTW
 obtain ⟨hcx, hfx⟩ := bcells hx2 (Below.refl _ _)
 obtain ⟨hcr, hfr⟩ := bcells hr2 (Below.refl _ _)
 have HMD := Lib.hid (show madeD neg m e = _ from rfl)
 obtain ⟨r, hr⟩ : ∃ r, r = madeD neg m e := ⟨_, rfl⟩
 rw [← hr, ← hn]
 by_cases hm : m = 0
 · have hrr : r = (⟨false, [], 0⟩, 0) := by rw [hr]; unfold madeD; rw [if_pos hm]
   have hn0 : ((n : Int) == 0) = true := by rw [hn, hm, decs_zero]; rfl
   rw [hrr]
   have HX2 := Lib.hid hx2
   clear hC hc hl he HT hb2 hx2 hr2 hW2 hm hr hrr HMD hn
   go_enter Tryz.func81, Tryz.ntmps81
   go_upto_region 1 with (fail)
   rw [← HW2.out]
   go_wp2_with (go_at_call 107; (with_reducible refine (HTW.out).mono ?_); rintro e w1 ⟨rfl, rfl, _, _⟩)
   obtain ⟨X, hX⟩ : ∃ X, X = ((w1.setCell ⟨w.heap.size + 1, 0, none⟩ (.bool false)).setCell ⟨w.heap.size + 1, 1, none⟩ (.slice none 0 0)).setCell ⟨w.heap.size + 1, 2, none⟩ (.int .i64 0) := ⟨_, rfl⟩
   obtain ⟨y0, y1, y2⟩ := cells3 (by rw [hX]; exact box3_out HR2.out (.bool false) (.slice none 0 0) (.int .i64 0) : X.heap[w.heap.size + 1]? = some (.cells #[.bool false, .slice none 0 0, .int .i64 0] 31 (0, 0)))
   have HXB : Hid (Below w.heap.size w X) := Lib.hid (by rw [hX]; exact ((HB2.out.setCell (p := ⟨w.heap.size + 1, 0, none⟩) (by simp) _).setCell (p := ⟨w.heap.size + 1, 1, none⟩) (by simp) _).setCell (p := ⟨w.heap.size + 1, 2, none⟩) (by simp) _)
   rw [← hX]
   clear hX
   exact bodyPost_ret (v := .tuple #[.agg #[.bool false, .slice none 0 0, .int .i64 0], .int .i64 0]) (by simp [results, Tryz.f81, go_sem, y0, y1, y2]) rfl ⟨_, rfl, Kd.R_nil _ _ _ _ _, HXB.out⟩
 · have hn0 : ((n : Int) == 0) = false := by rw [hn, beq_eq_false_iff_ne]; rw [decs_pos hm]; simp only [List.length_cons]; omega
   have H0 : Hid (MadeAt w W2 neg m e A n c A n c m 0) := Lib.hid ⟨hm, Nat.le_refl _, rfl, rfl, hn, hC, by rw [hn]; exact hc, by rw [show e + ((0 : Nat) : Int) = e by omega]; exact hx2, hr2, hb2⟩
   have HZ : Hid (∀ k z, (strip m).2 = (strip k).2 + z → z ≤ 1000000) := Lib.hid (fun k z h => by have := strip_len m; omega)
   have HRR : Hid (r = madeD neg m e) := Lib.hid hr
   have HM := Lib.hid hm
   have HEB := Lib.hid he
   clear hC hc hl he HT hb2 hx2 hr2 hW2 hm hr HMD hn
   go_enter Tryz.func81, Tryz.ntmps81
   go_upto_region 1 with (fail)
   rw [← HW2.out]
   go_wp2_with (go_at_call 107; (with_reducible refine (HTW.out).mono ?_); rintro e w1 ⟨rfl, rfl, _, _⟩)
   clear hcx hfx hcr hfr HR2
   go_loopg [4] m (fun k vd wr => ∃ (z : Nat) (B : Option Addr) (ln d : Nat), vd = .slice B ln d ∧ Hid (MadeAt w wr neg m e A n c B ln d k z))
   case atStart => exact ⟨0, A, n, c, rfl, H0⟩
   case round =>
    obtain ⟨z, B, ln, d, rfl, HA⟩ := hrel
    have hlp : 0 < ln := by rw [HA.out.len, decs_pos HA.out.nz]; simp
    obtain ⟨ad, rfl, hx⟩ := Kd.at_int (Kd.C_below HA.out.row HA.out.below) (0 : Int) (by omega) (by rw [← HA.out.len]; omega)
    have had : ad.add (Int.toNat 0) = ad := by simp [Addr.add]
    rw [had, decs_ten HA.out.nz] at hx
    obtain ⟨hcx, hfx⟩ := bcells HA.out.box (Below.refl _ _)
    obtain ⟨hcr, hfr⟩ := bcells HA.out.res (Below.refl _ _)
    have hzb : z ≤ 1000000 := HZ.out gk z HA.out.two
    obtain ⟨x, hxe⟩ : ∃ x : Int, x = e + (z : Int) := ⟨_, rfl⟩
    have hx1 : -2000000000 ≤ x := by have := HEB.out; omega
    have hx2 : x ≤ 2000000000 := by have := HEB.out; omega
    rw [← hxe] at hcx
    have HXE := Lib.hid hxe
    clear had hxe
    by_cases h0 : gk % 10 = 0
    · have hb0 : (((gk % 10 : Nat) : Int) == 0) = true := by rw [h0]; rfl
      have hst := HA.out.step h0
      rw [show e + ((z + 1 : Nat) : Int) = x + 1 by rw [HXE.out]; omega] at hst
      have HST := Lib.hid hst
      have hlt : gk / 10 < gk := by have := HA.out.nz; omega
      have hcut := fun W : World => cut_from (P := Tryz.prog) 40 3 .i64 Tryz.underlying40 (i := (Tryz.prog.info? 3).get (by kernel_rfl)) (by kernel_rfl) 1 (by kernel_rfl) (some ad) ln d (1 : Int) (by omega) (by omega) W
      obtain ⟨B2, hB2⟩ : ∃ B2, B2 = (if d = 1 then some ad else (some ad).map (·.add 1)) := ⟨_, rfl⟩
      replace hcut : ∀ W : World, (Instr.slice 40 (.slice (some ad) ln d) (some (.int .i64 1)) none none).run Tryz.prog W = .ok (.slice B2 (ln - 1) (d - 1)) W := fun W => by rw [hB2]; exact hcut W
      rw [← hB2] at HST
      clear hB2 h0 hst
      go_wp2
      go_roundg (gk / 10)
      case measure => exact hlt
      case rel => exact ⟨z + 1, B2, ln - 1, d - 1, rfl, HST⟩
    · have hb0 : (((gk % 10 : Nat) : Int) == 0) = false := by rw [beq_eq_false_iff_ne]; omega
      have HSE : Hid (strip m = (gk, z)) := Lib.hid (by
       have h1 := HA.out.one
       have h2 := HA.out.two
       rw [strip_end h0] at h1 h2
       rw [show strip m = ((strip m).1, (strip m).2) from rfl, h1, h2]
       simp)
      have HMM : Hid (r = if 300 < ln then (⟨false, [], 0⟩, 51) else if x < -1000 ∨ 1000 < x then (⟨false, [], 0⟩, 52) else (⟨neg, limbs gk, x⟩, 0)) := Lib.hid (by rw [HRR.out]; unfold madeD; rw [if_neg HM.out, HSE.out, HA.out.len, HXE.out])
      clear h0
      by_cases h3 : 300 < ln
      · have h3i : (300 : Int) < (ln : Int) := by omega
        have hrr : r = (⟨false, [], 0⟩, 51) := by rw [HMM.out, if_pos h3]
        subst hrr
        have HRES := Lib.hid HA.out.res
        have HBEL := Lib.hid HA.out.below
        clear h3 HMM HRR
        go_wp2
        obtain ⟨X, hX⟩ : ∃ X, X = ((wr.setCell ⟨w.heap.size + 1, 0, none⟩ (.bool false)).setCell ⟨w.heap.size + 1, 1, none⟩ (.slice none 0 0)).setCell ⟨w.heap.size + 1, 2, none⟩ (.int .i64 0) := ⟨_, rfl⟩
        obtain ⟨y0, y1, y2⟩ := cells3 (by rw [hX]; exact box3_out HRES.out (.bool false) (.slice none 0 0) (.int .i64 0) : X.heap[w.heap.size + 1]? = some (.cells #[.bool false, .slice none 0 0, .int .i64 0] 31 (0, 0)))
        have HXB : Hid (Below w.heap.size w X) := Lib.hid (by rw [hX]; exact ((HBEL.out.setCell (p := ⟨w.heap.size + 1, 0, none⟩) (by simp) _).setCell (p := ⟨w.heap.size + 1, 1, none⟩) (by simp) _).setCell (p := ⟨w.heap.size + 1, 2, none⟩) (by simp) _)
        rw [← hX]
        clear hX
        exact bodyPost_ret (v := .tuple #[.agg #[.bool false, .slice none 0 0, .int .i64 0], .int .i64 51]) (by simp [results, Tryz.f81, go_sem, y0, y1, y2]) rfl ⟨_, rfl, Kd.R_nil _ _ _ _ _, HXB.out⟩
      · have h3i : ¬ (300 : Int) < (ln : Int) := by omega
        by_cases h4 : x < -1000 ∨ 1000 < x
        · have hrr : r = (⟨false, [], 0⟩, 52) := by rw [HMM.out, if_neg h3, if_pos h4]
          subst hrr
          have HRES := Lib.hid HA.out.res
          have HBEL := Lib.hid HA.out.below
          clear h3 HMM HRR
          have h5 : x < -1000 ∨ ¬ x < -1000 ∧ 1000 < x := by omega
          clear h4
          rcases h5 with h5 | ⟨h5, h6⟩
          all_goals
           go_wp2
           obtain ⟨X, hX⟩ : ∃ X, X = ((wr.setCell ⟨w.heap.size + 1, 0, none⟩ (.bool false)).setCell ⟨w.heap.size + 1, 1, none⟩ (.slice none 0 0)).setCell ⟨w.heap.size + 1, 2, none⟩ (.int .i64 0) := ⟨_, rfl⟩
           obtain ⟨y0, y1, y2⟩ := cells3 (by rw [hX]; exact box3_out HRES.out (.bool false) (.slice none 0 0) (.int .i64 0) : X.heap[w.heap.size + 1]? = some (.cells #[.bool false, .slice none 0 0, .int .i64 0] 31 (0, 0)))
           have HXB : Hid (Below w.heap.size w X) := Lib.hid (by rw [hX]; exact ((HBEL.out.setCell (p := ⟨w.heap.size + 1, 0, none⟩) (by simp) _).setCell (p := ⟨w.heap.size + 1, 1, none⟩) (by simp) _).setCell (p := ⟨w.heap.size + 1, 2, none⟩) (by simp) _)
           rw [← hX]
           clear hX
           exact bodyPost_ret (v := .tuple #[.agg #[.bool false, .slice none 0 0, .int .i64 0], .int .i64 52]) (by simp [results, Tryz.f81, go_sem, y0, y1, y2]) rfl ⟨_, rfl, Kd.R_nil _ _ _ _ _, HXB.out⟩
        · have hrr : r = (⟨neg, limbs gk, x⟩, 0) := by rw [HMM.out, if_neg h3, if_neg h4]
          have h5 : ¬ x < -1000 := by omega
          have h6 : ¬ 1000 < x := by omega
          subst hrr
          have HLB : Hid (∀ W, Below w.heap.size w W → Calls Tryz.prog 108 #[.slice (some ad) ln d] W fun e w' => ∃ v : Value, e = .returned v ∧ Kd.R (Kd.int .u32) 90 w' W.heap.size (fun _ => True) v (limbs gk) ∧ Below W.heap.size W w') := Lib.hid (fun W hW => by
           rw [HA.out.len]
           exact Limbs_any gk (some ad) d W (Kd.C_below HA.out.row hW) (by rw [← HA.out.len]; omega))
          have HBX := Lib.hid HA.out.box
          have HRES := Lib.hid HA.out.res
          have HBEL := Lib.hid HA.out.below
          rw [← HXE.out] at HBX
          clear h3 h4 HMM HRR
          have HBc : Hid (Below wr.heap.size wr wr.drew) := Lib.hid (below_drew (Below.refl _ _))
          go_upto_region 11 with (fail)
          clear hcx hfx hcr hfr hx HA
          refine wp_region_any (by kernel_rfl) ?_
          change wpAny _ _ _ _ _ _ _ (World.drew _)
          refine tq 0 (h := ?_)
          refine tq 2 (h := ?_)
          simp only [lst]
          refine tq 4 (h := ?_)
          simp only [lst]
          refine three 1 3 5 rfl rfl rfl (by kernel_rfl) (by rfl) (by rfl) (by rfl) (fun K_ hK_ => ?_) (fun K_ hK_ => ?_) (fun K_ hK_ => ?_)
          obtain ⟨q0, q1, q2⟩ := cells3 (blk_below2 HBX.out HBc.out)
          simp only [lgt]
          go_simp
          refine hK_ _ _ ?_
          clear hK_ K_
          refine two 3 5 rfl rfl (by kernel_rfl) (by rfl) (by rfl) (fun K_ hK_ => ?_) (fun K_ hK_ => ?_)
          simp only [lgt]
          go_simp
          refine (HLB.out _ (HBEL.out.trans (HBc.out.mono HBEL.out.size))).mono ?_
          rintro e_ w7 ⟨v7, rfl, hR7, hB7⟩
          obtain ⟨G7, c7, rfl⟩ := Kd.R_slice hR7
          have HR7 := Lib.hid (Kd.R_lower hR7 (Nat.le_trans HBEL.out.size HBc.out.size))
          have HBc := Lib.hid (HBc.out.trans (hB7.mono HBc.out.size))
          clear hR7 hB7
          simp only [Oper.upon]
          refine hK_ _ _ ?_
          clear hK_ K_
          refine one 5 rfl (by kernel_rfl) (by rfl) fun K_ hK_ => ?_
          obtain ⟨q0, q1, q2⟩ := cells3 (blk_below2 HBX.out HBc.out)
          simp only [lgt]
          go_simp
          refine hK_ _ _ ?_
          clear hK_ K_
          refine tq 6 (h := ?_)
          simp only [lst]
          refine one 7 rfl (by kernel_rfl) (by rfl) fun K_ hK_ => ?_
          obtain ⟨q0, q1, q2⟩ := cells3 (blk_below2 HRES.out HBc.out)
          have qf := blk_frozen (blk_below2 HRES.out HBc.out)
          simp only [lgt]
          go_simp
          refine hK_ _ _ ?_
          clear hK_ K_
          refine tq 8 (h := ?_)
          refine wpAny_done (by kernel_rfl) ?_ _
          simp only [lst]
          rotate_left
          obtain ⟨q0, q1, q2⟩ := cells3 (blk_below2 HBX.out HBc.out)
          simp only [lgt]
          go_simp
          refine hK_ _ _ ?_
          clear hK_ K_
          refine one 3 rfl (by kernel_rfl) (by rfl) fun K_ hK_ => ?_
          simp only [lgt]
          go_simp
          refine (HLB.out _ (HBEL.out.trans (HBc.out.mono HBEL.out.size))).mono ?_
          rintro e_ w7 ⟨v7, rfl, hR7, hB7⟩
          obtain ⟨G7, c7, rfl⟩ := Kd.R_slice hR7
          have HR7 := Lib.hid (Kd.R_lower hR7 (Nat.le_trans HBEL.out.size HBc.out.size))
          have HBc := Lib.hid (HBc.out.trans (hB7.mono HBc.out.size))
          clear hR7 hB7
          simp only [Oper.upon]
          refine hK_ _ _ ?_
          clear hK_ K_
          refine tq 6 (h := ?_)
          simp only [lst]
          refine one 7 rfl (by kernel_rfl) (by rfl) fun K_ hK_ => ?_
          obtain ⟨q0, q1, q2⟩ := cells3 (blk_below2 HRES.out HBc.out)
          have qf := blk_frozen (blk_below2 HRES.out HBc.out)
          simp only [lgt]
          go_simp
          refine hK_ _ _ ?_
          clear hK_ K_
          refine tq 8 (h := ?_)
          refine wpAny_done (by kernel_rfl) ?_ _
          simp only [lst]
          rotate_left
          simp only [lgt]
          go_simp
          refine (HLB.out _ (HBEL.out.trans (HBc.out.mono HBEL.out.size))).mono ?_
          rintro e_ w7 ⟨v7, rfl, hR7, hB7⟩
          obtain ⟨G7, c7, rfl⟩ := Kd.R_slice hR7
          have HR7 := Lib.hid (Kd.R_lower hR7 (Nat.le_trans HBEL.out.size HBc.out.size))
          have HBc := Lib.hid (HBc.out.trans (hB7.mono HBc.out.size))
          clear hR7 hB7
          simp only [Oper.upon]
          refine hK_ _ _ ?_
          clear hK_ K_
          refine two 1 5 rfl rfl (by kernel_rfl) (by rfl) (by rfl) (fun K_ hK_ => ?_) (fun K_ hK_ => ?_)
          obtain ⟨q0, q1, q2⟩ := cells3 (blk_below2 HBX.out HBc.out)
          simp only [lgt]
          go_simp
          refine hK_ _ _ ?_
          clear hK_ K_
          refine one 5 rfl (by kernel_rfl) (by rfl) fun K_ hK_ => ?_
          obtain ⟨q0, q1, q2⟩ := cells3 (blk_below2 HBX.out HBc.out)
          simp only [lgt]
          go_simp
          refine hK_ _ _ ?_
          clear hK_ K_
          refine tq 6 (h := ?_)
          simp only [lst]
          refine one 7 rfl (by kernel_rfl) (by rfl) fun K_ hK_ => ?_
          obtain ⟨q0, q1, q2⟩ := cells3 (blk_below2 HRES.out HBc.out)
          have qf := blk_frozen (blk_below2 HRES.out HBc.out)
          simp only [lgt]
          go_simp
          refine hK_ _ _ ?_
          clear hK_ K_
          refine tq 8 (h := ?_)
          refine wpAny_done (by kernel_rfl) ?_ _
          simp only [lst]
          rotate_left
          obtain ⟨q0, q1, q2⟩ := cells3 (blk_below2 HBX.out HBc.out)
          simp only [lgt]
          go_simp
          refine hK_ _ _ ?_
          clear hK_ K_
          refine one 1 rfl (by kernel_rfl) (by rfl) fun K_ hK_ => ?_
          obtain ⟨q0, q1, q2⟩ := cells3 (blk_below2 HBX.out HBc.out)
          simp only [lgt]
          go_simp
          refine hK_ _ _ ?_
          clear hK_ K_
          refine tq 6 (h := ?_)
          simp only [lst]
          refine one 7 rfl (by kernel_rfl) (by rfl) fun K_ hK_ => ?_
          obtain ⟨q0, q1, q2⟩ := cells3 (blk_below2 HRES.out HBc.out)
          have qf := blk_frozen (blk_below2 HRES.out HBc.out)
          simp only [lgt]
          go_simp
          refine hK_ _ _ ?_
          clear hK_ K_
          refine tq 8 (h := ?_)
          refine wpAny_done (by kernel_rfl) ?_ _
          simp only [lst]
          rotate_left
          obtain ⟨q0, q1, q2⟩ := cells3 (blk_below2 HBX.out HBc.out)
          simp only [lgt]
          go_simp
          refine hK_ _ _ ?_
          clear hK_ K_
          refine two 1 3 rfl rfl (by kernel_rfl) (by rfl) (by rfl) (fun K_ hK_ => ?_) (fun K_ hK_ => ?_)
          obtain ⟨q0, q1, q2⟩ := cells3 (blk_below2 HBX.out HBc.out)
          simp only [lgt]
          go_simp
          refine hK_ _ _ ?_
          clear hK_ K_
          refine one 3 rfl (by kernel_rfl) (by rfl) fun K_ hK_ => ?_
          simp only [lgt]
          go_simp
          refine (HLB.out _ (HBEL.out.trans (HBc.out.mono HBEL.out.size))).mono ?_
          rintro e_ w7 ⟨v7, rfl, hR7, hB7⟩
          obtain ⟨G7, c7, rfl⟩ := Kd.R_slice hR7
          have HR7 := Lib.hid (Kd.R_lower hR7 (Nat.le_trans HBEL.out.size HBc.out.size))
          have HBc := Lib.hid (HBc.out.trans (hB7.mono HBc.out.size))
          clear hR7 hB7
          simp only [Oper.upon]
          refine hK_ _ _ ?_
          clear hK_ K_
          refine tq 6 (h := ?_)
          simp only [lst]
          refine one 7 rfl (by kernel_rfl) (by rfl) fun K_ hK_ => ?_
          obtain ⟨q0, q1, q2⟩ := cells3 (blk_below2 HRES.out HBc.out)
          have qf := blk_frozen (blk_below2 HRES.out HBc.out)
          simp only [lgt]
          go_simp
          refine hK_ _ _ ?_
          clear hK_ K_
          refine tq 8 (h := ?_)
          refine wpAny_done (by kernel_rfl) ?_ _
          simp only [lst]
          rotate_left
          simp only [lgt]
          go_simp
          refine (HLB.out _ (HBEL.out.trans (HBc.out.mono HBEL.out.size))).mono ?_
          rintro e_ w7 ⟨v7, rfl, hR7, hB7⟩
          obtain ⟨G7, c7, rfl⟩ := Kd.R_slice hR7
          have HR7 := Lib.hid (Kd.R_lower hR7 (Nat.le_trans HBEL.out.size HBc.out.size))
          have HBc := Lib.hid (HBc.out.trans (hB7.mono HBc.out.size))
          clear hR7 hB7
          simp only [Oper.upon]
          refine hK_ _ _ ?_
          clear hK_ K_
          refine one 1 rfl (by kernel_rfl) (by rfl) fun K_ hK_ => ?_
          obtain ⟨q0, q1, q2⟩ := cells3 (blk_below2 HBX.out HBc.out)
          simp only [lgt]
          go_simp
          refine hK_ _ _ ?_
          clear hK_ K_
          refine tq 6 (h := ?_)
          simp only [lst]
          refine one 7 rfl (by kernel_rfl) (by rfl) fun K_ hK_ => ?_
          obtain ⟨q0, q1, q2⟩ := cells3 (blk_below2 HRES.out HBc.out)
          have qf := blk_frozen (blk_below2 HRES.out HBc.out)
          simp only [lgt]
          go_simp
          refine hK_ _ _ ?_
          clear hK_ K_
          refine tq 8 (h := ?_)
          refine wpAny_done (by kernel_rfl) ?_ _
          simp only [lst]
          rotate_left
          all_goals
           obtain ⟨X, hX⟩ : ∃ X, X = ((w7.setCell ⟨w.heap.size + 1, 0, none⟩ (.bool neg)).setCell ⟨w.heap.size + 1, 1, none⟩ (.slice G7 (limbs gk).length c7)).setCell ⟨w.heap.size + 1, 2, none⟩ (.int .i64 x) := ⟨_, rfl⟩
           obtain ⟨y0, y1, y2⟩ := cells3 (by rw [hX]; exact box3_out (blk_below2 HRES.out HBc.out) (.bool neg) (.slice G7 (limbs gk).length c7) (.int .i64 x) : X.heap[w.heap.size + 1]? = some (.cells #[.bool neg, .slice G7 (limbs gk).length c7, .int .i64 x] 31 (0, 0)))
           have HXB : Hid (Below w.heap.size w X) := Lib.hid (by rw [hX]; exact (((HBEL.out.trans (HBc.out.mono HBEL.out.size)).setCell (p := ⟨w.heap.size + 1, 0, none⟩) (by simp) _).setCell (p := ⟨w.heap.size + 1, 1, none⟩) (by simp) _).setCell (p := ⟨w.heap.size + 1, 2, none⟩) (by simp) _)
           have HXR : Hid (Kd.R (Kd.int .u32) 90 X w.heap.size (fun _ => True) (.slice G7 (limbs gk).length c7) (limbs gk)) := Lib.hid (by
            have h0 := blk_below2 HRES.out HBc.out
            have h1 := blk_set h0 0 (.bool neg)
            have h2 := blk_set h1 1 (.slice G7 (limbs gk).length c7)
            rw [hX]
            exact Kd.R_set (Kd.R_set (Kd.R_set HR7.out h0 (by decide) 0 _) h1 (by decide) 1 _) h2 (by decide) 2 _)
           rw [← hX]
           clear hX
           go_wp2_with fail
           exact bodyPost_ret (v := .tuple #[.agg #[.bool neg, .slice G7 (limbs gk).length c7, .int .i64 x], .int .i64 0]) (by simp [results, Tryz.f81, go_sem, y0, y1, y2]) rfl ⟨_, rfl, HXR.out, HXB.out⟩
def intD (n : Nat) : D := (madeD false n 0).1
set_option maxHeartbeats 2000000 in
theorem Int_any (n : Nat) (w : World) (h : n ≤ 9000000000000000000) : Calls Tryz.prog 57 #[.int .i64 n] w fun x w' => ∃ v : Value, x = .returned (.agg #[.bool (intD n).f0, v, .int .i64 (intD n).f2]) ∧ Kd.R (Kd.int .u32) 90 w' w.heap.size (fun _ => True) v (intD n).f1 ∧ Below w.heap.size w w' := by
 have hdl : (decs n).length ≤ 1000000 := Nat.le_trans (decs_len (k := 19) (Nat.lt_of_le_of_lt h (by decide))) (by decide)
 obtain ⟨W1, hW1⟩ : ∃ W1, W1 = w.alloc (.cells #[.bool false, .slice none 0 0, .int .i64 0] 31) := ⟨_, rfl⟩
 have hb1 : Below w.heap.size w W1 := by rw [hW1]; exact (Below.refl _ _).alloc (Nat.le_refl _) _
 have hx1 : W1.heap[w.heap.size]? = some (.cells #[.bool false, .slice none 0 0, .int .i64 0] 31 (0, 0)) := by rw [hW1]; exact blk_new _ _
 have HN := Lib.hid (number_any n W1 (by omega))
 have HMD : Hid (∀ G c W, Kd.C (Kd.int .i64) W G (decs n).length (decs n) → (decs n).length ≤ c → Calls Tryz.prog 81 #[.agg #[.bool false, .slice G (decs n).length c, .int .i64 0]] W fun x w' => ∃ v : Value, x = .returned (.tuple #[.agg #[.bool (intD n).f0, v, .int .i64 (intD n).f2], .int .i64 (madeD false n 0).2]) ∧ Kd.R (Kd.int .u32) 90 w' W.heap.size (fun _ => True) v (intD n).f1 ∧ Below W.heap.size W w') := Lib.hid (fun G c W hC hc => Made_any false n 0 G c W hC hc hdl (by omega))
 have e1 : IntKind.u64.wrap (n : Int) = (n : Int) := by unfold IntKind.wrap; simp [IntKind.signed, IntKind.bits]; omega
 have hn0 : (0 : Int) ≤ (n : Int) := by omega
 have hn1 : ¬ (n : Int) < 0 := by omega
 generalize decs n = ds at *
 generalize intD n = r at *
 generalize (madeD false n 0).2 = er at *
 have HW1 := Lib.hid hW1
 have HB1 := Lib.hid hb1
 have HX1 := Lib.hid hx1
 clear hW1 hb1 hx1 hdl h
 go_enter Tryz.func57, Tryz.ntmps57
 go_upto_region 1 with (fail)
 rw [← HW1.out]
 go_wp2_with (first
  | (go_at_call 79; (with_reducible refine (HN.out).mono ?_); rintro e w2 ⟨v2, rfl, hR2, hB2⟩; obtain ⟨G2, c2, rfl⟩ := Kd.R_slice hR2; have HR2 := Lib.hid (Kd.R_reads' hR2); have HB2 := Lib.hid hB2; clear hR2 hB2; obtain ⟨hcz, hfz⟩ := bcells (blk_new w2 (.cells #[.bool false, .slice none 0 0, .int .i64 0] 101)) (Below.refl _ _))
  | (go_at_call 81; (with_reducible refine (HMD.out G2 c2 _ (Kd.C_alloc HR2.out.2.2 _) HR2.out.2.1).mono ?_); rintro e w5 ⟨v5, rfl, hR5, hB5⟩; obtain ⟨G5, c5, rfl⟩ := Kd.R_slice hR5; have HR5 := Lib.hid hR5; have HB5 := Lib.hid hB5; clear hR5 hB5 hcz hfz; have HX5 := Lib.hid (blk_below2 (blk_alloc (blk_below2 HX1.out HB2.out) _) HB5.out); obtain ⟨hcz, hfz⟩ := bcells (blk_new w5 (.cells #[.bool false, .slice none 0 0, .int .i64 0] 31)) (Below.refl _ _); have hoa1 := fun (o : Obj) => (bcells (blk_alloc HX5.out o) (Below.refl _ _)).1; have hoa2 := fun (o : Obj) => (bcells (blk_alloc HX5.out o) (Below.refl _ _)).2))
 obtain ⟨W6, hW6⟩ : ∃ W6, W6 = w5.alloc (.cells #[.bool r.f0, .slice G5 r.f1.length c5, .int .i64 r.f2] 31) := ⟨_, rfl⟩
 have h5s : w2.heap.size + 1 ≤ w5.heap.size := by have := HB5.out.size; rw [World.size_alloc] at this; exact this
 have hB6 : Below w.heap.size w W6 := by
  rw [hW6]
  have h1 := HB1.out.trans (HB2.out.mono HB1.out.size)
  exact (((h1.alloc h1.size _).trans (HB5.out.mono (by rw [World.size_alloc]; have := h1.size; omega))).alloc (by have := h1.size; omega) _)
 have hx6 : W6.heap[w.heap.size]? = some (.cells #[.bool false, .slice none 0 0, .int .i64 0] 31 (0, 0)) := by rw [hW6]; exact blk_alloc HX5.out _
 have hR6 : Kd.R (Kd.int .u32) 90 W6 w.heap.size (fun _ => True) (.slice G5 r.f1.length c5) r.f1 := by
  rw [hW6]
  exact Kd.R_alloc (Kd.R_lower HR5.out (by rw [World.size_alloc]; have := HB1.out.size; have := HB2.out.size; omega)) _
 obtain ⟨X, hX⟩ : ∃ X, X = ((W6.setCell ⟨w.heap.size, 0, none⟩ (.bool r.f0)).setCell ⟨w.heap.size, 1, none⟩ (.slice G5 r.f1.length c5)).setCell ⟨w.heap.size, 2, none⟩ (.int .i64 r.f2) := ⟨_, rfl⟩
 obtain ⟨y0, y1, y2⟩ := cells3 (by rw [hX]; exact box3_out hx6 (.bool r.f0) (.slice G5 r.f1.length c5) (.int .i64 r.f2) : X.heap[w.heap.size]? = some (.cells #[.bool r.f0, .slice G5 r.f1.length c5, .int .i64 r.f2] 31 (0, 0)))
 have HXB : Hid (Below w.heap.size w X) := Lib.hid (by rw [hX]; exact ((hB6.setCell (p := ⟨w.heap.size, 0, none⟩) (by simp) _).setCell (p := ⟨w.heap.size, 1, none⟩) (by simp) _).setCell (p := ⟨w.heap.size, 2, none⟩) (by simp) _)
 have HXR : Hid (Kd.R (Kd.int .u32) 90 X w.heap.size (fun _ => True) (.slice G5 r.f1.length c5) r.f1) := Lib.hid (by
  have h1 := blk_set hx6 0 (.bool r.f0)
  have h2 := blk_set h1 1 (.slice G5 r.f1.length c5)
  rw [hX]
  exact Kd.R_set (Kd.R_set (Kd.R_set hR6 hx6 (by decide) 0 _) h1 (by decide) 1 _) h2 (by decide) 2 _)
 rw [hW6] at hX
 rw [← hX]
 clear hX hW6 hcz hfz hoa1 hoa2 hx6 hR6 hB6
 exact bodyPost_ret (v := .agg #[.bool r.f0, .slice G5 r.f1.length c5, .int .i64 r.f2]) (by simp [results, Tryz.f57, go_sem, y0, y1, y2]) rfl ⟨_, rfl, HXR.out, HXB.out⟩
def numI (n : Nat) : V := ⟨3, intD n, ⟨#[]⟩, [], []⟩
theorem num_end {w w2 : World} {r : D} {G : Option Addr} {c : Nat} (hx : w2.heap[w.heap.size]? = some (.cells #[.int .i64 0, .bool false, .slice none 0 0, .int .i64 0, .string ⟨#[]⟩, .slice none 0 0, .slice none 0 0] 34 (0, 0))) (hR : Kd.R (Kd.int .u32) 90 w2 w.heap.size (fun _ => True) (.slice G r.f1.length c) r.f1) (hB : Below w.heap.size w w2) {X : World}
 (hX : X = ((((((w2.setCell ⟨w.heap.size, 0, none⟩ (.int .i64 3)).setCell ⟨w.heap.size, 1, none⟩ (.bool r.f0)).setCell ⟨w.heap.size, 2, none⟩ (.slice G r.f1.length c)).setCell ⟨w.heap.size, 3, none⟩ (.int .i64 r.f2)).setCell ⟨w.heap.size, 4, none⟩ (.string ⟨#[]⟩)).setCell ⟨w.heap.size, 5, none⟩ (.slice none 0 0)).setCell ⟨w.heap.size, 6, none⟩ (.slice none 0 0)) :
 X.heap[w.heap.size]? = some (.cells #[.int .i64 3, .bool r.f0, .slice G r.f1.length c, .int .i64 r.f2, .string ⟨#[]⟩, .slice none 0 0, .slice none 0 0] 34 (0, 0)) ∧ k34.M X w.heap.size (fun _ => True) (⟨3, r, ⟨#[]⟩, [], []⟩ : V) [.int .i64 3, .bool r.f0, .slice G r.f1.length c, .int .i64 r.f2, .string ⟨#[]⟩, .slice none 0 0, .slice none 0 0] ∧ Below w.heap.size w X := by
 have h1 := blk_set hx 0 (.int .i64 3)
 have h2 := blk_set h1 1 (.bool r.f0)
 have h3 := blk_set h2 2 (.slice G r.f1.length c)
 have h4 := blk_set h3 3 (.int .i64 r.f2)
 have h5 := blk_set h4 4 (.string ⟨#[]⟩)
 have h6 := blk_set h5 5 (.slice none 0 0)
 have h7 := blk_set h6 6 (.slice none 0 0)
 refine ⟨by rw [hX]; exact h7, ?_, ?_⟩
 · have hR2 : Kd.R (Kd.int .u32) 90 X w.heap.size (fun _ => True) (.slice G r.f1.length c) r.f1 := by
    rw [hX]
    exact Kd.R_set (Kd.R_set (Kd.R_set (Kd.R_set (Kd.R_set (Kd.R_set (Kd.R_set hR hx (by decide) 0 _) h1 (by decide) 1 _) h2 (by decide) 2 _) h3 (by decide) 3 _) h4 (by decide) 4 _) h5 (by decide) 5 _) h6 (by decide) 6 _
   exact k34_mkM X w.heap.size (fun _ => True) (⟨3, r, ⟨#[]⟩, [], []⟩ : V) hR2 (Kd.R_nil _ _ _ _ _) (Kd.R_nil _ _ _ _ _)
 · rw [hX]
   exact ((((((hB.setCell (p := ⟨w.heap.size, 0, none⟩) (by simp) _).setCell (p := ⟨w.heap.size, 1, none⟩) (by simp) _).setCell (p := ⟨w.heap.size, 2, none⟩) (by simp) _).setCell (p := ⟨w.heap.size, 3, none⟩) (by simp) _).setCell (p := ⟨w.heap.size, 4, none⟩) (by simp) _).setCell (p := ⟨w.heap.size, 5, none⟩) (by simp) _).setCell (p := ⟨w.heap.size, 6, none⟩) (by simp) _
set_option maxHeartbeats 2000000 in
theorem NumberI_any (n : Nat) (w : World) (h : n ≤ 9000000000000000000) :
 Calls Tryz.prog 34 #[.int .i64 n] w fun e w' => ∃ cs : List Value, e = .returned (.agg cs.toArray) ∧ k34.M w' w.heap.size (fun _ => True) (numI n) cs ∧ Below w.heap.size w w' := by
 obtain ⟨W1, hW1⟩ : ∃ W1, W1 = w.alloc (.cells #[.int .i64 0, .bool false, .slice none 0 0, .int .i64 0, .string ⟨#[]⟩, .slice none 0 0, .slice none 0 0] 34) := ⟨_, rfl⟩
 have hb1 : Below w.heap.size w W1 := by rw [hW1]; exact (Below.refl _ _).alloc (Nat.le_refl _) _
 have hx1 : W1.heap[w.heap.size]? = some (.cells #[.int .i64 0, .bool false, .slice none 0 0, .int .i64 0, .string ⟨#[]⟩, .slice none 0 0, .slice none 0 0] 34 (0, 0)) := by rw [hW1]; exact blk_new _ _
 have HN := Lib.hid (Int_any n W1 h)
 have hnv : numI n = ⟨3, intD n, ⟨#[]⟩, [], []⟩ := rfl
 rw [hnv]
 generalize intD n = r at *
 have HW1 := Lib.hid hW1
 have HB1 := Lib.hid hb1
 have HX1 := Lib.hid hx1
 clear hW1 hb1 hx1 hnv h
 go_enter Tryz.func34, Tryz.ntmps34
 go_upto_region 1 with (fail)
 rw [← HW1.out]
 go_wp2_with (go_at_call 57; (with_reducible refine (HN.out).mono ?_); rintro e w2 ⟨v2, rfl, hR2, hB2⟩; obtain ⟨G2, c2, rfl⟩ := Kd.R_slice hR2; have HR2 := Lib.hid (Kd.R_lower hR2 HB1.out.size); have HB2 := Lib.hid (HB1.out.trans (hB2.mono HB1.out.size)); have HX2 := Lib.hid (blk_below2 HX1.out hB2); obtain ⟨hcz, hfz⟩ := bcells HX1.out hB2; clear hR2 hB2)
 obtain ⟨X, hX⟩ : ∃ X, X = ((((((w2.setCell ⟨w.heap.size, 0, none⟩ (.int .i64 3)).setCell ⟨w.heap.size, 1, none⟩ (.bool r.f0)).setCell ⟨w.heap.size, 2, none⟩ (.slice G2 r.f1.length c2)).setCell ⟨w.heap.size, 3, none⟩ (.int .i64 r.f2)).setCell ⟨w.heap.size, 4, none⟩ (.string ⟨#[]⟩)).setCell ⟨w.heap.size, 5, none⟩ (.slice none 0 0)).setCell ⟨w.heap.size, 6, none⟩ (.slice none 0 0) := ⟨_, rfl⟩
 obtain ⟨hfx, hm, hbw⟩ := num_end HX2.out HR2.out HB2.out hX
 rw [← hX]
 clear hX hcz hfz
 have hrc := blk_cell hfx
 refine bodyPost_ret (v := .agg #[.int .i64 3, .bool r.f0, .slice G2 r.f1.length c2, .int .i64 r.f2, .string ⟨#[]⟩, .slice none 0 0, .slice none 0 0]) ?_ rfl ⟨_, rfl, hm, hbw⟩
 simp [results, Tryz.f34, go_sem, hrc]
theorem chk_cases (l : List Int) : (256 < l.length ∧ chk l = 5) ∨ (l.length ≤ 256 ∧ l.length = 0 ∧ chk l = 0) ∨ (l.length ≤ 256 ∧ l.length ≠ 0 ∧ l.getD (l.length - 1) 0 = 0 ∧ chk l = 9) ∨ (l.length ≤ 256 ∧ l.length ≠ 0 ∧ l.getD (l.length - 1) 0 ≠ 0 ∧ chk l = 0) := by
 unfold chk
 by_cases h1 : l.length > 256
 · rw [if_pos h1]; exact .inl ⟨h1, rfl⟩
 rw [if_neg h1]
 by_cases h2 : l.length = 0
 · rw [if_neg (fun h => h.1 (List.eq_nil_of_length_eq_zero h2))]; exact .inr (.inl ⟨by omega, h2, rfl⟩)
 have hn : l ≠ [] := fun e => h2 (by rw [e]; rfl)
 by_cases h3 : l.getD (l.length - 1) 0 = 0
 · rw [if_pos ⟨hn, h3⟩]; exact .inr (.inr (.inl ⟨by omega, h2, h3, rfl⟩))
 · rw [if_neg (fun h => h3 h.2)]; exact .inr (.inr (.inr ⟨by omega, h2, h3, rfl⟩))
set_option maxHeartbeats 1000000 in
theorem rchk_any (l : List Int) (A : Option Addr) (c : Nat) (w : World) (hC : Kd.C (Kd.int .u32) w A l.length l) :
 Calls Tryz.prog 141 #[.slice A l.length c] w fun e w' => e = .returned (.int .i64 (chk l)) ∧ w' = w := by
 have hcs := chk_cases l
 have hm := hC.2.1
 have HX : Hid (l.length ≠ 0 → ∃ ad, A = some ad ∧ w.cell? (ad.add (l.length - 1)) = some (.int .u32 (l.getD (l.length - 1) 0))) := Lib.hid (fun h => by
  obtain ⟨ad, h1, h2⟩ := Kd.at_int hC ((l.length - 1 : Nat) : Int) (by omega) (by omega)
  rw [Int.toNat_natCast] at h2
  refine ⟨ad, h1, h2.trans ?_⟩
  unfold rd
  rw [Int.toNat_natCast])
 clear hC
 generalize chk l = r at *
 generalize l.getD (l.length - 1) 0 = y at *
 generalize l.length = n at *
 rcases hcs with ⟨h1, rfl⟩ | ⟨h1, rfl, rfl⟩ | ⟨h1, h2, rfl, rfl⟩ | ⟨h1, h2, h3, rfl⟩
 · have g1 : (256 : Int) < (n : Int) := by omega
   have g2 : decide (256 < n) = true := by simpa using h1
   go_enter Tryz.func141, Tryz.ntmps141
   go_wp2
   go_ret
   exact ⟨rfl, rfl⟩
 · go_enter Tryz.func141, Tryz.ntmps141
   go_wp2
   go_ret
   exact ⟨rfl, rfl⟩
 all_goals
  obtain ⟨ad, rfl, hx⟩ := HX.out h2
  have g1 : ¬ (256 : Int) < (n : Int) := by omega
  have g2 : (0 : Int) < (n : Int) := by omega
  have g3 : decide (0 < n) = true := by simp; omega
  have g4 : IntKind.i64.wrap ((n : Int) - 1) = ((n - 1 : Nat) : Int) := by rw [wrap_in _ (by omega)]; omega
  have g5 : (n : Int) - 1 = ((n - 1 : Nat) : Int) := by omega
  have g6 : wrap64 ((n : Int) - 1) = ((n - 1 : Nat) : Int) := by unfold wrap64; omega
  have g7 : ((n - 1 : Nat) : Int) < (n : Int) := by omega
  have g8 : decide (256 < n) = false := by simpa using h1
 · go_enter Tryz.func141, Tryz.ntmps141
   go_wp2
   go_ret
   exact ⟨rfl, rfl⟩
 · have g9 : (y == 0) = false := by simpa using h3
   go_enter Tryz.func141, Tryz.ntmps141
   go_wp2
   go_ret
   exact ⟨rfl, rfl⟩
theorem decs_nil_iff' (k : Nat) : (decs k).length = 0 ↔ k = 0 := by
 constructor
 · intro h
   by_cases hk : k = 0
   · exact hk
   · rw [decs_pos hk] at h; simp at h
 · intro h
   rw [h, decs_zero]; rfl
theorem decOk_cases (d : D) (h : okL d.f1) : (chk d.f1 ≠ 0 ∧ dchk d = 9) ∨ (chk d.f1 = 0 ∧ 40 < d.f1.length ∧ dchk d = 9) ∨
 (chk d.f1 = 0 ∧ d.f1.length ≤ 40 ∧ val d.f1 = 0 ∧ d.f1.length = 0 ∧ dchk d = if d.f0 = true then 9 else if d.f2 = 0 then 0 else 9) ∨
 (chk d.f1 = 0 ∧ d.f1.length ≤ 40 ∧ val d.f1 ≠ 0 ∧ dchk d = if val d.f1 % 10 = 0 then 9 else if 300 < (decs (val d.f1)).length then 9 else if d.f2 < -1000 then 9 else if 1000 < d.f2 then 9 else 0) := by
 have hc := chk_ok h
 by_cases h0 : chk d.f1 = 0
 · obtain ⟨h1, h2⟩ := hc.1 h0
   by_cases h4 : 40 < d.f1.length
   · refine .inr (.inl ⟨h0, h4, ?_⟩)
     unfold dchk decOkB
     rw [if_neg]
     rw [decide_eq_false (show ¬ d.f1.length ≤ 40 by omega)]
     simp
   · have hz := canon_nil_iff h2
     by_cases h5 : val d.f1 = 0
     · have h6 := hz.2 h5
       refine .inr (.inr (.inl ⟨h0, by omega, h5, h6, ?_⟩))
       unfold dchk decOkB
       rw [decide_eq_true (show d.f1.length ≤ 40 by omega), decide_eq_true h2, if_pos h6]
       cases d.f0 <;> by_cases hx : d.f2 = 0 <;> simp [hx]
     · refine .inr (.inr (.inr ⟨h0, by omega, h5, ?_⟩))
       have h6 : d.f1.length ≠ 0 := fun e => h5 (hz.1 e)
       unfold dchk decOkB
       rw [decide_eq_true (show d.f1.length ≤ 40 by omega), decide_eq_true h2, if_neg h6]
       have hd : (decs (val d.f1)).length ≤ 300 ↔ val d.f1 < decTop := decs_lt_iff (k := decDig) h5
       by_cases a1 : val d.f1 % 10 = 0
       · rw [if_pos a1]; simp [a1]
       rw [if_neg a1]
       by_cases a2 : 300 < (decs (val d.f1)).length
       · have : ¬ val d.f1 < decTop := fun h => by have := hd.2 h; omega
         rw [if_pos a2, decide_eq_false this]; simp
       rw [if_neg a2, decide_eq_true (hd.1 (by omega)), decide_eq_true a1]
       by_cases a3 : d.f2 < -1000
       · rw [if_pos a3, decide_eq_false (show ¬ -1000 ≤ d.f2 by omega)]; simp
       rw [if_neg a3, decide_eq_true (show -1000 ≤ d.f2 by omega)]
       by_cases a4 : 1000 < d.f2
       · rw [if_pos a4, decide_eq_false (show ¬ d.f2 ≤ 1000 by omega)]; simp
       rw [if_neg a4, decide_eq_true (show d.f2 ≤ 1000 by omega)]; simp
 · refine .inl ⟨h0, ?_⟩
   unfold dchk decOkB
   rw [if_neg]
   intro hh
   simp only [Bool.and_eq_true, decide_eq_true_eq] at hh
   exact h0 (hc.2 ⟨by omega, hh.1.2⟩)
set_option maxHeartbeats 2000000 in
theorem rdchk_any (d : D) (A : Option Addr) (c : Nat) (w : World) (hC : Kd.C (Kd.int .u32) w A d.f1.length d.f1) (hO : OkD d) :
 Calls Tryz.prog 125 #[.agg #[.bool d.f0, .slice A d.f1.length c, .int .i64 d.f2]] w fun e w' => e = .returned (.int .i64 (dchk d)) ∧ Below w.heap.size w w' := by
 have hcs := decOk_cases d hO.limbs
 have hm := hC.2.1
 have HCK := Lib.hid (fun W (hW : Below w.heap.size w W) => rchk_any d.f1 A c W (Kd.C_below hC hW))
 have HOF := Lib.hid (fun W (hW : Below w.heap.size w W) (hl : d.f1.length ≤ 256) => Of_any d A c W (Kd.C_below hC hW) hl hO.limbs)
 have hdl := decs_nil_iff' (val d.f1)
 have hten := fun h : val d.f1 ≠ 0 => decs_ten h
 generalize dchk d = r at *
 generalize hv : val d.f1 = v at *
 generalize chk d.f1 = k at *
 generalize d.f1.length = n at *
 generalize d.f0 = b at *
 generalize d.f2 = x at *
 obtain ⟨W1, hW1⟩ : ∃ W1, W1 = w.alloc (.cells #[.bool b, .slice A n c, .int .i64 x] 31) := ⟨_, rfl⟩
 have hb1 : Below w.heap.size w W1 := by rw [hW1]; exact (Below.refl _ _).alloc (Nat.le_refl _) _
 have hx1 : W1.heap[w.heap.size]? = some (.cells #[.bool b, .slice A n c, .int .i64 x] 31 (0, 0)) := by rw [hW1]; exact blk_new _ _
 have HW1 := Lib.hid hW1
 have HB1 := Lib.hid hb1
 have HX1 := Lib.hid hx1
 obtain ⟨hcx, hfx⟩ := bcells hx1 (Below.refl _ _)
 clear hW1 hb1 hx1 hv hC hO
 rcases hcs with ⟨h1, rfl⟩ | ⟨rfl, h2, rfl⟩ | ⟨rfl, h2, rfl, rfl, hr⟩ | ⟨rfl, h2, h3, hr⟩
 · have g1 : (k != 0) = true := by simpa using h1
   go_enter Tryz.func125, Tryz.ntmps125
   go_upto_region 1 with (fail)
   rw [← HW1.out]
   go_wp2_with (go_at_call 141; (with_reducible refine (HCK.out _ HB1.out).mono ?_); rintro e w2 ⟨rfl, hw2⟩; obtain rfl := hw2.symm)
   go_ret
   exact ⟨rfl, HB1.out⟩
 · have g1 : (40 : Int) < (n : Int) := by omega
   have g2 : decide (40 < n) = true := by simpa using h2
   go_enter Tryz.func125, Tryz.ntmps125
   go_upto_region 1 with (fail)
   rw [← HW1.out]
   go_wp2_with (go_at_call 141; (with_reducible refine (HCK.out _ HB1.out).mono ?_); rintro e w2 ⟨rfl, hw2⟩; obtain rfl := hw2.symm)
   go_ret
   exact ⟨rfl, HB1.out⟩
 · have hr2 : r = if b = true then 9 else if x = 0 then 0 else 9 := hr
   have hd0 : (decs 0).length = 0 := hdl.2 rfl
   have HR := Lib.hid hr2
   have g1 : decide (40 < 0) = false := rfl
   clear hr hr2 hten hdl
   go_enter Tryz.func125, Tryz.ntmps125
   go_upto_region 1 with (fail)
   rw [← HW1.out]
   go_upto_region 4 with (first
    | (go_at_call 141; (with_reducible refine (HCK.out _ HB1.out).mono ?_); rintro e w2 ⟨rfl, hw2⟩; obtain rfl := hw2.symm)
    | (go_at_call 69; (with_reducible refine (HOF.out _ HB1.out (by omega)).mono ?_); rintro e w5 ⟨G, g, rfl, hR5, hB5⟩; obtain ⟨hc0, hf0⟩ := bcells (blk_new w5 (.cells #[.bool false, .slice none 0 0, .int .i64 0] 101)) (Below.refl _ _); have HR5 := Lib.hid hR5; have HX5 := Lib.hid (blk_below2 HX1.out hB5); have HB5 := Lib.hid (HB1.out.trans (hB5.mono HB1.out.size)); clear hR5 hB5))
   obtain ⟨X5, hX5⟩ : ∃ X5, X5 = w5.alloc (.cells #[.bool b, .slice G (decs 0).length g, .int .i64 x] 101) := ⟨_, rfl⟩
   have hn5 : X5.heap[w5.heap.size]? = some (.cells #[.bool b, .slice G (decs 0).length g, .int .i64 x] 101 (0, 0)) := by rw [hX5]; exact blk_new _ _
   have hx5 := blk_alloc HX5.out (.cells #[.bool b, .slice G (decs 0).length g, .int .i64 x] 101)
   have hb5 := HB5.out.alloc HB5.out.size (.cells #[.bool b, .slice G (decs 0).length g, .int .i64 x] 101)
   rw [← hX5] at hx5 hb5
   rw [hd0] at hX5 hn5
   rw [← hX5]
   have HB6 := Lib.hid hb5
   clear hX5 hcx hfx hc0 hf0 hb5 hd0
   obtain ⟨hcx, hfx⟩ := bcells hx5 (Below.refl _ _)
   obtain ⟨hcn, hfn⟩ := bcells hn5 (Below.refl _ _)
   clear hx5 hn5
   cases b with
   | true =>
    have HRR : Hid (r = 9) := Lib.hid (by rw [HR.out]; rfl)
    go_wp2
    go_ret
    exact ⟨by rw [HRR.out]; rfl, HB6.out⟩
   | false =>
    by_cases h5 : x = 0
    · have HRR : Hid (r = 0) := Lib.hid (by rw [HR.out, if_neg (by decide), if_pos h5])
      subst h5
      go_wp2
      go_ret
      exact ⟨by rw [HRR.out]; rfl, HB6.out⟩
    · have HRR : Hid (r = 9) := Lib.hid (by rw [HR.out, if_neg (by decide), if_neg h5])
      have h5b : (x != 0) = true := by simpa using h5
      clear h5
      go_wp2
      go_ret
      exact ⟨by rw [HRR.out]; rfl, HB6.out⟩
 · have HR := Lib.hid hr
   have hdn : (decs v).length ≠ 0 := fun h => h3 (hdl.1 h)
   have HTN := Lib.hid (hten h3)
   have g1 : ¬ (40 : Int) < (n : Int) := by omega
   have g2 : decide (40 < n) = false := by simp; omega
   clear hr hdl hten h3
   go_enter Tryz.func125, Tryz.ntmps125
   go_upto_region 1 with (fail)
   rw [← HW1.out]
   go_upto_region 4 with (first
    | (go_at_call 141; (with_reducible refine (HCK.out _ HB1.out).mono ?_); rintro e w2 ⟨rfl, hw2⟩; obtain rfl := hw2.symm)
    | (go_at_call 69; (with_reducible refine (HOF.out _ HB1.out (by omega)).mono ?_); rintro e w5 ⟨G, g, rfl, hR5, hB5⟩; obtain ⟨hc0, hf0⟩ := bcells (blk_new w5 (.cells #[.bool false, .slice none 0 0, .int .i64 0] 101)) (Below.refl _ _); have HR5 := Lib.hid hR5; have HX5 := Lib.hid (blk_below2 HX1.out hB5); have HB5 := Lib.hid (HB1.out.trans (hB5.mono HB1.out.size)); clear hR5 hB5))
   clear g1 g2
   obtain ⟨ds, hds⟩ : ∃ ds, ds = decs v := ⟨_, rfl⟩
   rw [← hds] at HR5 HTN HR hdn ⊢
   obtain ⟨ln, hln⟩ : ∃ ln, ln = ds.length := ⟨_, rfl⟩
   rw [← hln] at HR5 HR hdn ⊢
   have hC5 := (Kd.R_reads' HR5.out).2.2
   obtain ⟨ad, rfl, hc1⟩ := Kd.at_int hC5 (0 : Int) (by omega) (by omega)
   rw [HTN.out] at hc1
   obtain ⟨X5, hX5⟩ : ∃ X5, X5 = w5.alloc (.cells #[.bool b, .slice (some ad) ln g, .int .i64 x] 101) := ⟨_, rfl⟩
   have hn5 : X5.heap[w5.heap.size]? = some (.cells #[.bool b, .slice (some ad) ln g, .int .i64 x] 101 (0, 0)) := by rw [hX5]; exact blk_new _ _
   have hx5 := blk_alloc HX5.out (.cells #[.bool b, .slice (some ad) ln g, .int .i64 x] 101)
   have hb5 := HB5.out.alloc HB5.out.size (.cells #[.bool b, .slice (some ad) ln g, .int .i64 x] 101)
   have hc6 := pw_cell_below (below_alloc (Below.refl _ _) (.cells #[.bool b, .slice (some ad) ln g, .int .i64 x] 101)) hc1
   rw [← hX5] at hx5 hb5 hc6 ⊢
   have HB6 := Lib.hid hb5
   have HC6 : Hid (X5.cell? (ad.add 0) = some (.int .i64 ((v % 10 : Nat) : Int))) := Lib.hid hc6
   clear hX5 hcx hfx hc0 hf0 hb5 hc1 hc6 hC5
   obtain ⟨hcx, hfx⟩ := bcells hx5 (Below.refl _ _)
   obtain ⟨hcn, hfn⟩ := bcells hn5 (Below.refl _ _)
   have hcd := HC6.out
   have hcd' : X5.cell? ad = some (.int .i64 ((v % 10 : Nat) : Int)) := by have := HC6.out; simpa [Addr.add] using this
   have g0 : ((ln : Int) == 0) = false := by rw [beq_eq_false_iff_ne]; omega
   have g1 : (0 : Int) < (ln : Int) := by omega
   have g2 : 0 < ln := by omega
   clear hx5 hn5 hds hdn HR5 HX5 HB5 HOF HCK HTN
   generalize v % 10 = v0 at *
   by_cases h1 : v0 = 0
   · have HRR : Hid (r = 9) := Lib.hid (by rw [HR.out, if_pos h1])
     subst h1
     go_wp2
     go_ret
     exact ⟨by rw [HRR.out]; rfl, HB6.out⟩
   have e1 : (((v0 : Nat) : Int) == 0) = false := by rw [beq_eq_false_iff_ne]; omega
   by_cases h2 : 300 < ln
   · have HRR : Hid (r = 9) := Lib.hid (by rw [HR.out, if_neg h1, if_pos h2])
     have e2 : (300 : Int) < (ln : Int) := by omega
     have e3 : decide (300 < ln) = true := by simpa using h2
     clear h1 h2
     go_wp2
     go_ret
     exact ⟨by rw [HRR.out]; rfl, HB6.out⟩
   have e2 : ¬ (300 : Int) < (ln : Int) := by omega
   have e3 : decide (300 < ln) = false := by simpa using h2
   by_cases h4 : x < -1000
   · have HRR : Hid (r = 9) := Lib.hid (by rw [HR.out, if_neg h1, if_neg h2, if_pos h4])
     have e4 : decide (x < -1000) = true := by simpa using h4
     clear h1 h2
     go_wp2
     go_ret
     exact ⟨by rw [HRR.out]; rfl, HB6.out⟩
   have e4 : decide (x < -1000) = false := by simpa using h4
   by_cases h5 : 1000 < x
   · have HRR : Hid (r = 9) := Lib.hid (by rw [HR.out, if_neg h1, if_neg h2, if_neg h4, if_pos h5])
     have e5 : decide (1000 < x) = true := by simpa using h5
     clear h1 h2
     go_wp2
     go_ret
     exact ⟨by rw [HRR.out]; rfl, HB6.out⟩
   · have HRR : Hid (r = 0) := Lib.hid (by rw [HR.out, if_neg h1, if_neg h2, if_neg h4, if_neg h5])
     have e5 : decide (1000 < x) = false := by simpa using h5
     clear h1 h2
     go_wp2
     go_ret
     exact ⟨by rw [HRR.out]; rfl, HB6.out⟩
end Go.Proofs.YtmfpakolfpoamaaGreatDoor.P

import Derived.Test.YthigbklhngihkaaGreatDoorMOrderOwnr
set_option linter.unusedVariables false
set_option linter.unusedSimpArgs false
set_option maxRecDepth 100000
namespace Go.Proofs.YthigbklhngihkaaGreatDoor.P
open Go.RowKit Go.Proofs.YthigbklhngihkaaGreatDoorW.PrintWords Go.Proofs.YthigbklhngihkaaGreatDoorW.PrintMore Go.Proofs.YthigbklhngihkaaGreatDoorW.PrintLast
def strip (m : Nat) : Nat × Nat := if h : m ≠ 0 ∧ m % 10 = 0 then ((strip (m / 10)).1, (strip (m / 10)).2 + 1) else (m, 0)
termination_by m
decreasing_by all_goals omega
theorem strip_ten {m : Nat} (h : m ≠ 0) (h0 : m % 10 = 0) : strip m = ((strip (m / 10)).1, (strip (m / 10)).2 + 1) := by rw [strip, dif_pos ⟨h, h0⟩]
theorem strip_end {m : Nat} (h0 : m % 10 ≠ 0) : strip m = (m, 0) := by rw [strip, dif_neg (fun hh => h0 hh.2)]
def madeD (neg : Bool) (m : Nat) (e : Int) : D × Int :=
 if m = 0 then (⟨false, [], 0⟩, 0) else if 300 < (decs (strip m).1).length then (⟨false, [], 0⟩, 51) else if e + (strip m).2 < -1000 ∨ 1000 < e + (strip m).2 then (⟨false, [], 0⟩, 52) else (⟨neg, limbs (strip m).1, e + (strip m).2⟩, 0)
theorem From_any (n : Nat) (w : World) (h : n < 18446744073709551616) : Calls Tryz.prog 156 #[.int .u64 n] w fun e w' => ∃ v : Value, e = .returned v ∧ Kd.R (Kd.int .u32) 131 w' w.heap.size (fun _ => True) v (limbs n) ∧ Below w.heap.size w w' := by
 by_cases h0 : n = 0
 · subst h0
   rw [limbs_zero]
   go_enter Tryz.func156, Tryz.ntmps156
   go_wp2
   go_ret
   exact ⟨_, rfl, Kd.R_nil _ _ _ _ _, Below.refl _ _⟩
 · have h0b : ((n : Int) == 0) = false := by rw [beq_eq_false_iff_ne]; omega
   by_cases h1 : n < 4294967296
   · have hl : limbs n = [(n : Int)] := by rw [limbs_pos h0, show n / 4294967296 = 0 by omega, limbs_zero, show n % 4294967296 = n by omega]
     have ho : (w.alloc (.cells #[.int .u32 (n : Int)] 131)).ownsRow w.heap.size 131 1 (.slice (some ⟨w.heap.size, 0, none⟩) 1 1) 1 (nums .u32 [(n : Int)]) := own_lit w w.heap.size 131 .u32 [(n : Int)] (Nat.le_refl _) (by simp)
     have hR : Kd.R (Kd.int .u32) 131 (w.alloc (.cells #[.int .u32 (n : Int)] 131)) w.heap.size (fun _ => True) (.slice (some ⟨w.heap.size, 0, none⟩) ([(n : Int)] : List Int).length 1) [(n : Int)] := Kd.R_of_own (enc := Value.int .u32) ho (fun _ _ => trivial)
     rw [hl]
     have HR := Lib.hid hR
     have hlt : (n : Int) < 4294967296 := by omega
     have e1 : (n : Int) % 4294967296 = (n : Int) := by omega
     clear ho hR hl h0 h1 h
     go_enter Tryz.func156, Tryz.ntmps156
     go_wp2
     go_ret
     exact ⟨_, rfl, HR.out, (Below.refl _ _).alloc (Nat.le_refl _) _⟩
   · have hl : limbs n = [((n % 4294967296 : Nat) : Int), ((n / 4294967296 : Nat) : Int)] := by rw [limbs_pos h0, limbs_pos (show n / 4294967296 ≠ 0 by omega), show n / 4294967296 / 4294967296 = 0 by omega, limbs_zero, show n / 4294967296 % 4294967296 = n / 4294967296 by omega]
     have ho : (w.alloc (.cells #[.int .u32 ((n % 4294967296 : Nat) : Int), .int .u32 ((n / 4294967296 : Nat) : Int)] 131)).ownsRow w.heap.size 131 1 (.slice (some ⟨w.heap.size, 0, none⟩) 2 2) 2 (nums .u32 [((n % 4294967296 : Nat) : Int), ((n / 4294967296 : Nat) : Int)]) := own_lit w w.heap.size 131 .u32 [((n % 4294967296 : Nat) : Int), ((n / 4294967296 : Nat) : Int)] (Nat.le_refl _) (by simp)
     have hR : Kd.R (Kd.int .u32) 131 (w.alloc (.cells #[.int .u32 ((n % 4294967296 : Nat) : Int), .int .u32 ((n / 4294967296 : Nat) : Int)] 131)) w.heap.size (fun _ => True) (.slice (some ⟨w.heap.size, 0, none⟩) ([((n % 4294967296 : Nat) : Int), ((n / 4294967296 : Nat) : Int)] : List Int).length 2) [((n % 4294967296 : Nat) : Int), ((n / 4294967296 : Nat) : Int)] := Kd.R_of_own (enc := Value.int .u32) ho (fun _ _ => trivial)
     rw [hl]
     have hd2 : n / 4294967296 < 4294967296 := by omega
     have e1 : (n : Int) % 4294967296 = ((n % 4294967296 : Nat) : Int) := by omega
     have e2 : (n : Int) / 4294967296 = ((n / 4294967296 : Nat) : Int) := by omega
     have e3 : ((n / 4294967296 : Nat) : Int) % 4294967296 = ((n / 4294967296 : Nat) : Int) := by omega
     have hlt : ¬ (n : Int) < 4294967296 := by omega
     generalize n % 4294967296 = a at *
     generalize n / 4294967296 = b at *
     have HR := Lib.hid hR
     have hh : (n : Int) < 18446744073709551616 := by omega
     clear ho hR hl h0 h1 h hd2 hh
     go_enter Tryz.func156, Tryz.ntmps156
     go_wp2
     go_ret
     exact ⟨_, rfl, HR.out, (Below.refl _ _).alloc (Nat.le_refl _) _⟩
theorem number_any (n : Nat) (w : World) (h : n < 18446744073709551616) : Calls Tryz.prog 114 #[.int .u64 n] w fun e w' => ∃ v : Value, e = .returned v ∧ Kd.R (Kd.int .i64) 3 w' w.heap.size (fun _ => True) v (decs n) ∧ Below w.heap.size w w' := by
 have HF := Lib.hid (From_any n w h)
 have hl : (limbs n).length ≤ 2 := limbs_len (k := 2) (by omega)
 have HD : Hid (∀ W A c, Kd.C (Kd.int .u32) W A (limbs n).length (limbs n) → Calls Tryz.prog 155 #[.slice A (limbs n).length c] W fun e w' => ∃ v : Value, e = .returned v ∧ Kd.R (Kd.int .i64) 3 w' W.heap.size (fun _ => True) v (decs n) ∧ Below W.heap.size W w') := Lib.hid (fun W A c hC => by
  have := Digits_any (limbs n) A c W hC (by omega) (okL_limbs n)
  rw [val_limbs] at this
  exact this)
 generalize limbs n = l at *
 generalize decs n = d at *
 clear h hl
 go_enter Tryz.func114, Tryz.ntmps114
 go_wp2_with (first
  | (go_at_call 156; (with_reducible refine (HF.out).mono ?_); rintro e w1 ⟨v1, rfl, hR1, hB1⟩; obtain ⟨A1, c1, rfl⟩ := Kd.R_slice hR1; have HR1 := Lib.hid (Kd.R_reads' hR1).2.2; have HB1 := Lib.hid hB1; clear hR1 hB1)
  | (go_at_call 155; (with_reducible refine (HD.out _ _ _ HR1.out).mono ?_); rintro e w2 ⟨v2, rfl, hR2, hB2⟩; have HR2 := Lib.hid (Kd.R_lower hR2 HB1.out.size); have HB2 := Lib.hid (HB1.out.trans (hB2.mono HB1.out.size)); clear hR2 hB2))
 go_ret
 exact ⟨_, rfl, HR2.out, HB2.out⟩
structure MadeAt (w W : World) (neg : Bool) (m : Nat) (e : Int) (A : Option Addr) (n c : Nat) (B : Option Addr) (ln d k z : Nat) : Prop where
 nz : k ≠ 0
 le : k ≤ m
 one : (strip m).1 = (strip k).1
 two : (strip m).2 = (strip k).2 + z
 len : ln = (decs k).length
 row : Kd.C (Kd.int .i64) w B (decs k).length (decs k)
 cap : ln ≤ d
 box : W.heap[w.heap.size]? = some (.cells #[.bool neg, .slice A n c, .int .i64 (e + z)] 144 (0, 0))
 res : W.heap[w.heap.size + 1]? = some (.cells #[.bool false, .slice none 0 0, .int .i64 0] 24 (0, 0))
 below : Below w.heap.size w W
theorem decs_drop {k : Nat} (h : k ≠ 0) : (decs k).drop 1 = decs (k / 10) := by rw [decs_pos h]; rfl
theorem decs_ten {k : Nat} (h : k ≠ 0) : rd (decs k) (0 : Int) = ((k % 10 : Nat) : Int) := by rw [decs_pos h]; rfl
theorem strip_len : ∀ m : Nat, (strip m).2 ≤ (decs m).length := by
 intro m
 induction m using Nat.strongRecOn with
 | _ m ih =>
  by_cases h : m ≠ 0 ∧ m % 10 = 0
  · rw [strip_ten h.1 h.2, decs_pos h.1, List.length_cons]
    have := ih (m / 10) (by omega)
    omega
  · rw [strip, dif_neg h]
    exact Nat.zero_le _
theorem MadeAt.step {w W : World} {neg : Bool} {m : Nat} {e : Int} {A : Option Addr} {n c : Nat} {B : Option Addr} {ln d k z : Nat} (h : MadeAt w W neg m e A n c B ln d k z) (h0 : k % 10 = 0) :
 MadeAt w (W.setCell ⟨w.heap.size, 2, none⟩ (.int .i64 (e + (z + 1 : Nat)))) neg m e A n c (if d = 1 then B else B.map (·.add 1)) (ln - 1) (d - 1) (k / 10) (z + 1) := by
 have hk := h.nz
 have hdl : (decs (k / 10)).length + 1 = ln := by rw [h.len, decs_pos hk, List.length_cons]
 refine ⟨by omega, by have := h.le; omega, by rw [h.one, strip_ten hk h0], by rw [h.two, strip_ten hk h0]; show (strip (k / 10)).2 + 1 + z = _; omega, by omega, ?_, by have := h.cap; omega, ?_, ?_, h.below.setCell (p := ⟨w.heap.size, 2, none⟩) (Nat.le_refl _) _⟩
 · have := Kd.C_drop h.row (m := 1) (by rw [← h.len]; omega) (c := d) (by rw [← h.len]; exact h.cap)
   rw [decs_drop hk] at this
   exact this
 · have := blk_set h.box 2 (.int .i64 (e + (z + 1 : Nat)))
   rw [this]
   rfl
 · exact blk_far h.res (by simp) _
set_option maxHeartbeats 4000000 in
theorem Made_any (neg : Bool) (m : Nat) (e : Int) (A : Option Addr) (c : Nat) (w : World) (hC : Kd.C (Kd.int .i64) w A (decs m).length (decs m)) (hc : (decs m).length ≤ c) (hl : (decs m).length ≤ 1000000) (he : -1000000000 ≤ e ∧ e ≤ 1000000000) :
 Calls Tryz.prog 116 #[.agg #[.bool neg, .slice A (decs m).length c, .int .i64 e]] w fun x w' => ∃ v : Value, x = .returned (.tuple #[.agg #[.bool (madeD neg m e).1.f0, v, .int .i64 (madeD neg m e).1.f2], .int .i64 (madeD neg m e).2]) ∧ Kd.R (Kd.int .u32) 131 w' w.heap.size (fun _ => True) v (madeD neg m e).1.f1 ∧ Below w.heap.size w w' := by
 have HTR := fun W (hW : Below w.heap.size w W) => Trim_any (decs m) A c W (Kd.C_below hC hW) hc (by omega) (okD_decs m)
 simp only [dval_decs] at HTR
 have HT := Lib.hid HTR
 clear HTR
 obtain ⟨n, hn⟩ : ∃ n, n = (decs m).length := ⟨_, rfl⟩
 obtain ⟨W2, hW2⟩ : ∃ W2, W2 = (w.alloc (.cells #[.bool neg, .slice A n c, .int .i64 e] 144)).alloc (.cells #[.bool false, .slice none 0 0, .int .i64 0] 24) := ⟨_, rfl⟩
 have hb2 : Below w.heap.size w W2 := by rw [hW2]; exact ((Below.refl _ _).alloc (Nat.le_refl _) _).alloc (by simp) _
 have hx2 : W2.heap[w.heap.size]? = some (.cells #[.bool neg, .slice A n c, .int .i64 e] 144 (0, 0)) := by rw [hW2]; exact blk_alloc (blk_new _ _) _
 have hr2 : W2.heap[w.heap.size + 1]? = some (.cells #[.bool false, .slice none 0 0, .int .i64 0] 24 (0, 0)) := by rw [hW2]; have := blk_new (w.alloc (.cells #[.bool neg, .slice A n c, .int .i64 e] 144)) (.cells #[.bool false, .slice none 0 0, .int .i64 0] 24); rwa [World.size_alloc] at this
 have HW2 := Lib.hid hW2
 have HB2 := Lib.hid hb2
 have HR2 := Lib.hid hr2
 have HTW := Lib.hid (HT.out W2 hb2)
 rw [← hn] at HTW
 obtain ⟨hcx, hfx⟩ := bcells hx2 (Below.refl _ _)
 obtain ⟨hcr, hfr⟩ := bcells hr2 (Below.refl _ _)
 have HMD := Lib.hid (show madeD neg m e = _ from rfl)
 obtain ⟨r, hr⟩ : ∃ r, r = madeD neg m e := ⟨_, rfl⟩
 rw [← hr, ← hn]
 by_cases hm : m = 0
 · have hrr : r = (⟨false, [], 0⟩, 0) := by rw [hr]; unfold madeD; rw [if_pos hm]
   have hn0 : ((n : Int) == 0) = true := by rw [hn, hm, decs_zero]; rfl
   rw [hrr]
   have HX2 := Lib.hid hx2
   clear hC hc hl he HT hb2 hx2 hr2 hW2 hm hr hrr HMD hn
   go_enter Tryz.func116, Tryz.ntmps116
   go_upto_region 1 with (fail)
   rw [← HW2.out]
   go_wp2_with (go_at_call 158; (with_reducible refine (HTW.out).mono ?_); rintro e w1 ⟨rfl, rfl, _, _⟩)
   obtain ⟨X, hX⟩ : ∃ X, X = ((w1.setCell ⟨w.heap.size + 1, 0, none⟩ (.bool false)).setCell ⟨w.heap.size + 1, 1, none⟩ (.slice none 0 0)).setCell ⟨w.heap.size + 1, 2, none⟩ (.int .i64 0) := ⟨_, rfl⟩
   obtain ⟨y0, y1, y2⟩ := cells3 (by rw [hX]; exact box3_out HR2.out (.bool false) (.slice none 0 0) (.int .i64 0) : X.heap[w.heap.size + 1]? = some (.cells #[.bool false, .slice none 0 0, .int .i64 0] 24 (0, 0)))
   have HXB : Hid (Below w.heap.size w X) := Lib.hid (by rw [hX]; exact ((HB2.out.setCell (p := ⟨w.heap.size + 1, 0, none⟩) (by simp) _).setCell (p := ⟨w.heap.size + 1, 1, none⟩) (by simp) _).setCell (p := ⟨w.heap.size + 1, 2, none⟩) (by simp) _)
   rw [← hX]
   clear hX
   exact bodyPost_ret (v := .tuple #[.agg #[.bool false, .slice none 0 0, .int .i64 0], .int .i64 0]) (by simp [results, Tryz.f116, go_sem, y0, y1, y2]) rfl ⟨_, rfl, Kd.R_nil _ _ _ _ _, HXB.out⟩
 · have hn0 : ((n : Int) == 0) = false := by rw [hn, beq_eq_false_iff_ne]; rw [decs_pos hm]; simp only [List.length_cons]; omega
   have H0 : Hid (MadeAt w W2 neg m e A n c A n c m 0) := Lib.hid ⟨hm, Nat.le_refl _, rfl, rfl, hn, hC, by rw [hn]; exact hc, by rw [show e + ((0 : Nat) : Int) = e by omega]; exact hx2, hr2, hb2⟩
   have HZ : Hid (∀ k z, (strip m).2 = (strip k).2 + z → z ≤ 1000000) := Lib.hid (fun k z h => by have := strip_len m; omega)
   have HRR : Hid (r = madeD neg m e) := Lib.hid hr
   have HM := Lib.hid hm
   have HEB := Lib.hid he
   clear hC hc hl he HT hb2 hx2 hr2 hW2 hm hr HMD hn
   go_enter Tryz.func116, Tryz.ntmps116
   go_upto_region 1 with (fail)
   rw [← HW2.out]
   go_wp2_with (go_at_call 158; (with_reducible refine (HTW.out).mono ?_); rintro e w1 ⟨rfl, rfl, _, _⟩)
   clear hcx hfx hcr hfr HR2
   go_loopg [4] m (fun k vd wr => ∃ (z : Nat) (B : Option Addr) (ln d : Nat), vd = .slice B ln d ∧ Hid (MadeAt w wr neg m e A n c B ln d k z))
   case atStart => exact ⟨0, A, n, c, rfl, H0⟩
   case round =>
    obtain ⟨z, B, ln, d, rfl, HA⟩ := hrel
    have hlp : 0 < ln := by rw [HA.out.len, decs_pos HA.out.nz]; simp
    obtain ⟨ad, rfl, hx⟩ := Kd.at_int (Kd.C_below HA.out.row HA.out.below) (0 : Int) (by omega) (by rw [← HA.out.len]; omega)
    have had : ad.add (Int.toNat 0) = ad := by simp [Addr.add]
    rw [had, decs_ten HA.out.nz] at hx
    obtain ⟨hcx, hfx⟩ := bcells HA.out.box (Below.refl _ _)
    obtain ⟨hcr, hfr⟩ := bcells HA.out.res (Below.refl _ _)
    have hzb : z ≤ 1000000 := HZ.out gk z HA.out.two
    obtain ⟨x, hxe⟩ : ∃ x : Int, x = e + (z : Int) := ⟨_, rfl⟩
    have hx1 : -2000000000 ≤ x := by have := HEB.out; omega
    have hx2 : x ≤ 2000000000 := by have := HEB.out; omega
    rw [← hxe] at hcx
    have HXE := Lib.hid hxe
    clear had hxe
    by_cases h0 : gk % 10 = 0
    · have hb0 : (((gk % 10 : Nat) : Int) == 0) = true := by rw [h0]; rfl
      have hst := HA.out.step h0
      rw [show e + ((z + 1 : Nat) : Int) = x + 1 by rw [HXE.out]; omega] at hst
      have HST := Lib.hid hst
      have hlt : gk / 10 < gk := by have := HA.out.nz; omega
      have hcut := fun W : World => cut_from (P := Tryz.prog) 104 3 .i64 Tryz.underlying104 (i := (Tryz.prog.info? 3).get (by kernel_rfl)) (by kernel_rfl) 1 (by kernel_rfl) (some ad) ln d (1 : Int) (by omega) (by omega) W
      obtain ⟨B2, hB2⟩ : ∃ B2, B2 = (if d = 1 then some ad else (some ad).map (·.add 1)) := ⟨_, rfl⟩
      replace hcut : ∀ W : World, (Instr.slice 104 (.slice (some ad) ln d) (some (.int .i64 1)) none none).run Tryz.prog W = .ok (.slice B2 (ln - 1) (d - 1)) W := fun W => by rw [hB2]; exact hcut W
      rw [← hB2] at HST
      clear hB2 h0 hst
      go_wp2
      go_roundg (gk / 10)
      case measure => exact hlt
      case rel => exact ⟨z + 1, B2, ln - 1, d - 1, rfl, HST⟩
    · have hb0 : (((gk % 10 : Nat) : Int) == 0) = false := by rw [beq_eq_false_iff_ne]; omega
      have HSE : Hid (strip m = (gk, z)) := Lib.hid (by
       have h1 := HA.out.one
       have h2 := HA.out.two
       rw [strip_end h0] at h1 h2
       rw [show strip m = ((strip m).1, (strip m).2) from rfl, h1, h2]
       simp)
      have HMM : Hid (r = if 300 < ln then (⟨false, [], 0⟩, 51) else if x < -1000 ∨ 1000 < x then (⟨false, [], 0⟩, 52) else (⟨neg, limbs gk, x⟩, 0)) := Lib.hid (by rw [HRR.out]; unfold madeD; rw [if_neg HM.out, HSE.out, HA.out.len, HXE.out])
      clear h0
      by_cases h3 : 300 < ln
      · have h3i : (300 : Int) < (ln : Int) := by omega
        have hrr : r = (⟨false, [], 0⟩, 51) := by rw [HMM.out, if_pos h3]
        subst hrr
        have HRES := Lib.hid HA.out.res
        have HBEL := Lib.hid HA.out.below
        clear h3 HMM HRR
        go_wp2
        obtain ⟨X, hX⟩ : ∃ X, X = ((wr.setCell ⟨w.heap.size + 1, 0, none⟩ (.bool false)).setCell ⟨w.heap.size + 1, 1, none⟩ (.slice none 0 0)).setCell ⟨w.heap.size + 1, 2, none⟩ (.int .i64 0) := ⟨_, rfl⟩
        obtain ⟨y0, y1, y2⟩ := cells3 (by rw [hX]; exact box3_out HRES.out (.bool false) (.slice none 0 0) (.int .i64 0) : X.heap[w.heap.size + 1]? = some (.cells #[.bool false, .slice none 0 0, .int .i64 0] 24 (0, 0)))
        have HXB : Hid (Below w.heap.size w X) := Lib.hid (by rw [hX]; exact ((HBEL.out.setCell (p := ⟨w.heap.size + 1, 0, none⟩) (by simp) _).setCell (p := ⟨w.heap.size + 1, 1, none⟩) (by simp) _).setCell (p := ⟨w.heap.size + 1, 2, none⟩) (by simp) _)
        rw [← hX]
        clear hX
        exact bodyPost_ret (v := .tuple #[.agg #[.bool false, .slice none 0 0, .int .i64 0], .int .i64 51]) (by simp [results, Tryz.f116, go_sem, y0, y1, y2]) rfl ⟨_, rfl, Kd.R_nil _ _ _ _ _, HXB.out⟩
      · have h3i : ¬ (300 : Int) < (ln : Int) := by omega
        by_cases h4 : x < -1000 ∨ 1000 < x
        · have hrr : r = (⟨false, [], 0⟩, 52) := by rw [HMM.out, if_neg h3, if_pos h4]
          subst hrr
          have HRES := Lib.hid HA.out.res
          have HBEL := Lib.hid HA.out.below
          clear h3 HMM HRR
          have h5 : x < -1000 ∨ ¬ x < -1000 ∧ 1000 < x := by omega
          clear h4
          rcases h5 with h5 | ⟨h5, h6⟩
          all_goals
           go_wp2
           obtain ⟨X, hX⟩ : ∃ X, X = ((wr.setCell ⟨w.heap.size + 1, 0, none⟩ (.bool false)).setCell ⟨w.heap.size + 1, 1, none⟩ (.slice none 0 0)).setCell ⟨w.heap.size + 1, 2, none⟩ (.int .i64 0) := ⟨_, rfl⟩
           obtain ⟨y0, y1, y2⟩ := cells3 (by rw [hX]; exact box3_out HRES.out (.bool false) (.slice none 0 0) (.int .i64 0) : X.heap[w.heap.size + 1]? = some (.cells #[.bool false, .slice none 0 0, .int .i64 0] 24 (0, 0)))
           have HXB : Hid (Below w.heap.size w X) := Lib.hid (by rw [hX]; exact ((HBEL.out.setCell (p := ⟨w.heap.size + 1, 0, none⟩) (by simp) _).setCell (p := ⟨w.heap.size + 1, 1, none⟩) (by simp) _).setCell (p := ⟨w.heap.size + 1, 2, none⟩) (by simp) _)
           rw [← hX]
           clear hX
           exact bodyPost_ret (v := .tuple #[.agg #[.bool false, .slice none 0 0, .int .i64 0], .int .i64 52]) (by simp [results, Tryz.f116, go_sem, y0, y1, y2]) rfl ⟨_, rfl, Kd.R_nil _ _ _ _ _, HXB.out⟩
        · have hrr : r = (⟨neg, limbs gk, x⟩, 0) := by rw [HMM.out, if_neg h3, if_neg h4]
          have h5 : ¬ x < -1000 := by omega
          have h6 : ¬ 1000 < x := by omega
          subst hrr
          have HLB : Hid (∀ W, Below w.heap.size w W → Calls Tryz.prog 159 #[.slice (some ad) ln d] W fun e w' => ∃ v : Value, e = .returned v ∧ Kd.R (Kd.int .u32) 131 w' W.heap.size (fun _ => True) v (limbs gk) ∧ Below W.heap.size W w') := Lib.hid (fun W hW => by
           rw [HA.out.len]
           exact Limbs_any gk (some ad) d W (Kd.C_below HA.out.row hW) (by rw [← HA.out.len]; omega))
          have HBX := Lib.hid HA.out.box
          have HRES := Lib.hid HA.out.res
          have HBEL := Lib.hid HA.out.below
          rw [← HXE.out] at HBX
          clear h3 h4 HMM HRR
          have HBc : Hid (Below wr.heap.size wr wr.drew) := Lib.hid (below_drew (Below.refl _ _))
          go_upto_region 11 with (fail)
          clear hcx hfx hcr hfr hx HA
          refine wp_region_any (by kernel_rfl) ?_
          change wpAny _ _ _ _ _ _ _ (World.drew _)
          refine tq 0 (h := ?_)
          refine tq 2 (h := ?_)
          simp only [lst]
          refine tq 4 (h := ?_)
          simp only [lst]
          refine three 1 3 5 rfl rfl rfl (by kernel_rfl) (by rfl) (by rfl) (by rfl) (fun K_ hK_ => ?_) (fun K_ hK_ => ?_) (fun K_ hK_ => ?_)
          obtain ⟨q0, q1, q2⟩ := cells3 (blk_below2 HBX.out HBc.out)
          simp only [lgt]
          go_simp
          refine hK_ _ _ ?_
          clear hK_ K_
          refine two 3 5 rfl rfl (by kernel_rfl) (by rfl) (by rfl) (fun K_ hK_ => ?_) (fun K_ hK_ => ?_)
          simp only [lgt]
          go_simp
          refine (HLB.out _ (HBEL.out.trans (HBc.out.mono HBEL.out.size))).mono ?_
          rintro e_ w7 ⟨v7, rfl, hR7, hB7⟩
          obtain ⟨G7, c7, rfl⟩ := Kd.R_slice hR7
          have HR7 := Lib.hid (Kd.R_lower hR7 (Nat.le_trans HBEL.out.size HBc.out.size))
          have HBc := Lib.hid (HBc.out.trans (hB7.mono HBc.out.size))
          clear hR7 hB7
          simp only [Oper.upon]
          refine hK_ _ _ ?_
          clear hK_ K_
          refine one 5 rfl (by kernel_rfl) (by rfl) fun K_ hK_ => ?_
          obtain ⟨q0, q1, q2⟩ := cells3 (blk_below2 HBX.out HBc.out)
          simp only [lgt]
          go_simp
          refine hK_ _ _ ?_
          clear hK_ K_
          refine tq 6 (h := ?_)
          simp only [lst]
          refine one 7 rfl (by kernel_rfl) (by rfl) fun K_ hK_ => ?_
          obtain ⟨q0, q1, q2⟩ := cells3 (blk_below2 HRES.out HBc.out)
          have qf := blk_frozen (blk_below2 HRES.out HBc.out)
          simp only [lgt]
          go_simp
          refine hK_ _ _ ?_
          clear hK_ K_
          refine tq 8 (h := ?_)
          refine wpAny_done (by kernel_rfl) ?_ _
          simp only [lst]
          rotate_left
          obtain ⟨q0, q1, q2⟩ := cells3 (blk_below2 HBX.out HBc.out)
          simp only [lgt]
          go_simp
          refine hK_ _ _ ?_
          clear hK_ K_
          refine one 3 rfl (by kernel_rfl) (by rfl) fun K_ hK_ => ?_
          simp only [lgt]
          go_simp
          refine (HLB.out _ (HBEL.out.trans (HBc.out.mono HBEL.out.size))).mono ?_
          rintro e_ w7 ⟨v7, rfl, hR7, hB7⟩
          obtain ⟨G7, c7, rfl⟩ := Kd.R_slice hR7
          have HR7 := Lib.hid (Kd.R_lower hR7 (Nat.le_trans HBEL.out.size HBc.out.size))
          have HBc := Lib.hid (HBc.out.trans (hB7.mono HBc.out.size))
          clear hR7 hB7
          simp only [Oper.upon]
          refine hK_ _ _ ?_
          clear hK_ K_
          refine tq 6 (h := ?_)
          simp only [lst]
          refine one 7 rfl (by kernel_rfl) (by rfl) fun K_ hK_ => ?_
          obtain ⟨q0, q1, q2⟩ := cells3 (blk_below2 HRES.out HBc.out)
          have qf := blk_frozen (blk_below2 HRES.out HBc.out)
          simp only [lgt]
          go_simp
          refine hK_ _ _ ?_
          clear hK_ K_
          refine tq 8 (h := ?_)
          refine wpAny_done (by kernel_rfl) ?_ _
          simp only [lst]
          rotate_left
          simp only [lgt]
          go_simp
          refine (HLB.out _ (HBEL.out.trans (HBc.out.mono HBEL.out.size))).mono ?_
          rintro e_ w7 ⟨v7, rfl, hR7, hB7⟩
          obtain ⟨G7, c7, rfl⟩ := Kd.R_slice hR7
          have HR7 := Lib.hid (Kd.R_lower hR7 (Nat.le_trans HBEL.out.size HBc.out.size))
          have HBc := Lib.hid (HBc.out.trans (hB7.mono HBc.out.size))
          clear hR7 hB7
          simp only [Oper.upon]
          refine hK_ _ _ ?_
          clear hK_ K_
          refine two 1 5 rfl rfl (by kernel_rfl) (by rfl) (by rfl) (fun K_ hK_ => ?_) (fun K_ hK_ => ?_)
          obtain ⟨q0, q1, q2⟩ := cells3 (blk_below2 HBX.out HBc.out)
          simp only [lgt]
          go_simp
          refine hK_ _ _ ?_
          clear hK_ K_
          refine one 5 rfl (by kernel_rfl) (by rfl) fun K_ hK_ => ?_
          obtain ⟨q0, q1, q2⟩ := cells3 (blk_below2 HBX.out HBc.out)
          simp only [lgt]
          go_simp
          refine hK_ _ _ ?_
          clear hK_ K_
          refine tq 6 (h := ?_)
          simp only [lst]
          refine one 7 rfl (by kernel_rfl) (by rfl) fun K_ hK_ => ?_
          obtain ⟨q0, q1, q2⟩ := cells3 (blk_below2 HRES.out HBc.out)
          have qf := blk_frozen (blk_below2 HRES.out HBc.out)
          simp only [lgt]
          go_simp
          refine hK_ _ _ ?_
          clear hK_ K_
          refine tq 8 (h := ?_)
          refine wpAny_done (by kernel_rfl) ?_ _
          simp only [lst]
          rotate_left
          obtain ⟨q0, q1, q2⟩ := cells3 (blk_below2 HBX.out HBc.out)
          simp only [lgt]
          go_simp
          refine hK_ _ _ ?_
          clear hK_ K_
          refine one 1 rfl (by kernel_rfl) (by rfl) fun K_ hK_ => ?_
          obtain ⟨q0, q1, q2⟩ := cells3 (blk_below2 HBX.out HBc.out)
          simp only [lgt]
          go_simp
          refine hK_ _ _ ?_
          clear hK_ K_
          refine tq 6 (h := ?_)
          simp only [lst]
          refine one 7 rfl (by kernel_rfl) (by rfl) fun K_ hK_ => ?_
          obtain ⟨q0, q1, q2⟩ := cells3 (blk_below2 HRES.out HBc.out)
          have qf := blk_frozen (blk_below2 HRES.out HBc.out)
          simp only [lgt]
          go_simp
          refine hK_ _ _ ?_
          clear hK_ K_
          refine tq 8 (h := ?_)
          refine wpAny_done (by kernel_rfl) ?_ _
          simp only [lst]
          rotate_left
          obtain ⟨q0, q1, q2⟩ := cells3 (blk_below2 HBX.out HBc.out)
          simp only [lgt]
          go_simp
          refine hK_ _ _ ?_
          clear hK_ K_
          refine two 1 3 rfl rfl (by kernel_rfl) (by rfl) (by rfl) (fun K_ hK_ => ?_) (fun K_ hK_ => ?_)
          obtain ⟨q0, q1, q2⟩ := cells3 (blk_below2 HBX.out HBc.out)
          simp only [lgt]
          go_simp
          refine hK_ _ _ ?_
          clear hK_ K_
          refine one 3 rfl (by kernel_rfl) (by rfl) fun K_ hK_ => ?_
          simp only [lgt]
          go_simp
          refine (HLB.out _ (HBEL.out.trans (HBc.out.mono HBEL.out.size))).mono ?_
          rintro e_ w7 ⟨v7, rfl, hR7, hB7⟩
          obtain ⟨G7, c7, rfl⟩ := Kd.R_slice hR7
          have HR7 := Lib.hid (Kd.R_lower hR7 (Nat.le_trans HBEL.out.size HBc.out.size))
          have HBc := Lib.hid (HBc.out.trans (hB7.mono HBc.out.size))
          clear hR7 hB7
          simp only [Oper.upon]
          refine hK_ _ _ ?_
          clear hK_ K_
          refine tq 6 (h := ?_)
          simp only [lst]
          refine one 7 rfl (by kernel_rfl) (by rfl) fun K_ hK_ => ?_
          obtain ⟨q0, q1, q2⟩ := cells3 (blk_below2 HRES.out HBc.out)
          have qf := blk_frozen (blk_below2 HRES.out HBc.out)
          simp only [lgt]
          go_simp
          refine hK_ _ _ ?_
          clear hK_ K_
          refine tq 8 (h := ?_)
          refine wpAny_done (by kernel_rfl) ?_ _
          simp only [lst]
          rotate_left
          simp only [lgt]
          go_simp
          refine (HLB.out _ (HBEL.out.trans (HBc.out.mono HBEL.out.size))).mono ?_
          rintro e_ w7 ⟨v7, rfl, hR7, hB7⟩
          obtain ⟨G7, c7, rfl⟩ := Kd.R_slice hR7
          have HR7 := Lib.hid (Kd.R_lower hR7 (Nat.le_trans HBEL.out.size HBc.out.size))
          have HBc := Lib.hid (HBc.out.trans (hB7.mono HBc.out.size))
          clear hR7 hB7
          simp only [Oper.upon]
          refine hK_ _ _ ?_
          clear hK_ K_
          refine one 1 rfl (by kernel_rfl) (by rfl) fun K_ hK_ => ?_
          obtain ⟨q0, q1, q2⟩ := cells3 (blk_below2 HBX.out HBc.out)
          simp only [lgt]
          go_simp
          refine hK_ _ _ ?_
          clear hK_ K_
          refine tq 6 (h := ?_)
          simp only [lst]
          refine one 7 rfl (by kernel_rfl) (by rfl) fun K_ hK_ => ?_
          obtain ⟨q0, q1, q2⟩ := cells3 (blk_below2 HRES.out HBc.out)
          have qf := blk_frozen (blk_below2 HRES.out HBc.out)
          simp only [lgt]
          go_simp
          refine hK_ _ _ ?_
          clear hK_ K_
          refine tq 8 (h := ?_)
          refine wpAny_done (by kernel_rfl) ?_ _
          simp only [lst]
          rotate_left
          all_goals
           obtain ⟨X, hX⟩ : ∃ X, X = ((w7.setCell ⟨w.heap.size + 1, 0, none⟩ (.bool neg)).setCell ⟨w.heap.size + 1, 1, none⟩ (.slice G7 (limbs gk).length c7)).setCell ⟨w.heap.size + 1, 2, none⟩ (.int .i64 x) := ⟨_, rfl⟩
           obtain ⟨y0, y1, y2⟩ := cells3 (by rw [hX]; exact box3_out (blk_below2 HRES.out HBc.out) (.bool neg) (.slice G7 (limbs gk).length c7) (.int .i64 x) : X.heap[w.heap.size + 1]? = some (.cells #[.bool neg, .slice G7 (limbs gk).length c7, .int .i64 x] 24 (0, 0)))
           have HXB : Hid (Below w.heap.size w X) := Lib.hid (by rw [hX]; exact (((HBEL.out.trans (HBc.out.mono HBEL.out.size)).setCell (p := ⟨w.heap.size + 1, 0, none⟩) (by simp) _).setCell (p := ⟨w.heap.size + 1, 1, none⟩) (by simp) _).setCell (p := ⟨w.heap.size + 1, 2, none⟩) (by simp) _)
           have HXR : Hid (Kd.R (Kd.int .u32) 131 X w.heap.size (fun _ => True) (.slice G7 (limbs gk).length c7) (limbs gk)) := Lib.hid (by
            have h0 := blk_below2 HRES.out HBc.out
            have h1 := blk_set h0 0 (.bool neg)
            have h2 := blk_set h1 1 (.slice G7 (limbs gk).length c7)
            rw [hX]
            exact Kd.R_set (Kd.R_set (Kd.R_set HR7.out h0 (by decide) 0 _) h1 (by decide) 1 _) h2 (by decide) 2 _)
           rw [← hX]
           clear hX
           go_wp2_with fail
           exact bodyPost_ret (v := .tuple #[.agg #[.bool neg, .slice G7 (limbs gk).length c7, .int .i64 x], .int .i64 0]) (by simp [results, Tryz.f116, go_sem, y0, y1, y2]) rfl ⟨_, rfl, HXR.out, HXB.out⟩
def intD (n : Nat) : D := (madeD false n 0).1
set_option maxHeartbeats 2000000 in
theorem Int_any (n : Nat) (w : World) (h : n ≤ 9000000000000000000) : Calls Tryz.prog 73 #[.int .i64 n] w fun x w' => ∃ v : Value, x = .returned (.agg #[.bool (intD n).f0, v, .int .i64 (intD n).f2]) ∧ Kd.R (Kd.int .u32) 131 w' w.heap.size (fun _ => True) v (intD n).f1 ∧ Below w.heap.size w w' := by
 have hdl : (decs n).length ≤ 1000000 := Nat.le_trans (decs_len (k := 19) (Nat.lt_of_le_of_lt h (by decide))) (by decide)
 obtain ⟨W1, hW1⟩ : ∃ W1, W1 = w.alloc (.cells #[.bool false, .slice none 0 0, .int .i64 0] 24) := ⟨_, rfl⟩
 have hb1 : Below w.heap.size w W1 := by rw [hW1]; exact (Below.refl _ _).alloc (Nat.le_refl _) _
 have hx1 : W1.heap[w.heap.size]? = some (.cells #[.bool false, .slice none 0 0, .int .i64 0] 24 (0, 0)) := by rw [hW1]; exact blk_new _ _
 have HN := Lib.hid (number_any n W1 (by omega))
 have HMD : Hid (∀ G c W, Kd.C (Kd.int .i64) W G (decs n).length (decs n) → (decs n).length ≤ c → Calls Tryz.prog 116 #[.agg #[.bool false, .slice G (decs n).length c, .int .i64 0]] W fun x w' => ∃ v : Value, x = .returned (.tuple #[.agg #[.bool (intD n).f0, v, .int .i64 (intD n).f2], .int .i64 (madeD false n 0).2]) ∧ Kd.R (Kd.int .u32) 131 w' W.heap.size (fun _ => True) v (intD n).f1 ∧ Below W.heap.size W w') := Lib.hid (fun G c W hC hc => Made_any false n 0 G c W hC hc hdl (by omega))
 have e1 : IntKind.u64.wrap (n : Int) = (n : Int) := by unfold IntKind.wrap; simp [IntKind.signed, IntKind.bits]; omega
 have hn0 : (0 : Int) ≤ (n : Int) := by omega
 have hn1 : ¬ (n : Int) < 0 := by omega
 generalize decs n = ds at *
 generalize intD n = r at *
 generalize (madeD false n 0).2 = er at *
 have HW1 := Lib.hid hW1
 have HB1 := Lib.hid hb1
 have HX1 := Lib.hid hx1
 clear hW1 hb1 hx1 hdl h
 go_enter Tryz.func73, Tryz.ntmps73
 go_upto_region 1 with (fail)
 rw [← HW1.out]
 go_wp2_with (first
  | (go_at_call 114; (with_reducible refine (HN.out).mono ?_); rintro e w2 ⟨v2, rfl, hR2, hB2⟩; obtain ⟨G2, c2, rfl⟩ := Kd.R_slice hR2; have HR2 := Lib.hid (Kd.R_reads' hR2); have HB2 := Lib.hid hB2; clear hR2 hB2; obtain ⟨hcz, hfz⟩ := bcells (blk_new w2 (.cells #[.bool false, .slice none 0 0, .int .i64 0] 144)) (Below.refl _ _))
  | (go_at_call 116; (with_reducible refine (HMD.out G2 c2 _ (Kd.C_alloc HR2.out.2.2 _) HR2.out.2.1).mono ?_); rintro e w5 ⟨v5, rfl, hR5, hB5⟩; obtain ⟨G5, c5, rfl⟩ := Kd.R_slice hR5; have HR5 := Lib.hid hR5; have HB5 := Lib.hid hB5; clear hR5 hB5 hcz hfz; have HX5 := Lib.hid (blk_below2 (blk_alloc (blk_below2 HX1.out HB2.out) _) HB5.out); obtain ⟨hcz, hfz⟩ := bcells (blk_new w5 (.cells #[.bool false, .slice none 0 0, .int .i64 0] 24)) (Below.refl _ _); have hoa1 := fun (o : Obj) => (bcells (blk_alloc HX5.out o) (Below.refl _ _)).1; have hoa2 := fun (o : Obj) => (bcells (blk_alloc HX5.out o) (Below.refl _ _)).2))
 obtain ⟨W6, hW6⟩ : ∃ W6, W6 = w5.alloc (.cells #[.bool r.f0, .slice G5 r.f1.length c5, .int .i64 r.f2] 24) := ⟨_, rfl⟩
 have h5s : w2.heap.size + 1 ≤ w5.heap.size := by have := HB5.out.size; rw [World.size_alloc] at this; exact this
 have hB6 : Below w.heap.size w W6 := by
  rw [hW6]
  have h1 := HB1.out.trans (HB2.out.mono HB1.out.size)
  exact (((h1.alloc h1.size _).trans (HB5.out.mono (by rw [World.size_alloc]; have := h1.size; omega))).alloc (by have := h1.size; omega) _)
 have hx6 : W6.heap[w.heap.size]? = some (.cells #[.bool false, .slice none 0 0, .int .i64 0] 24 (0, 0)) := by rw [hW6]; exact blk_alloc HX5.out _
 have hR6 : Kd.R (Kd.int .u32) 131 W6 w.heap.size (fun _ => True) (.slice G5 r.f1.length c5) r.f1 := by
  rw [hW6]
  exact Kd.R_alloc (Kd.R_lower HR5.out (by rw [World.size_alloc]; have := HB1.out.size; have := HB2.out.size; omega)) _
 obtain ⟨X, hX⟩ : ∃ X, X = ((W6.setCell ⟨w.heap.size, 0, none⟩ (.bool r.f0)).setCell ⟨w.heap.size, 1, none⟩ (.slice G5 r.f1.length c5)).setCell ⟨w.heap.size, 2, none⟩ (.int .i64 r.f2) := ⟨_, rfl⟩
 obtain ⟨y0, y1, y2⟩ := cells3 (by rw [hX]; exact box3_out hx6 (.bool r.f0) (.slice G5 r.f1.length c5) (.int .i64 r.f2) : X.heap[w.heap.size]? = some (.cells #[.bool r.f0, .slice G5 r.f1.length c5, .int .i64 r.f2] 24 (0, 0)))
 have HXB : Hid (Below w.heap.size w X) := Lib.hid (by rw [hX]; exact ((hB6.setCell (p := ⟨w.heap.size, 0, none⟩) (by simp) _).setCell (p := ⟨w.heap.size, 1, none⟩) (by simp) _).setCell (p := ⟨w.heap.size, 2, none⟩) (by simp) _)
 have HXR : Hid (Kd.R (Kd.int .u32) 131 X w.heap.size (fun _ => True) (.slice G5 r.f1.length c5) r.f1) := Lib.hid (by
  have h1 := blk_set hx6 0 (.bool r.f0)
  have h2 := blk_set h1 1 (.slice G5 r.f1.length c5)
  rw [hX]
  exact Kd.R_set (Kd.R_set (Kd.R_set hR6 hx6 (by decide) 0 _) h1 (by decide) 1 _) h2 (by decide) 2 _)
 rw [hW6] at hX
 rw [← hX]
 clear hX hW6 hcz hfz hoa1 hoa2 hx6 hR6 hB6
 exact bodyPost_ret (v := .agg #[.bool r.f0, .slice G5 r.f1.length c5, .int .i64 r.f2]) (by simp [results, Tryz.f73, go_sem, y0, y1, y2]) rfl ⟨_, rfl, HXR.out, HXB.out⟩
def numI (n : Nat) : V := ⟨3, intD n, ⟨#[]⟩, [], []⟩
theorem num_end {w w2 : World} {r : D} {G : Option Addr} {c : Nat} (hx : w2.heap[w.heap.size]? = some (.cells #[.int .i64 0, .bool false, .slice none 0 0, .int .i64 0, .string ⟨#[]⟩, .slice none 0 0, .slice none 0 0] 28 (0, 0))) (hR : Kd.R (Kd.int .u32) 131 w2 w.heap.size (fun _ => True) (.slice G r.f1.length c) r.f1) (hB : Below w.heap.size w w2) {X : World}
 (hX : X = ((((((w2.setCell ⟨w.heap.size, 0, none⟩ (.int .i64 3)).setCell ⟨w.heap.size, 1, none⟩ (.bool r.f0)).setCell ⟨w.heap.size, 2, none⟩ (.slice G r.f1.length c)).setCell ⟨w.heap.size, 3, none⟩ (.int .i64 r.f2)).setCell ⟨w.heap.size, 4, none⟩ (.string ⟨#[]⟩)).setCell ⟨w.heap.size, 5, none⟩ (.slice none 0 0)).setCell ⟨w.heap.size, 6, none⟩ (.slice none 0 0)) :
 X.heap[w.heap.size]? = some (.cells #[.int .i64 3, .bool r.f0, .slice G r.f1.length c, .int .i64 r.f2, .string ⟨#[]⟩, .slice none 0 0, .slice none 0 0] 28 (0, 0)) ∧ k28.M X w.heap.size (fun _ => True) (⟨3, r, ⟨#[]⟩, [], []⟩ : V) [.int .i64 3, .bool r.f0, .slice G r.f1.length c, .int .i64 r.f2, .string ⟨#[]⟩, .slice none 0 0, .slice none 0 0] ∧ Below w.heap.size w X := by
 have h1 := blk_set hx 0 (.int .i64 3)
 have h2 := blk_set h1 1 (.bool r.f0)
 have h3 := blk_set h2 2 (.slice G r.f1.length c)
 have h4 := blk_set h3 3 (.int .i64 r.f2)
 have h5 := blk_set h4 4 (.string ⟨#[]⟩)
 have h6 := blk_set h5 5 (.slice none 0 0)
 have h7 := blk_set h6 6 (.slice none 0 0)
 refine ⟨by rw [hX]; exact h7, ?_, ?_⟩
 · have hR2 : Kd.R (Kd.int .u32) 131 X w.heap.size (fun _ => True) (.slice G r.f1.length c) r.f1 := by
    rw [hX]
    exact Kd.R_set (Kd.R_set (Kd.R_set (Kd.R_set (Kd.R_set (Kd.R_set (Kd.R_set hR hx (by decide) 0 _) h1 (by decide) 1 _) h2 (by decide) 2 _) h3 (by decide) 3 _) h4 (by decide) 4 _) h5 (by decide) 5 _) h6 (by decide) 6 _
   exact k28_mkM X w.heap.size (fun _ => True) (⟨3, r, ⟨#[]⟩, [], []⟩ : V) hR2 (Kd.R_nil _ _ _ _ _) (Kd.R_nil _ _ _ _ _)
 · rw [hX]
   exact ((((((hB.setCell (p := ⟨w.heap.size, 0, none⟩) (by simp) _).setCell (p := ⟨w.heap.size, 1, none⟩) (by simp) _).setCell (p := ⟨w.heap.size, 2, none⟩) (by simp) _).setCell (p := ⟨w.heap.size, 3, none⟩) (by simp) _).setCell (p := ⟨w.heap.size, 4, none⟩) (by simp) _).setCell (p := ⟨w.heap.size, 5, none⟩) (by simp) _).setCell (p := ⟨w.heap.size, 6, none⟩) (by simp) _
set_option maxHeartbeats 2000000 in
theorem NumberI_any (n : Nat) (w : World) (h : n ≤ 9000000000000000000) :
 Calls Tryz.prog 26 #[.int .i64 n] w fun e w' => ∃ cs : List Value, e = .returned (.agg cs.toArray) ∧ k28.M w' w.heap.size (fun _ => True) (numI n) cs ∧ Below w.heap.size w w' := by
 obtain ⟨W1, hW1⟩ : ∃ W1, W1 = w.alloc (.cells #[.int .i64 0, .bool false, .slice none 0 0, .int .i64 0, .string ⟨#[]⟩, .slice none 0 0, .slice none 0 0] 28) := ⟨_, rfl⟩
 have hb1 : Below w.heap.size w W1 := by rw [hW1]; exact (Below.refl _ _).alloc (Nat.le_refl _) _
 have hx1 : W1.heap[w.heap.size]? = some (.cells #[.int .i64 0, .bool false, .slice none 0 0, .int .i64 0, .string ⟨#[]⟩, .slice none 0 0, .slice none 0 0] 28 (0, 0)) := by rw [hW1]; exact blk_new _ _
 have HN := Lib.hid (Int_any n W1 h)
 have hnv : numI n = ⟨3, intD n, ⟨#[]⟩, [], []⟩ := rfl
 rw [hnv]
 generalize intD n = r at *
 have HW1 := Lib.hid hW1
 have HB1 := Lib.hid hb1
 have HX1 := Lib.hid hx1
 clear hW1 hb1 hx1 hnv h
 go_enter Tryz.func26, Tryz.ntmps26
 go_upto_region 1 with (fail)
 rw [← HW1.out]
 go_wp2_with (go_at_call 73; (with_reducible refine (HN.out).mono ?_); rintro e w2 ⟨v2, rfl, hR2, hB2⟩; obtain ⟨G2, c2, rfl⟩ := Kd.R_slice hR2; have HR2 := Lib.hid (Kd.R_lower hR2 HB1.out.size); have HB2 := Lib.hid (HB1.out.trans (hB2.mono HB1.out.size)); have HX2 := Lib.hid (blk_below2 HX1.out hB2); obtain ⟨hcz, hfz⟩ := bcells HX1.out hB2; clear hR2 hB2)
 obtain ⟨X, hX⟩ : ∃ X, X = ((((((w2.setCell ⟨w.heap.size, 0, none⟩ (.int .i64 3)).setCell ⟨w.heap.size, 1, none⟩ (.bool r.f0)).setCell ⟨w.heap.size, 2, none⟩ (.slice G2 r.f1.length c2)).setCell ⟨w.heap.size, 3, none⟩ (.int .i64 r.f2)).setCell ⟨w.heap.size, 4, none⟩ (.string ⟨#[]⟩)).setCell ⟨w.heap.size, 5, none⟩ (.slice none 0 0)).setCell ⟨w.heap.size, 6, none⟩ (.slice none 0 0) := ⟨_, rfl⟩
 obtain ⟨hfx, hm, hbw⟩ := num_end HX2.out HR2.out HB2.out hX
 rw [← hX]
 clear hX hcz hfz
 have hrc := blk_cell hfx
 refine bodyPost_ret (v := .agg #[.int .i64 3, .bool r.f0, .slice G2 r.f1.length c2, .int .i64 r.f2, .string ⟨#[]⟩, .slice none 0 0, .slice none 0 0]) ?_ rfl ⟨_, rfl, hm, hbw⟩
 simp [results, Tryz.f26, go_sem, hrc]
def numV (n : Int) : V := ⟨3, ⟨false, [n], 0⟩, ⟨#[]⟩, [], []⟩
theorem num_small {n : Nat} (h0 : n ≠ 0) (h1 : n ≤ 9) : numI n = numV n := by
 have hs : strip n = (n, 0) := strip_end (by omega)
 have hd : (decs n).length ≤ 300 := Nat.le_trans (decs_len (k := 1) (by omega)) (by decide)
 have hl : limbs n = [(n : Int)] := by rw [limbs_pos h0, show n / 4294967296 = 0 by omega, limbs_zero, show n % 4294967296 = n by omega]
 unfold numI intD madeD
 rw [if_neg h0, hs, if_neg (Nat.not_lt.2 hd), if_neg (by simp)]
 simp [numV, hl]
theorem number_1 : numI 1 = numV 1 := num_small (by decide) (by decide)
theorem number_2 : numI 2 = numV 2 := num_small (by decide) (by decide)
theorem number_3 : numI 3 = numV 3 := num_small (by decide) (by decide)
theorem Number_any (n : Nat) (hf : numI n = numV n) (h : n ≤ 9) (w : World) :
 Calls Tryz.prog 26 #[.int .i64 (n : Int)] w fun e w' => ∃ cs : List Value, e = .returned (.agg cs.toArray) ∧ k28.M w' w.heap.size (fun _ => True) (numV n) cs ∧ Below w.heap.size w w' := by
 rw [← hf]
 exact NumberI_any n w (by omega)
theorem lask_three : lask [numV 3, numV 1, numV 2] [numV 3, numV 1, numV 2] = 0 := by decide +kernel
def lst3 : List V := [numV 3, numV 1, numV 2]
theorem best_three : bestTo leastP lst3 3 = 1 ∧ bestTo mostP lst3 3 = 0 := by decide +kernel
theorem sorted_three {ys : List V} (h : Sorted lst3 lst3 ys) : ys.length = 3 ∧ ys[0]? = some (numV 1) ∧ ys[2]? = some (numV 3) := by
 have h1 := h.first (by decide)
 have h2 := h.last (by decide)
 rw [show lst3.length = 3 from rfl] at h1 h2
 rw [best_three.1] at h1
 rw [best_three.2] at h2
 exact ⟨h2.1, h1, h2.2⟩
theorem three_C {w0 w : World} {x y z : V} {cs ds es : List Value} {t : Nat} (hb : Below w0.heap.size w0 w) (hx : k28.K w0 x cs) (hy : k28.K w0 y ds) (hz : k28.K w0 z es) :
 k28.C (w.alloc (.cells (cs ++ (ds ++ es)).toArray t)) (some ⟨w.heap.size, 0, none⟩) 3 [x, y, z] := by
 have hb2 : Below w0.heap.size w0 (w.alloc (.cells (cs ++ (ds ++ es)).toArray t)) := hb.alloc hb.size _
 have l1 : cs.length = 7 := k28.K_len hx
 have l2 : ds.length = 7 := k28.K_len hy
 have l3 : es.length = 7 := k28.K_len hz
 have hc : ∀ i u, (cs ++ (ds ++ es))[i]? = some u → (w.alloc (.cells (cs ++ (ds ++ es)).toArray t)).cell? ((⟨w.heap.size, 0, none⟩ : Addr).add i) = some u := fun i u hu => by
  rw [Addr.add_mid, Nat.zero_add, blk_cell (blk_new w _), List.getElem?_toArray]
  exact hu
 refine ⟨rfl, by decide, fun _ => ⟨_, rfl, fun j p hj => ?_⟩⟩
 rcases j with _ | _ | _ | j
 · obtain rfl := Option.some.inj hj
   exact ⟨cs, l1, k28.K_below hb2 hx, fun i u hu => hc _ u (by
    have hi := (List.getElem?_eq_some_iff.1 hu).1
    rw [show 0 * k28.sz + i = i by omega, List.getElem?_append_left hi]; exact hu)⟩
 · obtain rfl := Option.some.inj hj
   exact ⟨ds, l2, k28.K_below hb2 hy, fun i u hu => hc _ u (by
    have hi := (List.getElem?_eq_some_iff.1 hu).1
    rw [show (0 + 1) * k28.sz + i = 7 + i from rfl, List.getElem?_append_right (by omega), l1, show 7 + i - 7 = i by omega, List.getElem?_append_left hi]; exact hu)⟩
 · obtain rfl := Option.some.inj hj
   exact ⟨es, l3, k28.K_below hb2 hz, fun i u hu => hc _ u (by
    rw [show (0 + 1 + 1) * k28.sz + i = 14 + i from rfl, List.getElem?_append_right (by omega), l1, List.getElem?_append_right (by omega), l2, show 14 + i - 7 - 7 = i by omega]; exact hu)⟩
 · simp at hj
theorem okV_num (n : Int) (h0 : 0 ≤ n) (h1 : n ≤ 9) : OkV (numV n) :=
 OkV.mk _ (by show (Lit.int .i64 3).wf = true; rfl) (fun m hm => by
  have : m = n := by simpa [numV] using hm
  subst this
  rcases (show m = 0 ∨ m = 1 ∨ m = 2 ∨ m = 3 ∨ m = 4 ∨ m = 5 ∨ m = 6 ∨ m = 7 ∨ m = 8 ∨ m = 9 by omega) with rfl | rfl | rfl | rfl | rfl | rfl | rfl | rfl | rfl | rfl <;> rfl) (by show (Lit.int .i64 0).wf = true; rfl) (by show (0 : Nat) ≤ 1073741824; decide) (fun n hn => absurd hn (by unfold numV; simp)) (by unfold numV; simp) (by unfold numV; simp) (by unfold numV; simp) (fun y hy => absurd hy (by unfold numV; simp))
theorem okV_three : ∀ x ∈ lst3, OkV x := fun x hx => by
 unfold lst3 at hx
 simp only [List.mem_cons, List.mem_nil_iff, or_false] at hx
 rcases hx with rfl | rfl | rfl
 · exact okV_num 3 (by decide) (by decide)
 · exact okV_num 1 (by decide) (by decide)
 · exact okV_num 2 (by decide) (by decide)
theorem rd_of_at {l : List V} {k : Nat} {x : V} (h : l[k]? = some x) : rd_T28 l (k : Int) = x := by
 unfold rd_T28
 rw [Int.toNat_natCast, List.getD_eq_getElem?_getD, h]
 rfl
theorem rng_V {w0 : World} {g : Nat} {l : List V} (h : k28.C w0 (some ⟨g, 0, none⟩) l.length l) (k : Nat) (hk : k < l.length) : ∃ cs : List Value, cs.length = 7 ∧ k28.K w0 (rd_T28 l (k : Int)) cs ∧ ∀ W : World, Below w0.heap.size w0 W → W.rangeAt g (k * 7) cs := by
 obtain ⟨ad, c, hA, hl, hK, hc⟩ := Kd.C_get h z28 (k : Int) (by omega) (by omega)
 obtain rfl := Option.some.inj hA
 rw [Int.toNat_natCast] at hK hc
 refine ⟨c, hl, by unfold rd_T28; rw [Int.toNat_natCast]; exact hK, fun W hb j v hj => ?_⟩
 have := hc j v hj
 rw [Addr.add_mid, Nat.zero_add] at this
 exact pw_cell_below hb this
theorem info_V (cs : List Value) (h : cs.length = 7) : (Tryz.prog.info? 28).map (·.size) = some cs.length := by rw [h]; kernel_rfl
theorem num_any (n : Int) (W : World) : Calls Tryz.prog 36 #[.int .i64 n] W fun e w' => e = .returned (.int .i64 n) ∧ w' = W := by
 go_enter Tryz.func36, Tryz.ntmps36
 go_wp2
 go_ret
 exact ⟨rfl, rfl⟩
set_option maxHeartbeats 2000000 in
theorem alive_any (w : World) (hLD : LaidW w) : Calls Tryz.prog 32 #[] w fun e w' => e = .returned (.bool true) ∧ Below w.heap.size w w' := by
 have H1 : Hid (∀ W, Calls Tryz.prog 26 #[.int .i64 1] W fun e w' => ∃ cs : List Value, e = .returned (.agg cs.toArray) ∧ k28.M w' W.heap.size (fun _ => True) (numV 1) cs ∧ Below W.heap.size W w') := Lib.hid (fun W => Number_any 1 number_1 (by decide) W)
 have H2 : Hid (∀ W, Calls Tryz.prog 26 #[.int .i64 2] W fun e w' => ∃ cs : List Value, e = .returned (.agg cs.toArray) ∧ k28.M w' W.heap.size (fun _ => True) (numV 2) cs ∧ Below W.heap.size W w') := Lib.hid (fun W => Number_any 2 number_2 (by decide) W)
 have H3 : Hid (∀ W, Calls Tryz.prog 26 #[.int .i64 3] W fun e w' => ∃ cs : List Value, e = .returned (.agg cs.toArray) ∧ k28.M w' W.heap.size (fun _ => True) (numV 3) cs ∧ Below W.heap.size W w') := Lib.hid (fun W => Number_any 3 number_3 (by decide) W)
 have HLD := Lib.hid hLD
 clear hLD
 have HOK : Hid (∀ x ∈ lst3, OkV x) := Lib.hid okV_three
 go_enter Tryz.func32, Tryz.ntmps32
 go_upto_region 2 with (first
  | (go_at_call 26; (with_reducible refine (H3.out _).mono ?_); rintro e w1 ⟨cs3, rfl, hM3, hB1⟩; have HM3 := Lib.hid hM3; have HB1 := Lib.hid hB1; obtain ⟨v2, v5, v6, rfl, r2, r5, r6⟩ := k28_openM hM3; clear hM3 hB1 r2 r5 r6)
  | (go_at_call 26; (with_reducible refine (H1.out _).mono ?_); rintro e w2 ⟨cs1, rfl, hM1, hB2⟩; have HM1 := Lib.hid hM1; have HB2 := Lib.hid hB2; obtain ⟨u2, u5, u6, rfl, r2, r5, r6⟩ := k28_openM hM1; clear hM1 hB2 r2 r5 r6)
  | (go_at_call 26; (with_reducible refine (H2.out _).mono ?_); rintro e w3 ⟨cs2, rfl, hM2, hB3⟩; have HM2 := Lib.hid hM2; have HB3 := Lib.hid hB3; obtain ⟨t2, t5, t6, rfl, r2, r5, r6⟩ := k28_openM hM2; clear hM2 hB3 r2 r5 r6)
  | (go_at_call 33; go_loud (refine (Sort_any lst3 (some ⟨w3.heap.size, 0, none⟩) 3 _ (HLD.out.below ((HB1.out.trans (HB2.out.mono HB1.out.size)).trans (HB3.out.mono (Nat.le_trans HB1.out.size HB2.out.size)) |>.alloc (Nat.le_trans HB1.out.size (Nat.le_trans HB2.out.size HB3.out.size)) _)) (three_C (w0 := w3) (Below.refl _ _) (k28.K_below (HB3.out) (k28.K_below HB2.out (k28.K_of_M HM3.out))) (k28.K_below HB3.out (k28.K_of_M HM1.out)) (k28.K_of_M HM2.out)) HOK.out (by decide)).mono ?_); rintro e w4 ⟨(⟨hbad, rfl⟩ | ⟨h0, v4, ys, rfl, hs, hr⟩), hB4⟩))
 · exact absurd lask_three hbad
 · obtain ⟨y1, y2, y3⟩ := sorted_three hs
   obtain ⟨g, c4, rfl, -⟩ := Kd.R_form hr (by omega)
   have hC := (Kd.R_reads' hr).2.2
   have e0 : rd_T28 ys ((0 : Nat) : Int) = numV 1 := rd_of_at y2
   have e2 : rd_T28 ys ((2 : Nat) : Int) = numV 3 := rd_of_at y3
   obtain ⟨ca, la, hKa, ra⟩ := rng_V hC 0 (by omega)
   obtain ⟨cb, lb, hKb, rb⟩ := rng_V hC 2 (by omega)
   rw [e0] at hKa
   rw [e2] at hKb
   rw [y1]
   have HKA := Lib.hid hKa
   have HKB := Lib.hid hKb
   have RA := Lib.hid ra
   have RB := Lib.hid rb
   have ia := info_V ca la
   have ib := info_V cb lb
   have hu := Tryz.underlying28
   have HW4 : Hid (Below w.heap.size w w4) := Lib.hid ((((HB1.out.trans (HB2.out.mono HB1.out.size)).trans (HB3.out.mono (Nat.le_trans HB1.out.size HB2.out.size))).alloc (Nat.le_trans HB1.out.size (Nat.le_trans HB2.out.size HB3.out.size)) _).trans (hB4.mono (by have h1 := HB1.out.size; have h2 := HB2.out.size; have h3 := HB3.out.size; rw [World.size_alloc]; omega)))
   clear hC hKa hKb hr hs y1 y2 y3 e0 e2 HM1 HM2 HM3 HOK HLD H2 hB4 HB1 HB2 HB3 h0 ra rb la lb
   have HBc : Hid (Below w4.heap.size w4 w4.drew) := Lib.hid (below_drew (Below.refl _ _))
   refine wp_region_any (by kernel_rfl) ?_
   change wpAny _ _ _ _ _ _ _ (World.drew _)
   refine tq 0 (h := ?_)
   simp only [lst]
   refine one 1 rfl (by kernel_rfl) (by rfl) fun K_ hK_ => ?_
   simp only [lgt]
   go_simp
   refine (num_any _ _).mono ?_
   rintro e_ w5 ⟨rfl, rfl⟩
   simp only [Oper.upon]
   refine hK_ _ _ ?_
   clear hK_ K_
   refine tq 2 (h := ?_)
   refine tq 3 (h := ?_)
   simp only [lst]
   refine tq 4 (h := ?_)
   simp only [lst]
   refine one 5 rfl (by kernel_rfl) (by rfl) fun K_ hK_ => ?_
   simp only [lgt]
   go_simp
   refine hK_ _ _ ?_
   clear hK_ K_
   refine tq 6 (h := ?_)
   refine tq 7 (h := ?_)
   simp only [lst]
   refine tq 8 (h := ?_)
   refine tq 9 (h := ?_)
   simp only [lst]
   refine tq 10 (h := ?_)
   simp only [lst]
   refine two 11 12 rfl rfl (by kernel_rfl) (by rfl) (by rfl) (fun K_ hK_ => ?_) (fun K_ hK_ => ?_)
   have rx := RA.out _ HBc.out
   refine wp_load_mid _ _ rfl _ _ rfl _ _ rx hu rfl ia ?_
   refine hK_ _ _ ?_
   clear hK_ K_
   simp only [Act.put, lgt, List.setIfInBounds_toArray, lst]
   refine one 12 rfl (by kernel_rfl) (by rfl) fun K_ hK_ => ?_
   simp only [lgt]
   go_simp
   refine (H1.out _).mono ?_
   rintro e_ w6 ⟨cs6, rfl, hM6, hB6⟩
   have HB6 := Lib.hid hB6
   have HK6 := Lib.hid (k28.K_of_M hM6)
   clear hB6 hM6
   have HBc := Lib.hid (HBc.out.trans (HB6.out.mono HBc.out.size))
   simp only [Oper.upon]
   refine hK_ _ _ ?_
   clear hK_ K_
   refine one 13 rfl (by kernel_rfl) (by rfl) fun K_ hK_ => ?_
   simp only [lgt]
   go_simp
   refine (Same_any _ _ _ _ _ (k28.K_below HBc.out HKA.out) HK6.out).mono ?_
   rw [same_refl]
   rintro e_ w7 ⟨rfl, hB7⟩
   have HB7 := Lib.hid hB7
   clear hB7
   have HBc := Lib.hid (HBc.out.trans (HB7.out.mono HBc.out.size))
   simp only [Oper.upon]
   refine hK_ _ _ ?_
   clear hK_ K_
   refine tq 14 (h := ?_)
   refine tq 15 (h := ?_)
   simp only [lst]
   refine tq 16 (h := ?_)
   refine tq 17 (h := ?_)
   simp only [lst]
   refine two 18 19 rfl rfl (by kernel_rfl) (by rfl) (by rfl) (fun K_ hK_ => ?_) (fun K_ hK_ => ?_)
   have rx := RB.out _ HBc.out
   refine wp_load_mid _ _ rfl _ _ rfl _ _ rx hu rfl ib ?_
   refine hK_ _ _ ?_
   clear hK_ K_
   simp only [Act.put, lgt, List.setIfInBounds_toArray, lst]
   refine one 19 rfl (by kernel_rfl) (by rfl) fun K_ hK_ => ?_
   simp only [lgt]
   go_simp
   refine (H3.out _).mono ?_
   rintro e_ w6 ⟨cs6, rfl, hM6, hB6⟩
   have HB6 := Lib.hid hB6
   have HK6 := Lib.hid (k28.K_of_M hM6)
   clear hB6 hM6
   have HBc := Lib.hid (HBc.out.trans (HB6.out.mono HBc.out.size))
   simp only [Oper.upon]
   refine hK_ _ _ ?_
   clear hK_ K_
   refine one 20 rfl (by kernel_rfl) (by rfl) fun K_ hK_ => ?_
   simp only [lgt]
   go_simp
   refine (Same_any _ _ _ _ _ (k28.K_below HBc.out HKB.out) HK6.out).mono ?_
   rw [same_refl]
   rintro e_ w7 ⟨rfl, hB7⟩
   have HB7 := Lib.hid hB7
   clear hB7
   have HBc := Lib.hid (HBc.out.trans (HB7.out.mono HBc.out.size))
   simp only [Oper.upon]
   refine hK_ _ _ ?_
   clear hK_ K_
   refine tq 21 (h := ?_)
   refine tq 22 (h := ?_)
   refine wpAny_done (by kernel_rfl) ?_ _
   simp only [lst]
   rotate_left
   simp only [lgt]
   go_simp
   refine (H3.out _).mono ?_
   rintro e_ w6 ⟨cs6, rfl, hM6, hB6⟩
   have HB6 := Lib.hid hB6
   have HK6 := Lib.hid (k28.K_of_M hM6)
   clear hB6 hM6
   have HBc := Lib.hid (HBc.out.trans (HB6.out.mono HBc.out.size))
   simp only [Oper.upon]
   refine hK_ _ _ ?_
   clear hK_ K_
   refine one 18 rfl (by kernel_rfl) (by rfl) fun K_ hK_ => ?_
   have rx := RB.out _ HBc.out
   refine wp_load_mid _ _ rfl _ _ rfl _ _ rx hu rfl ib ?_
   refine hK_ _ _ ?_
   clear hK_ K_
   simp only [Act.put, lgt, List.setIfInBounds_toArray, lst]
   refine one 20 rfl (by kernel_rfl) (by rfl) fun K_ hK_ => ?_
   simp only [lgt]
   go_simp
   refine (Same_any _ _ _ _ _ (k28.K_below HBc.out HKB.out) HK6.out).mono ?_
   rw [same_refl]
   rintro e_ w7 ⟨rfl, hB7⟩
   have HB7 := Lib.hid hB7
   clear hB7
   have HBc := Lib.hid (HBc.out.trans (HB7.out.mono HBc.out.size))
   simp only [Oper.upon]
   refine hK_ _ _ ?_
   clear hK_ K_
   refine tq 21 (h := ?_)
   refine tq 22 (h := ?_)
   refine wpAny_done (by kernel_rfl) ?_ _
   simp only [lst]
   rotate_left
   simp only [lgt]
   go_simp
   refine (H1.out _).mono ?_
   rintro e_ w6 ⟨cs6, rfl, hM6, hB6⟩
   have HB6 := Lib.hid hB6
   have HK6 := Lib.hid (k28.K_of_M hM6)
   clear hB6 hM6
   have HBc := Lib.hid (HBc.out.trans (HB6.out.mono HBc.out.size))
   simp only [Oper.upon]
   refine hK_ _ _ ?_
   clear hK_ K_
   refine one 11 rfl (by kernel_rfl) (by rfl) fun K_ hK_ => ?_
   have rx := RA.out _ HBc.out
   refine wp_load_mid _ _ rfl _ _ rfl _ _ rx hu rfl ia ?_
   refine hK_ _ _ ?_
   clear hK_ K_
   simp only [Act.put, lgt, List.setIfInBounds_toArray, lst]
   refine one 13 rfl (by kernel_rfl) (by rfl) fun K_ hK_ => ?_
   simp only [lgt]
   go_simp
   refine (Same_any _ _ _ _ _ (k28.K_below HBc.out HKA.out) HK6.out).mono ?_
   rw [same_refl]
   rintro e_ w7 ⟨rfl, hB7⟩
   have HB7 := Lib.hid hB7
   clear hB7
   have HBc := Lib.hid (HBc.out.trans (HB7.out.mono HBc.out.size))
   simp only [Oper.upon]
   refine hK_ _ _ ?_
   clear hK_ K_
   refine tq 14 (h := ?_)
   refine tq 15 (h := ?_)
   simp only [lst]
   refine tq 16 (h := ?_)
   refine tq 17 (h := ?_)
   simp only [lst]
   refine two 18 19 rfl rfl (by kernel_rfl) (by rfl) (by rfl) (fun K_ hK_ => ?_) (fun K_ hK_ => ?_)
   have rx := RB.out _ HBc.out
   refine wp_load_mid _ _ rfl _ _ rfl _ _ rx hu rfl ib ?_
   refine hK_ _ _ ?_
   clear hK_ K_
   simp only [Act.put, lgt, List.setIfInBounds_toArray, lst]
   refine one 19 rfl (by kernel_rfl) (by rfl) fun K_ hK_ => ?_
   simp only [lgt]
   go_simp
   refine (H3.out _).mono ?_
   rintro e_ w6 ⟨cs6, rfl, hM6, hB6⟩
   have HB6 := Lib.hid hB6
   have HK6 := Lib.hid (k28.K_of_M hM6)
   clear hB6 hM6
   have HBc := Lib.hid (HBc.out.trans (HB6.out.mono HBc.out.size))
   simp only [Oper.upon]
   refine hK_ _ _ ?_
   clear hK_ K_
   refine one 20 rfl (by kernel_rfl) (by rfl) fun K_ hK_ => ?_
   simp only [lgt]
   go_simp
   refine (Same_any _ _ _ _ _ (k28.K_below HBc.out HKB.out) HK6.out).mono ?_
   rw [same_refl]
   rintro e_ w7 ⟨rfl, hB7⟩
   have HB7 := Lib.hid hB7
   clear hB7
   have HBc := Lib.hid (HBc.out.trans (HB7.out.mono HBc.out.size))
   simp only [Oper.upon]
   refine hK_ _ _ ?_
   clear hK_ K_
   refine tq 21 (h := ?_)
   refine tq 22 (h := ?_)
   refine wpAny_done (by kernel_rfl) ?_ _
   simp only [lst]
   rotate_left
   simp only [lgt]
   go_simp
   refine (H3.out _).mono ?_
   rintro e_ w6 ⟨cs6, rfl, hM6, hB6⟩
   have HB6 := Lib.hid hB6
   have HK6 := Lib.hid (k28.K_of_M hM6)
   clear hB6 hM6
   have HBc := Lib.hid (HBc.out.trans (HB6.out.mono HBc.out.size))
   simp only [Oper.upon]
   refine hK_ _ _ ?_
   clear hK_ K_
   refine one 18 rfl (by kernel_rfl) (by rfl) fun K_ hK_ => ?_
   have rx := RB.out _ HBc.out
   refine wp_load_mid _ _ rfl _ _ rfl _ _ rx hu rfl ib ?_
   refine hK_ _ _ ?_
   clear hK_ K_
   simp only [Act.put, lgt, List.setIfInBounds_toArray, lst]
   refine one 20 rfl (by kernel_rfl) (by rfl) fun K_ hK_ => ?_
   simp only [lgt]
   go_simp
   refine (Same_any _ _ _ _ _ (k28.K_below HBc.out HKB.out) HK6.out).mono ?_
   rw [same_refl]
   rintro e_ w7 ⟨rfl, hB7⟩
   have HB7 := Lib.hid hB7
   clear hB7
   have HBc := Lib.hid (HBc.out.trans (HB7.out.mono HBc.out.size))
   simp only [Oper.upon]
   refine hK_ _ _ ?_
   clear hK_ K_
   refine tq 21 (h := ?_)
   refine tq 22 (h := ?_)
   refine wpAny_done (by kernel_rfl) ?_ _
   simp only [lst]
   rotate_left
   all_goals
    have HF := Lib.hid (HW4.out.trans (HBc.out.mono HW4.out.size))
    clear HBc HB7 HK6 HB6 HKA HKB RA RB ia ib hu
    go_wp2_with fail
    go_ret
    exact ⟨rfl, HF.out⟩
end Go.Proofs.YthigbklhngihkaaGreatDoor.P

/- Texts of this claim, one behind the other. -/
import Derived.Test.YtdgebcgcabhjoaaDoorMa
import Derived.Test.YtdgebcgcabhjoaaDoorMc
import Derived.WalkLawsBesides
import Derived.RangeFuncNested
import Derived.RangeFuncBox
import Derived.RangeFuncLeaves
import Derived.RangeFuncFrom
import Derived.RangeFuncCalls
import Derived.OwnWalkIn
import Derived.TacticsInMore
import Derived.LoopNIn
import Derived.LoopIn
import Derived.Sort.BigQuietIn
import Derived.Shelf.RegionOpen
import Derived.TacticsIn
import Derived.RangeFuncKeeps
import Derived.RangeFuncBound
import Derived.Shelf.Abstract
import Derived.StillTailTactics
import Derived.Lib.Hide
import Derived.Lib.LazyBuf
import Derived.Deep.RegionHeld3
import Derived.Deep.RegionWith
-- Written by a program for this claim. Not trusted: Lean checks it.
namespace Go.Proofs.YtdgebcgcabhjoaaDoor.P
open Go.RowKit Go.Proofs.YtdgebcgcabhjoaaDoorW.PrintWords Go.Proofs.YtdgebcgcabhjoaaDoorW.PrintLast Go.Proofs.YtdgebcgcabhjoaaDoorW.PrintMore
attribute [local go_sem] max2_int min2_int max_two min_two max_three min_three max_four min_four   -- for this text's walks alone
set_option linter.unusedVariables false
set_option linter.unusedSimpArgs false

/-! ### dec_Check: function 46 -/
def dec_Check.j0 : Nat → Bool → Bool → List Int → Int → Option (Int)
  | 0, _, _, _, _ => none
  | k + 1, x14, x182000, x182001, x182002 => if x14 = true then (some 9) else (if (x182001.length : Int) = 0 then (if x182000 = true then (some 9) else (if x182002 = 0 then (some 0) else (some 9))) else ((dec_ten.f k x182001).bind fun bt183 => (if bt183.2 = true then (some 9) else ((dec_digits.f k x182001).bind fun t187 => (if t187 > 300 then (some 9) else (if x182002 < (-1000) then (some 9) else (if x182002 > 1000 then (some 9) else (some 0))))))))
def dec_Check.f (k : Nat) (a0_0 : Bool) (l0_1 : List Int) (a0_2 : Int) : Option (Int) := (nat_Check.f l0_1).bind fun t182 => (if t182 = 0 then (dec_Check.j0 k (decide ((l0_1.length : Int) > 40)) a0_0 l0_1 a0_2) else (dec_Check.j0 k true a0_0 l0_1 a0_2))
theorem dec_Check.mono_l : ∀ k, (∀ y0 y1 y2 y3, LeO (dec_Check.j0 k y0 y1 y2 y3) (dec_Check.j0 (k + 1) y0 y1 y2 y3))
  | 0 => fun _ _ _ _ r h => by simp [dec_Check.j0] at h
  | k + 1 => by
    have ih0 := dec_Check.mono_l k
    · intro y0 y1 y2 y3
      unfold dec_Check.j0
      repeat' first
      | (with_reducible exact ih0 _ _ _ _)
      | (with_reducible exact dec_digits.mono _ _)
      | (with_reducible exact dec_ten.mono _ _)
      | (with_reducible exact LeO.refl _)
      | (with_reducible exact LeO.none _)
      | (with_reducible refine LeO.ite ?_ ?_)
      | (with_reducible refine LeO.bind ?_ (fun _ => ?_))
      | exact ih0 _ _ _ _
      | exact dec_digits.mono _ _
      | exact dec_ten.mono _ _
      | exact LeO.none _
      | refine LeO.ite ?_ ?_
      | refine LeO.bind ?_ (fun _ => ?_)
theorem dec_Check.mono : ∀ a0 a1 a2 k, LeO (dec_Check.f k a0 a1 a2) (dec_Check.f (k + 1) a0 a1 a2) := by
  intro a0 a1 a2 k
  have ih0 := dec_Check.mono_l k
  unfold dec_Check.f
  repeat' first
      | (with_reducible exact ih0 _ _ _ _)
      | (with_reducible exact dec_digits.mono _ _)
      | (with_reducible exact dec_ten.mono _ _)
      | (with_reducible exact LeO.refl _)
      | (with_reducible exact LeO.none _)
      | (with_reducible refine LeO.ite ?_ ?_)
      | (with_reducible refine LeO.bind ?_ (fun _ => ?_))
      | exact ih0 _ _ _ _
      | exact dec_digits.mono _ _
      | exact dec_ten.mono _ _
      | exact LeO.none _
      | refine LeO.ite ?_ ?_
      | refine LeO.bind ?_ (fun _ => ?_)
set_option maxHeartbeats 8000000 in
set_option maxRecDepth 100000 in
theorem dec_Check.calls (k : Nat) (a0_0 : Bool) (A0_1 : Option Addr) (c0_1 : Nat) (l0_1 : List Int) (a0_2 : Int) (r : Int) (w : World) (hr0_1 : Kd.C (Kd.int .u32) w A0_1 l0_1.length l0_1) (hc0_1 : l0_1.length ≤ c0_1) (h : dec_Check.f k a0_0 l0_1 a0_2 = some r) :
    Calls Tryd.prog 46 #[.agg #[.bool a0_0, .slice A0_1 l0_1.length c0_1, .int .i64 a0_2]] w fun e w' => e = .returned (.int .i64 r) ∧ Below w.heap.size w w' := by
  have hu31 := Tryd.underlying31
  have HR0_1 := Aside0.mk hr0_1
  have HC0_1 := Aside0.mk hc0_1
  clear hr0_1 hc0_1
  have HB := Aside0.mk (Below.refl w.heap.size w)
  have H : ((nat_Check.f l0_1).bind fun t182 => (if t182 = 0 then (dec_Check.j0 k (decide ((l0_1.length : Int) > 40)) a0_0 l0_1 a0_2) else (dec_Check.j0 k true a0_0 l0_1 a0_2))) = some r := h
  clear h
  have HC2 := Aside0.mk H
  clear H
  go_enter Tryd.func46, Tryd.ntmps46
  go_upto_region 1 with (first | ((with_reducible refine gate_dst (N := 1) rfl ?_); (try (refine gate_guard (by rfl) ?_; dsimp only)); refine box_event ?hg (N := 1) ?hd (cs := #[.bool a0_0, .slice A0_1 l0_1.length c0_1, .int .i64 a0_2]) (t := 31) ?hr ?_; (case hd => rfl); (case hg => rfl); (case hr => first | (go_simp; done) | (go_simp; rfl)); intro gb181 hg w3 hbox hb; have n0_ := Aside0.mk (below_step (by repeat (first | (with_reducible first | exact HB.out | apply below_alloc | apply pw_below_drewN | apply below_drew1) | exact HB.out)) hb); have n1_ := Aside0.mk (hbox); have n2_ := Aside0.mk ((by rw [hg]; exact (below_size (by repeat (first | (with_reducible first | exact HB.out | apply below_alloc | apply pw_below_drewN | apply below_drew1) | exact HB.out))) : w.heap.size ≤ gb181)); have n3_ := Aside0.mk ((by rw [hg]; exact (below_size (by repeat (first | (with_reducible first | exact HB.out | apply below_alloc | apply pw_below_drewN | apply below_drew1) | exact HB.out))) : w.heap.size ≤ gb181)); clear HB; have HB := n0_; have BK181 := n1_; have GW181 := n2_; have GE181 := n3_; clear n0_ n1_ n2_ n3_; clear hb hbox hg))
  (try simp only [Act.put, List.setIfInBounds_toArray, List.set_cons_zero, List.set_cons_succ])
  go_cut [14] (fun v14 wc => ∃ (kq : Nat) (x14_1 : Bool), v14 = .bool x14_1 ∧ Aside0 (dec_Check.j0 kq x14_1 a0_0 l0_1 a0_2 = some r) ∧ Aside0 (kq ≤ k) ∧ Aside0 (wc.heap[gb181]? = some (.cells #[.bool a0_0, (.slice A0_1 l0_1.length c0_1), .int .i64 a0_2] 31 (0, 0))) ∧ Aside0 (Below w.heap.size w wc))
  case first =>
    have H := HC2.out
    clear HC2
    replace H := Option.bind_eq_some_iff.mp H
    obtain ⟨t182, A40, H⟩ := H
    replace H : (if t182 = 0 then (dec_Check.j0 k (decide ((l0_1.length : Int) > 40)) a0_0 l0_1 a0_2) else (dec_Check.j0 k true a0_0 l0_1 a0_2)) = some r := H
    have A4 := Aside0.mk A40
    clear A40
    by_cases c5 : t182 = 0
    · rw [if_pos c5] at H
      have c5b0 : (t182 == 0) = true := beq_iff_eq.mpr c5
      have c5b1 : (t182 != 0) = false := bne_eq_false_iff_eq.mpr c5
      clear c5
      (first | rw [c5b0] | (simp only [i64_w, i32_w]; rw [c5b0]) | skip)
      have H' := Aside0.mk H
      clear H
      have hcz6_0 : w3.cell? ⟨gb181, 0, none⟩ = some (.bool a0_0) := (blk_cell BK181.out 0).trans rfl
      have hcz6_1 : w3.cell? ⟨gb181, 1, none⟩ = some (.slice A0_1 l0_1.length c0_1) := (blk_cell BK181.out 1).trans rfl
      have hcz6_2 : w3.cell? ⟨gb181, 2, none⟩ = some (.int .i64 a0_2) := (blk_cell BK181.out 2).trans rfl
      have hfz6_0 := blk_frozen BK181.out 0
      have hfz6_1 := blk_frozen BK181.out 1
      have hfz6_2 := blk_frozen BK181.out 2
      go_wp2_with (first | ((with_reducible refine gate_callee (f := 49) rfl ?_); refine goesL_ (some 7) rfl rfl Tryd.func49 (by kernel_rfl) rfl #[.slice A0_1 l0_1.length c0_1] rfl (by (try simp only [List.map_toArray, List.map_cons, List.map_nil]); first | done | rfl | (simp only [List.length_drop, List.length_take]; rfl)) ?_; (with_reducible refine (nat_Check.calls _ _ l0_1 t182 _ ?side1 ?side2 A4.out).mono ?_); (case side1 => repeat (first | exact (Kd.C_below HR0_1.out HB.out) | (with_reducible refine Kd.C_alloc ?_ _) | (with_reducible refine Kd.C_drewN ?_ _) | (with_reducible refine Kd.C_drew ?_))); (case side2 => exact HC0_1.out); rintro e w' ⟨rfl, ⟨nd, rfl⟩⟩; refine ⟨_, rfl, ?_⟩))
      go_meet
      case rel => exact ⟨_, (decide ((l0_1.length : Int) > 40)), (by first | rfl | (simp; done) | (simp [*]; done)), H', ⟨by first | omega | exact Nat.le_refl _⟩, ⟨by (with_reducible repeat (first | refine blk_drewN ?_ _ | refine blk_drew ?_ | refine blk_alloc ?_ _)); exact BK181.out⟩, ⟨by repeat (first | (with_reducible first | exact HB.out | apply below_alloc | apply pw_below_drewN | apply below_drew1 | refine below_set ?_ GE181.out) | exact HB.out)⟩⟩
    · rw [if_neg c5] at H
      have c5b0 : (t182 == 0) = false := beq_eq_false_iff_ne.mpr c5
      have c5b1 : (t182 != 0) = true := bne_iff_ne.mpr c5
      (first | rw [c5b0] | (simp only [i64_w, i32_w]; rw [c5b0]) | skip)
      have H' := Aside0.mk H
      clear H
      have hcz7_0 : w3.cell? ⟨gb181, 0, none⟩ = some (.bool a0_0) := (blk_cell BK181.out 0).trans rfl
      have hcz7_1 : w3.cell? ⟨gb181, 1, none⟩ = some (.slice A0_1 l0_1.length c0_1) := (blk_cell BK181.out 1).trans rfl
      have hcz7_2 : w3.cell? ⟨gb181, 2, none⟩ = some (.int .i64 a0_2) := (blk_cell BK181.out 2).trans rfl
      have hfz7_0 := blk_frozen BK181.out 0
      have hfz7_1 := blk_frozen BK181.out 1
      have hfz7_2 := blk_frozen BK181.out 2
      go_wp2_with (first | ((with_reducible refine gate_callee (f := 49) rfl ?_); refine goesL_ (some 7) rfl rfl Tryd.func49 (by kernel_rfl) rfl #[.slice A0_1 l0_1.length c0_1] rfl (by (try simp only [List.map_toArray, List.map_cons, List.map_nil]); first | done | rfl | (simp only [List.length_drop, List.length_take]; rfl)) ?_; (with_reducible refine (nat_Check.calls _ _ l0_1 t182 _ ?side1 ?side2 A4.out).mono ?_); (case side1 => repeat (first | exact (Kd.C_below HR0_1.out HB.out) | (with_reducible refine Kd.C_alloc ?_ _) | (with_reducible refine Kd.C_drewN ?_ _) | (with_reducible refine Kd.C_drew ?_))); (case side2 => exact HC0_1.out); rintro e w' ⟨rfl, ⟨nd, rfl⟩⟩; refine ⟨_, rfl, ?_⟩))
      go_meet
      case rel => exact ⟨_, (true), (by first | rfl | (simp; done) | (simp [*]; done)), H', ⟨by first | omega | exact Nat.le_refl _⟩, ⟨by (with_reducible repeat (first | refine blk_drewN ?_ _ | refine blk_drew ?_ | refine blk_alloc ?_ _)); exact BK181.out⟩, ⟨by repeat (first | (with_reducible first | exact HB.out | apply below_alloc | apply pw_below_drewN | apply below_drew1 | refine below_set ?_ GE181.out) | exact HB.out)⟩⟩
  case rest =>
    clear HC2
    try clear p2
    try clear c4
    try clear c5
    try clear c5b0
    try clear c5b1
    try clear hcz6_0
    try clear hcz6_1
    try clear hcz6_2
    try clear hcz7_0
    try clear hcz7_1
    try clear hcz7_2
    try clear hfz6_0
    try clear hfz6_1
    try clear hfz6_2
    try clear hfz7_0
    try clear hfz7_1
    try clear hfz7_2
    obtain ⟨kq, x14_1, rfl, HA, HJ1, BK181, HB⟩ := hcut
    cases kq with
    | zero => exact absurd HA.out (by simp [dec_Check.j0])
    | succ kj1 =>
      have H := HA.out
      clear HA
      simp only [dec_Check.j0] at H
      by_cases c8 : x14_1 = true
      · subst c8
        have H1 : (some 9) = some r := by rw [if_pos rfl] at H; exact H
        clear H
        have H := H1
        clear H1
        obtain rfl := Option.some.inj H
        go_wp2
        go_ret
        exact ⟨by first | rfl | (simp [errW_none, errW_some] <;> rfl) | (simp [*, errW_none, errW_some] <;> rfl), by repeat (first | (with_reducible first | exact HB.out | apply below_alloc | apply pw_below_drewN | apply below_drew1 | refine below_set ?_ GE181.out) | exact HB.out)⟩
      · replace c8 := Bool.eq_false_iff.mpr c8
        subst c8
        have H1 : (if (l0_1.length : Int) = 0 then (if a0_0 = true then (some 9) else (if a0_2 = 0 then (some 0) else (some 9))) else ((dec_ten.f kj1 l0_1).bind fun bt183 => (if bt183.2 = true then (some 9) else ((dec_digits.f kj1 l0_1).bind fun t187 => (if t187 > 300 then (some 9) else (if a0_2 < (-1000) then (some 9) else (if a0_2 > 1000 then (some 9) else (some 0)))))))) = some r := by rw [if_neg (show ¬ (false = true) by decide)] at H; exact H
        clear H
        have H := H1
        clear H1
        by_cases c9 : (l0_1.length : Int) = 0
        · rw [if_pos c9] at H
          have c9b0 : ((l0_1.length : Int) == 0) = true := beq_iff_eq.mpr c9
          have c9b1 : ((l0_1.length : Int) != 0) = false := bne_eq_false_iff_eq.mpr c9
          clear c9
          by_cases c10 : a0_0 = true
          · subst c10
            have H1 : (some 9) = some r := by rw [if_pos rfl] at H; exact H
            clear H
            have H := H1
            clear H1
            obtain rfl := Option.some.inj H
            have hcz11_0 : wc.cell? ⟨gb181, 0, none⟩ = some (.bool true) := (blk_cell BK181.out 0).trans rfl
            have hcz11_1 : wc.cell? ⟨gb181, 1, none⟩ = some (.slice A0_1 l0_1.length c0_1) := (blk_cell BK181.out 1).trans rfl
            have hcz11_2 : wc.cell? ⟨gb181, 2, none⟩ = some (.int .i64 a0_2) := (blk_cell BK181.out 2).trans rfl
            have hfz11_0 := blk_frozen BK181.out 0
            have hfz11_1 := blk_frozen BK181.out 1
            have hfz11_2 := blk_frozen BK181.out 2
            go_wp2
            go_ret
            exact ⟨by first | rfl | (simp [errW_none, errW_some] <;> rfl) | (simp [*, errW_none, errW_some] <;> rfl), by repeat (first | (with_reducible first | exact HB.out | apply below_alloc | apply pw_below_drewN | apply below_drew1 | refine below_set ?_ GE181.out) | exact HB.out)⟩
          · replace c10 := Bool.eq_false_iff.mpr c10
            subst c10
            have H1 : (if a0_2 = 0 then (some 0) else (some 9)) = some r := by rw [if_neg (show ¬ (false = true) by decide)] at H; exact H
            clear H
            have H := H1
            clear H1
            by_cases c12 : a0_2 = 0
            · rw [if_pos c12] at H
              have c12b0 : (a0_2 == 0) = true := beq_iff_eq.mpr c12
              have c12b1 : (a0_2 != 0) = false := bne_eq_false_iff_eq.mpr c12
              clear c12
              obtain rfl := Option.some.inj H
              have hcz13_0 : wc.cell? ⟨gb181, 0, none⟩ = some (.bool false) := (blk_cell BK181.out 0).trans rfl
              have hcz13_1 : wc.cell? ⟨gb181, 1, none⟩ = some (.slice A0_1 l0_1.length c0_1) := (blk_cell BK181.out 1).trans rfl
              have hcz13_2 : wc.cell? ⟨gb181, 2, none⟩ = some (.int .i64 a0_2) := (blk_cell BK181.out 2).trans rfl
              have hfz13_0 := blk_frozen BK181.out 0
              have hfz13_1 := blk_frozen BK181.out 1
              have hfz13_2 := blk_frozen BK181.out 2
              go_wp2
              go_ret
              exact ⟨by first | rfl | (simp [errW_none, errW_some] <;> rfl) | (simp [*, errW_none, errW_some] <;> rfl), by repeat (first | (with_reducible first | exact HB.out | apply below_alloc | apply pw_below_drewN | apply below_drew1 | refine below_set ?_ GE181.out) | exact HB.out)⟩
            · rw [if_neg c12] at H
              have c12b0 : (a0_2 == 0) = false := beq_eq_false_iff_ne.mpr c12
              have c12b1 : (a0_2 != 0) = true := bne_iff_ne.mpr c12
              obtain rfl := Option.some.inj H
              have hcz14_0 : wc.cell? ⟨gb181, 0, none⟩ = some (.bool false) := (blk_cell BK181.out 0).trans rfl
              have hcz14_1 : wc.cell? ⟨gb181, 1, none⟩ = some (.slice A0_1 l0_1.length c0_1) := (blk_cell BK181.out 1).trans rfl
              have hcz14_2 : wc.cell? ⟨gb181, 2, none⟩ = some (.int .i64 a0_2) := (blk_cell BK181.out 2).trans rfl
              have hfz14_0 := blk_frozen BK181.out 0
              have hfz14_1 := blk_frozen BK181.out 1
              have hfz14_2 := blk_frozen BK181.out 2
              go_wp2
              go_ret
              exact ⟨by first | rfl | (simp [errW_none, errW_some] <;> rfl) | (simp [*, errW_none, errW_some] <;> rfl), by repeat (first | (with_reducible first | exact HB.out | apply below_alloc | apply pw_below_drewN | apply below_drew1 | refine below_set ?_ GE181.out) | exact HB.out)⟩
        · rw [if_neg c9] at H
          have c9b0 : ((l0_1.length : Int) == 0) = false := beq_eq_false_iff_ne.mpr c9
          have c9b1 : ((l0_1.length : Int) != 0) = true := bne_iff_ne.mpr c9
          have c9b2 : ¬ (l0_1 = []) := fun h_ => c9 (by rw [h_]; rfl)
          replace H := Option.bind_eq_some_iff.mp H
          obtain ⟨⟨t183, t184⟩, A150, H⟩ := H
          replace H : (if t184 = true then (some 9) else ((dec_digits.f kj1 l0_1).bind fun t187 => (if t187 > 300 then (some 9) else (if a0_2 < (-1000) then (some 9) else (if a0_2 > 1000 then (some 9) else (some 0)))))) = some r := H
          have A15 := Aside0.mk A150
          clear A150
          by_cases c16 : t184 = true
          · subst c16
            have H1 : (some 9) = some r := by rw [if_pos rfl] at H; exact H
            clear H
            have H := H1
            clear H1
            obtain rfl := Option.some.inj H
            have hcz17_0 : wc.cell? ⟨gb181, 0, none⟩ = some (.bool a0_0) := (blk_cell BK181.out 0).trans rfl
            have hcz17_1 : wc.cell? ⟨gb181, 1, none⟩ = some (.slice A0_1 l0_1.length c0_1) := (blk_cell BK181.out 1).trans rfl
            have hcz17_2 : wc.cell? ⟨gb181, 2, none⟩ = some (.int .i64 a0_2) := (blk_cell BK181.out 2).trans rfl
            have hfz17_0 := blk_frozen BK181.out 0
            have hfz17_1 := blk_frozen BK181.out 1
            have hfz17_2 := blk_frozen BK181.out 2
            go_wp2_with (first | ((with_reducible refine gate_callee (f := 50) rfl ?_); refine goesL_ (some 29) rfl rfl Tryd.func50 (by kernel_rfl) rfl #[.slice A0_1 l0_1.length c0_1] rfl (by (try simp only [List.map_toArray, List.map_cons, List.map_nil]); first | done | rfl | (simp only [List.length_drop, List.length_take]; rfl)) ?_; (with_reducible refine (dec_ten.calls kj1 _ _ l0_1 t183 true _ ?side1 ?side2 A15.out).mono ?_); (case side1 => repeat (first | exact (Kd.C_below HR0_1.out HB.out) | (with_reducible refine Kd.C_alloc ?_ _) | (with_reducible refine Kd.C_drewN ?_ _) | (with_reducible refine Kd.C_drew ?_))); (case side2 => exact HC0_1.out); rintro e w18 ⟨v185, rfl, ho0, hb⟩; refine ⟨_, rfl, ?_⟩; have n0_ := Aside0.mk (Kd.R_lower ho0 (below_size (by repeat (first | (with_reducible first | exact HB.out | apply below_alloc | apply pw_below_drewN | apply below_drew1 | refine below_set ?_ GE181.out) | exact HB.out)))); have n1_ := Aside0.mk (blk_below (g := gb181) (o := .cells #[.bool a0_0, .slice A0_1 l0_1.length c0_1, .int .i64 a0_2] 31 (0, 0)) (by (with_reducible repeat (first | refine blk_drewN ?_ _ | refine blk_drew ?_ | refine blk_alloc ?_ _)); exact BK181.out) hb); have n2_ := Aside0.mk (below_step (by repeat (first | (with_reducible first | exact HB.out | apply below_alloc | apply pw_below_drewN | apply below_drew1 | refine below_set ?_ GE181.out) | exact HB.out)) hb); clear BK181; clear HB; have HO186 := n0_; have BK181 := n1_; have HB := n2_; clear n0_ n1_ n2_; (try clear hb); (try clear hb2); (try clear hk); (try clear hi); (try clear ho0)))
            go_ret
            exact ⟨by first | rfl | (simp [errW_none, errW_some] <;> rfl) | (simp [*, errW_none, errW_some] <;> rfl), by repeat (first | (with_reducible first | exact HB.out | apply below_alloc | apply pw_below_drewN | apply below_drew1 | refine below_set ?_ GE181.out) | exact HB.out)⟩
          · replace c16 := Bool.eq_false_iff.mpr c16
            subst c16
            have H1 : ((dec_digits.f kj1 l0_1).bind fun t187 => (if t187 > 300 then (some 9) else (if a0_2 < (-1000) then (some 9) else (if a0_2 > 1000 then (some 9) else (some 0))))) = some r := by rw [if_neg (show ¬ (false = true) by decide)] at H; exact H
            clear H
            have H := H1
            clear H1
            replace H := Option.bind_eq_some_iff.mp H
            obtain ⟨t187, A190, H⟩ := H
            replace H : (if t187 > 300 then (some 9) else (if a0_2 < (-1000) then (some 9) else (if a0_2 > 1000 then (some 9) else (some 0)))) = some r := H
            have A19 := Aside0.mk A190
            clear A190
            by_cases c20 : t187 > 300
            · rw [if_pos c20] at H
              have c20b0 : decide (300 < t187) = true := decide_eq_true c20
              clear c20
              obtain rfl := Option.some.inj H
              have hcz21_0 : wc.cell? ⟨gb181, 0, none⟩ = some (.bool a0_0) := (blk_cell BK181.out 0).trans rfl
              have hcz21_1 : wc.cell? ⟨gb181, 1, none⟩ = some (.slice A0_1 l0_1.length c0_1) := (blk_cell BK181.out 1).trans rfl
              have hcz21_2 : wc.cell? ⟨gb181, 2, none⟩ = some (.int .i64 a0_2) := (blk_cell BK181.out 2).trans rfl
              have hfz21_0 := blk_frozen BK181.out 0
              have hfz21_1 := blk_frozen BK181.out 1
              have hfz21_2 := blk_frozen BK181.out 2
              go_wp2_with (first | ((with_reducible refine gate_callee (f := 50) rfl ?_); refine goesL_ (some 29) rfl rfl Tryd.func50 (by kernel_rfl) rfl #[.slice A0_1 l0_1.length c0_1] rfl (by (try simp only [List.map_toArray, List.map_cons, List.map_nil]); first | done | rfl | (simp only [List.length_drop, List.length_take]; rfl)) ?_; (with_reducible refine (dec_ten.calls kj1 _ _ l0_1 t183 false _ ?side1 ?side2 A15.out).mono ?_); (case side1 => repeat (first | exact (Kd.C_below HR0_1.out HB.out) | (with_reducible refine Kd.C_alloc ?_ _) | (with_reducible refine Kd.C_drewN ?_ _) | (with_reducible refine Kd.C_drew ?_))); (case side2 => exact HC0_1.out); rintro e w22 ⟨v185, rfl, ho0, hb⟩; refine ⟨_, rfl, ?_⟩; have n0_ := Aside0.mk (Kd.R_lower ho0 (below_size (by repeat (first | (with_reducible first | exact HB.out | apply below_alloc | apply pw_below_drewN | apply below_drew1 | refine below_set ?_ GE181.out) | exact HB.out)))); have n1_ := Aside0.mk (blk_below (g := gb181) (o := .cells #[.bool a0_0, .slice A0_1 l0_1.length c0_1, .int .i64 a0_2] 31 (0, 0)) (by (with_reducible repeat (first | refine blk_drewN ?_ _ | refine blk_drew ?_ | refine blk_alloc ?_ _)); exact BK181.out) hb); have n2_ := Aside0.mk (below_step (by repeat (first | (with_reducible first | exact HB.out | apply below_alloc | apply pw_below_drewN | apply below_drew1 | refine below_set ?_ GE181.out) | exact HB.out)) hb); clear BK181; clear HB; have HO186 := n0_; have BK181 := n1_; have HB := n2_; clear n0_ n1_ n2_; (try clear hb); (try clear hb2); (try clear hk); (try clear hi); (try clear ho0); have hcz23_0 : w22.cell? ⟨gb181, 0, none⟩ = some (.bool a0_0) := (blk_cell BK181.out 0).trans rfl; have hcz23_1 : w22.cell? ⟨gb181, 1, none⟩ = some (.slice A0_1 l0_1.length c0_1) := (blk_cell BK181.out 1).trans rfl; have hcz23_2 : w22.cell? ⟨gb181, 2, none⟩ = some (.int .i64 a0_2) := (blk_cell BK181.out 2).trans rfl; have hfz23_0 := blk_frozen BK181.out 0; have hfz23_1 := blk_frozen BK181.out 1; have hfz23_2 := blk_frozen BK181.out 2) | (go_at_call 51; (with_reducible refine (dec_digits.calls kj1 _ _ l0_1 t187 _ ?side1 ?side2 A19.out).mono ?_); (case side1 => repeat (first | exact (Kd.C_below HR0_1.out HB.out) | (with_reducible refine Kd.C_alloc ?_ _) | (with_reducible refine Kd.C_drewN ?_ _) | (with_reducible refine Kd.C_drew ?_))); (case side2 => exact HC0_1.out); rintro e w24 ⟨rfl, hb⟩; have n0_ := Aside0.mk (Kd.R_below (by (with_reducible repeat (first | apply Kd.R_alloc | apply Kd.R_drewN | apply Kd.R_drew)); exact HO186.out) hb); have n1_ := Aside0.mk (blk_below (g := gb181) (o := .cells #[.bool a0_0, .slice A0_1 l0_1.length c0_1, .int .i64 a0_2] 31 (0, 0)) (by (with_reducible repeat (first | refine blk_drewN ?_ _ | refine blk_drew ?_ | refine blk_alloc ?_ _)); exact BK181.out) hb); have n2_ := Aside0.mk (below_step (by repeat (first | (with_reducible first | exact HB.out | apply below_alloc | apply pw_below_drewN | apply below_drew1 | refine below_set ?_ GE181.out) | exact HB.out)) hb); clear HO186; clear BK181; clear HB; have HO186 := n0_; have BK181 := n1_; have HB := n2_; clear n0_ n1_ n2_; (try clear hb); (try clear hb2); (try clear hk); (try clear hi)))
              go_ret
              exact ⟨by first | rfl | (simp [errW_none, errW_some] <;> rfl) | (simp [*, errW_none, errW_some] <;> rfl), by repeat (first | (with_reducible first | exact HB.out | apply below_alloc | apply pw_below_drewN | apply below_drew1 | refine below_set ?_ GE181.out) | exact HB.out)⟩
            · rw [if_neg c20] at H
              have c20b0 : decide (300 < t187) = false := decide_eq_false c20
              clear c20
              by_cases c25 : a0_2 < (-1000)
              · rw [if_pos c25] at H
                have c25b0 : decide (a0_2 < (-1000)) = true := decide_eq_true c25
                clear c25
                obtain rfl := Option.some.inj H
                have hcz26_0 : wc.cell? ⟨gb181, 0, none⟩ = some (.bool a0_0) := (blk_cell BK181.out 0).trans rfl
                have hcz26_1 : wc.cell? ⟨gb181, 1, none⟩ = some (.slice A0_1 l0_1.length c0_1) := (blk_cell BK181.out 1).trans rfl
                have hcz26_2 : wc.cell? ⟨gb181, 2, none⟩ = some (.int .i64 a0_2) := (blk_cell BK181.out 2).trans rfl
                have hfz26_0 := blk_frozen BK181.out 0
                have hfz26_1 := blk_frozen BK181.out 1
                have hfz26_2 := blk_frozen BK181.out 2
                go_wp2_with (first | ((with_reducible refine gate_callee (f := 50) rfl ?_); refine goesL_ (some 29) rfl rfl Tryd.func50 (by kernel_rfl) rfl #[.slice A0_1 l0_1.length c0_1] rfl (by (try simp only [List.map_toArray, List.map_cons, List.map_nil]); first | done | rfl | (simp only [List.length_drop, List.length_take]; rfl)) ?_; (with_reducible refine (dec_ten.calls kj1 _ _ l0_1 t183 false _ ?side1 ?side2 A15.out).mono ?_); (case side1 => repeat (first | exact (Kd.C_below HR0_1.out HB.out) | (with_reducible refine Kd.C_alloc ?_ _) | (with_reducible refine Kd.C_drewN ?_ _) | (with_reducible refine Kd.C_drew ?_))); (case side2 => exact HC0_1.out); rintro e w27 ⟨v185, rfl, ho0, hb⟩; refine ⟨_, rfl, ?_⟩; have n0_ := Aside0.mk (Kd.R_lower ho0 (below_size (by repeat (first | (with_reducible first | exact HB.out | apply below_alloc | apply pw_below_drewN | apply below_drew1 | refine below_set ?_ GE181.out) | exact HB.out)))); have n1_ := Aside0.mk (blk_below (g := gb181) (o := .cells #[.bool a0_0, .slice A0_1 l0_1.length c0_1, .int .i64 a0_2] 31 (0, 0)) (by (with_reducible repeat (first | refine blk_drewN ?_ _ | refine blk_drew ?_ | refine blk_alloc ?_ _)); exact BK181.out) hb); have n2_ := Aside0.mk (below_step (by repeat (first | (with_reducible first | exact HB.out | apply below_alloc | apply pw_below_drewN | apply below_drew1 | refine below_set ?_ GE181.out) | exact HB.out)) hb); clear BK181; clear HB; have HO186 := n0_; have BK181 := n1_; have HB := n2_; clear n0_ n1_ n2_; (try clear hb); (try clear hb2); (try clear hk); (try clear hi); (try clear ho0); have hcz28_0 : w27.cell? ⟨gb181, 0, none⟩ = some (.bool a0_0) := (blk_cell BK181.out 0).trans rfl; have hcz28_1 : w27.cell? ⟨gb181, 1, none⟩ = some (.slice A0_1 l0_1.length c0_1) := (blk_cell BK181.out 1).trans rfl; have hcz28_2 : w27.cell? ⟨gb181, 2, none⟩ = some (.int .i64 a0_2) := (blk_cell BK181.out 2).trans rfl; have hfz28_0 := blk_frozen BK181.out 0; have hfz28_1 := blk_frozen BK181.out 1; have hfz28_2 := blk_frozen BK181.out 2) | (go_at_call 51; (with_reducible refine (dec_digits.calls kj1 _ _ l0_1 t187 _ ?side1 ?side2 A19.out).mono ?_); (case side1 => repeat (first | exact (Kd.C_below HR0_1.out HB.out) | (with_reducible refine Kd.C_alloc ?_ _) | (with_reducible refine Kd.C_drewN ?_ _) | (with_reducible refine Kd.C_drew ?_))); (case side2 => exact HC0_1.out); rintro e w29 ⟨rfl, hb⟩; have n0_ := Aside0.mk (Kd.R_below (by (with_reducible repeat (first | apply Kd.R_alloc | apply Kd.R_drewN | apply Kd.R_drew)); exact HO186.out) hb); have n1_ := Aside0.mk (blk_below (g := gb181) (o := .cells #[.bool a0_0, .slice A0_1 l0_1.length c0_1, .int .i64 a0_2] 31 (0, 0)) (by (with_reducible repeat (first | refine blk_drewN ?_ _ | refine blk_drew ?_ | refine blk_alloc ?_ _)); exact BK181.out) hb); have n2_ := Aside0.mk (below_step (by repeat (first | (with_reducible first | exact HB.out | apply below_alloc | apply pw_below_drewN | apply below_drew1 | refine below_set ?_ GE181.out) | exact HB.out)) hb); clear HO186; clear BK181; clear HB; have HO186 := n0_; have BK181 := n1_; have HB := n2_; clear n0_ n1_ n2_; (try clear hb); (try clear hb2); (try clear hk); (try clear hi); have hcz30_0 : w29.cell? ⟨gb181, 0, none⟩ = some (.bool a0_0) := (blk_cell BK181.out 0).trans rfl; have hcz30_1 : w29.cell? ⟨gb181, 1, none⟩ = some (.slice A0_1 l0_1.length c0_1) := (blk_cell BK181.out 1).trans rfl; have hcz30_2 : w29.cell? ⟨gb181, 2, none⟩ = some (.int .i64 a0_2) := (blk_cell BK181.out 2).trans rfl; have hfz30_0 := blk_frozen BK181.out 0; have hfz30_1 := blk_frozen BK181.out 1; have hfz30_2 := blk_frozen BK181.out 2))
                go_ret
                exact ⟨by first | rfl | (simp [errW_none, errW_some] <;> rfl) | (simp [*, errW_none, errW_some] <;> rfl), by repeat (first | (with_reducible first | exact HB.out | apply below_alloc | apply pw_below_drewN | apply below_drew1 | refine below_set ?_ GE181.out) | exact HB.out)⟩
              · rw [if_neg c25] at H
                have c25b0 : decide (a0_2 < (-1000)) = false := decide_eq_false c25
                clear c25
                by_cases c31 : a0_2 > 1000
                · rw [if_pos c31] at H
                  have c31b0 : decide (1000 < a0_2) = true := decide_eq_true c31
                  clear c31
                  obtain rfl := Option.some.inj H
                  have hcz32_0 : wc.cell? ⟨gb181, 0, none⟩ = some (.bool a0_0) := (blk_cell BK181.out 0).trans rfl
                  have hcz32_1 : wc.cell? ⟨gb181, 1, none⟩ = some (.slice A0_1 l0_1.length c0_1) := (blk_cell BK181.out 1).trans rfl
                  have hcz32_2 : wc.cell? ⟨gb181, 2, none⟩ = some (.int .i64 a0_2) := (blk_cell BK181.out 2).trans rfl
                  have hfz32_0 := blk_frozen BK181.out 0
                  have hfz32_1 := blk_frozen BK181.out 1
                  have hfz32_2 := blk_frozen BK181.out 2
                  go_wp2_with (first | ((with_reducible refine gate_callee (f := 50) rfl ?_); refine goesL_ (some 29) rfl rfl Tryd.func50 (by kernel_rfl) rfl #[.slice A0_1 l0_1.length c0_1] rfl (by (try simp only [List.map_toArray, List.map_cons, List.map_nil]); first | done | rfl | (simp only [List.length_drop, List.length_take]; rfl)) ?_; (with_reducible refine (dec_ten.calls kj1 _ _ l0_1 t183 false _ ?side1 ?side2 A15.out).mono ?_); (case side1 => repeat (first | exact (Kd.C_below HR0_1.out HB.out) | (with_reducible refine Kd.C_alloc ?_ _) | (with_reducible refine Kd.C_drewN ?_ _) | (with_reducible refine Kd.C_drew ?_))); (case side2 => exact HC0_1.out); rintro e w33 ⟨v185, rfl, ho0, hb⟩; refine ⟨_, rfl, ?_⟩; have n0_ := Aside0.mk (Kd.R_lower ho0 (below_size (by repeat (first | (with_reducible first | exact HB.out | apply below_alloc | apply pw_below_drewN | apply below_drew1 | refine below_set ?_ GE181.out) | exact HB.out)))); have n1_ := Aside0.mk (blk_below (g := gb181) (o := .cells #[.bool a0_0, .slice A0_1 l0_1.length c0_1, .int .i64 a0_2] 31 (0, 0)) (by (with_reducible repeat (first | refine blk_drewN ?_ _ | refine blk_drew ?_ | refine blk_alloc ?_ _)); exact BK181.out) hb); have n2_ := Aside0.mk (below_step (by repeat (first | (with_reducible first | exact HB.out | apply below_alloc | apply pw_below_drewN | apply below_drew1 | refine below_set ?_ GE181.out) | exact HB.out)) hb); clear BK181; clear HB; have HO186 := n0_; have BK181 := n1_; have HB := n2_; clear n0_ n1_ n2_; (try clear hb); (try clear hb2); (try clear hk); (try clear hi); (try clear ho0); have hcz34_0 : w33.cell? ⟨gb181, 0, none⟩ = some (.bool a0_0) := (blk_cell BK181.out 0).trans rfl; have hcz34_1 : w33.cell? ⟨gb181, 1, none⟩ = some (.slice A0_1 l0_1.length c0_1) := (blk_cell BK181.out 1).trans rfl; have hcz34_2 : w33.cell? ⟨gb181, 2, none⟩ = some (.int .i64 a0_2) := (blk_cell BK181.out 2).trans rfl; have hfz34_0 := blk_frozen BK181.out 0; have hfz34_1 := blk_frozen BK181.out 1; have hfz34_2 := blk_frozen BK181.out 2) | (go_at_call 51; (with_reducible refine (dec_digits.calls kj1 _ _ l0_1 t187 _ ?side1 ?side2 A19.out).mono ?_); (case side1 => repeat (first | exact (Kd.C_below HR0_1.out HB.out) | (with_reducible refine Kd.C_alloc ?_ _) | (with_reducible refine Kd.C_drewN ?_ _) | (with_reducible refine Kd.C_drew ?_))); (case side2 => exact HC0_1.out); rintro e w35 ⟨rfl, hb⟩; have n0_ := Aside0.mk (Kd.R_below (by (with_reducible repeat (first | apply Kd.R_alloc | apply Kd.R_drewN | apply Kd.R_drew)); exact HO186.out) hb); have n1_ := Aside0.mk (blk_below (g := gb181) (o := .cells #[.bool a0_0, .slice A0_1 l0_1.length c0_1, .int .i64 a0_2] 31 (0, 0)) (by (with_reducible repeat (first | refine blk_drewN ?_ _ | refine blk_drew ?_ | refine blk_alloc ?_ _)); exact BK181.out) hb); have n2_ := Aside0.mk (below_step (by repeat (first | (with_reducible first | exact HB.out | apply below_alloc | apply pw_below_drewN | apply below_drew1 | refine below_set ?_ GE181.out) | exact HB.out)) hb); clear HO186; clear BK181; clear HB; have HO186 := n0_; have BK181 := n1_; have HB := n2_; clear n0_ n1_ n2_; (try clear hb); (try clear hb2); (try clear hk); (try clear hi); have hcz36_0 : w35.cell? ⟨gb181, 0, none⟩ = some (.bool a0_0) := (blk_cell BK181.out 0).trans rfl; have hcz36_1 : w35.cell? ⟨gb181, 1, none⟩ = some (.slice A0_1 l0_1.length c0_1) := (blk_cell BK181.out 1).trans rfl; have hcz36_2 : w35.cell? ⟨gb181, 2, none⟩ = some (.int .i64 a0_2) := (blk_cell BK181.out 2).trans rfl; have hfz36_0 := blk_frozen BK181.out 0; have hfz36_1 := blk_frozen BK181.out 1; have hfz36_2 := blk_frozen BK181.out 2))
                  go_ret
                  exact ⟨by first | rfl | (simp [errW_none, errW_some] <;> rfl) | (simp [*, errW_none, errW_some] <;> rfl), by repeat (first | (with_reducible first | exact HB.out | apply below_alloc | apply pw_below_drewN | apply below_drew1 | refine below_set ?_ GE181.out) | exact HB.out)⟩
                · rw [if_neg c31] at H
                  have c31b0 : decide (1000 < a0_2) = false := decide_eq_false c31
                  clear c31
                  obtain rfl := Option.some.inj H
                  have hcz37_0 : wc.cell? ⟨gb181, 0, none⟩ = some (.bool a0_0) := (blk_cell BK181.out 0).trans rfl
                  have hcz37_1 : wc.cell? ⟨gb181, 1, none⟩ = some (.slice A0_1 l0_1.length c0_1) := (blk_cell BK181.out 1).trans rfl
                  have hcz37_2 : wc.cell? ⟨gb181, 2, none⟩ = some (.int .i64 a0_2) := (blk_cell BK181.out 2).trans rfl
                  have hfz37_0 := blk_frozen BK181.out 0
                  have hfz37_1 := blk_frozen BK181.out 1
                  have hfz37_2 := blk_frozen BK181.out 2
                  go_wp2_with (first | ((with_reducible refine gate_callee (f := 50) rfl ?_); refine goesL_ (some 29) rfl rfl Tryd.func50 (by kernel_rfl) rfl #[.slice A0_1 l0_1.length c0_1] rfl (by (try simp only [List.map_toArray, List.map_cons, List.map_nil]); first | done | rfl | (simp only [List.length_drop, List.length_take]; rfl)) ?_; (with_reducible refine (dec_ten.calls kj1 _ _ l0_1 t183 false _ ?side1 ?side2 A15.out).mono ?_); (case side1 => repeat (first | exact (Kd.C_below HR0_1.out HB.out) | (with_reducible refine Kd.C_alloc ?_ _) | (with_reducible refine Kd.C_drewN ?_ _) | (with_reducible refine Kd.C_drew ?_))); (case side2 => exact HC0_1.out); rintro e w38 ⟨v185, rfl, ho0, hb⟩; refine ⟨_, rfl, ?_⟩; have n0_ := Aside0.mk (Kd.R_lower ho0 (below_size (by repeat (first | (with_reducible first | exact HB.out | apply below_alloc | apply pw_below_drewN | apply below_drew1 | refine below_set ?_ GE181.out) | exact HB.out)))); have n1_ := Aside0.mk (blk_below (g := gb181) (o := .cells #[.bool a0_0, .slice A0_1 l0_1.length c0_1, .int .i64 a0_2] 31 (0, 0)) (by (with_reducible repeat (first | refine blk_drewN ?_ _ | refine blk_drew ?_ | refine blk_alloc ?_ _)); exact BK181.out) hb); have n2_ := Aside0.mk (below_step (by repeat (first | (with_reducible first | exact HB.out | apply below_alloc | apply pw_below_drewN | apply below_drew1 | refine below_set ?_ GE181.out) | exact HB.out)) hb); clear BK181; clear HB; have HO186 := n0_; have BK181 := n1_; have HB := n2_; clear n0_ n1_ n2_; (try clear hb); (try clear hb2); (try clear hk); (try clear hi); (try clear ho0); have hcz39_0 : w38.cell? ⟨gb181, 0, none⟩ = some (.bool a0_0) := (blk_cell BK181.out 0).trans rfl; have hcz39_1 : w38.cell? ⟨gb181, 1, none⟩ = some (.slice A0_1 l0_1.length c0_1) := (blk_cell BK181.out 1).trans rfl; have hcz39_2 : w38.cell? ⟨gb181, 2, none⟩ = some (.int .i64 a0_2) := (blk_cell BK181.out 2).trans rfl; have hfz39_0 := blk_frozen BK181.out 0; have hfz39_1 := blk_frozen BK181.out 1; have hfz39_2 := blk_frozen BK181.out 2) | (go_at_call 51; (with_reducible refine (dec_digits.calls kj1 _ _ l0_1 t187 _ ?side1 ?side2 A19.out).mono ?_); (case side1 => repeat (first | exact (Kd.C_below HR0_1.out HB.out) | (with_reducible refine Kd.C_alloc ?_ _) | (with_reducible refine Kd.C_drewN ?_ _) | (with_reducible refine Kd.C_drew ?_))); (case side2 => exact HC0_1.out); rintro e w40 ⟨rfl, hb⟩; have n0_ := Aside0.mk (Kd.R_below (by (with_reducible repeat (first | apply Kd.R_alloc | apply Kd.R_drewN | apply Kd.R_drew)); exact HO186.out) hb); have n1_ := Aside0.mk (blk_below (g := gb181) (o := .cells #[.bool a0_0, .slice A0_1 l0_1.length c0_1, .int .i64 a0_2] 31 (0, 0)) (by (with_reducible repeat (first | refine blk_drewN ?_ _ | refine blk_drew ?_ | refine blk_alloc ?_ _)); exact BK181.out) hb); have n2_ := Aside0.mk (below_step (by repeat (first | (with_reducible first | exact HB.out | apply below_alloc | apply pw_below_drewN | apply below_drew1 | refine below_set ?_ GE181.out) | exact HB.out)) hb); clear HO186; clear BK181; clear HB; have HO186 := n0_; have BK181 := n1_; have HB := n2_; clear n0_ n1_ n2_; (try clear hb); (try clear hb2); (try clear hk); (try clear hi); have hcz41_0 : w40.cell? ⟨gb181, 0, none⟩ = some (.bool a0_0) := (blk_cell BK181.out 0).trans rfl; have hcz41_1 : w40.cell? ⟨gb181, 1, none⟩ = some (.slice A0_1 l0_1.length c0_1) := (blk_cell BK181.out 1).trans rfl; have hcz41_2 : w40.cell? ⟨gb181, 2, none⟩ = some (.int .i64 a0_2) := (blk_cell BK181.out 2).trans rfl; have hfz41_0 := blk_frozen BK181.out 0; have hfz41_1 := blk_frozen BK181.out 1; have hfz41_2 := blk_frozen BK181.out 2))
                  go_ret
                  exact ⟨by first | rfl | (simp [errW_none, errW_some] <;> rfl) | (simp [*, errW_none, errW_some] <;> rfl), by repeat (first | (with_reducible first | exact HB.out | apply below_alloc | apply pw_below_drewN | apply below_drew1 | refine below_set ?_ GE181.out) | exact HB.out)⟩

end Go.Proofs.YtdgebcgcabhjoaaDoor.P
/- dec.Check by value. -/
namespace Go.Proofs.YtdgebcgcabhjoaaDoor.P
set_option linter.unusedVariables false
set_option linter.unusedSimpArgs false
open Go.RowKit Go.Proofs.YtdgebcgcabhjoaaDoorW.PrintWords Go.Proofs.YtdgebcgcabhjoaaDoorW.PrintMore Go.Proofs.YtdgebcgcabhjoaaDoorW.PrintLast
abbrev D := S31
instance (l : List Int) : Decidable (canon l) := by unfold canon; infer_instance
/-- So many digits may a coefficient have: fewer than this. -/
def decDig : Nat := 300
def decTop : Nat := 10 ^ decDig
/-- May a decimal be? -/
def decOkB (d : D) : Bool := decide (d.f1.length ≤ 40) && decide (canon d.f1) && (if d.f1.length = 0 then !d.f0 && d.f2 == 0 else decide (val d.f1 % 10 ≠ 0) && decide (val d.f1 < decTop) && decide (-1000 ≤ d.f2) && decide (d.f2 ≤ 1000))
def dchk (d : D) : Int := if decOkB d then 0 else 9
structure OkD (d : D) : Prop where
  limbs : okL d.f1
  exp : (Lit.int .i64 d.f2).wf = true
  len : d.f1.length ≤ 1073741824
theorem OkV.dec {x : V} (h : OkV x) : OkD x.f1 := by
  cases h with
  | mk _ h0 h1 h2 h3 h4 l1 => exact ⟨okL_of_wf h1, h2, l1⟩
theorem ten_f (l : List Int) (h : okL l) (hc : canon l) (hl : l.length ≤ 256) (k : Nat) (hk : 3 ≤ k) : dec_ten.f k l = some (limbs (val l / 10), decide (val l % 10 = 0)) := by
  have e10 : nat_From.f 10 = some (limbs 10) := from_f 10 (by omega)
  have hl10 : limbs 10 = [10] := by rw [limbs_pos (by omega), show 10 / 4294967296 = 0 by omega, limbs_zero]; rfl
  unfold dec_ten.f
  rw [e10, Option.bind_some, div_f l (limbs 10) h (okL_limbs 10) (by omega) (by rw [hl10]; simp) k hk, Option.bind_some]
  have ht : tw l (limbs 10) = 0 := (tw_ok h (okL_limbs 10)).2 ⟨⟨hl, hc⟩, by rw [hl10]; simp, canon_limbs 10⟩
  unfold divV
  rw [if_pos ht, if_neg (by rw [hl10]; simp), val_limbs]
  congr 1
  congr 1
  by_cases h0 : val l % 10 = 0
  · rw [h0, limbs_zero]; rfl
  · rw [limbs_pos h0]; simp [h0]; omega
theorem digits_ev (l : List Int) (h : okL l) (hc : canon l) (h0 : l.length ≠ 0) (hl : l.length ≤ 256) : Ev (fun k => dec_digits.f k l) (((decs (val l)).length : Nat) : Int) := by
  unfold dec_digits.f
  refine Ev.bind (print_f l h (by omega)) ?_
  have hck : chk l = 0 := (chk_ok h).2 ⟨hl, hc⟩
  have hv : val l ≠ 0 := by intro e; unfold canon at hc; rw [e, limbs_zero] at hc; rw [← hc] at h0; exact h0 rfl
  unfold printV
  rw [if_pos hck]
  have hs : (text (val l)).size = (decs (val l)).length := by
    unfold text fin
    rw [if_neg (by rw [asc_len, decs_pos hv]; simp)]
    unfold strOfNums
    simp [asc_len, ByteArray.size]
  simp only [if_neg (show ¬ ((l.length : Int) = 0) by omega), hs]
  exact Ev.now _
theorem decs_lt_iff {n k : Nat} (h : n ≠ 0) : (decs n).length ≤ k ↔ n < 10 ^ k := by
  constructor
  · intro hl
    have := dval_lt (okD_decs n)
    rw [dval_decs] at this
    exact Nat.lt_of_lt_of_le this (Nat.pow_le_pow_right (by omega) hl)
  · exact decs_len
theorem dchk_f (d : D) (h : OkD d) : ∃ k, dec_Check.f k d.f0 d.f1 d.f2 = some (dchk d) := by
  have hk : Ev (fun k => dec_Check.f k d.f0 d.f1 d.f2) (dchk d) := by
    unfold dec_Check.f
    rw [check_f d.f1 (by have := h.len; omega)]
    simp only [Option.bind_some]
    by_cases hc : chk d.f1 = 0
    · simp only [if_pos hc]
      obtain ⟨h1, h2⟩ := (chk_ok h.limbs).1 hc
      by_cases h40 : d.f1.length ≤ 40
      · by_cases h0 : d.f1.length = 0
        · refine ⟨1, fun k hk => ?_⟩
          obtain ⟨k, rfl⟩ : ∃ m, k = m + 1 := ⟨k - 1, by omega⟩
          dsimp only
          rw [dec_Check.j0.eq_2]
          rw [if_neg (by simp; omega), if_pos (by omega)]
          unfold dchk decOkB
          rw [if_pos h0]
          simp only [h40, h2, decide_true, Bool.true_and]
          cases hn : d.f0 with
          | true => simp
          | false =>
            by_cases he : d.f2 = 0
            · simp [he]
            · simp [he]
        · have hv : val d.f1 ≠ 0 := by intro e; unfold canon at h2; rw [e, limbs_zero] at h2; rw [← h2] at h0; exact h0 rfl
          obtain ⟨k0, hk0⟩ := digits_ev d.f1 h.limbs h2 h0 h1
          refine ⟨k0 + 4, fun k hk => ?_⟩
          obtain ⟨k, rfl⟩ : ∃ m, k = m + 1 := ⟨k - 1, by omega⟩
          dsimp only
          rw [dec_Check.j0.eq_2]
          rw [if_neg (by simp; omega), if_neg (by omega), ten_f d.f1 h.limbs h2 h1 k (by omega), Option.bind_some]
          unfold dchk decOkB
          rw [if_neg h0]
          simp only [h40, h2, decide_true, Bool.true_and]
          by_cases ht : val d.f1 % 10 = 0
          · simp [ht]
          · have hd := hk0 k (by omega)
            simp only at hd
            simp only [ht, decide_false, Bool.false_eq_true, if_false, hd, Option.bind_some]
            have hlen : (decs (val d.f1)).length ≤ 300 ↔ val d.f1 < decTop := decs_lt_iff (k := decDig) hv
            by_cases hdg : (decs (val d.f1)).length ≤ 300
            · have hlt : val d.f1 < decTop := hlen.1 hdg
              rw [if_neg (by omega)]
              by_cases hlo : d.f2 < -1000
              · rw [if_pos hlo]; simp [show ¬ (-1000 ≤ d.f2) by omega]
              · rw [if_neg hlo]
                by_cases hhi : d.f2 > 1000
                · rw [if_pos hhi]; simp [show ¬ (d.f2 ≤ 1000) by omega]
                · rw [if_neg hhi]; simp [hlt, ht, show (-1000 ≤ d.f2) by omega, show (d.f2 ≤ 1000) by omega]
            · have hlt : ¬ val d.f1 < decTop := fun h => hdg (hlen.2 h)
              rw [if_pos (by omega)]
              simp [hlt]
      · refine ⟨1, fun k hk => ?_⟩
        obtain ⟨k, rfl⟩ : ∃ m, k = m + 1 := ⟨k - 1, by omega⟩
        dsimp only
        rw [dec_Check.j0.eq_2]
        rw [if_pos (by simp; omega)]
        unfold dchk decOkB
        simp [h40]
    · simp only [if_neg hc]
      refine ⟨1, fun k hk => ?_⟩
      obtain ⟨k, rfl⟩ : ∃ m, k = m + 1 := ⟨k - 1, by omega⟩
      dsimp only
      rw [dec_Check.j0.eq_2, if_pos rfl]
      unfold dchk decOkB
      have : ¬ (d.f1.length ≤ 40 ∧ canon d.f1) := fun hh => hc ((chk_ok h.limbs).2 ⟨by omega, hh.2⟩)
      by_cases a : d.f1.length ≤ 40
      · simp [a, show ¬ canon d.f1 from fun hh => this ⟨a, hh⟩]
      · simp [a]
  obtain ⟨k, hk⟩ := hk
  exact ⟨k, hk k (Nat.le_refl _)⟩
end Go.Proofs.YtdgebcgcabhjoaaDoor.P
/- value.own by value: texts, rises, numbers, used. -/
namespace Go.Proofs.YtdgebcgcabhjoaaDoor.P
set_option linter.unusedVariables false
set_option linter.unusedSimpArgs false
open Go.RowKit Go.Proofs.YtdgebcgcabhjoaaDoorW.PrintWords Go.Proofs.YtdgebcgcabhjoaaDoorW.PrintMore Go.Proofs.YtdgebcgcabhjoaaDoorW.PrintLast
theorem bcells {W w1 : World} {g : Nat} {cs : Array Value} {t : Nat} (hg : W.heap[g]? = some (.cells cs t (0, 0))) (hb : Below W.heap.size W w1) : (∀ i, w1.cell? ⟨g, i, none⟩ = cs[i]?) ∧ (∀ i, w1.frozen? ⟨g, i, none⟩ = false) :=
  ⟨fun i => (hb.cell (p := ⟨g, i, none⟩) (blk_lt hg)).trans (blk_cell hg i), fun i => (hb.frozen (p := ⟨g, i, none⟩) (blk_lt hg)).trans (blk_frozen hg i)⟩
/-- A text's error. -/
def txt (s : ByteArray) : Int := (value_letters.f s).getD 0
theorem txt_f {s : ByteArray} (h : s.size ≤ 1073741824) : value_letters.f s = some (txt s) := by
  have h1 : s.size ≤ 1152921504606846976 := by omega
  have : ∃ r, value_letters.f s = some r := by
    unfold value_letters.f utf_Check.f
    rw [if_pos h1]
    cases checkL (uitems s s.size 0) <;> simp <;> split <;> simp <;> split <;> simp
  obtain ⟨r, hr⟩ := this
  unfold txt
  rw [hr]; rfl
def vtextsUp (v : V) (k : Nat) : Int := (v.f4.take k).foldl (fun e s => if e = 0 then txt s else e) (txt v.f2)
def vtexts (v : V) : Int := vtextsUp v v.f4.length
theorem vtextsUp_succ (v : V) (k : Nat) (h : k < v.f4.length) : vtextsUp v (k + 1) = orL [vtextsUp v k, txt (rdOf ByteArray.empty v.f4 (k : Int))] := by
  unfold vtextsUp
  rw [List.take_succ_eq_append_getElem h, List.foldl_append]
  have e : rdOf ByteArray.empty v.f4 (k : Int) = v.f4[k] := by unfold rdOf; simp [h]
  rw [e]
  simp only [List.foldl_cons, List.foldl_nil, orL]
  split
  · split <;> simp [*]
  · rfl
set_option maxHeartbeats 1000000 in
set_option maxRecDepth 100000 in
theorem texts_any (x : V) (cs : List Value) (w : World) (hLD : LaidW w) (hK : k34.K w x cs) (hO : OkV x) :
    Calls Tryd.prog 38 #[.agg cs.toArray] w fun e w' => e = .returned (.int .i64 (vtexts x)) ∧ Below w.heap.size w w' := by
  obtain ⟨A2, c2, A5, c5, A6, c6, rfl, l2, g2, l5, g5, l6, g6⟩ := k34_open hK
  have HC := Lib.hid g6
  have hlen := g6.2.1
  have HL := Lib.hid hLD
  have ht2 : Hid (value_letters.f x.f2 = some (txt x.f2)) := Lib.hid (txt_f hO.text)
  have ht4 : Hid (∀ s ∈ x.f4, value_letters.f s = some (txt s)) := Lib.hid (fun s hs => txt_f (hO.keys s hs))
  clear l2 g2 l5 g5 l6 g6 hK hLD hO
  have e0 : vtextsUp x 0 = txt x.f2 := rfl
  have H0 := Lib.hid e0
  clear e0
  go_enter Tryd.func38, Tryd.ntmps38
  go_wp2_with (first | (go_at_call 44; (with_reducible refine (value_letters.calls x.f2 (txt x.f2) _ ?hl ht2.out).mono ?_); (case hl => exact HL.out.below ((Below.refl _ _).alloc (Nat.le_refl _) _)); rintro e w1 ⟨rfl, hB1⟩; have hB2 : Below w.heap.size w w1 := below_box (Below.refl _ _) (Nat.le_refl _) hB1; have hcl2 : w1.cell? ⟨w.heap.size, 6, none⟩ = some (.slice A6 x.f4.length c6) := pw_cell_below hB1 ((blk_cell (blk_new w _) _).trans rfl)))
  go_loopw [3, 12] (fun ve vi wr => ∃ k : Nat, k ≤ x.f4.length ∧ vi = .int .i64 k ∧ ve = .int .i64 (vtextsUp x k) ∧ Below w.heap.size w wr) (fun _ vi _ => x.f4.length - (intOf vi).toNat)
  case atStart => exact ⟨0, Nat.zero_le _, rfl, by rw [H0.out], hB2⟩
  case round =>
    obtain ⟨k, hk, rfl, rfl, hB⟩ := hrel
    have HB := Lib.hid hB
    clear hB hB2 hcl2 hB1
    by_cases hlt : k < x.f4.length
    · obtain ⟨ad, rfl, hx⟩ := Kd.at_string (Kd.C_below HC.out HB.out) (k : Int) (by omega) (by omega)
      rw [Int.toNat_natCast] at hx
      have hs := Lib.hid (vtextsUp_succ x k hlt)
      have hf : Hid (value_letters.f (rdOf ByteArray.empty x.f4 (k : Int)) = some (txt (rdOf ByteArray.empty x.f4 (k : Int)))) := Lib.hid (ht4.out _ (by unfold rdOf; simp [hlt]))
      have hw : wrap64 ((k : Int) + 1) = ((k + 1 : Nat) : Int) := by unfold wrap64; omega
      go_wp2_with (first | (go_at_call 44; (with_reducible refine (value_letters.calls _ _ _ ?hl hf.out).mono ?_); (case hl => exact HL.out.below HB.out); rintro e w2 ⟨rfl, hB2⟩) | (go_at_call 45; (with_reducible refine (or_err2 _ _ _ _).mono ?_); rintro e w3 ⟨rfl, rfl⟩))
      have hB3 : Below w.heap.size w w2 := HB.out.trans (hB2.mono HB.out.size)
      clear hB2
      go_roundw
      case rel => exact ⟨k + 1, by omega, by go_num, by rw [hs.out], hB3.alloc (by have := hB3.size; omega) _⟩
      case measure => simp [intOf]; omega
    · obtain rfl : k = x.f4.length := by omega
      go_wp2
      go_ret
      exact ⟨rfl, HB.out⟩
/-- a <= b, octet by octet. -/
def strLe (a b : ByteArray) : Bool := Op.bytesLess a.toList b.toList || a.toList == b.toList
def vrisesUp (l : List ByteArray) (k : Nat) : Bool := (List.range k).all fun i => i == 0 || !strLe (l.getD i ByteArray.empty) (l.getD (i - 1) ByteArray.empty)
def vrises (l : List ByteArray) : Bool := vrisesUp l l.length
theorem vrisesUp_succ (l : List ByteArray) (k : Nat) : vrisesUp l (k + 1) = (vrisesUp l k && (k == 0 || !strLe (l.getD k ByteArray.empty) (l.getD (k - 1) ByteArray.empty))) := by
  unfold vrisesUp
  rw [List.range_succ, List.all_append]
  simp
theorem vrisesUp_false (l : List ByteArray) {k : Nat} (h : vrisesUp l k = false) : ∀ n, k ≤ n → vrisesUp l n = false := by
  intro n hn
  induction n with
  | zero => rw [show k = 0 by omega] at h; exact h
  | succ n ih =>
    rcases Nat.lt_or_ge n k with hlt | hge
    · rw [show k = n + 1 by omega] at h; exact h
    · rw [vrisesUp_succ, ih hge]; rfl
set_option maxHeartbeats 1000000 in
set_option maxRecDepth 100000 in
theorem rises_any (A : Option Addr) (c : Nat) (l : List ByteArray) (w : World) (hC : Kd.C Kd.string w A l.length l) :
    Calls Tryd.prog 41 #[.slice A l.length c] w fun e w' => e = .returned (.bool (vrises l)) ∧ Below w.heap.size w w' := by
  have HC := Lib.hid hC
  have hlen := hC.2.1
  clear hC
  go_enter Tryd.func41, Tryd.ntmps41
  go_wp2
  go_loopw [6] (fun vi wr => ∃ k : Nat, k ≤ l.length ∧ vi = .int .i64 k ∧ Hid (vrisesUp l k = true) ∧ Below w.heap.size w wr) (fun vi _ => l.length - (intOf vi).toNat)
  case atStart => exact ⟨0, Nat.zero_le _, rfl, Lib.hid rfl, Below.refl _ _⟩
  case round =>
    obtain ⟨k, hk, rfl, hu, hB⟩ := hrel
    have HB := Lib.hid hB
    clear hB
    by_cases hlt : k < l.length
    · by_cases h0 : k = 0
      · subst h0
        have hu1 : Hid (vrisesUp l 1 = true) := Lib.hid rfl
        go_wp2
        go_quiet (fail)
        go_wp2
        go_roundw
        case rel => exact ⟨1, by omega, rfl, hu1, pw_below_drewN HB.out _⟩
        case measure => simp [intOf]; omega
      · obtain ⟨j, hj⟩ : ∃ j, j + 1 = k := ⟨k - 1, by omega⟩
        obtain ⟨ad, rfl, hx⟩ := Kd.at_string (Kd.C_below HC.out HB.out) (k : Int) (by omega) (by omega)
        obtain ⟨ad', he, hy⟩ := Kd.at_string (Kd.C_below HC.out HB.out) (j : Int) (by omega) (by omega)
        obtain rfl := Option.some.inj he
        rw [Int.toNat_natCast] at hx hy
        have e1 : rdOf ByteArray.empty l (k : Int) = l.getD k ByteArray.empty := by unfold rdOf; rw [Int.toNat_natCast]
        have e2 : rdOf ByteArray.empty l (j : Int) = l.getD j ByteArray.empty := by unfold rdOf; rw [Int.toNat_natCast]
        rw [e1] at hx
        rw [e2] at hy
        have hs := vrisesUp_succ l k
        rw [hu.out, show (k == 0) = false by simpa using h0, show k - 1 = j by omega] at hs
        obtain ⟨a, ha⟩ : ∃ a, a = l.getD k ByteArray.empty := ⟨_, rfl⟩
        obtain ⟨b, hb⟩ : ∃ b, b = l.getD j ByteArray.empty := ⟨_, rfl⟩
        rw [← ha] at hx
        rw [← hb] at hy
        rw [← ha, ← hb] at hs
        have g0 : decide (0 < k) = true := by simp; omega
        have g3 : (k : Int) < (l.length : Int) := by omega
        have g5 : IntKind.i64.wrap ((k : Int) - 1) = (j : Int) := by rw [wrap_in _ (by omega)]; omega
        have g6 : (j : Int) < (l.length : Int) := by omega
        have hw : wrap64 ((k : Int) + 1) = ((k + 1 : Nat) : Int) := by unfold wrap64; omega
        clear ha hb hu e1 e2 h0 hj
        cases hle : strLe a b with
        | true =>
          rw [hle] at hs
          have hr : Hid (vrises l = false) := Lib.hid (vrisesUp_false l (by rw [hs]; simp) _ (by omega))
          have hle' : (Op.bytesLess a.toList b.toList || a.toList == b.toList) = true := hle
          clear hs hle
          go_wp2
          go_quiet (fail)
          go_wp2
          go_ret
          exact ⟨by rw [hr.out]; rfl, pw_below_drewN HB.out _⟩
        | false =>
          rw [hle] at hs
          have hr : Hid (vrisesUp l (k + 1) = true) := Lib.hid (by rw [hs]; simp)
          have hle' : (Op.bytesLess a.toList b.toList || a.toList == b.toList) = false := hle
          clear hs hle
          go_wp2
          go_quiet (fail)
          go_wp2
          go_roundw
          case rel => exact ⟨k + 1, by omega, by go_num, hr, pw_below_drewN HB.out _⟩
          case measure => simp [intOf]; omega
    · obtain rfl : k = l.length := by omega
      go_wp2
      go_ret
      exact ⟨by rw [show vrises l = true from hu.out]; rfl, HB.out⟩
def vnumbers (x : V) : Bool := if x.f0 = 3 then dchk x.f1 == 0 else !x.f1.f0 && x.f1.f1.length == 0 && x.f1.f2 == 0
set_option maxHeartbeats 1000000 in
set_option maxRecDepth 100000 in
theorem numbers_any (x : V) (cs : List Value) (w : World) (hK : k34.K w x cs) (hO : OkV x) :
    Calls Tryd.prog 39 #[.agg cs.toArray] w fun e w' => e = .returned (.bool (vnumbers x)) ∧ Below w.heap.size w w' := by
  obtain ⟨A2, c2, A5, c5, A6, c6, rfl, l2, g2, l5, g5, l6, g6⟩ := k34_open hK
  have HC := Lib.hid g2
  obtain ⟨kk, hk⟩ := dchk_f x.f1 hO.dec
  have HK := Lib.hid hk
  clear g2 l5 g5 l6 g6 hK hO hk
  by_cases h3 : x.f0 = 3
  · have hv : vnumbers x = (dchk x.f1 == 0) := by unfold vnumbers; rw [if_pos h3]
    have hb : (x.f0 == 3) = true := by simp [h3]
    rw [hv]
    clear h3 hv
    go_enter Tryd.func39, Tryd.ntmps39
    go_wp2_with (first | (go_at_call 46; (with_reducible refine (dec_Check.calls kk _ _ _ _ _ _ _ ?hc l2 HK.out).mono ?_); (case hc => exact Kd.C_alloc HC.out _); rintro e w1 ⟨rfl, hB1⟩))
    go_ret
    exact ⟨rfl, below_box (Below.refl _ _) (Nat.le_refl _) hB1⟩
  · have hb : (x.f0 == 3) = false := by simpa using h3
    have hv : vnumbers x = (!x.f1.f0 && x.f1.f1.length == 0 && x.f1.f2 == 0) := by unfold vnumbers; rw [if_neg h3]
    rw [hv]
    clear h3 hv
    cases h0 : x.f1.f0 with
    | true =>
      go_enter Tryd.func39, Tryd.ntmps39
      go_wp2
      go_ret
      exact ⟨rfl, (Below.refl _ _).alloc (Nat.le_refl _) _⟩
    | false =>
      by_cases h1 : x.f1.f1.length = 0
      · have h1b : ((x.f1.f1.length : Int) == 0) = true := by simp [h1]
        rw [show (x.f1.f1.length == 0) = true by simp [h1]]
        clear h1
        go_enter Tryd.func39, Tryd.ntmps39
        go_wp2
        go_ret
        exact ⟨rfl, (Below.refl _ _).alloc (Nat.le_refl _) _⟩
      · have h1b : ((x.f1.f1.length : Int) == 0) = false := beq_eq_false_iff_ne.mpr (by omega)
        rw [show (x.f1.f1.length == 0) = false by simpa using h1]
        clear h1
        go_enter Tryd.func39, Tryd.ntmps39
        go_wp2
        go_ret
        exact ⟨rfl, (Below.refl _ _).alloc (Nat.le_refl _) _⟩
def vused (x : V) : Bool := (x.f0 == 4 || x.f2.toList.isEmpty) && (decide (5 ≤ x.f0) || (x.f3.length : Int) == 0) && (x.f4.length : Int) == if x.f0 == 6 then (x.f3.length : Int) else 0
set_option maxHeartbeats 4000000 in
set_option maxRecDepth 100000 in
theorem used_any (x : V) (cs : List Value) (w : World) (hK : k34.K w x cs) :
    Calls Tryd.prog 40 #[.agg cs.toArray] w fun e w' => e = .returned (.bool (vused x)) ∧ Below w.heap.size w w' := by
  obtain ⟨A2, c2, A5, c5, A6, c6, rfl, l2, g2, l5, g5, l6, g6⟩ := k34_open hK
  clear g2 l2 l5 g5 l6 g6 hK
  unfold vused
  obtain ⟨b6, h6⟩ : ∃ b, (x.f0 == 6) = b := ⟨_, rfl⟩
  obtain ⟨b4, h4⟩ : ∃ b, (x.f0 == 4) = b := ⟨_, rfl⟩
  obtain ⟨b5, h5⟩ : ∃ b, decide (5 ≤ x.f0) = b := ⟨_, rfl⟩
  obtain ⟨bt, ht⟩ : ∃ b, x.f2.toList.isEmpty = b := ⟨_, rfl⟩
  obtain ⟨b3, h3⟩ : ∃ b, ((x.f3.length : Int) == 0) = b := ⟨_, rfl⟩
  rw [h6, h4, h5, ht, h3]
  cases b6 with
  | true =>
    rw [if_pos rfl]
    have h4' : b4 = false := by subst h4; simp at h6 ⊢; omega
    have h5' : b5 = true := by subst h5; simp at h6 ⊢; omega
    subst h4' h5'
    obtain ⟨bk, hk⟩ : ∃ b, ((x.f4.length : Int) == (x.f3.length : Int)) = b := ⟨_, rfl⟩
    rw [hk]
    cases bt <;> cases bk <;>
    · go_enter Tryd.func40, Tryd.ntmps40
      go_wp2
      go_ret
      exact ⟨rfl, (Below.refl _ _).alloc (Nat.le_refl _) _⟩
  | false =>
    rw [if_neg (by simp)]
    obtain ⟨bk, hk⟩ : ∃ b, ((x.f4.length : Int) == 0) = b := ⟨_, rfl⟩
    rw [hk]
    cases b4 with
    | true =>
      have h5' : b5 = false := by subst h5; simp at h4 ⊢; omega
      subst h5'
      cases b3 <;> cases bk <;>
      · go_enter Tryd.func40, Tryd.ntmps40
        go_wp2
        go_ret
        exact ⟨rfl, (Below.refl _ _).alloc (Nat.le_refl _) _⟩
    | false =>
      cases b5 <;> cases bt <;> cases b3 <;> cases bk <;>
      · go_enter Tryd.func40, Tryd.ntmps40
        go_wp2
        go_ret
        exact ⟨rfl, (Below.refl _ _).alloc (Nat.le_refl _) _⟩
end Go.Proofs.YtdgebcgcabhjoaaDoor.P
/- bolterref02.Same, bolterref05.Same, SameAll by value. -/
namespace Go.Proofs.YtdgebcgcabhjoaaDoor.P
set_option linter.unusedVariables false
set_option linter.unusedSimpArgs false
open Go.RowKit Go.Proofs.YtdgebcgcabhjoaaDoorW.PrintWords Go.Proofs.YtdgebcgcabhjoaaDoorW.PrintMore Go.Proofs.YtdgebcgcabhjoaaDoorW.PrintLast
/-- Are two one? -/
noncomputable def same {α : Type} (a b : α) : Bool := @decide (a = b) (Classical.propDecidable _)
theorem same_iff {α : Type} {a b : α} : same a b = true ↔ a = b := by unfold same; simp
theorem same_refl {α : Type} (a : α) : same a a = true := same_iff.2 rfl
theorem same_ne {α : Type} {a b : α} (h : a ≠ b) : same a b = false := by
  cases hs : same a b with
  | false => rfl
  | true => exact absurd (same_iff.1 hs) h
theorem ext_getD {α : Type} (z : α) {l r : List α} (h : l.length = r.length) (k : ∀ i, i < l.length → l.getD i z = r.getD i z) : l = r := by
  apply List.ext_getElem h
  intro i h1 h2
  have := k i h1
  rw [List.getD_eq_getElem?_getD, List.getD_eq_getElem?_getD, List.getElem?_eq_getElem h1, List.getElem?_eq_getElem h2] at this
  exact this
set_option maxHeartbeats 1000000 in
set_option maxRecDepth 100000 in
theorem dsame_any (a b : D) (A : Option Addr) (c : Nat) (B : Option Addr) (e : Nat) (w : World) (ha : Kd.C (Kd.int .u32) w A a.f1.length a.f1) (hb : Kd.C (Kd.int .u32) w B b.f1.length b.f1) :
    Calls Tryd.prog 27 #[.agg #[.bool a.f0, .slice A a.f1.length c, .int .i64 a.f2], .agg #[.bool b.f0, .slice B b.f1.length e, .int .i64 b.f2]] w fun x w' => x = .returned (.bool (same a b)) ∧ Below w.heap.size w w' := by
  have HA := Lib.hid ha
  have HB' := Lib.hid hb
  have hlen := ha.2.1
  clear ha hb
  cases h0 : (a.f0 == b.f0) with
  | false =>
    have h0b : (a.f0 != b.f0) = true := by simp [bne, h0]
    have hn : a ≠ b := by intro h; rw [h] at h0; simp at h0
    rw [same_ne hn]
    clear hn
    go_enter Tryd.func27, Tryd.ntmps27
    go_wp2
    go_ret
    exact ⟨rfl, ((Below.refl _ _).alloc (Nat.le_refl _) _).alloc (by simp) _⟩
  | true =>
    have h0b : (a.f0 != b.f0) = false := by simp [bne, h0]
    cases h2 : (a.f2 == b.f2) with
    | false =>
      have h2b : (a.f2 != b.f2) = true := by simp [bne, h2]
      have hn : a ≠ b := by intro h; rw [h] at h2; simp at h2
      rw [same_ne hn]
      clear hn
      go_enter Tryd.func27, Tryd.ntmps27
      go_wp2
      go_ret
      exact ⟨rfl, ((Below.refl _ _).alloc (Nat.le_refl _) _).alloc (by simp) _⟩
    | true =>
      have h2b : (a.f2 != b.f2) = false := by simp [bne, h2]
      cases h1 : ((a.f1.length : Int) == (b.f1.length : Int)) with
      | false =>
        have h1b : ((a.f1.length : Int) != (b.f1.length : Int)) = true := by simp [bne, h1]
        have hn : a ≠ b := by intro h; rw [h] at h1; simp at h1
        rw [same_ne hn]
        clear hn
        go_enter Tryd.func27, Tryd.ntmps27
        go_wp2
        go_ret
        exact ⟨rfl, ((Below.refl _ _).alloc (Nat.le_refl _) _).alloc (by simp) _⟩
      | true =>
        have h1b : ((a.f1.length : Int) != (b.f1.length : Int)) = false := by simp [bne, h1]
        have hq : a.f1.length = b.f1.length := by have := eq_of_beq h1; omega
        have HE : Hid (a.f0 = b.f0 ∧ a.f2 = b.f2 ∧ a.f1.length = b.f1.length) := Lib.hid ⟨eq_of_beq h0, eq_of_beq h2, hq⟩
        have HL : Hid (a.f1.length ≤ b.f1.length) := Lib.hid (by omega)
        clear hq
        go_enter Tryd.func27, Tryd.ntmps27
        go_wp2
        have hB0 : Below w.heap.size w ((w.alloc (Obj.cells #[Value.bool a.f0, Value.slice A a.f1.length c, Value.int IntKind.i64 a.f2] 31 (0, 0))).alloc (Obj.cells #[Value.bool b.f0, Value.slice B b.f1.length e, Value.int IntKind.i64 b.f2] 31 (0, 0))) := ((Below.refl _ _).alloc (Nat.le_refl _) _).alloc (by simp) _
        have g1 := blk_new (w.alloc (Obj.cells #[Value.bool a.f0, Value.slice A a.f1.length c, Value.int IntKind.i64 a.f2] 31 (0, 0))) (Obj.cells #[Value.bool b.f0, Value.slice B b.f1.length e, Value.int IntKind.i64 b.f2] 31 (0, 0))
        have g0 := (blk_new w (Obj.cells #[Value.bool a.f0, Value.slice A a.f1.length c, Value.int IntKind.i64 a.f2] 31 (0, 0)))
        replace g0 := (((Below.refl _ (w.alloc (Obj.cells #[Value.bool a.f0, Value.slice A a.f1.length c, Value.int IntKind.i64 a.f2] 31 (0, 0)))).alloc (Nat.le_refl _) (Obj.cells #[Value.bool b.f0, Value.slice B b.f1.length e, Value.int IntKind.i64 b.f2] 31 (0, 0))).block _ (blk_lt g0)).trans g0
        rw [show (w.alloc (Obj.cells #[Value.bool a.f0, Value.slice A a.f1.length c, Value.int IntKind.i64 a.f2] 31 (0, 0))).heap.size = w.heap.size + 1 by simp] at g1
        generalize (w.alloc (Obj.cells #[Value.bool a.f0, Value.slice A a.f1.length c, Value.int IntKind.i64 a.f2] 31 (0, 0))).alloc (Obj.cells #[Value.bool b.f0, Value.slice B b.f1.length e, Value.int IntKind.i64 b.f2] 31 (0, 0)) = w0 at hB0 g0 g1 ⊢
        have G := Lib.hid (And.intro g0 g1)
        have HB0 := Lib.hid hB0
        have HLE : Hid (w.heap.size ≤ w0.heap.size) := Lib.hid hB0.size
        clear g0 g1 hB0
        go_loopw [5] (fun vi wr => ∃ k : Nat, k ≤ a.f1.length ∧ vi = .int .i64 k ∧ Hid (∀ i, i < k → a.f1.getD i 0 = b.f1.getD i 0) ∧ Below w0.heap.size w0 wr) (fun vi _ => a.f1.length - (intOf vi).toNat)
        case atStart => exact ⟨0, Nat.zero_le _, rfl, Lib.hid (fun i h => absurd h (by omega)), Below.refl _ _⟩
        case round =>
          obtain ⟨k, hk, rfl, hu, hB⟩ := hrel
          have HB := Lib.hid hB
          have hBW := Lib.hid (HB0.out.trans (hB.mono HLE.out))
          obtain ⟨hcl0, hfz0⟩ := bcells G.out.1 hB
          obtain ⟨hcl1, hfz1⟩ := bcells G.out.2 hB
          clear hB
          by_cases hlt : k < a.f1.length
          · obtain ⟨ad, rfl, hx⟩ := Kd.at_int (Kd.C_below HA.out hBW.out) (k : Int) (by omega) (by omega)
            obtain ⟨bd, rfl, hy⟩ := Kd.at_int (Kd.C_below HB'.out hBW.out) (k : Int) (by omega) (by have := HL.out; omega)
            rw [Int.toNat_natCast] at hx hy
            have e1 : rd a.f1 (k : Int) = a.f1.getD k 0 := by unfold rd; rw [Int.toNat_natCast]
            have e2 : rd b.f1 (k : Int) = b.f1.getD k 0 := by unfold rd; rw [Int.toNat_natCast]
            rw [e1] at hx
            rw [e2] at hy
            clear e1 e2
            obtain ⟨xa, ha⟩ : ∃ xa, xa = a.f1.getD k 0 := ⟨_, rfl⟩
            obtain ⟨xb, hb⟩ : ∃ xb, xb = b.f1.getD k 0 := ⟨_, rfl⟩
            rw [← ha] at hx
            rw [← hb] at hy
            have hw : wrap64 ((k : Int) + 1) = ((k + 1 : Nat) : Int) := by unfold wrap64; omega
            have hlt2 : (k : Int) < (b.f1.length : Int) := by have := HL.out; omega
            have hlt1 : (k : Int) < (a.f1.length : Int) := by omega
            cases hab : (xa == xb) with
            | false =>
              have habn : (xa != xb) = true := by simp [bne, hab]
              have hr : Hid (same a b = false) := Lib.hid (same_ne (by intro h; rw [ha, hb, h] at hab; simp at hab))
              clear ha hb hu
              go_wp2
              go_quiet (fail)
              go_wp2
              go_ret
              exact ⟨by rw [hr.out]; rfl, pw_below_drewN hBW.out _⟩
            | true =>
              have habn : (xa != xb) = false := by simp [bne, hab]
              have hu' : Hid (∀ i, i < k + 1 → a.f1.getD i 0 = b.f1.getD i 0) := Lib.hid (fun i hi => by
                rcases Nat.lt_or_ge i k with h | h
                · exact hu.out i h
                · obtain rfl : i = k := by omega
                  rw [← ha, ← hb]; exact eq_of_beq hab)
              clear ha hb hu
              go_wp2
              go_quiet (fail)
              go_wp2
              go_roundw
              case rel => exact ⟨k + 1, by omega, by go_num, hu', pw_below_drewN HB.out _⟩
              case measure => simp [intOf]; omega
          · obtain rfl : k = a.f1.length := by omega
            have hr : Hid (same a b = true) := Lib.hid (same_iff.2 (by
              obtain ⟨q0, q2, q1⟩ := HE.out
              have := ext_getD 0 q1 hu.out
              cases a; cases b; simp only [S31.mk.injEq]; exact ⟨q0, this, q2⟩))
            clear hu
            go_wp2
            go_ret
            exact ⟨by rw [hr.out]; rfl, hBW.out⟩
theorem toL_inj2 {a b : ByteArray} : a.toList = b.toList ↔ a = b := by
  refine ⟨fun h => ?_, fun h => by rw [h]⟩
  rw [ByteArray.toList_eq, ByteArray.toList_eq] at h
  exact ByteArray.ext (Array.toList_inj.1 h)
end Go.Proofs.YtdgebcgcabhjoaaDoor.P
/- value.own, value.all, value.Check by value. -/
namespace Go.Proofs.YtdgebcgcabhjoaaDoor.P
set_option linter.unusedVariables false
set_option linter.unusedSimpArgs false
open Go.RowKit Go.Proofs.YtdgebcgcabhjoaaDoorW.PrintWords Go.Proofs.YtdgebcgcabhjoaaDoorW.PrintMore Go.Proofs.YtdgebcgcabhjoaaDoorW.PrintLast
theorem blk_below2 {W w1 : World} {g : Nat} {o : Obj} (hg : W.heap[g]? = some o) (hb : Below W.heap.size W w1) : w1.heap[g]? = some o := (hb.block g (blk_lt hg)).trans hg
/-- A value's error, but of its parts. -/
def vown (x : V) : Int := if x.f0 < 0 ∨ 6 < x.f0 then 23 else if vtexts x ≠ 0 then vtexts x else if 4096 < max x.f3.length x.f4.length then 5 else if vnumbers x && vused x && vrises x.f4 then 0 else 9
set_option maxHeartbeats 4000000 in
set_option maxRecDepth 100000 in
theorem own_any (x : V) (cs : List Value) (w : World) (hLD : LaidW w) (hK : k34.K w x cs) (hO : OkV x) :
    Calls Tryd.prog 31 #[.agg cs.toArray] w fun e w' => e = .returned (.int .i64 (vown x)) ∧ Below w.heap.size w w' := by
  obtain ⟨A2, c2, A5, c5, A6, c6, rfl, l2, g2, l5, g5, l6, g6⟩ := k34_open hK
  have HK := Lib.hid hK
  have HC := Lib.hid g6
  have HO := Lib.hid hO
  have HL := Lib.hid hLD
  have n3 := hO.len3
  have n4 := hO.len4
  clear g2 l2 l5 g5 l6 g6 hK hO hLD
  unfold vown
  by_cases hlo : x.f0 < 0
  · rw [if_pos (.inl hlo)]
    go_enter Tryd.func31, Tryd.ntmps31
    go_wp2
    go_ret
    exact ⟨rfl, (Below.refl _ _).alloc (Nat.le_refl _) _⟩
  by_cases hhi : 6 < x.f0
  · rw [if_pos (.inr hhi)]
    go_enter Tryd.func31, Tryd.ntmps31
    go_wp2
    go_ret
    exact ⟨rfl, (Below.refl _ _).alloc (Nat.le_refl _) _⟩
  rw [if_neg (by omega)]
  have hB0 : Hid (Below w.heap.size w (w.alloc (.cells #[.int .i64 x.f0, .bool x.f1.f0, .slice A2 x.f1.f1.length c2, .int .i64 x.f1.f2, .string x.f2, .slice A5 x.f3.length c5, .slice A6 x.f4.length c6] 34))) := Lib.hid ((Below.refl _ _).alloc (Nat.le_refl _) _)
  by_cases ht : vtexts x = 0
  · rw [if_neg (by simpa using ht)]
    by_cases hl : 4096 < max x.f3.length x.f4.length
    · rw [if_pos hl]
      have hl2 : (4096 : Int) < max (x.f3.length : Int) (x.f4.length : Int) := by omega
      go_enter Tryd.func31, Tryd.ntmps31
      go_wp2_with (first | (go_at_call 38; (with_reducible refine (texts_any x _ _ ?hl ?hk HO.out).mono ?_); (case hl => exact HL.out.below hB0.out); (case hk => exact k34.K_below hB0.out HK.out); rw [ht]; rintro e w1 ⟨rfl, hB1⟩; obtain ⟨hcl, hfz⟩ := bcells (blk_new w _) hB1; have hB2 := below_box (Below.refl _ _) (Nat.le_refl _) hB1))
      go_ret
      exact ⟨rfl, hB2⟩
    · rw [if_neg hl]
      have hl2 : ¬ (4096 : Int) < max (x.f3.length : Int) (x.f4.length : Int) := by omega
      cases hn : vnumbers x with
      | false =>
        go_enter Tryd.func31, Tryd.ntmps31
        go_wp2_with (first | (go_at_call 38; (with_reducible refine (texts_any x _ _ ?hl ?hk HO.out).mono ?_); (case hl => exact HL.out.below hB0.out); (case hk => exact k34.K_below hB0.out HK.out); rw [ht]; rintro e w1 ⟨rfl, hB1⟩; obtain ⟨hcl, hfz⟩ := bcells (blk_new w _) hB1; have hB2 := below_box (Below.refl _ _) (Nat.le_refl _) hB1; have hb2 := blk_below2 (blk_new w _) hB1) | (go_at_call 39; (with_reducible refine (numbers_any x _ _ ?hk HO.out).mono ?_); (case hk => exact k34.K_below hB2 HK.out); rw [hn]; rintro e w3 ⟨rfl, hB3⟩; obtain ⟨hcl3, hfz3⟩ := bcells hb2 hB3; have hB4 := hB2.trans (hB3.mono hB2.size); have hb4 := blk_below2 hb2 hB3) | (go_at_call 40; (with_reducible refine (used_any x _ _ ?hk).mono ?_); (case hk => exact k34.K_below hB4 HK.out); rw [hu]; rintro e w5 ⟨rfl, hB5⟩; obtain ⟨hcl5, hfz5⟩ := bcells hb4 hB5; have hB6 := hB4.trans (hB5.mono hB4.size)) | (go_at_call 41; (with_reducible refine (rises_any _ _ _ _ ?hc).mono ?_); (case hc => exact Kd.C_below HC.out hB6); rw [hr]; rintro e w7 ⟨rfl, hB7⟩; have hB8 := hB6.trans (hB7.mono hB6.size)))
        go_ret
        exact ⟨rfl, hB4⟩
      | true =>
        cases hu : vused x with
        | false =>
          go_enter Tryd.func31, Tryd.ntmps31
          go_wp2_with (first | (go_at_call 38; (with_reducible refine (texts_any x _ _ ?hl ?hk HO.out).mono ?_); (case hl => exact HL.out.below hB0.out); (case hk => exact k34.K_below hB0.out HK.out); rw [ht]; rintro e w1 ⟨rfl, hB1⟩; obtain ⟨hcl, hfz⟩ := bcells (blk_new w _) hB1; have hB2 := below_box (Below.refl _ _) (Nat.le_refl _) hB1; have hb2 := blk_below2 (blk_new w _) hB1) | (go_at_call 39; (with_reducible refine (numbers_any x _ _ ?hk HO.out).mono ?_); (case hk => exact k34.K_below hB2 HK.out); rw [hn]; rintro e w3 ⟨rfl, hB3⟩; obtain ⟨hcl3, hfz3⟩ := bcells hb2 hB3; have hB4 := hB2.trans (hB3.mono hB2.size); have hb4 := blk_below2 hb2 hB3) | (go_at_call 40; (with_reducible refine (used_any x _ _ ?hk).mono ?_); (case hk => exact k34.K_below hB4 HK.out); rw [hu]; rintro e w5 ⟨rfl, hB5⟩; obtain ⟨hcl5, hfz5⟩ := bcells hb4 hB5; have hB6 := hB4.trans (hB5.mono hB4.size)) | (go_at_call 41; (with_reducible refine (rises_any _ _ _ _ ?hc).mono ?_); (case hc => exact Kd.C_below HC.out hB6); rw [hr]; rintro e w7 ⟨rfl, hB7⟩; have hB8 := hB6.trans (hB7.mono hB6.size)))
          go_ret
          exact ⟨rfl, hB6⟩
        | true =>
          cases hr : vrises x.f4 with
          | false =>
            go_enter Tryd.func31, Tryd.ntmps31
            go_wp2_with (first | (go_at_call 38; (with_reducible refine (texts_any x _ _ ?hl ?hk HO.out).mono ?_); (case hl => exact HL.out.below hB0.out); (case hk => exact k34.K_below hB0.out HK.out); rw [ht]; rintro e w1 ⟨rfl, hB1⟩; obtain ⟨hcl, hfz⟩ := bcells (blk_new w _) hB1; have hB2 := below_box (Below.refl _ _) (Nat.le_refl _) hB1; have hb2 := blk_below2 (blk_new w _) hB1) | (go_at_call 39; (with_reducible refine (numbers_any x _ _ ?hk HO.out).mono ?_); (case hk => exact k34.K_below hB2 HK.out); rw [hn]; rintro e w3 ⟨rfl, hB3⟩; obtain ⟨hcl3, hfz3⟩ := bcells hb2 hB3; have hB4 := hB2.trans (hB3.mono hB2.size); have hb4 := blk_below2 hb2 hB3) | (go_at_call 40; (with_reducible refine (used_any x _ _ ?hk).mono ?_); (case hk => exact k34.K_below hB4 HK.out); rw [hu]; rintro e w5 ⟨rfl, hB5⟩; obtain ⟨hcl5, hfz5⟩ := bcells hb4 hB5; have hB6 := hB4.trans (hB5.mono hB4.size)) | (go_at_call 41; (with_reducible refine (rises_any _ _ _ _ ?hc).mono ?_); (case hc => exact Kd.C_below HC.out hB6); rw [hr]; rintro e w7 ⟨rfl, hB7⟩; have hB8 := hB6.trans (hB7.mono hB6.size)))
            go_ret
            exact ⟨rfl, hB8⟩
          | true =>
            go_enter Tryd.func31, Tryd.ntmps31
            go_wp2_with (first | (go_at_call 38; (with_reducible refine (texts_any x _ _ ?hl ?hk HO.out).mono ?_); (case hl => exact HL.out.below hB0.out); (case hk => exact k34.K_below hB0.out HK.out); rw [ht]; rintro e w1 ⟨rfl, hB1⟩; obtain ⟨hcl, hfz⟩ := bcells (blk_new w _) hB1; have hB2 := below_box (Below.refl _ _) (Nat.le_refl _) hB1; have hb2 := blk_below2 (blk_new w _) hB1) | (go_at_call 39; (with_reducible refine (numbers_any x _ _ ?hk HO.out).mono ?_); (case hk => exact k34.K_below hB2 HK.out); rw [hn]; rintro e w3 ⟨rfl, hB3⟩; obtain ⟨hcl3, hfz3⟩ := bcells hb2 hB3; have hB4 := hB2.trans (hB3.mono hB2.size); have hb4 := blk_below2 hb2 hB3) | (go_at_call 40; (with_reducible refine (used_any x _ _ ?hk).mono ?_); (case hk => exact k34.K_below hB4 HK.out); rw [hu]; rintro e w5 ⟨rfl, hB5⟩; obtain ⟨hcl5, hfz5⟩ := bcells hb4 hB5; have hB6 := hB4.trans (hB5.mono hB4.size)) | (go_at_call 41; (with_reducible refine (rises_any _ _ _ _ ?hc).mono ?_); (case hc => exact Kd.C_below HC.out hB6); rw [hr]; rintro e w7 ⟨rfl, hB7⟩; have hB8 := hB6.trans (hB7.mono hB6.size)))
            go_ret
            exact ⟨rfl, hB8⟩
  · rw [if_pos ht]
    have htb : (vtexts x != 0) = true := by simpa using ht
    clear ht
    go_enter Tryd.func31, Tryd.ntmps31
    go_wp2_with (first | (go_at_call 38; (with_reducible refine (texts_any x _ _ ?hl ?hk HO.out).mono ?_); (case hl => exact HL.out.below hB0.out); (case hk => exact k34.K_below hB0.out HK.out); rintro e w1 ⟨rfl, hB1⟩; obtain ⟨hcl, hfz⟩ := bcells (blk_new w _) hB1; have hB2 := below_box (Below.refl _ _) (Nat.le_refl _) hB1))
    go_ret
    exact ⟨rfl, hB2⟩
end Go.Proofs.YtdgebcgcabhjoaaDoor.P
/- value.walk, value.all: a range over a value and its parts. -/
namespace Go.Proofs.YtdgebcgcabhjoaaDoor.P
set_option linter.unusedVariables false
set_option linter.unusedSimpArgs false
open Go.RowKit Go.Shelf Go.Proofs.YtdgebcgcabhjoaaDoorW.PrintWords Go.Proofs.YtdgebcgcabhjoaaDoorW.PrintMore Go.Proofs.YtdgebcgcabhjoaaDoorW.PrintLast
attribute [local go_sem] Oper.semAt_some
theorem room_of_none' {F : Fence} (hd : F.depth = none) (k : Nat) : F.room k := fun d h => by rw [hd] at h; cases h
theorem RoundIn.anyDepth' {F : Fence} (hd : F.depth = none) {m m' : Nat} {P : Program} {l : Nat} {f : FuncId} {tmps : Array Value} {assign body : Code} {w : World} {R : Ending → World → Prop}
    (h : RoundIn F m P l f tmps assign body w R) : RoundIn F m' P l f tmps assign body w R := ⟨h.1, fun c cs _ => h.2 c cs (room_of_none' hd _)⟩
theorem YieldAt.anyDepth' {F : Fence} (hd : F.depth = none) {m : Nat} (m' : Nat) {P : Program} {l : Nat} {args : Array Value} {W : World} {R : Ending → World → Prop} (h : YieldAt F m P l args W R) : YieldAt F m' P l args W R := by
  obtain ⟨fn, tmps, assign, body, hy, hR⟩ := h
  exact ⟨fn, tmps, assign, body, hy, RoundIn.anyDepth' hd hR⟩
/-- What a round keeps: what lay below n₀, and all cells. -/
def KpC (n₀ : Nat) (W W' : World) : Prop := Below n₀ W W' ∧ ∀ (k : Nat) (o : Obj), W.heap[k]? = some o → o.isCells = true → W'.heap[k]? = some o
theorem kpC_refl (n₀ : Nat) (W : World) : KpC n₀ W W := ⟨Below.refl _ _, fun _ _ h _ => h⟩
theorem kpC_t {n₀ : Nat} {A B C : World} (h : KpC n₀ A B) (k : KpC n₀ B C) : KpC n₀ A C := ⟨h.1.trans k.1, fun i o hi ho => k.2 i o (h.2 i o hi ho) ho⟩
theorem kpC_below {n₀ : Nat} {W W' : World} (hn : n₀ ≤ W.heap.size) (h : Below W.heap.size W W') : KpC n₀ W W' := ⟨h.mono hn, fun k o hk _ => (h.block k (blk_lt hk)).trans hk⟩
theorem kpC_b {n₀ : Nat} {w : World} (hn : n₀ ≤ w.heap.size) (W : World) (l : Nat) (o o' : Obj) (hl : w.heap.size ≤ l) (h : W.heap[l]? = some o) (h1 : o.isCells = false) (h2 : o.isWalk = false) : KpC n₀ W (W.putObj l o') :=
  ⟨belowK_b hn W l o o' hl h h1 h2, fun k q hk hq => by
    have : k ≠ l := by rintro rfl; rw [h] at hk; cases hk; rw [h1] at hq; cases hq
    exact (World.putObj_heap_other this).trans hk⟩
/-- A value that lies in a world, and its cells. -/
abbrev El (w0 : World) := { p : V × List Value // k34.K w0 p.1 p.2 ∧ OkV p.1 }
def elv {w0 : World} (l : List (El w0)) : List V := l.map fun x => x.1.1
theorem elv_app {w0 : World} (a b : List (El w0)) : elv (a ++ b) = elv a ++ elv b := by simp [elv]
theorem elv_len {w0 : World} (a : List (El w0)) : (elv a).length = a.length := by simp [elv]
mutual
/-- A value and its parts, itself ahead of them. -/
def vall : V → List V
  | ⟨a, b, c, l, d⟩ => ⟨a, b, c, l, d⟩ :: valls l
def valls : List V → List V
  | [] => []
  | x :: l => vall x ++ valls l
end
theorem vall_eq (v : V) : vall v = v :: valls v.f3 := by cases v; rw [vall]
theorem valls_app : ∀ (a b : List V), valls (a ++ b) = valls a ++ valls b
  | [], b => by rw [valls]; rfl
  | x :: a, b => by rw [List.cons_append, valls, valls, valls_app a b, List.append_assoc]
theorem valls_one (x : V) : valls [x] = vall x := by rw [valls, valls, List.append_nil]
/-- An element of a row of values, as cells. -/
theorem at_V {w0 w : World} {A : Option Addr} {l : List V} (h : k34.C w0 A l.length l) (hb : Below w0.heap.size w0 w) (k : Nat) (hk : k < l.length) : ∃ ad a0 a1 a2 a3 a4 a5 a6, A = some ad ∧ k34.K w0 (rd_T34 l (k : Int)) [a0, a1, a2, a3, a4, a5, a6] ∧
    w.cell? (ad.add (k * 7)) = some a0 ∧ w.cell? ⟨(ad.add (k * 7)).block, (ad.add (k * 7)).off + 1, none⟩ = some a1 ∧ w.cell? ⟨(ad.add (k * 7)).block, (ad.add (k * 7)).off + 2, none⟩ = some a2 ∧ w.cell? ⟨(ad.add (k * 7)).block, (ad.add (k * 7)).off + 3, none⟩ = some a3 ∧ w.cell? ⟨(ad.add (k * 7)).block, (ad.add (k * 7)).off + 4, none⟩ = some a4 ∧ w.cell? ⟨(ad.add (k * 7)).block, (ad.add (k * 7)).off + 5, none⟩ = some a5 ∧ w.cell? ⟨(ad.add (k * 7)).block, (ad.add (k * 7)).off + 6, none⟩ = some a6 := by
  obtain ⟨ad, A2, c2, A5, c5, A6, c6, e, q0, q1, q2, q3, q4, q5, q6, l2, g2, l5, g5, l6, g6⟩ := at_T34 h (k : Int) (by omega) (by omega)
  rw [Int.toNat_natCast] at q0 q1 q2 q3 q4 q5 q6
  exact ⟨ad, _, _, _, _, _, _, _, e, k34_mk w0 _ l2 g2 l5 g5 l6 g6, pw_cell_below hb q0, pw_cell_below hb q1, pw_cell_below hb q2, pw_cell_below hb q3, pw_cell_below hb q4, pw_cell_below hb q5, pw_cell_below hb q6⟩
section
variable {w0 : World}
def WPost (b : Bool) (J Jx : List (El w0) → World → Prop) (n₀ : Nat) (pre : List (El w0)) (L : List V) (W : World) (e : Ending) (W' : World) : Prop :=
  (∃ ys, e = .returned (.bool b) ∧ elv ys = L ∧ J (pre ++ ys) W' ∧ KpC n₀ W W') ∨ (∃ q, e = .returned (.bool (!b)) ∧ elv q <+: L ∧ Jx (pre ++ q) W')
set_option maxRecDepth 100000 in
set_option maxHeartbeats 2000000 in
/-- The closure that asks a part. -/
theorem walk1_in (J Jx : List (El w0) → World → Prop) (hJA : ∀ x A B, J x A → A.grownBy B none → J x B) (l n₀ By : Nat) (x : V) (L : List V) (n : Nat) (cs : List Value) (pre : List (El w0)) (W : World)
    (hn₀ : n₀ ≤ W.heap.size) (hy : W.cell? ⟨By, 0, none⟩ = some (.func (.yield l) #[] #[])) (hcs : cs.length = 7)
    (ih : ∀ m W1, Below W.heap.size W W1 → J pre W1 → CallsIn Fence.wide m Tryd.prog 37 #[.agg cs.toArray, .func (.yield l) #[] #[]] W1 (WPost true J Jx n₀ pre L W1)) (hJ : J pre W) :
    CallsIn Fence.wide n Tryd.prog 43 #[.agg cs.toArray, .pointer (some ⟨By, 0, none⟩)] W (WPost false J Jx n₀ pre L W) := by
  have hdd : ∀ k : Nat, (Fence.wide.depth.isSome = true → 1 ≤ k) := fun k h => by cases h
  obtain ⟨a0, a1, a2, a3, a4, a5, a6, rfl⟩ := list7 hcs
  have hb := Lib.hid (below_alloc (Below.refl W.heap.size W) (.cells #[a0, a1, a2, a3, a4, a5, a6] 34))
  have HJ := Lib.hid (hJA pre W (W.alloc (.cells #[a0, a1, a2, a3, a4, a5, a6] 34)) hJ (World.grownBy_alloc _ _ _))
  have IH := Lib.hid ih
  have HN := Lib.hid hn₀
  have hlt := World.block_lt_of_cell? _ _ hy
  have e1 : (W.alloc (.cells #[a0, a1, a2, a3, a4, a5, a6] 34)).cell? ⟨By, 0, none⟩ = some (.func (.yield l) #[] #[]) := pw_cell_below hb.out hy
  clear ih hJ hn₀
  refine callsIn_of_wp Tryd.func43 rfl trivial ?_ rfl
  simp only [Tryd.ntmps43, List.size_toArray, List.length_cons, List.length_nil, Nat.reduceAdd, Nat.reduceSub, Array.replicate_succ, Array.replicate_zero, List.push_toArray, List.append_toArray, List.nil_append, List.cons_append]
  gi_wp2_with (first | (refine ⟨trivial, hdd _, ?_⟩; gi_at_call 37; refine (IH.out _ _ hb.out HJ.out).mono ?_; rintro e W1 (⟨ys, rfl, hy1, hj1, hk1⟩ | ⟨q, rfl, hq, hx⟩)))
  · go_ret
    exact .inl ⟨ys, rfl, hy1, hj1, kpC_t (kpC_below HN.out hb.out) hk1⟩
  · go_ret
    exact .inr ⟨q, rfl, hq, hx⟩
/-- What the walk over a list's values comes to. -/
def IPost (J Jx : List (El w0) → World → Prop) (n₀ : Nat) (pre : List (El w0)) (L : List V) (W : World) (e : Ending) (W' : World) : Prop :=
  (∃ ys, e = .returned (.int .i64 (-1)) ∧ elv ys = L ∧ J (pre ++ ys) W' ∧ KpC n₀ W W') ∨ (∃ q, ∃ k : Nat, e = .returned (.int .i64 k) ∧ elv q <+: L ∧ Jx (pre ++ q) W')
theorem valls_take_succ (l : List V) (k : Nat) (h : k < l.length) : valls (l.take (k + 1)) = valls (l.take k) ++ vall (rd_T34 l (k : Int)) := by
  rw [List.take_succ_eq_append_getElem h, valls_app, valls_one]
  simp [rd_T34, h]
theorem valls_pre (l : List V) (k : Nat) : valls (l.take k) <+: valls l := ⟨valls (l.drop k), by rw [← valls_app, List.take_append_drop]⟩
set_option maxRecDepth 100000 in
set_option maxHeartbeats 2000000 in
theorem walkIdx_in (J Jx : List (El w0) → World → Prop) (hJA : ∀ x A B, J x A → A.grownBy B none → J x B) (l N By : Nat) (L : List V) (A : Option Addr) (c : Nat) (n : Nat) (pre : List (El w0)) (W : World)
    (hC : k34.C w0 A L.length L) (hW : Below w0.heap.size w0 W) (hy : W.heap[By]? = some (.cells #[.func (.yield l) #[] #[]] 60 (0, 0)))
    (ih : ∀ y ∈ L, ∀ m cs pre' W', k34.K w0 y cs → Below w0.heap.size w0 W' → J pre' W' → pre'.length + (vall y).length ≤ N → CallsIn Fence.wide m Tryd.prog 37 #[.agg cs.toArray, .func (.yield l) #[] #[]] W' (WPost true J Jx w0.heap.size pre' (vall y) W'))
    (hJ : J pre W) (hN : pre.length + (valls L).length ≤ N) :
    CallsIn Fence.wide n Tryd.prog 47 #[.slice A L.length c, .func (.func 43) #[] #[.pointer (some ⟨By, 0, none⟩)]] W (IPost J Jx w0.heap.size pre (valls L) W) := by
  have hdd : ∀ k : Nat, (Fence.wide.depth.isSome = true → 1 ≤ k) := fun k h => by cases h
  have HC := Lib.hid hC
  have HW := Lib.hid hW
  have HY := Lib.hid hy
  have IH := Lib.hid ih
  have HJ := Lib.hid hJ
  have hlen := hC.2.1
  clear hC hW hy ih hJ
  refine callsIn_of_wp Tryd.func47 rfl trivial ?_ rfl
  simp only [Tryd.ntmps47, List.size_toArray, List.length_cons, List.length_nil, Nat.reduceAdd, Nat.reduceSub, Array.replicate_succ, Array.replicate_zero, List.push_toArray, List.append_toArray, List.nil_append, List.cons_append]
  gi_wp2
  gi_loopw [8] (fun i wr => ∃ (k : Nat) (ys : List (El w0)), k ≤ L.length ∧ i = .int .i64 k ∧ Hid (elv ys = valls (L.take k)) ∧ Hid (J (pre ++ ys) wr) ∧ Hid (KpC w0.heap.size W wr)) (fun i _ => L.length - (intOf i).toNat)
  case atStart => exact ⟨0, [], Nat.zero_le _, rfl, Lib.hid (by simp [elv, valls]), Lib.hid (by simpa using HJ.out), Lib.hid (kpC_refl _ _)⟩
  case round =>
    obtain ⟨k, ys, hk, rfl, hys, hJr, hK⟩ := hrel
    by_cases hlt : k < L.length
    · have hBr := Lib.hid (HW.out.trans hK.out.1)
      obtain ⟨ad, a0, a1, a2, a3, a4, a5, a6, rfl, hKx, q0, q1, q2, q3, q4, q5, q6⟩ := at_V HC.out hBr.out k hlt
      have hmem := Lib.hid (show rd_T34 L (k : Int) ∈ L by unfold rd_T34; simp [hlt])
      have hln : (pre ++ ys).length + (vall (rd_T34 L (k : Int))).length ≤ N := by
        have h1 := congrArg List.length hys.out
        have h2 := congrArg List.length (valls_take_succ L k hlt)
        have h3 := (valls_pre L (k + 1)).length_le
        rw [elv_len] at h1
        rw [List.length_append] at h2 ⊢
        omega
      have hcall := Lib.hid (walk1_in J Jx hJA l w0.heap.size By (rd_T34 L (k : Int)) (vall (rd_T34 L (k : Int))) (n - 1) [a0, a1, a2, a3, a4, a5, a6] (pre ++ ys) wr hBr.out.size ((blk_cell (hK.out.2 By _ HY.out rfl) 0).trans rfl) rfl
        (fun m W1 hb hj => IH.out _ hmem.out m _ _ W1 hKx (hBr.out.trans (hb.mono hBr.out.size)) hj hln) hJr.out)
      have hs := Lib.hid (valls_take_succ L k hlt)
      have hp := Lib.hid (valls_pre L (k + 1))
      have hw : wrap64 ((k : Int) + 1) = ((k + 1 : Nat) : Int) := by unfold wrap64; omega
      clear hKx hln
      gi_wp2_with (first | (refine ⟨trivial, hdd _, ?_⟩; gi_at_call 43; refine hcall.out.mono ?_; rintro e W1 (⟨zs, rfl, hz1, hj1, hk1⟩ | ⟨q, rfl, hq, hx⟩)))
      · have HZ := Lib.hid hz1
        have HJ1 := Lib.hid hj1
        have HK1 := Lib.hid hk1
        clear hz1 hj1 hk1
        go_roundw
        case rel => exact ⟨k + 1, ys ++ zs, by omega, by go_num, Lib.hid (by rw [elv_app, hys.out, HZ.out, hs.out]), Lib.hid (by rw [← List.append_assoc]; exact HJ1.out), Lib.hid (kpC_t hK.out HK1.out)⟩
        case measure => simp [intOf]; omega
      · go_ret
        refine .inr ⟨ys ++ q, k, rfl, ?_, by rw [← List.append_assoc]; exact hx⟩
        rw [elv_app, hys.out]
        refine List.IsPrefix.trans ?_ hp.out
        rw [hs.out]
        exact (List.prefix_append_right_inj _).2 hq
    · obtain rfl : k = L.length := by omega
      rw [List.take_length] at hys
      gi_wp2
      go_ret
      exact .inl ⟨ys, rfl, hys.out, hJr.out, hK.out⟩
set_option maxHeartbeats 1000000 in
theorem walkCont_in (J Jx : List (El w0) → World → Prop) (n₀ By : Nat) (L : List V) (A : Option Addr) (c : Nat) (n : Nat) (pre : List (El w0)) (W : World)
    (h : CallsIn Fence.wide (n - 1) Tryd.prog 47 #[.slice A L.length c, .func (.func 43) #[] #[.pointer (some ⟨By, 0, none⟩)]] W (IPost J Jx n₀ pre (valls L) W)) :
    CallsIn Fence.wide n Tryd.prog 42 #[.slice A L.length c, .func (.func 43) #[] #[.pointer (some ⟨By, 0, none⟩)]] W (WPost false J Jx n₀ pre (valls L) W) := by
  have hdd : ∀ k : Nat, (Fence.wide.depth.isSome = true → 1 ≤ k) := fun k h => by cases h
  have H := Lib.hid h
  clear h
  refine callsIn_of_wp Tryd.func42 rfl trivial ?_ rfl
  simp only [Tryd.ntmps42, List.size_toArray, List.length_cons, List.length_nil, Nat.reduceAdd, Nat.reduceSub, Array.replicate_succ, Array.replicate_zero, List.push_toArray, List.append_toArray, List.nil_append, List.cons_append]
  gi_wp2_with (first | (refine ⟨trivial, hdd _, ?_⟩; gi_at_call 47; refine H.out.mono ?_; rintro e W1 (⟨ys, rfl, hy1, hj1, hk1⟩ | ⟨q, k, rfl, hq, hx⟩)))
  · go_ret
    exact .inl ⟨ys, rfl, hy1, hj1, hk1⟩
  · go_ret
    exact .inr ⟨q, by simp, hq, hx⟩
set_option maxRecDepth 100000 in
set_option maxHeartbeats 4000000 in
theorem walk_in (J Jx : List (El w0) → World → Prop) (hJA : ∀ x A B, J x A → A.grownBy B none → J x B) (l N : Nat)
    (hY : ∀ m pre x W, J pre W → pre.length < N → YieldAt Fence.wide m Tryd.prog l #[.agg x.1.2.toArray] W fun e W' => (e = .returned (.bool true) ∧ J (pre ++ [x]) W' ∧ KpC w0.heap.size W W') ∨ (e = .returned (.bool false) ∧ Jx (pre ++ [x]) W')) :
    ∀ v : V, OkV v → ∀ n cs pre W, k34.K w0 v cs → Below w0.heap.size w0 W → J pre W → pre.length + (vall v).length ≤ N →
      CallsIn Fence.wide n Tryd.prog 37 #[.agg cs.toArray, .func (.yield l) #[] #[]] W (WPost true J Jx w0.heap.size pre (vall v) W) := by
  refine V.ind fun v ih => ?_
  intro hO n cs pre W hK hW hJ hN
  have hdd : ∀ k : Nat, (Fence.wide.depth.isSome = true → 1 ≤ k) := fun k h => by cases h
  obtain ⟨A2, c2, A5, c5, A6, c6, rfl, l2, g2, l5, g5, l6, g6⟩ := k34_open hK
  obtain ⟨W2, hW2⟩ : ∃ W2, W2 = (W.alloc (.cells #[.int .i64 v.f0, .bool v.f1.f0, .slice A2 v.f1.f1.length c2, .int .i64 v.f1.f2, .string v.f2, .slice A5 v.f3.length c5, .slice A6 v.f4.length c6] 34)).alloc (.cells #[.func (.yield l) #[] #[]] 60) := ⟨_, rfl⟩
  have hb2 : Below W.heap.size W W2 := by rw [hW2]; exact ((Below.refl _ _).alloc (Nat.le_refl _) _).alloc (by simp) _
  have hJ2 : J pre W2 := by rw [hW2]; exact hJA _ _ _ (hJA _ _ _ hJ (World.grownBy_alloc _ _ _)) (World.grownBy_alloc _ _ _)
  have hv2 : W2.heap[W.heap.size]? = some (.cells #[.int .i64 v.f0, .bool v.f1.f0, .slice A2 v.f1.f1.length c2, .int .i64 v.f1.f2, .string v.f2, .slice A5 v.f3.length c5, .slice A6 v.f4.length c6] 34 (0, 0)) := by rw [hW2]; exact blk_alloc (blk_new _ _) _
  have hy2 : W2.heap[W.heap.size + 1]? = some (.cells #[.func (.yield l) #[] #[]] 60 (0, 0)) := by rw [hW2]; have := blk_new (W.alloc (.cells #[.int .i64 v.f0, .bool v.f1.f0, .slice A2 v.f1.f1.length c2, .int .i64 v.f1.f2, .string v.f2, .slice A5 v.f3.length c5, .slice A6 v.f4.length c6] 34)) (.cells #[.func (.yield l) #[] #[]] 60); rwa [World.size_alloc] at this
  have hWB : Below w0.heap.size w0 W2 := hW.trans (hb2.mono hW.size)
  rw [vall_eq, List.length_cons] at hN
  -- the yield's word, with what the walk wants next laid beside it
  obtain ⟨x0, hx0⟩ : ∃ x0 : El w0, x0 = ⟨(v, _), hK, hO⟩ := ⟨_, rfl⟩
  have hx1 : elv [x0] = [v] := by rw [hx0]; rfl
  have hcall : ∀ W3, J (pre ++ [x0]) W3 → KpC w0.heap.size W2 W3 → CallsIn Fence.wide (n - 1) Tryd.prog 42 #[.slice A5 v.f3.length c5, .func (.func 43) #[] #[.pointer (some ⟨W.heap.size + 1, 0, none⟩)]] W3 (WPost false J Jx w0.heap.size (pre ++ [x0]) (valls v.f3) W3) := fun W3 hj hk =>
    walkCont_in J Jx w0.heap.size (W.heap.size + 1) v.f3 A5 c5 (n - 1) (pre ++ [x0]) W3 (walkIdx_in J Jx hJA l N (W.heap.size + 1) v.f3 A5 c5 (n - 1 - 1) (pre ++ [x0]) W3 g5 (hWB.trans hk.1) (hk.2 _ _ hy2 rfl)
      (fun y hy m cs' pre' W' hK' hW' hJ' hN' => ih y hy (hO.kids y hy) m cs' pre' W' hK' hW' hJ' hN') hj (by rw [List.length_append]; simp; omega))
  have hyy := YieldAt.mono (hY (n - 1) pre x0 W2 hJ2 (by omega)) (R' := fun e W3 => (e = .returned (.bool true) ∧ W3.cell? ⟨W.heap.size, 5, none⟩ = some (.slice A5 v.f3.length c5) ∧ W3.cell? ⟨W.heap.size + 1, 0, none⟩ = some (.func (.yield l) #[] #[]) ∧ Hid (J (pre ++ [x0]) W3) ∧ Hid (KpC w0.heap.size W2 W3)) ∨ (e = .returned (.bool false) ∧ Hid (Jx (pre ++ [x0]) W3)))
    (fun e W3 h => h.elim (fun ⟨he, hj, hk⟩ => .inl ⟨he, (blk_cell (hk.2 _ _ hv2 rfl) 5).trans rfl, (blk_cell (hk.2 _ _ hy2 rfl) 0).trans rfl, Lib.hid hj, Lib.hid hk⟩) (fun ⟨he, hx⟩ => .inr ⟨he, Lib.hid hx⟩))
  obtain ⟨fn, tmps, assign, body, hy, hR⟩ := hyy
  have HR := Lib.hid hR
  have HCALL := Lib.hid hcall
  have HX1 := Lib.hid hx1
  have HKP : Hid (KpC w0.heap.size W W2) := Lib.hid (kpC_below hW.size hb2)
  rw [vall_eq]
  rw [show x0.1.2 = [.int .i64 v.f0, .bool v.f1.f0, .slice A2 v.f1.f1.length c2, .int .i64 v.f1.f2, .string v.f2, .slice A5 v.f3.length c5, .slice A6 v.f4.length c6] by rw [hx0]] at hy
  clear hR hcall hx1 hx0 hWB hy2 hv2 hJ2 hb2 hN hW hJ hO hY ih g2 g5 g6 l2 l5 l6 hK
  subst hW2
  refine callsIn_of_wp Tryd.func37 rfl trivial ?_ rfl
  simp only [Tryd.ntmps37, List.size_toArray, List.length_cons, List.length_nil, Nat.reduceAdd, Nat.reduceSub, Array.replicate_succ, Array.replicate_zero, List.push_toArray, List.append_toArray, List.nil_append, List.cons_append]
  gi_wp2_with (first
    | (refine ⟨hdd _, ?_⟩; refine HR.out.mono ?_; clear HR; rintro e W3 (⟨rfl, hc5, hc1, hj3, hk3⟩ | ⟨rfl, hx3⟩))
    | (refine ⟨trivial, hdd _, ?_⟩; gi_at_call 42; refine (HCALL.out _ hj3.out hk3.out).mono ?_; rintro e W4 (⟨ys, rfl, hy4, hj4, hk4⟩ | ⟨q, rfl, hq, hx⟩)))
  · go_ret
    exact .inl ⟨x0 :: ys, rfl, by rw [show x0 :: ys = [x0] ++ ys from rfl, elv_app, HX1.out, hy4]; rfl, by rw [show x0 :: ys = [x0] ++ ys from rfl, ← List.append_assoc]; exact hj4, kpC_t (kpC_t HKP.out hk3.out) hk4⟩
  · go_ret
    exact .inr ⟨x0 :: q, rfl, by rw [show x0 :: q = [x0] ++ q from rfl, elv_app, HX1.out]; exact (List.prefix_cons_inj _).2 hq, by rw [show x0 :: q = [x0] ++ q from rfl, ← List.append_assoc]; exact hx⟩
  · refine ⟨trivial, ?_⟩
    gi_wp2
    go_ret
    exact .inr ⟨[x0], rfl, by rw [HX1.out]; exact (List.prefix_cons_inj _).2 (List.nil_prefix), hx3.out⟩
end
end Go.Proofs.YtdgebcgcabhjoaaDoor.P
/- bolterref05.Same by value. -/
namespace Go.Proofs.YtdgebcgcabhjoaaDoor.P
set_option linter.unusedVariables false
set_option linter.unusedSimpArgs false
open Go.RowKit Go.Proofs.YtdgebcgcabhjoaaDoorW.PrintWords Go.Proofs.YtdgebcgcabhjoaaDoorW.PrintMore Go.Proofs.YtdgebcgcabhjoaaDoorW.PrintLast
set_option maxHeartbeats 1000000 in
set_option maxRecDepth 100000 in
theorem Same_any : ∀ (x : V) (cs : List Value) (y : V) (ds : List Value) (w : World), k34.K w x cs → k34.K w y ds →
    Calls Tryd.prog 19 #[.agg cs.toArray, .agg ds.toArray] w fun e w' => e = .returned (.bool (same x y)) ∧ Below w.heap.size w w' := by
  refine V.ind fun x ih => ?_
  intro cs y ds w hKx hKy
  obtain ⟨A2, c2, A5, c5, A6, c6, rfl, l2, g2, l5, g5, l6, g6⟩ := k34_open hKx
  obtain ⟨B2, d2, B5, d5, B6, d6, rfl, m2, r2, m5, r5, m6, r6⟩ := k34_open hKy
  have HX2 := Lib.hid g2
  have HX5 := Lib.hid g5
  have HX6 := Lib.hid g6
  have HY2 := Lib.hid r2
  have HY5 := Lib.hid r5
  have HY6 := Lib.hid r6
  have hl5 := g5.2.1
  have hl6 := g6.2.1
  clear hKx hKy g2 g5 g6 r2 r5 r6 l2 l5 l6 m2 m5 m6
  have IH := Lib.hid ih
  clear ih
  have hB0 : Below w.heap.size w ((w.alloc (Obj.cells #[Value.int IntKind.i64 x.f0, Value.bool x.f1.f0, Value.slice A2 x.f1.f1.length c2, Value.int IntKind.i64 x.f1.f2, Value.string x.f2, Value.slice A5 x.f3.length c5, Value.slice A6 x.f4.length c6] 34 (0, 0))).alloc (Obj.cells #[Value.int IntKind.i64 y.f0, Value.bool y.f1.f0, Value.slice B2 y.f1.f1.length d2, Value.int IntKind.i64 y.f1.f2, Value.string y.f2, Value.slice B5 y.f3.length d5, Value.slice B6 y.f4.length d6] 34 (0, 0))) := ((Below.refl _ _).alloc (Nat.le_refl _) _).alloc (by simp) _
  have g1 := blk_new (w.alloc (Obj.cells #[Value.int IntKind.i64 x.f0, Value.bool x.f1.f0, Value.slice A2 x.f1.f1.length c2, Value.int IntKind.i64 x.f1.f2, Value.string x.f2, Value.slice A5 x.f3.length c5, Value.slice A6 x.f4.length c6] 34 (0, 0))) (Obj.cells #[Value.int IntKind.i64 y.f0, Value.bool y.f1.f0, Value.slice B2 y.f1.f1.length d2, Value.int IntKind.i64 y.f1.f2, Value.string y.f2, Value.slice B5 y.f3.length d5, Value.slice B6 y.f4.length d6] 34 (0, 0))
  have g0 := blk_new w (Obj.cells #[Value.int IntKind.i64 x.f0, Value.bool x.f1.f0, Value.slice A2 x.f1.f1.length c2, Value.int IntKind.i64 x.f1.f2, Value.string x.f2, Value.slice A5 x.f3.length c5, Value.slice A6 x.f4.length c6] 34 (0, 0))
  replace g0 := (((Below.refl _ (w.alloc (Obj.cells #[Value.int IntKind.i64 x.f0, Value.bool x.f1.f0, Value.slice A2 x.f1.f1.length c2, Value.int IntKind.i64 x.f1.f2, Value.string x.f2, Value.slice A5 x.f3.length c5, Value.slice A6 x.f4.length c6] 34 (0, 0)))).alloc (Nat.le_refl _) (Obj.cells #[Value.int IntKind.i64 y.f0, Value.bool y.f1.f0, Value.slice B2 y.f1.f1.length d2, Value.int IntKind.i64 y.f1.f2, Value.string y.f2, Value.slice B5 y.f3.length d5, Value.slice B6 y.f4.length d6] 34 (0, 0))).block _ (blk_lt g0)).trans g0
  rw [show (w.alloc (Obj.cells #[Value.int IntKind.i64 x.f0, Value.bool x.f1.f0, Value.slice A2 x.f1.f1.length c2, Value.int IntKind.i64 x.f1.f2, Value.string x.f2, Value.slice A5 x.f3.length c5, Value.slice A6 x.f4.length c6] 34 (0, 0))).heap.size = w.heap.size + 1 by simp] at g1
  have G := Lib.hid (And.intro g0 g1)
  have HB0 := Lib.hid hB0
  have HLE : Hid (w.heap.size ≤ ((w.alloc (Obj.cells #[Value.int IntKind.i64 x.f0, Value.bool x.f1.f0, Value.slice A2 x.f1.f1.length c2, Value.int IntKind.i64 x.f1.f2, Value.string x.f2, Value.slice A5 x.f3.length c5, Value.slice A6 x.f4.length c6] 34 (0, 0))).alloc (Obj.cells #[Value.int IntKind.i64 y.f0, Value.bool y.f1.f0, Value.slice B2 y.f1.f1.length d2, Value.int IntKind.i64 y.f1.f2, Value.string y.f2, Value.slice B5 y.f3.length d5, Value.slice B6 y.f4.length d6] 34 (0, 0))).heap.size) := Lib.hid hB0.size
  clear g0 g1 hB0
  cases h0 : (x.f0 == y.f0) with
  | false =>
    have h0b : (x.f0 != y.f0) = true := by simp [bne, h0]
    have hn : x ≠ y := by intro h; rw [h] at h0; simp at h0
    rw [same_ne hn]
    clear hn
    go_enter Tryd.func19, Tryd.ntmps19
    go_wp2
    go_ret
    exact ⟨rfl, HB0.out⟩
  | true =>
    have h0b : (x.f0 != y.f0) = false := by simp [bne, h0]
    cases h1 : same x.f1 y.f1 with
    | false =>
      have hn : x ≠ y := by intro h; rw [h, same_refl] at h1; cases h1
      rw [same_ne hn]
      clear hn
      go_enter Tryd.func19, Tryd.ntmps19
      go_wp2_with (first | (go_at_call 27; (with_reducible refine (dsame_any x.f1 y.f1 _ _ _ _ _ ?ha ?hb).mono ?_); (case ha => exact Kd.C_below HX2.out HB0.out); (case hb => exact Kd.C_below HY2.out HB0.out); rw [h1]; rintro e w1 ⟨rfl, hB1⟩; obtain ⟨hcl0, hfz0⟩ := bcells G.out.1 hB1; obtain ⟨hcl1, hfz1⟩ := bcells G.out.2 hB1; have hB2 := HB0.out.trans (hB1.mono HLE.out)))
      go_ret
      exact ⟨rfl, hB2⟩
    | true =>
      cases h2 : (x.f2.toList == y.f2.toList) with
      | false =>
        have h2b : (x.f2.toList != y.f2.toList) = true := by simp only [bne, h2]; rfl
        have hn : x ≠ y := by intro h; rw [h] at h2; simp at h2
        rw [same_ne hn]
        clear hn
        go_enter Tryd.func19, Tryd.ntmps19
        go_wp2_with (first | (go_at_call 27; (with_reducible refine (dsame_any x.f1 y.f1 _ _ _ _ _ ?ha ?hb).mono ?_); (case ha => exact Kd.C_below HX2.out HB0.out); (case hb => exact Kd.C_below HY2.out HB0.out); rw [h1]; rintro e w1 ⟨rfl, hB1⟩; obtain ⟨hcl0, hfz0⟩ := bcells G.out.1 hB1; obtain ⟨hcl1, hfz1⟩ := bcells G.out.2 hB1; have hB2 := HB0.out.trans (hB1.mono HLE.out)))
        go_ret
        exact ⟨rfl, hB2⟩
      | true =>
        have h2b : (x.f2.toList != y.f2.toList) = false := by simp only [bne, h2]; rfl
        cases h3 : ((x.f3.length : Int) == (y.f3.length : Int)) with
        | false =>
          have h3b : ((x.f3.length : Int) != (y.f3.length : Int)) = true := by simp [bne, h3]
          have hn : x ≠ y := by intro h; rw [h] at h3; simp at h3
          rw [same_ne hn]
          clear hn
          go_enter Tryd.func19, Tryd.ntmps19
          go_wp2_with (first | (go_at_call 27; (with_reducible refine (dsame_any x.f1 y.f1 _ _ _ _ _ ?ha ?hb).mono ?_); (case ha => exact Kd.C_below HX2.out HB0.out); (case hb => exact Kd.C_below HY2.out HB0.out); rw [h1]; rintro e w1 ⟨rfl, hB1⟩; obtain ⟨hcl0, hfz0⟩ := bcells G.out.1 hB1; obtain ⟨hcl1, hfz1⟩ := bcells G.out.2 hB1; have hB2 := HB0.out.trans (hB1.mono HLE.out)))
          go_ret
          exact ⟨rfl, hB2⟩
        | true =>
          have h3b : ((x.f3.length : Int) != (y.f3.length : Int)) = false := by simp [bne, h3]
          cases h4 : ((x.f4.length : Int) == (y.f4.length : Int)) with
          | false =>
            have h4b : ((x.f4.length : Int) != (y.f4.length : Int)) = true := by simp [bne, h4]
            have hn : x ≠ y := by intro h; rw [h] at h4; simp at h4
            rw [same_ne hn]
            clear hn
            go_enter Tryd.func19, Tryd.ntmps19
            go_wp2_with (first | (go_at_call 27; (with_reducible refine (dsame_any x.f1 y.f1 _ _ _ _ _ ?ha ?hb).mono ?_); (case ha => exact Kd.C_below HX2.out HB0.out); (case hb => exact Kd.C_below HY2.out HB0.out); rw [h1]; rintro e w1 ⟨rfl, hB1⟩; obtain ⟨hcl0, hfz0⟩ := bcells G.out.1 hB1; obtain ⟨hcl1, hfz1⟩ := bcells G.out.2 hB1; have hB2 := HB0.out.trans (hB1.mono HLE.out)))
            go_ret
            exact ⟨rfl, hB2⟩
          | true =>
            have h4b : ((x.f4.length : Int) != (y.f4.length : Int)) = false := by simp [bne, h4]
            have hq3 : x.f3.length = y.f3.length := by have := eq_of_beq h3; omega
            have hq4 : x.f4.length = y.f4.length := by have := eq_of_beq h4; omega
            have HE : Hid (x.f0 = y.f0 ∧ x.f1 = y.f1 ∧ x.f2 = y.f2 ∧ x.f3.length = y.f3.length ∧ x.f4.length = y.f4.length) := Lib.hid ⟨eq_of_beq h0, same_iff.1 h1, toL_inj2.1 (eq_of_beq h2), hq3, hq4⟩
            clear hq3 hq4
            go_enter Tryd.func19, Tryd.ntmps19
            go_wp2_with (first | (go_at_call 27; (with_reducible refine (dsame_any x.f1 y.f1 _ _ _ _ _ ?ha ?hb).mono ?_); (case ha => exact Kd.C_below HX2.out HB0.out); (case hb => exact Kd.C_below HY2.out HB0.out); rw [h1]; rintro e w1 ⟨rfl, hB1⟩; obtain ⟨hcl0, hfz0⟩ := bcells G.out.1 hB1; obtain ⟨hcl1, hfz1⟩ := bcells G.out.2 hB1; have hB2 := HB0.out.trans (hB1.mono HLE.out)))
            have HB2 := Lib.hid hB2
            have HL2 : Hid (w.heap.size ≤ w1.heap.size) := Lib.hid hB2.size
            have G2 := Lib.hid (And.intro (blk_below2 G.out.1 hB1) (blk_below2 G.out.2 hB1))
            clear hB2 hB1 hcl0 hfz0 hcl1 hfz1
            clear h0 h2 h3 h4 h0b h2b h3b h4b h1
            go_loopw [5] (fun vi wr => ∃ k : Nat, k ≤ x.f4.length ∧ vi = .int .i64 k ∧ Hid (∀ i, i < k → x.f4.getD i ByteArray.empty = y.f4.getD i ByteArray.empty) ∧ Below w1.heap.size w1 wr) (fun vi _ => x.f4.length - (intOf vi).toNat)
            case atStart => exact ⟨0, Nat.zero_le _, rfl, Lib.hid (fun i h => absurd h (by omega)), Below.refl _ _⟩
            case round =>
              obtain ⟨k, hk, rfl, hu, hB⟩ := hrel
              have HB := Lib.hid hB
              have hBW := Lib.hid (HB2.out.trans (hB.mono HL2.out))
              obtain ⟨hcl0, hfz0⟩ := bcells G2.out.1 hB
              obtain ⟨hcl1, hfz1⟩ := bcells G2.out.2 hB
              clear hB
              by_cases hlt : k < x.f4.length
              · obtain ⟨ad, rfl, hx⟩ := Kd.at_string (Kd.C_below HX6.out hBW.out) (k : Int) (by omega) (by omega)
                obtain ⟨bd, rfl, hy⟩ := Kd.at_string (Kd.C_below HY6.out hBW.out) (k : Int) (by omega) (by have := HE.out; omega)
                rw [Int.toNat_natCast] at hx hy
                have e1 : rdOf ByteArray.empty x.f4 (k : Int) = x.f4.getD k ByteArray.empty := by unfold rdOf; rw [Int.toNat_natCast]
                have e2 : rdOf ByteArray.empty y.f4 (k : Int) = y.f4.getD k ByteArray.empty := by unfold rdOf; rw [Int.toNat_natCast]
                rw [e1] at hx
                rw [e2] at hy
                clear e1 e2
                obtain ⟨xa, ha⟩ : ∃ xa, xa = x.f4.getD k ByteArray.empty := ⟨_, rfl⟩
                obtain ⟨xb, hb⟩ : ∃ xb, xb = y.f4.getD k ByteArray.empty := ⟨_, rfl⟩
                rw [← ha] at hx
                rw [← hb] at hy
                have hw : wrap64 ((k : Int) + 1) = ((k + 1 : Nat) : Int) := by unfold wrap64; omega
                have hlt2 : (k : Int) < (y.f4.length : Int) := by have := HE.out; omega
                have hlt1 : (k : Int) < (x.f4.length : Int) := by omega
                cases hab : (xa.toList == xb.toList) with
                | false =>
                  have habn : (xa.toList != xb.toList) = true := by simp only [bne, hab]; rfl
                  have hr : Hid (same x y = false) := Lib.hid (same_ne (by intro h; rw [ha, hb, h] at hab; simp at hab))
                  clear ha hb hu
                  go_wp2
                  go_quiet (fail)
                  go_wp2
                  go_ret
                  exact ⟨by rw [hr.out]; rfl, pw_below_drewN hBW.out _⟩
                | true =>
                  have habn : (xa.toList != xb.toList) = false := by simp only [bne, hab]; rfl
                  have hu' : Hid (∀ i, i < k + 1 → x.f4.getD i ByteArray.empty = y.f4.getD i ByteArray.empty) := Lib.hid (fun i hi => by
                    rcases Nat.lt_or_ge i k with h | h
                    · exact hu.out i h
                    · obtain rfl : i = k := by omega
                      rw [← ha, ← hb]; exact toL_inj2.1 (eq_of_beq hab))
                  clear ha hb hu
                  go_wp2
                  go_quiet (fail)
                  go_wp2
                  go_roundw
                  case rel => exact ⟨k + 1, by omega, by go_num, hu', pw_below_drewN HB.out _⟩
                  case measure => simp [intOf]; omega
              · obtain rfl : k = x.f4.length := by omega
                have HU4 : Hid (x.f4 = y.f4) := Lib.hid (ext_getD _ HE.out.2.2.2.2 hu.out)
                have HL3 : Hid (w1.heap.size ≤ wr.heap.size) := Lib.hid HB.out.size
                have G3 := Lib.hid (And.intro (blk_below2 G2.out.1 HB.out) (blk_below2 G2.out.2 HB.out))
                clear hu
                go_wp2
                clear hcl0 hfz0 hcl1 hfz1
                go_loopw [6] (fun vi wr2 => ∃ k : Nat, k ≤ x.f3.length ∧ vi = .int .i64 k ∧ Hid (∀ i, i < k → x.f3.getD i z34 = y.f3.getD i z34) ∧ Below w1.heap.size w1 wr2) (fun vi _ => x.f3.length - (intOf vi).toNat)
                case atStart => exact ⟨0, Nat.zero_le _, rfl, Lib.hid (fun i h => absurd h (by omega)), HB.out⟩
                case round =>
                  clear hBW HB hlt hk HL3 G3
                  obtain ⟨k, hk, rfl, hu, hB⟩ := hrel
                  have HB := Lib.hid hB
                  have hBW := Lib.hid (HB2.out.trans (hB.mono HL2.out))
                  obtain ⟨hcl0, hfz0⟩ := bcells G2.out.1 hB
                  obtain ⟨hcl1, hfz1⟩ := bcells G2.out.2 hB
                  clear hB
                  by_cases hlt : k < x.f3.length
                  · have hlt2 : k < y.f3.length := by have := HE.out; omega
                    obtain ⟨ad, a0, a1, a2, a3, a4, a5, a6, rfl, hKa, p0, p1, p2, p3, p4, p5, p6⟩ := at_V HX5.out hBW.out k hlt
                    obtain ⟨bd, b0, b1, b2, b3, b4, b5, b6, rfl, hKb, q0, q1, q2, q3, q4, q5, q6⟩ := at_V HY5.out hBW.out k hlt2
                    have HKA := Lib.hid hKa
                    have HKB := Lib.hid hKb
                    have hmem : rd_T34 x.f3 (k : Int) ∈ x.f3 := by unfold rd_T34; simp [hlt]
                    have HC := Lib.hid (IH.out _ hmem)
                    have hxk : x.f3.getD k z34 = rd_T34 x.f3 (k : Int) := by unfold rd_T34; rw [Int.toNat_natCast]
                    have hyk : y.f3.getD k z34 = rd_T34 y.f3 (k : Int) := by unfold rd_T34; rw [Int.toNat_natCast]
                    have hlt2' : (k : Int) < (y.f3.length : Int) := by omega
                    have hlt1' : (k : Int) < (x.f3.length : Int) := by omega
                    have hw : wrap64 ((k : Int) + 1) = ((k + 1 : Nat) : Int) := by unfold wrap64; omega
                    clear hKa hKb hmem
                    cases hab : same (rd_T34 x.f3 (k : Int)) (rd_T34 y.f3 (k : Int)) with
                    | false =>
                      have hr : Hid (same x y = false) := Lib.hid (same_ne (by intro h; rw [h, same_refl] at hab; cases hab))
                      clear hu hxk hyk
                      go_upto_region 11 with (fail)
                      go_still_tail 10, (by kernel_rfl)
                      change wpList _ _ _ _ _ (wr.drewN 1)
                      have HBD : Hid (Below w.heap.size w (wr.drewN 1)) := Lib.hid (pw_below_drewN hBW.out _)
                      have HBE : Hid (Below w1.heap.size w1 (wr.drewN 1)) := Lib.hid (pw_below_drewN HB.out _)
                      have hszd := HBD.out.size
                      have hszd1 := HBE.out.size
                      generalize wr.drewN 1 = wd at HBD HBE hszd hszd1 ⊢
                      have HCC := Lib.hid (HC.out [a0, a1, a2, a3, a4, a5, a6] _ [b0, b1, b2, b3, b4, b5, b6] wd (k34.K_below HBD.out HKA.out) (k34.K_below HBD.out HKB.out))
                      go_wp2_with (first | (go_at_call 19; refine HCC.out.mono ?_; rw [hab]; rintro e w5 ⟨rfl, hB5⟩; have HB5 := Lib.hid (HBD.out.trans (hB5.mono hszd)); have HB6 := Lib.hid (HBE.out.trans (hB5.mono hszd1))))
                      go_ret
                      exact ⟨by rw [hr.out]; rfl, HB5.out⟩
                    | true =>
                      have hu' : Hid (∀ i, i < k + 1 → x.f3.getD i z34 = y.f3.getD i z34) := Lib.hid (fun i hi => by
                        rcases Nat.lt_or_ge i k with h | h
                        · exact hu.out i h
                        · obtain rfl : i = k := by omega
                          rw [hxk, hyk]; exact same_iff.1 hab)
                      clear hu hxk hyk
                      go_upto_region 11 with (fail)
                      go_still_tail 10, (by kernel_rfl)
                      change wpList _ _ _ _ _ (wr.drewN 1)
                      have HBD : Hid (Below w.heap.size w (wr.drewN 1)) := Lib.hid (pw_below_drewN hBW.out _)
                      have HBE : Hid (Below w1.heap.size w1 (wr.drewN 1)) := Lib.hid (pw_below_drewN HB.out _)
                      have hszd := HBD.out.size
                      have hszd1 := HBE.out.size
                      generalize wr.drewN 1 = wd at HBD HBE hszd hszd1 ⊢
                      have HCC := Lib.hid (HC.out [a0, a1, a2, a3, a4, a5, a6] _ [b0, b1, b2, b3, b4, b5, b6] wd (k34.K_below HBD.out HKA.out) (k34.K_below HBD.out HKB.out))
                      go_wp2_with (first | (go_at_call 19; refine HCC.out.mono ?_; rw [hab]; rintro e w5 ⟨rfl, hB5⟩; have HB5 := Lib.hid (HBD.out.trans (hB5.mono hszd)); have HB6 := Lib.hid (HBE.out.trans (hB5.mono hszd1))))
                      go_roundw
                      case rel => exact ⟨k + 1, by omega, by go_num, hu', HB6.out⟩
                      case measure => simp [intOf]; omega
                  · obtain rfl : k = x.f3.length := by omega
                    have hr : Hid (same x y = true) := Lib.hid (same_iff.2 (by
                      obtain ⟨e0, e1, e2, e3, e4⟩ := HE.out
                      have e5 := ext_getD _ e3 hu.out
                      have e6 := HU4.out
                      cases x; cases y; simp only [S34.mk.injEq]; exact ⟨e0, e1, e2, e5, e6⟩))
                    clear hu
                    go_wp2
                    go_ret
                    exact ⟨by rw [hr.out]; rfl, hBW.out⟩
end Go.Proofs.YtdgebcgcabhjoaaDoor.P
/- slices.Clone of limbs, texts, values. -/
namespace Go.Proofs.YtdgebcgcabhjoaaDoor.P
set_option linter.unusedVariables false
set_option linter.unusedSimpArgs false
open Go.RowKit Go.Proofs.YtdgebcgcabhjoaaDoorW.PrintWords Go.Proofs.YtdgebcgcabhjoaaDoorW.PrintMore Go.Proofs.YtdgebcgcabhjoaaDoorW.PrintLast
theorem infoS_ : (Tryd.prog.info? 9).map (fun i => (i.zero, i.size, i.bytes)) = some (some (.string ⟨#[]⟩), 1, 16) := by kernel_rfl
theorem infoU_ : (Tryd.prog.info? 63).map (fun i => (i.zero, i.size, i.bytes)) = some (some (.int .u32 0), 1, 4) := by kernel_rfl
theorem infoV_ : (Tryd.prog.info? 34).map (fun i => (i.zero, i.size, i.bytes)) = some (some (.agg #[(.int .i64 0), (.bool false), (.slice none 0 0), (.int .i64 0), (.string ⟨#[]⟩), (.slice none 0 0), (.slice none 0 0)]), 7, 112) := by kernel_rfl
theorem own_empty' (w : World) (e size : Nat) : (w.alloc (.cells #[] e)).ownsRow w.heap.size e size (.slice (some ⟨w.heap.size, 0, none⟩) 0 0) 0 [] :=
  ⟨by simp, .inr ⟨w.heap.size, 0, #[], rfl, Nat.le_refl _, heap_alloc_new _ _, Nat.le_refl _, by simp [maxLen], by simp, by simp⟩⟩
theorem C_none {α : Type} {d : Kd α} {w : World} {n : Nat} {xs : List α} (h : d.C w none n xs) : xs = [] := by
  rcases Nat.eq_zero_or_pos n with h0 | h0
  · exact List.eq_nil_of_length_eq_zero (h.1.trans h0)
  · obtain ⟨ad, e, _⟩ := h.2.2 h0; cases e

set_option maxHeartbeats 4000000 in
set_option maxRecDepth 100000 in
theorem clone_u32 (A : Option Addr) (c : Nat) (l : List Int) (w : World) (hr : Kd.C (Kd.int .u32) w A l.length l) (hc : l.length ≤ c) (hz : l.length ≤ 1073741824) :
    Calls Tryd.prog 32 #[.slice A l.length c] w fun e w' => ∃ v0_ : Value, e = .returned (v0_) ∧ Kd.R (Kd.int .u32) 63 w' w.heap.size (fun _ => True) v0_ l ∧ Below w.heap.size w w' := by
  have HR := Lib.hid hr
  clear hr
  cases A with
  | none =>
    obtain rfl := C_none HR.out
    have hq := _root_.Go.run_eql_slice_nil (P := Tryd.prog) (w := w) (t := 29) (e := 63) (a := none) (l := ([] : List Int).length) (c := c) (h := Tryd.underlying29)
    simp only [List.length_nil, Option.isNone_none] at hq ⊢
    go_enter Tryd.func32, Tryd.ntmps32
    go_wp2
    go_ret
    exact ⟨_, rfl, Kd.R_nil _ _ _ _ _, Below.refl _ _⟩
  | some ad =>
    have hq := _root_.Go.run_eql_slice_nil (P := Tryd.prog) (w := w) (t := 29) (e := 63) (a := (some ad)) (l := l.length) (c := c) (h := Tryd.underlying29)
    simp only [Option.isNone_some, Option.isNone_none] at hq
    have HE : Hid (Kd.R (Kd.int .u32) 63 (w.alloc (.cells #[] 63)) w.heap.size (fun _ => True) (.slice (some ⟨w.heap.size, 0, none⟩) 0 0) []) := Lib.hid (Kd.R_of_own (enc := Value.int .u32) (xs := []) (own_empty' w 63 1) (fun _ _ => trivial))
    have HC := Lib.hid (Kd.C_alloc HR.out (.cells #[] 63))
    go_enter Tryd.func32, Tryd.ntmps32
    go_wp2_with (first | (at_builtin; refine Kd.R_append_row (Value.int .u32) (0 : Int) w.heap.size rfl (.tmp 5) (.tmp 6) 29 63 (.int .u32 0) 4 rfl Tryd.underlying29 infoU_ rfl (by decide) _ _ _ _ _ _ _ rfl rfl (fun _ _ => trivial) HE.out HC.out ((Below.refl _ w).alloc (Nat.le_refl _) _) (by simp) (by simp; omega) ?_; intro v1 w1 hR1 hB1 _ _))
    go_ret
    exact ⟨v1, rfl, by have h := hR1; rw [List.nil_append] at h; exact h, hB1⟩

set_option maxHeartbeats 4000000 in
set_option maxRecDepth 100000 in
theorem clone_str (A : Option Addr) (c : Nat) (l : List ByteArray) (w : World) (hr : Kd.C (Kd.string) w A l.length l) (hc : l.length ≤ c) (hz : l.length ≤ 1073741824) :
    Calls Tryd.prog 33 #[.slice A l.length c] w fun e w' => ∃ v0_ : Value, e = .returned (v0_) ∧ Kd.R (Kd.string) 9 w' w.heap.size (fun _ => True) v0_ l ∧ Below w.heap.size w w' := by
  have HR := Lib.hid hr
  clear hr
  cases A with
  | none =>
    obtain rfl := C_none HR.out
    have hq := _root_.Go.run_eql_slice_nil (P := Tryd.prog) (w := w) (t := 32) (e := 9) (a := none) (l := ([] : List ByteArray).length) (c := c) (h := Tryd.underlying32)
    simp only [List.length_nil, Option.isNone_none] at hq ⊢
    go_enter Tryd.func33, Tryd.ntmps33
    go_wp2
    go_ret
    exact ⟨_, rfl, Kd.R_nil _ _ _ _ _, Below.refl _ _⟩
  | some ad =>
    have hq := _root_.Go.run_eql_slice_nil (P := Tryd.prog) (w := w) (t := 32) (e := 9) (a := (some ad)) (l := l.length) (c := c) (h := Tryd.underlying32)
    simp only [Option.isNone_some, Option.isNone_none] at hq
    have HE : Hid (Kd.R (Kd.string) 9 (w.alloc (.cells #[] 9)) w.heap.size (fun _ => True) (.slice (some ⟨w.heap.size, 0, none⟩) 0 0) []) := Lib.hid (Kd.R_of_own (enc := Value.string) (xs := []) (own_empty' w 9 1) (fun _ _ => trivial))
    have HC := Lib.hid (Kd.C_alloc HR.out (.cells #[] 9))
    go_enter Tryd.func33, Tryd.ntmps33
    go_wp2_with (first | (at_builtin; refine Kd.R_append_row (Value.string) (⟨#[]⟩ : ByteArray) w.heap.size rfl (.tmp 5) (.tmp 6) 32 9 (.string ⟨#[]⟩) 16 rfl Tryd.underlying32 infoS_ rfl (by decide) _ _ _ _ _ _ _ rfl rfl (fun _ _ => trivial) HE.out HC.out ((Below.refl _ w).alloc (Nat.le_refl _) _) (by simp) (by simp; omega) ?_; intro v1 w1 hR1 hB1 _ _))
    go_ret
    exact ⟨v1, rfl, by have h := hR1; rw [List.nil_append] at h; exact h, hB1⟩

/-- The elements' cells as they are: what they lead to is shared. -/
def Shallow (w0 w : World) (base : Nat) (v : Value) (l : List S34) : Prop := ∃ rows : List (List Value), rows.length = l.length ∧ Kd.R (Kd.raw 7) 34 w base (fun _ => True) v rows ∧ ∀ (j : Nat) (x : S34) (c : List Value), l[j]? = some x → rows[j]? = some c → k34.K w0 x c
set_option maxHeartbeats 4000000 in
set_option maxRecDepth 100000 in
theorem clone_val (A : Option Addr) (c : Nat) (l : List S34) (w0 w : World) (hr : Kd.C k34 w0 A l.length l) (hb : Below w0.heap.size w0 w) (hc : l.length ≤ c) (hz : l.length ≤ 1073741824) :
    Calls Tryd.prog 34 #[.slice A l.length c] w fun e w' => ∃ v0_ : Value, e = .returned (v0_) ∧ Shallow w0 w' w.heap.size v0_ l ∧ Below w.heap.size w w' := by
  obtain ⟨news, hnl, hnr, hnf⟩ := Kd.reads_raw (sz := 7) hr (fun y c hk => ⟨k34.K_len hk, k34.K_one hk⟩)
  have HR := Lib.hid hr
  have HN := Lib.hid (Kd.C_below (d := Kd.raw 7) hnr hb)
  have HF := Lib.hid hnf
  clear hr hnr hnf hb
  cases A with
  | none =>
    obtain rfl := C_none HR.out
    have hq := _root_.Go.run_eql_slice_nil (P := Tryd.prog) (w := w) (t := 22) (e := 34) (a := none) (l := ([] : List S34).length) (c := c) (h := Tryd.underlying22)
    simp only [List.length_nil, Option.isNone_none] at hq ⊢
    go_enter Tryd.func34, Tryd.ntmps34
    go_wp2
    go_ret
    exact ⟨_, rfl, ⟨[], rfl, Kd.R_nil _ _ _ _ _, fun j x c hx => by simp at hx⟩, Below.refl _ _⟩
  | some ad =>
    have hq := _root_.Go.run_eql_slice_nil (P := Tryd.prog) (w := w) (t := 22) (e := 34) (a := (some ad)) (l := l.length) (c := c) (h := Tryd.underlying22)
    simp only [Option.isNone_some, Option.isNone_none] at hq
    have HE : Hid (Kd.R (Kd.raw 7) 34 (w.alloc (.cells #[] 34)) w.heap.size (fun _ => True) (.slice (some ⟨w.heap.size, 0, none⟩) 0 0) []) := Lib.hid ⟨fun _ _ => trivial, [], own_empty' w 34 7, ⟨by simp, fun j p hj => by simp at hj⟩⟩
    have HC : Hid (Kd.C (Kd.raw 7) (w.alloc (.cells #[] 34)) (some ad) l.length news) := Lib.hid (Kd.C_alloc (d := Kd.raw 7) HN.out (.cells #[] 34))
    go_enter Tryd.func34, Tryd.ntmps34
    go_wp2_with (first | (at_builtin; refine Kd.R_append_rows (Kd.raw 7) (Rr := (Kd.raw 7).K w) (w0 := w) w.heap.size rfl (.tmp 5) (.tmp 6) 22 34 _ 112 rfl Tryd.underlying22 infoV_ rfl (by decide) (by decide) _ [] news (some ad) l.length c (fun _ => True) (fun _ => False) rfl rfl HE.out HC.out (fun _ _ hk => hk) (fun _ hk => hk.elim) (fun _ _ => trivial) ((Below.refl _ w).alloc (Nat.le_refl _) _) (by simp) (by simp; omega) ?_; intro v1 w1 hR1 hB1 _ _))
    go_ret
    exact ⟨v1, rfl, ⟨news, hnl, by simpa using hR1, HF.out⟩, hB1⟩
end Go.Proofs.YtdgebcgcabhjoaaDoor.P
/- value.Clone by value: a value in memory of its own. -/
namespace Go.Proofs.YtdgebcgcabhjoaaDoor.P
set_option linter.unusedVariables false
set_option linter.unusedSimpArgs false
open Go.RowKit Go.Proofs.YtdgebcgcabhjoaaDoorW.PrintWords Go.Proofs.YtdgebcgcabhjoaaDoorW.PrintMore Go.Proofs.YtdgebcgcabhjoaaDoorW.PrintLast
/-- A value that is made, or one that is read in an elder world. -/
def half (w0 : World) : Kd (V × Bool) where
  sz := 7
  E := k34.E
  K := fun w x cs => (x.2 = true ∧ k34.K w x.1 cs) ∨ (x.2 = false ∧ k34.K w0 x.1 cs)
  M := fun w base ok x cs => (x.2 = true ∧ k34.M w base ok x.1 cs) ∨ (x.2 = false ∧ k34.K w0 x.1 cs)
  K_len := by rintro w x cs (⟨_, h⟩ | ⟨_, h⟩) <;> exact k34.K_len h
  K_one := by rintro w x cs (⟨_, h⟩ | ⟨_, h⟩) <;> exact k34.K_one h
  K_below := by rintro w w1 x cs hb (⟨e, h⟩ | h); exact .inl ⟨e, k34.K_below hb h⟩; exact .inr h
  K_of_M := by rintro w base ok x cs (⟨e, h⟩ | h); exact .inl ⟨e, k34.K_of_M h⟩; exact .inr h
  M_mono := by rintro w base ok ok' x cs hk (⟨e, h⟩ | h); exact .inl ⟨e, k34.M_mono hk h⟩; exact .inr h
  M_bound := by rintro w base ok x cs (⟨e, h⟩ | h); exact .inl ⟨e, k34.M_bound h⟩; exact .inr h
  M_move := by rintro w w1 base ok x cs hk (⟨e, h⟩ | h); exact .inl ⟨e, k34.M_move hk h⟩; exact .inr h
  M_lower := by rintro w base base' ok x cs hb (⟨e, h⟩ | h); exact .inl ⟨e, k34.M_lower hb h⟩; exact .inr h
theorem half_of_raw {w0 w : World} {base : Nat} {ok : Nat → Prop} {v : Value} {l : List V} {rows : List (List Value)} (hl : rows.length = l.length) (h : Kd.R (Kd.raw 7) 34 w base ok v rows)
    (hk : ∀ (j : Nat) (x : V) (c : List Value), l[j]? = some x → rows[j]? = some c → k34.K w0 x c) : Kd.R (half w0) 34 w base ok v (l.map fun x => (x, false)) := by
  obtain ⟨h0, inner, ho, hr⟩ := h
  refine ⟨h0, inner, by rw [List.length_map, ← hl]; exact ho, by rw [List.length_map, ← hl]; exact hr.1, fun j p hj => ?_⟩
  rw [List.getElem?_map, Option.map_eq_some_iff] at hj
  obtain ⟨x, hx, rfl⟩ := hj
  have hlt : j < rows.length := by rw [hl]; exact (List.getElem?_eq_some_iff.1 hx).1
  have hc : rows[j]? = some rows[j] := List.getElem?_eq_getElem hlt
  have h2 := hr.2 j _ hc
  refine .inr ⟨rfl, ?_⟩
  rw [show ((half w0).sz) = (Kd.raw 7).sz from rfl, h2.1]
  exact hk j x _ hx hc
theorem below_go {w W W' : World} (h : Below w.heap.size w W) (h2 : Below W.heap.size W W') : Below w.heap.size w W' := h.trans (h2.mono h.size)
theorem blk_below3 {W w1 : World} {g : Nat} {o : Obj} (hg : W.heap[g]? = some o) (hb : Below W.heap.size W w1) : w1.heap[g]? = some o := (hb.block g (blk_lt hg)).trans hg
theorem setCells7 (W : World) (g o : Nat) (a0 a1 a2 a3 a4 a5 a6 : Value) : W.setCells g o [a0, a1, a2, a3, a4, a5, a6] = (((((((W.setCell ⟨g, o, none⟩ (a0)).setCell ⟨g, o + 1, none⟩ (a1)).setCell ⟨g, o + 2, none⟩ (a2)).setCell ⟨g, o + 3, none⟩ (a3)).setCell ⟨g, o + 4, none⟩ (a4)).setCell ⟨g, o + 5, none⟩ (a5)).setCell ⟨g, o + 6, none⟩ (a6)) := rfl
/-- What value.Clone has behind its three clones. -/
structure CloneMid (w wc : World) (x : V) (B2 : Option Addr) (d2 : Nat) (B5 : Option Addr) (d5 : Nat) (B6 : Option Addr) (d6 : Nat) (xs : List (V × Bool)) : Prop where
  box : wc.heap[w.heap.size]? = some (.cells #[.int .i64 x.f0, .bool x.f1.f0, .slice B2 x.f1.f1.length d2, .int .i64 x.f1.f2, .string x.f2, .slice B5 x.f3.length d5, .slice B6 x.f4.length d6] 34 (0, 0))
  res : wc.heap[w.heap.size + 1]? = some (.cells #[.int .i64 0, .bool false, .slice none 0 0, .int .i64 0, .string ⟨#[]⟩, .slice none 0 0, .slice none 0 0] 34 (0, 0))
  r2 : (Kd.int .u32).R 63 wc (w.heap.size + 2) (fun _ => True) (.slice B2 x.f1.f1.length d2) x.f1.f1
  r5 : (half w).R 34 wc (w.heap.size + 2) (fun _ => True) (.slice B5 x.f3.length d5) xs
  r6 : Kd.string.R 9 wc (w.heap.size + 2) (fun _ => True) (.slice B6 x.f4.length d6) x.f4
  below : Below w.heap.size w wc
/-- The first k are made. -/
def mixL (l : List V) (k : Nat) : List (V × Bool) := (l.take k).map (fun x => (x, true)) ++ (l.drop k).map (fun x => (x, false))
theorem mixL_len (l : List V) (k : Nat) : (mixL l k).length = l.length := by unfold mixL; simp; omega
theorem mixL_zero (l : List V) : mixL l 0 = l.map fun x => (x, false) := by simp [mixL]
theorem mixL_all (l : List V) : mixL l l.length = l.map fun x => (x, true) := by simp [mixL]
theorem mixL_get (l : List V) (k : Nat) (h : k < l.length) (z : V × Bool) : (mixL l k).getD k z = (rd_T34 l (k : Int), false) := by
  unfold mixL rd_T34
  rw [List.getD_eq_getElem?_getD, List.getElem?_append_right (by simp; omega)]
  simp [h, Nat.min_eq_left (Nat.le_of_lt h)]
theorem mixL_set (l : List V) (k : Nat) (h : k < l.length) : (mixL l k).set k (rd_T34 l (k : Int), true) = mixL l (k + 1) := by
  unfold mixL rd_T34
  have e : ((l.take k).map fun x => (x, true)).length = k := by simp; omega
  rw [List.set_append_right _ _ (by omega), e, Nat.sub_self, List.take_succ_eq_append_getElem h, List.drop_eq_getElem_cons h, List.map_append, List.append_assoc, List.map_cons, List.set_cons_zero]
  simp only [List.map_cons, List.map_nil, List.singleton_append, Int.toNat_natCast, List.getD_eq_getElem?_getD, List.getElem?_eq_getElem h, Option.getD_some]
theorem half_done {w0 w : World} {base : Nat} {ok : Nat → Prop} {v : Value} {l : List V} (h : (half w0).R 34 w base ok v (l.map fun x => (x, true))) : k34.R 34 w base ok v l := by
  obtain ⟨h0, inner, ho, hr⟩ := h
  rw [List.length_map] at ho
  refine ⟨h0, inner, ho, by have := hr.1; rw [List.length_map] at this; exact this, fun j p hj => ?_⟩
  have := hr.2 j (p, true) (by rw [List.getElem?_map, hj]; rfl)
  rcases this with ⟨_, h⟩ | ⟨h, _⟩
  · exact h
  · cases h
theorem mid_step {w wr Wb w5 : World} {x : V} {B2 : Option Addr} {d2 g d5 : Nat} {B6 : Option Addr} {d6 k : Nat} {c cs5 : List Value} {cur : Array Value} (hM : CloneMid w wr x B2 d2 (some ⟨g, 0, none⟩) d5 B6 d6 (mixL x.f3 k)) (hlt : k < x.f3.length)
    (hbg : w.heap.size + 2 ≤ g) (hcur : wr.heap[g]? = some (.cells cur 34 (0, 0))) (hbb : Below wr.heap.size wr Wb) (hB5 : Below Wb.heap.size Wb w5) (hM5 : k34.M w5 Wb.heap.size (fun _ => True) (rd_T34 x.f3 (k : Int)) cs5)
    (hcl : c.length = 7) (hcc : ∀ j u, c[j]? = some u → wr.cell? ⟨g, k * 7 + j, none⟩ = some u) : CloneMid w (w5.setCells g (k * 7) cs5) x B2 d2 (some ⟨g, 0, none⟩) d5 B6 d6 (mixL x.f3 (k + 1)) := by
  have hb5 : Below wr.heap.size wr w5 := hbb.trans (hB5.mono hbb.size)
  have hgw := blk_lt hcur
  have far : ∀ j, j ≠ g → (w5.setCells g (k * 7) cs5).heap[j]? = w5.heap[j]? := fun j hj => setCells_far cs5 _ j hj
  have hl5 : cs5.length = 7 := k34.K_len (k34.K_of_M hM5)
  have hM6 : (half w).M w5 (w.heap.size + 2) (fun j => Wb.heap.size ≤ j) (rd_T34 x.f3 (k : Int), true) (c.take 0 ++ cs5 ++ c.drop (0 + cs5.length)) := by
    rw [hl5, List.take_zero, List.nil_append, List.drop_eq_nil_of_le (by omega), List.append_nil]
    exact .inl ⟨rfl, k34.M_lower (by have := hbb.size; omega) (k34.M_mono (fun j hj => hj.2.1) (k34.M_bound hM5))⟩
  have hR5 := Kd.R_below hM.r5 hb5
  have hseg := Kd.R_seg hR5 (k : Int) (by omega) (by omega) (c := c) (seg := cs5) (j := 0) hcl (fun j u hj => by
    rw [Int.toNat_natCast]
    exact pw_cell_below hb5 (hcc j u hj)) (by rw [hl5]; exact Nat.le_refl _) hM6 (fun j hj => ⟨trivial, by have := hbb.size; omega⟩)
  rw [Int.toNat_natCast] at hseg
  obtain ⟨h5, hgr⟩ := hseg
  have e0 : k * (half w).sz + 0 = k * 7 := rfl
  rw [e0] at h5 hgr
  refine ⟨?_, ?_, ?_, ?_, ?_, ?_⟩
  · rw [far _ (by omega)]; exact blk_below3 hM.box hb5
  · rw [far _ (by omega)]; exact blk_below3 hM.res hb5
  · exact Kd.R_mono (Kd.R_step (Kd.R_below (Kd.R_types hM.r2 hcur (by decide)) hb5) (fun j hj _ => far j hj.2)) (fun _ _ => trivial)
  · rw [← mixL_set _ _ hlt]; exact h5
  · exact Kd.R_mono (Kd.R_step (Kd.R_below (Kd.R_types hM.r6 hcur (by decide)) hb5) (fun j hj _ => far j hj.2)) (fun _ _ => trivial)
  · exact pw_below_grown (below_go hM.below hb5) (some g) (below_go hM.below hb5).size hgr (fun j hj => by cases hj; omega)
theorem mid_end {w wr : World} {x : V} {B2 : Option Addr} {d2 : Nat} {B5 : Option Addr} {d5 : Nat} {B6 : Option Addr} {d6 : Nat} (hM : CloneMid w wr x B2 d2 B5 d5 B6 d6 (x.f3.map fun y => (y, true))) :
    k34.M (wr.setCells (w.heap.size + 1) 0 [.int .i64 x.f0, .bool x.f1.f0, .slice B2 x.f1.f1.length d2, .int .i64 x.f1.f2, .string x.f2, .slice B5 x.f3.length d5, .slice B6 x.f4.length d6]) w.heap.size (fun _ => True) x [.int .i64 x.f0, .bool x.f1.f0, .slice B2 x.f1.f1.length d2, .int .i64 x.f1.f2, .string x.f2, .slice B5 x.f3.length d5, .slice B6 x.f4.length d6] ∧ Below w.heap.size w (wr.setCells (w.heap.size + 1) 0 [.int .i64 x.f0, .bool x.f1.f0, .slice B2 x.f1.f1.length d2, .int .i64 x.f1.f2, .string x.f2, .slice B5 x.f3.length d5, .slice B6 x.f4.length d6]) ∧ (wr.setCells (w.heap.size + 1) 0 [.int .i64 x.f0, .bool x.f1.f0, .slice B2 x.f1.f1.length d2, .int .i64 x.f1.f2, .string x.f2, .slice B5 x.f3.length d5, .slice B6 x.f4.length d6]).heap[w.heap.size + 1]? = some (.cells #[.int .i64 x.f0, .bool x.f1.f0, .slice B2 x.f1.f1.length d2, .int .i64 x.f1.f2, .string x.f2, .slice B5 x.f3.length d5, .slice B6 x.f4.length d6] 34 (0, 0)) := by
  have far : ∀ j, j ≠ w.heap.size + 1 → (wr.setCells (w.heap.size + 1) 0 [.int .i64 x.f0, .bool x.f1.f0, .slice B2 x.f1.f1.length d2, .int .i64 x.f1.f2, .string x.f2, .slice B5 x.f3.length d5, .slice B6 x.f4.length d6]).heap[j]? = wr.heap[j]? := fun j hj => setCells_far _ _ j hj
  have mv : ∀ {α : Type} {d : Kd α} {e : Nat} {v : Value} {xs : List α}, d.R e wr (w.heap.size + 2) (fun _ => True) v xs → d.R e (wr.setCells (w.heap.size + 1) 0 [.int .i64 x.f0, .bool x.f1.f0, .slice B2 x.f1.f1.length d2, .int .i64 x.f1.f2, .string x.f2, .slice B5 x.f3.length d5, .slice B6 x.f4.length d6]) w.heap.size (fun _ => True) v xs := fun h =>
    Kd.R_lower (Kd.R_mono (Kd.R_move (Kd.R_bound h) (fun j hj => far j (by omega))) (fun _ _ => trivial)) (by omega)
  have hk := setCells_same (w.heap.size + 1) [.int .i64 x.f0, .bool x.f1.f0, .slice B2 x.f1.f1.length d2, .int .i64 x.f1.f2, .string x.f2, .slice B5 x.f3.length d5, .slice B6 x.f4.length d6] 0 wr
  refine ⟨k34_mkM _ _ _ x (mv hM.r2) (mv (half_done hM.r5)) (mv hM.r6), ?_, ?_⟩
  · exact hM.below.trans ⟨hk.1, hk.2.1, hk.2.2.1, Nat.le_of_eq hk.2.2.2.symm, fun j hj => far j (by omega)⟩
  · obtain ⟨cur, h1, h2, h3⟩ := setCells_row [.int .i64 x.f0, .bool x.f1.f0, .slice B2 x.f1.f1.length d2, .int .i64 x.f1.f2, .string x.f2, .slice B5 x.f3.length d5, .slice B6 x.f4.length d6] 0 wr _ hM.res (by simp)
    rw [h1]
    have : cur = #[.int .i64 x.f0, .bool x.f1.f0, .slice B2 x.f1.f1.length d2, .int .i64 x.f1.f2, .string x.f2, .slice B5 x.f3.length d5, .slice B6 x.f4.length d6] := by rw [← Array.toList_inj, h3]; simp
    rw [this]
theorem mid_first {w Wd w2 w6 w5 : World} {x : V} {A2 A5 A6 B2 B5 B6 : Option Addr} {c2 c5 c6 d2 d5 d6 : Nat} {rows : List (List Value)} (hA : Below w.heap.size w Wd) (hx : Wd.heap[w.heap.size]? = some (.cells #[.int .i64 x.f0, .bool x.f1.f0, .slice A2 x.f1.f1.length c2, .int .i64 x.f1.f2, .string x.f2, .slice A5 x.f3.length c5, .slice A6 x.f4.length c6] 34 (0, 0))) (hy : Wd.heap[w.heap.size + 1]? = some (.cells #[.int .i64 0, .bool false, .slice none 0 0, .int .i64 0, .string ⟨#[]⟩, .slice none 0 0, .slice none 0 0] 34 (0, 0))) (hz : Wd.heap.size = w.heap.size + 2)
    (hR2 : (Kd.int .u32).R 63 w2 Wd.heap.size (fun _ => True) (.slice B2 x.f1.f1.length d2) x.f1.f1) (hB2 : Below Wd.heap.size Wd w2) (hR6 : Kd.string.R 9 w6 w2.heap.size (fun _ => True) (.slice B6 x.f4.length d6) x.f4) (hB6 : Below w2.heap.size w2 w6)
    (hrl : rows.length = x.f3.length) (hR5 : (Kd.raw 7).R 34 w5 w6.heap.size (fun _ => True) (.slice B5 rows.length d5) rows) (hrk : ∀ (j : Nat) (y : V) (c : List Value), x.f3[j]? = some y → rows[j]? = some c → k34.K w y c) (hB5 : Below w6.heap.size w6 w5) :
    CloneMid w (((w5.setCell ⟨w.heap.size, 2, none⟩ (.slice B2 x.f1.f1.length d2)).setCell ⟨w.heap.size, 6, none⟩ (.slice B6 x.f4.length d6)).setCell ⟨w.heap.size, 5, none⟩ (.slice B5 rows.length d5)) x B2 d2 B5 d5 B6 d6 (mixL x.f3 0) := by
  have h26 : Below w2.heap.size w2 w5 := hB6.trans (hB5.mono hB6.size)
  have hd5 : Below Wd.heap.size Wd w5 := hB2.trans (h26.mono hB2.size)
  have s2 := hB2.size
  have s6 := hB6.size
  have mv : ∀ {α : Type} {d : Kd α} {e b : Nat} {v : Value} {xs : List α}, w.heap.size + 2 ≤ b → d.R e w5 b (fun _ => True) v xs → d.R e (((w5.setCell ⟨w.heap.size, 2, none⟩ (.slice B2 x.f1.f1.length d2)).setCell ⟨w.heap.size, 6, none⟩ (.slice B6 x.f4.length d6)).setCell ⟨w.heap.size, 5, none⟩ (.slice B5 rows.length d5)) (w.heap.size + 2) (fun _ => True) v xs := fun hb h =>
    Kd.R_lower (Kd.R_mono (Kd.R_move (Kd.R_bound h) (fun j hj => by
      rw [Below.heap_setCell _ _ _ _ (by simp; omega), Below.heap_setCell _ _ _ _ (by simp; omega), Below.heap_setCell _ _ _ _ (by simp; omega)])) (fun _ _ => trivial)) hb
  refine ⟨?_, ?_, mv (by omega) (Kd.R_below hR2 h26), ?_, mv (by omega) (Kd.R_below hR6 hB5), ?_⟩
  · have h1 := blk_set (blk_set (blk_set (blk_below3 hx hd5) 2 (.slice B2 x.f1.f1.length d2)) 6 (.slice B6 x.f4.length d6)) 5 (.slice B5 rows.length d5)
    rw [h1, hrl]
    rfl
  · exact blk_far (blk_far (blk_far (blk_below3 hy hd5) (by simp) _) (by simp) _) (by simp) _
  · rw [mixL_zero]
    have := mv (by omega) (half_of_raw hrl hR5 hrk)
    rw [hrl] at this ⊢
    exact this
  · exact (((hA.trans (hd5.mono hA.size)).setCell (p := ⟨w.heap.size, 2, none⟩) (Nat.le_refl _) _).setCell (p := ⟨w.heap.size, 6, none⟩) (Nat.le_refl _) _).setCell (p := ⟨w.heap.size, 5, none⟩) (Nat.le_refl _) _
set_option maxHeartbeats 16000000 in
set_option maxRecDepth 100000 in
theorem Clone_any : ∀ (x : V) (cs : List Value) (w : World), k34.K w x cs → OkV x →
    Calls Tryd.prog 26 #[.agg cs.toArray] w fun e w' => ∃ cs', e = .returned (.agg cs'.toArray) ∧ k34.M w' w.heap.size (fun _ => True) x cs' ∧ Below w.heap.size w w' := by
  refine V.ind fun x ih => ?_
  intro cs w hK hO
  obtain ⟨A2, c2, A5, c5, A6, c6, rfl, l2, g2, l5, g5, l6, g6⟩ := k34_open hK
  have n2 := hO.len1
  have n5 := hO.len3
  have n6 := hO.len4
  have G2 := Lib.hid g2
  have G5 := Lib.hid g5
  have G6 := Lib.hid g6
  have HO := Lib.hid hO
  have IH := Lib.hid ih
  obtain ⟨W1, hW1⟩ : ∃ W1, W1 = (w.alloc (.cells #[.int .i64 x.f0, .bool x.f1.f0, .slice A2 x.f1.f1.length c2, .int .i64 x.f1.f2, .string x.f2, .slice A5 x.f3.length c5, .slice A6 x.f4.length c6] 34)).alloc (.cells #[.int .i64 0, .bool false, .slice none 0 0, .int .i64 0, .string ⟨#[]⟩, .slice none 0 0, .slice none 0 0] 34) := ⟨_, rfl⟩
  have hA : Below w.heap.size w W1.drew := by rw [hW1]; exact below_drew (((Below.refl _ _).alloc (Nat.le_refl _) _).alloc (by simp) _)
  have hx1 : W1.drew.heap[w.heap.size]? = some (.cells #[.int .i64 x.f0, .bool x.f1.f0, .slice A2 x.f1.f1.length c2, .int .i64 x.f1.f2, .string x.f2, .slice A5 x.f3.length c5, .slice A6 x.f4.length c6] 34 (0, 0)) := by rw [hW1]; exact blk_drew (blk_alloc (blk_new _ _) _)
  have hy1 : W1.drew.heap[w.heap.size + 1]? = some (.cells #[.int .i64 0, .bool false, .slice none 0 0, .int .i64 0, .string ⟨#[]⟩, .slice none 0 0, .slice none 0 0] 34 (0, 0)) := by rw [hW1]; have := blk_new (w.alloc (.cells #[.int .i64 x.f0, .bool x.f1.f0, .slice A2 x.f1.f1.length c2, .int .i64 x.f1.f2, .string x.f2, .slice A5 x.f3.length c5, .slice A6 x.f4.length c6] 34)) (.cells #[.int .i64 0, .bool false, .slice none 0 0, .int .i64 0, .string ⟨#[]⟩, .slice none 0 0, .slice none 0 0] 34); rw [World.size_alloc] at this; exact blk_drew this
  have hz1 : W1.drew.heap.size = w.heap.size + 2 := by rw [hW1, World.size_drew]; simp
  have HZ := Lib.hid hz1
  have HW1 := Lib.hid hW1
  rw [hW1] at hA hx1 hy1
  clear hz1 hW1 g2 g5 g6 hO ih hK
  go_enter Tryd.func26, Tryd.ntmps26
  go_upto_region 1 with (fail)
  go_cut [] from 5 to 18 (fun wc => Hid (∃ B2 d2 B5 d5 B6 d6, CloneMid w wc x B2 d2 B5 d5 B6 d6 (mixL x.f3 0)))
  case first =>
    have HA := Lib.hid hA
    have HX1 := Lib.hid hx1
    have HY1 := Lib.hid hy1
    have L2 := Lib.hid l2
    have L5 := Lib.hid l5
    have L6 := Lib.hid l6
    have N2 := Lib.hid n2
    have N5 := Lib.hid n5
    have N6 := Lib.hid n6
    have hxc := blk_cell hx1
    clear hA hx1 hy1 l2 l5 l6 n2 n5 n6 IH HO
    go_region_with (first
      | (go_at_call 32; refine (clone_u32 _ _ x.f1.f1 _ (Kd.C_below G2.out HA.out) L2.out N2.out).mono ?_; rintro e w2 ⟨v2, rfl, hR2, hB2⟩; obtain ⟨B2, d2, rfl⟩ := Kd.R_slice hR2; have hA2 := below_go HA.out hB2; have hx2 := blk_below3 HX1.out hB2; obtain ⟨hc2, hf2⟩ := bcells hx2 (Below.refl _ _))
      | (go_at_call 33; refine (clone_str _ _ x.f4 _ (Kd.C_below G6.out hA2) L6.out N6.out).mono ?_; rintro e w6 ⟨v6, rfl, hR6, hB6⟩; obtain ⟨B6, d6, rfl⟩ := Kd.R_slice hR6; have hA6 := below_go hA2 hB6; have hx6 := blk_below3 hx2 hB6; obtain ⟨hc6, hf6⟩ := bcells hx6 (Below.refl _ _))
      | (go_at_call 34; refine (clone_val _ _ x.f3 w _ G5.out hA6 L5.out N5.out).mono ?_; rintro e w5 ⟨v5, rfl, hS5, hB5⟩; obtain ⟨rows, hrl, hR5, hrk⟩ := hS5; obtain ⟨B5, d5, rfl⟩ := Kd.R_slice hR5; have hx5 := blk_below3 hx6 hB5; obtain ⟨hc5, hf5⟩ := bcells hx5 (Below.refl _ _)))
    all_goals
      have hm := mid_first HA.out HX1.out HY1.out (by rw [← HW1.out]; exact HZ.out) hR2 hB2 hR6 hB6 hrl hR5 hrk hB5
      clear hc2 hf2 hc6 hf6 hc5 hf5 hx2 hx6 hx5 hA2 hA6 hR2 hB2 hR6 hB6 hR5 hrk hB5 hxc
      go_wp2_with fail
      go_meet
      exact Lib.hid ⟨_, _, _, _, _, _, by rw [hrl] at hm; exact hm⟩
  case rest =>
  obtain ⟨B2, d2, B5, d5, B6, d6, hM⟩ := hcut.out
  have HM := Lib.hid hM
  have hbx := blk_cell hM.box
  clear hcut hM hA hx1 hy1
  go_wp2
  go_loopw [22] (fun vi wr => ∃ k : Nat, k ≤ x.f3.length ∧ vi = .int .i64 k ∧ Hid (CloneMid w wr x B2 d2 B5 d5 B6 d6 (mixL x.f3 k))) (fun vi _ => x.f3.length - (intOf vi).toNat)
  case atStart => exact ⟨0, Nat.zero_le _, rfl, HM⟩
  case round =>
    clear hbx HM
    obtain ⟨k, hk, rfl, hM⟩ := hrel
    by_cases hlt : k < x.f3.length
    · obtain ⟨g, cap, hv, hbg, hgw, cur, hcur⟩ := Kd.R_form hM.out.r5 (by rw [mixL_len]; omega)
      rw [mixL_len] at hv
      injection hv with hv1 hv2 hv3
      subst hv1 hv3
      have hC := (Kd.R_reads' hM.out.r5).2.2
      obtain ⟨ad, c, he, hcl, hkc, hcc⟩ := Kd.C_get hC (x, false) (k : Int) (by omega) (by rw [mixL_len]; omega)
      obtain rfl := Option.some.inj he
      rw [Int.toNat_natCast, mixL_get _ _ hlt] at hkc
      rw [Int.toNat_natCast] at hcc
      rcases hkc with ⟨h0, _⟩ | ⟨h0, hkc⟩
      · cases h0
      clear h0
      obtain ⟨D2, e2, D5, e5, D6, e6, rfl, hrest⟩ := k34_open hkc
      clear hrest
      have q0 := hcc 0 _ rfl
      have q1 := hcc 1 _ rfl
      have q2 := hcc 2 _ rfl
      have q3 := hcc 3 _ rfl
      have q4 := hcc 4 _ rfl
      have q5 := hcc 5 _ rfl
      have q6 := hcc 6 _ rfl
      simp only [add_plain] at q0 q1 q2 q3 q4 q5 q6
      change wr.cell? ⟨g, k * 7 + 0, none⟩ = _ at q0
      change wr.cell? ⟨g, k * 7 + 1, none⟩ = _ at q1
      change wr.cell? ⟨g, k * 7 + 2, none⟩ = _ at q2
      change wr.cell? ⟨g, k * 7 + 3, none⟩ = _ at q3
      change wr.cell? ⟨g, k * 7 + 4, none⟩ = _ at q4
      change wr.cell? ⟨g, k * 7 + 5, none⟩ = _ at q5
      change wr.cell? ⟨g, k * 7 + 6, none⟩ = _ at q6
      rw [Nat.add_zero] at q0
      have hmem := Lib.hid (show rd_T34 x.f3 (k : Int) ∈ x.f3 by unfold rd_T34; simp [hlt])
      have hbx := blk_cell hM.out.box
      have hw : wrap64 ((k : Int) + 1) = ((k + 1 : Nat) : Int) := by unfold wrap64; omega
      have HCUR := Lib.hid hcur
      have HKC := Lib.hid hkc
      have HCC : Hid (∀ j u, ([.int .i64 (rd_T34 x.f3 (k : Int)).f0, .bool (rd_T34 x.f3 (k : Int)).f1.f0, .slice D2 (rd_T34 x.f3 (k : Int)).f1.f1.length e2, .int .i64 (rd_T34 x.f3 (k : Int)).f1.f2, .string (rd_T34 x.f3 (k : Int)).f2, .slice D5 (rd_T34 x.f3 (k : Int)).f3.length e5, .slice D6 (rd_T34 x.f3 (k : Int)).f4.length e6] : List Value)[j]? = some u → wr.cell? ⟨g, k * 7 + j, none⟩ = some u) := Lib.hid (fun j u hj => by have := hcc j u hj; rw [add_plain] at this; exact this)
      obtain ⟨Wb, hWb⟩ : ∃ Wb, Wb = (wr.alloc (.cells #[.int .i64 (rd_T34 x.f3 (k : Int)).f0, .bool (rd_T34 x.f3 (k : Int)).f1.f0, .slice D2 (rd_T34 x.f3 (k : Int)).f1.f1.length e2, .int .i64 (rd_T34 x.f3 (k : Int)).f1.f2, .string (rd_T34 x.f3 (k : Int)).f2, .slice D5 (rd_T34 x.f3 (k : Int)).f3.length e5, .slice D6 (rd_T34 x.f3 (k : Int)).f4.length e6] 34)).drew := ⟨_, rfl⟩
      have hbb : Below wr.heap.size wr Wb := by rw [hWb]; exact below_drew ((Below.refl _ _).alloc (Nat.le_refl _) _)
      have hA : Below w.heap.size w Wb := below_go hM.out.below hbb
      have hx := blk_below3 hM.out.box hbb
      have hg := blk_below3 hcur hbb
      have hKb := Lib.hid (k34.K_below hA hkc)
      have hcall := Lib.hid (IH.out _ hmem.out _ _ hKb.out (HO.out.rd hlt))
      have p0 := pw_cell_below hbb q0
      have p1 := pw_cell_below hbb q1
      have p2 := pw_cell_below hbb q2
      have p3 := pw_cell_below hbb q3
      have p4 := pw_cell_below hbb q4
      have p5 := pw_cell_below hbb q5
      have p6 := pw_cell_below hbb q6
      have HWB := Lib.hid hWb
      have HBB := Lib.hid hbb
      have HA := Lib.hid hA
      rw [hWb] at hcall hx hg p0 p1 p2 p3 p4 p5 p6
      clear hcc hC hcl hkc hcur hbb hA hWb hv2 he
      have hsz1 : w.heap.size < wr.heap.size := by omega
      have hbx2 := blk_cell hx
      go_upto_region 5 with (fail)
      go_region_with (first
        | (go_at_call 26; refine hcall.out.mono ?_; rintro e w5 ⟨cs5, rfl, hM5, hB5⟩; obtain ⟨v2, v5, v6, rfl, r2, r5, r6⟩ := k34_openM hM5; obtain ⟨E2, s2, rfl⟩ := Kd.R_slice r2; obtain ⟨E5, s5, rfl⟩ := Kd.R_slice r5; obtain ⟨E6, s6, rfl⟩ := Kd.R_slice r6; obtain ⟨hc5, hf5⟩ := bcells hx hB5; obtain ⟨hc6, hf6⟩ := bcells hg hB5; have p0' := pw_cell_below hB5 p0; have p1' := pw_cell_below hB5 p1; have p2' := pw_cell_below hB5 p2; have p3' := pw_cell_below hB5 p3; have p4' := pw_cell_below hB5 p4; have p5' := pw_cell_below hB5 p5; have p6' := pw_cell_below hB5 p6; clear hc6))
      all_goals
        have hM2 := mid_step hM.out hlt hbg HCUR.out HBB.out (by rw [HWB.out]; exact hB5) (by rw [HWB.out]; exact hM5) rfl HCC.out
        obtain ⟨W6, hW6⟩ : ∃ W6, W6 = (((((((w5.setCell ⟨g, k * 7, none⟩ (.int .i64 (rd_T34 x.f3 (k : Int)).f0)).setCell ⟨g, k * 7 + 1, none⟩ (.bool (rd_T34 x.f3 (k : Int)).f1.f0)).setCell ⟨g, k * 7 + 2, none⟩ (.slice E2 (rd_T34 x.f3 (k : Int)).f1.f1.length s2)).setCell ⟨g, k * 7 + 3, none⟩ (.int .i64 (rd_T34 x.f3 (k : Int)).f1.f2)).setCell ⟨g, k * 7 + 4, none⟩ (.string (rd_T34 x.f3 (k : Int)).f2)).setCell ⟨g, k * 7 + 5, none⟩ (.slice E5 (rd_T34 x.f3 (k : Int)).f3.length s5)).setCell ⟨g, k * 7 + 6, none⟩ (.slice E6 (rd_T34 x.f3 (k : Int)).f4.length s6)) := ⟨_, rfl⟩
        have HM2 : Hid (CloneMid w W6 x B2 d2 (some ⟨g, 0, none⟩) d5 B6 d6 (mixL x.f3 (k + 1))) := Lib.hid (by rw [hW6, ← setCells7]; exact hM2)
        rw [← hW6]
        clear hM2 hW6 hc5 hf5 hf6 p0 p1 p2 p3 p4 p5 p6 p0' p1' p2' p3' p4' p5' p6' r2 r5 r6 hM5 hB5 hx hg q0 q1 q2 q3 q4 q5 q6 hbx hbx2 hcall HKC HCC HCUR HA HBB HWB hKb hM
        clear IH HO G2 G5 G6 HZ HW1 l2 l5 l6 n2 n5 n6 hbg hgw hsz1
        rename_i qa ka aa qb kb ab
        refine ab _ _ ?_
        go_wp2_with fail
        rw [hw]
        exact ⟨⟨k + 1, hlt, rfl, HM2⟩, by show x.f3.length - (k + 1) < x.f3.length - k; clear hw; omega⟩
    · obtain rfl : k = x.f3.length := by omega
      rw [mixL_all] at hM
      have hbx := blk_cell hM.out.box
      have hbf := blk_frozen hM.out.box
      have hrx := blk_cell hM.out.res
      have hrf := blk_frozen hM.out.res
      have hfin := mid_end hM.out
      clear IH HO G2 G5 G6 HZ HW1 l2 l5 l6 n2 n5 n6
      go_wp2
      rw [setCells7] at hfin
      obtain ⟨W7, hW7⟩ : ∃ W7, W7 = (((((((wr.setCell ⟨w.heap.size + 1, 0, none⟩ (.int .i64 x.f0)).setCell ⟨w.heap.size + 1, 1, none⟩ (.bool x.f1.f0)).setCell ⟨w.heap.size + 1, 2, none⟩ (.slice B2 x.f1.f1.length d2)).setCell ⟨w.heap.size + 1, 3, none⟩ (.int .i64 x.f1.f2)).setCell ⟨w.heap.size + 1, 4, none⟩ (.string x.f2)).setCell ⟨w.heap.size + 1, 5, none⟩ (.slice B5 x.f3.length d5)).setCell ⟨w.heap.size + 1, 6, none⟩ (.slice B6 x.f4.length d6)) := ⟨_, rfl⟩
      rw [← hW7]
      have hf2 : k34.M W7 w.heap.size (fun _ => True) x [.int .i64 x.f0, .bool x.f1.f0, .slice B2 x.f1.f1.length d2, .int .i64 x.f1.f2, .string x.f2, .slice B5 x.f3.length d5, .slice B6 x.f4.length d6] ∧ Below w.heap.size w W7 ∧ W7.heap[w.heap.size + 1]? = some (.cells #[.int .i64 x.f0, .bool x.f1.f0, .slice B2 x.f1.f1.length d2, .int .i64 x.f1.f2, .string x.f2, .slice B5 x.f3.length d5, .slice B6 x.f4.length d6] 34 (0, 0)) := by rw [hW7]; exact hfin
      clear hfin hW7 hbx hbf hrx hrf hM
      obtain ⟨hm, hbw, hre⟩ := hf2
      have hrc := blk_cell hre
      refine bodyPost_ret (v := .agg #[.int .i64 x.f0, .bool x.f1.f0, .slice B2 x.f1.f1.length d2, .int .i64 x.f1.f2, .string x.f2, .slice B5 x.f3.length d5, .slice B6 x.f4.length d6]) ?_ rfl ⟨_, rfl, hm, hbw⟩
      simp [results, Tryd.f26, go_sem, hrc]
end Go.Proofs.YtdgebcgcabhjoaaDoor.P
/- bolterref05.SameAll, value.Clones by value. -/
namespace Go.Proofs.YtdgebcgcabhjoaaDoor.P
set_option linter.unusedVariables false
set_option linter.unusedSimpArgs false
open Go.RowKit Go.Proofs.YtdgebcgcabhjoaaDoorW.PrintWords Go.Proofs.YtdgebcgcabhjoaaDoorW.PrintMore Go.Proofs.YtdgebcgcabhjoaaDoorW.PrintLast
theorem same_agg {n : Int} {l r : List V} : same (⟨n, ⟨false, [], 0⟩, ByteArray.empty, l, []⟩ : V) ⟨n, ⟨false, [], 0⟩, ByteArray.empty, r, []⟩ = same l r := by
  cases h : same l r with
  | true => rw [same_iff.1 h]; exact same_refl _
  | false => exact same_ne (by intro e; injection e with _ _ _ e4 _; rw [e4, same_refl] at h; cases h)
set_option maxHeartbeats 1000000 in
set_option maxRecDepth 100000 in
theorem SameAll_any (l r : List V) (A : Option Addr) (c : Nat) (B : Option Addr) (d : Nat) (w : World) (hl : l.length ≤ c) (hA : k34.C w A l.length l) (hr : r.length ≤ d) (hB : k34.C w B r.length r) :
    Calls Tryd.prog 8 #[.slice A l.length c, .slice B r.length d] w fun e w' => e = .returned (.bool (same l r)) ∧ Below w.heap.size w w' := by
  have HA := Lib.hid hA
  have HB := Lib.hid hB
  have hla := hA.2.1
  clear hA hB
  have hK : ∀ (W : World) (l : List V) (A : Option Addr) (c : Nat), l.length ≤ c → k34.C W A l.length l → k34.K W ⟨5, ⟨false, [], 0⟩, ByteArray.empty, l, []⟩ [.int .i64 5, .bool false, .slice none 0 0, .int .i64 0, .string ByteArray.empty, .slice A l.length c, .slice none 0 0] :=
    fun W l A c hl h => k34_mk W ⟨5, ⟨false, [], 0⟩, ByteArray.empty, l, []⟩ (Nat.zero_le 0) (Kd.C_nil _ _) hl h (Nat.zero_le 0) (Kd.C_nil _ _)
  have HC := Lib.hid (Same_any ⟨5, ⟨false, [], 0⟩, ByteArray.empty, l, []⟩ _ ⟨5, ⟨false, [], 0⟩, ByteArray.empty, r, []⟩ _ w (hK w l A c hl HA.out) (hK w r B d hr HB.out))
  clear hK
  go_enter Tryd.func8, Tryd.ntmps8
  go_wp2_with (first | (go_at_call 19; refine HC.out.mono ?_; rw [same_agg]; rintro e w1 ⟨rfl, hB1⟩))
  go_ret
  exact ⟨rfl, hB1⟩
theorem field3 (a0 : Int) (a1 : Bool) (A2 : Option Addr) (n2 c2 : Nat) (a3 : Int) (a4 : ByteArray) (A5 : Option Addr) (n5 c5 : Nat) (A6 : Option Addr) (n6 c6 : Nat) (W : World) :
    Sem.run Tryd.prog (Instr.field 34 (.agg #[.int .i64 a0, .bool a1, .slice A2 n2 c2, .int .i64 a3, .string a4, .slice A5 n5 c5, .slice A6 n6 c6]) 3) W = .ok (.slice A5 n5 c5) W := by kernel_rfl
/-- value.Clones. -/
def listV (l : List V) : V := ⟨0, ⟨false, [], 0⟩, ByteArray.empty, l, []⟩
theorem OkV.list {l : List V} (h : ∀ x ∈ l, OkV x) (hl : l.length ≤ 1073741824) : OkV (listV l) :=
  OkV.mk _ (by show (Lit.int .i64 0).wf = true; rfl) (fun n hn => absurd hn (by unfold listV; simp)) (by show (Lit.int .i64 0).wf = true; rfl) (by unfold listV; simp) (fun n hn => absurd hn (by unfold listV; simp)) (by unfold listV; simp) hl (by unfold listV; simp) h
set_option maxHeartbeats 1000000 in
set_option maxRecDepth 100000 in
theorem Clones_any (l : List V) (A : Option Addr) (c : Nat) (w : World) (hl : l.length ≤ c) (hA : k34.C w A l.length l) (hO : ∀ x ∈ l, OkV x) (hn : l.length ≤ 1073741824) :
    Calls Tryd.prog 17 #[.slice A l.length c] w fun e w' => ∃ v, e = .returned v ∧ k34.R 34 w' w.heap.size (fun _ => True) v l ∧ Below w.heap.size w w' := by
  have HC := Lib.hid (Clone_any (listV l) _ w (k34_mk w (listV l) (Nat.zero_le 0) (Kd.C_nil _ _) hl hA (Nat.zero_le 0) (Kd.C_nil _ _)) (OkV.list hO hn))
  clear hA hO
  go_enter Tryd.func17, Tryd.ntmps17
  go_wp2_with (first | (go_at_call 26; refine HC.out.mono ?_; rintro e w1 ⟨cs, rfl, hM, hB1⟩; obtain ⟨v2, v5, v6, rfl, r2, r5, r6⟩ := k34_openM hM; obtain ⟨E2, s2, rfl⟩ := Kd.R_slice r2; obtain ⟨E5, s5, rfl⟩ := Kd.R_slice r5; obtain ⟨E6, s6, rfl⟩ := Kd.R_slice r6; have hfd := field3 (listV l).f0 (listV l).f1.f0 E2 (listV l).f1.f1.length s2 (listV l).f1.f2 (listV l).f2 E5 (listV l).f3.length s5 E6 (listV l).f4.length s6))
  go_ret
  exact ⟨_, rfl, r5, hB1⟩
end Go.Proofs.YtdgebcgcabhjoaaDoor.P
/- value.Deep, value.Size by value. -/
namespace Go.Proofs.YtdgebcgcabhjoaaDoor.P
set_option linter.unusedVariables false
set_option linter.unusedSimpArgs false
open Go.RowKit Go.Proofs.YtdgebcgcabhjoaaDoorW.PrintWords Go.Proofs.YtdgebcgcabhjoaaDoorW.PrintMore Go.Proofs.YtdgebcgcabhjoaaDoorW.PrintLast
mutual
/-- How many values there are, up to 2^20. -/
def vsize : V → Nat
  | ⟨_, _, _, l, _⟩ => min (vsizes l 1) 1048576
def vsizes : List V → Nat → Nat
  | [], n => n
  | x :: l, n => if 1048576 ≤ n then n else vsizes l (n + vsize x)
end
def vszUp (l : List V) (k : Nat) : Nat := vsizes (l.take k) 1
theorem vsizes_ge : ∀ (l : List V) (n : Nat), 1048576 ≤ n → vsizes l n = n
  | [], _, _ => by unfold vsizes; rfl
  | x :: l, n, h => by unfold vsizes; rw [if_pos h]
theorem vsizes_nil (n : Nat) : vsizes [] n = n := by unfold vsizes; rfl
theorem vsizes_app : ∀ (l r : List V) (n : Nat), vsizes (l ++ r) n = vsizes r (vsizes l n)
  | [], r, n => by rw [List.nil_append, show vsizes [] n = n by unfold vsizes; rfl]
  | x :: l, r, n => by
    rw [List.cons_append]
    by_cases h : 1048576 ≤ n
    · rw [vsizes_ge _ _ h, vsizes_ge _ _ h, vsizes_ge _ _ h]
    · rw [show vsizes (x :: (l ++ r)) n = vsizes (l ++ r) (n + vsize x) by rw [vsizes, if_neg h], show vsizes (x :: l) n = vsizes l (n + vsize x) by rw [vsizes, if_neg h], vsizes_app l r]
theorem vsize_le (v : V) : vsize v ≤ 1048576 := by cases v; unfold vsize; omega
theorem vsize_eq (v : V) : vsize v = min (vszUp v.f3 v.f3.length) 1048576 := by cases v; unfold vsize vszUp; rw [List.take_length]
theorem vszUp_succ (l : List V) (k : Nat) (h : k < l.length) : vszUp l (k + 1) = if 1048576 ≤ vszUp l k then vszUp l k else vszUp l k + vsize (rd_T34 l (k : Int)) := by
  unfold vszUp rd_T34
  rw [List.take_succ_eq_append_getElem h, vsizes_app]
  have e : l.getD (k : Int).toNat z34 = l[k] := by simp [h]
  rw [e, vsizes]
  split
  · rfl
  · rw [vsizes_nil]
theorem vszUp_le (l : List V) (k : Nat) : vszUp l k ≤ 2097152 := by
  induction k with
  | zero => unfold vszUp vsizes; simp
  | succ k ih =>
    by_cases h : k < l.length
    · rw [vszUp_succ l k h]
      have := vsize_le (rd_T34 l (k : Int))
      split <;> omega
    · rw [show vszUp l (k + 1) = vszUp l k by unfold vszUp; rw [List.take_of_length_le (by omega), List.take_of_length_le (by omega)]]
      exact ih
theorem vszUp_stop (l : List V) {k : Nat} (h : 1048576 ≤ vszUp l k) : ∀ n, k ≤ n → vszUp l n = vszUp l k := by
  intro n hn
  unfold vszUp at h ⊢
  have e : l.take n = l.take k ++ (l.take n).drop k := by have := (List.take_append_drop k (l.take n)).symm; rwa [List.take_take, Nat.min_eq_left hn] at this
  rw [e, vsizes_app, vsizes_ge _ _ h]
set_option maxHeartbeats 1000000 in
set_option maxRecDepth 100000 in
theorem Size_any : ∀ (x : V) (cs : List Value) (w : World), k34.K w x cs →
    Calls Tryd.prog 29 #[.agg cs.toArray] w fun e w' => e = .returned (.int .i64 (vsize x)) ∧ Below w.heap.size w w' := by
  refine V.ind fun x ih => ?_
  intro cs w hK
  obtain ⟨A2, c2, A5, c5, A6, c6, rfl, l2, g2, l5, g5, l6, g6⟩ := k34_open hK
  have HC := Lib.hid g5
  have hlen := g5.2.1
  have IH := Lib.hid ih
  clear g2 l2 l5 g5 l6 g6 hK ih
  have HV := Lib.hid (vsize_eq x)
  go_enter Tryd.func29, Tryd.ntmps29
  go_wp2
  go_loopw [3, 9] (fun vm vi wr => ∃ k : Nat, k ≤ x.f3.length ∧ vi = .int .i64 k ∧ vm = .int .i64 (vszUp x.f3 k : Nat) ∧ Below w.heap.size w wr) (fun _ vi _ => x.f3.length - (intOf vi).toNat)
  case atStart => exact ⟨0, Nat.zero_le _, rfl, by unfold vszUp vsizes; simp, (Below.refl _ _).alloc (Nat.le_refl _) _⟩
  case round =>
    obtain ⟨k, hk, rfl, rfl, hB⟩ := hrel
    have HB := Lib.hid hB
    have hle := vszUp_le x.f3 k
    clear hB
    by_cases hlt : k < x.f3.length
    · obtain ⟨ad, D2, d2, D5, d5, D6, d6, rfl, q0, q1, q2, q3, q4, q5, q6, m2, G2, m5, G5, m6, G6⟩ := at_T34 (Kd.C_below HC.out HB.out) (k : Int) (by omega) (by omega)
      rw [Int.toNat_natCast] at q0 q1 q2 q3 q4 q5 q6
      have hKx := Lib.hid (k34_mk wr (rd_T34 x.f3 k) m2 G2 m5 G5 m6 G6)
      clear m2 G2 m5 G5 m6 G6
      have hw : wrap64 ((k : Int) + 1) = ((k + 1 : Nat) : Int) := by unfold wrap64; omega
      by_cases hbig : 1048576 ≤ vszUp x.f3 k
      · have hr : Hid (min (vszUp x.f3 k : Int) 1048576 = (vsize x : Int)) := Lib.hid (by rw [HV.out, vszUp_stop x.f3 hbig _ hk]; omega)
        have hb2 : (1048576 : Int) ≤ (vszUp x.f3 k : Int) := by omega
        go_wp2
        go_ret
        exact ⟨by rw [← hr.out]; rfl, HB.out.alloc HB.out.size _⟩
      · have hs : Hid ((vszUp x.f3 k : Int) + (vsize (rd_T34 x.f3 (k : Int)) : Int) = ((vszUp x.f3 (k + 1) : Nat) : Int)) := Lib.hid (by rw [vszUp_succ x.f3 k hlt, if_neg hbig]; omega)
        have hb2 : ¬ (1048576 : Int) ≤ (vszUp x.f3 k : Int) := by omega
        have hm := vsize_le (rd_T34 x.f3 (k : Int))
        have hmem := Lib.hid (show rd_T34 x.f3 (k : Int) ∈ x.f3 by unfold rd_T34; simp [hlt])
        go_wp2_with (first | (go_at_call 29; (with_reducible refine (IH.out _ hmem.out _ _ ?hK).mono ?_); (case hK => exact k34.K_below ((Below.refl _ _).alloc (Nat.le_refl _) _) hKx.out); rintro e w2 ⟨rfl, hB2⟩))
        have hB3 := below_box HB.out HB.out.size hB2
        clear hB2
        go_roundw
        case rel => exact ⟨k + 1, by omega, by go_num, by rw [hs.out], hB3⟩
        case measure => simp [intOf]; omega
    · obtain rfl : k = x.f3.length := by omega
      have hr : Hid (min (vszUp x.f3 x.f3.length : Int) 1048576 = (vsize x : Int)) := Lib.hid (by rw [HV.out]; omega)
      go_wp2
      go_ret
      exact ⟨by rw [← hr.out]; rfl, HB.out⟩
set_option maxHeartbeats 1000000 in
theorem Deep_any (x : V) (cs : List Value) (w : World) (hK : k34.K w x cs) :
    Calls Tryd.prog 28 #[.agg cs.toArray] w fun e w' => e = .returned (.int .i64 (vdeep 1000 x)) ∧ Below w.heap.size w w' := by
  obtain ⟨A2, c2, A5, c5, A6, c6, rfl, _⟩ := k34_open hK
  have HK := Lib.hid hK
  clear hK
  have hd : ∀ (cs' : List Value) (w' : World), k34.K w' x cs' → Calls Tryd.prog 35 #[.agg cs'.toArray, .int .i64 1000] w' fun e w2 => e = .returned (.int .i64 (vdeep 1000 x)) ∧ Below w'.heap.size w' w2 := fun cs' w' h => deep_any 1000 (Nat.le_refl _) x cs' w' h
  have HD := Lib.hid hd
  clear hd
  go_enter Tryd.func28, Tryd.ntmps28
  go_wp2_with (first | (go_at_call 35; (with_reducible refine (HD.out _ _ ?hK).mono ?_); (case hK => exact k34.K_below ((Below.refl _ _).alloc (Nat.le_refl _) _) HK.out); rintro e w2 ⟨rfl, hB2⟩))
  go_ret
  exact ⟨rfl, below_box (Below.refl _ _) (Nat.le_refl _) hB2⟩
end Go.Proofs.YtdgebcgcabhjoaaDoor.P
/- value.Check by value. -/
namespace Go.Proofs.YtdgebcgcabhjoaaDoor.P
set_option linter.unusedVariables false
set_option linter.unusedSimpArgs false
open Go.RowKit Go.Shelf Go.Proofs.YtdgebcgcabhjoaaDoorW.PrintWords Go.Proofs.YtdgebcgcabhjoaaDoorW.PrintMore Go.Proofs.YtdgebcgcabhjoaaDoorW.PrintLast
attribute [local go_sem] Oper.semAt_some
/-- A value's error: too deep, too great, or the first of its parts'. -/
def vchk (v : V) : Int := if 64 < vdeep 1000 v then 42 else if 16384 < vsize v then 3 else orL ((vall v).map vown)
section
variable {w0 : World}
set_option maxRecDepth 100000 in
set_option maxHeartbeats 2000000 in
theorem all_in (n : Nat) (cs : List Value) (hcs : cs.length = 7) (w : World) :
    CallsIn Fence.wide n Tryd.prog 30 #[.agg cs.toArray] w fun e w' => e = .returned (.func (.func 36) #[] #[.pointer (some ⟨w.heap.size, 0, none⟩)]) ∧ w' = w.alloc (.cells cs.toArray 34) := by
  obtain ⟨a0, a1, a2, a3, a4, a5, a6, rfl⟩ := list7 hcs
  refine callsIn_of_wp Tryd.func30 rfl trivial ?_ rfl
  simp only [Tryd.ntmps30, List.size_toArray, List.length_cons, List.length_nil, Nat.reduceAdd, Nat.reduceSub, Array.replicate_succ, Array.replicate_zero, List.push_toArray, List.append_toArray, List.nil_append, List.cons_append]
  gi_wp2
  go_ret
  exact ⟨rfl, rfl⟩
set_option maxRecDepth 100000 in
set_option maxHeartbeats 2000000 in
theorem all1_in (v : V) (hO : OkV v) (cs : List Value) (hcs : cs.length = 7) (hK : k34.K w0 v cs) (n l Bt : Nat) (J Jx : List (El w0) → World → Prop) (hJA : ∀ x A B, J x A → A.grownBy B none → J x B)
    (hY : ∀ m pre x W, J pre W → pre.length < (vall v).length → YieldAt Fence.wide m Tryd.prog l #[.agg x.1.2.toArray] W fun e W' => (e = .returned (.bool true) ∧ J (pre ++ [x]) W' ∧ KpC w0.heap.size W W') ∨ (e = .returned (.bool false) ∧ Jx (pre ++ [x]) W'))
    (W : World) (hB : W.heap[Bt]? = some (.cells cs.toArray 34 (0, 0))) (hW : Below w0.heap.size w0 W) (h0 : J [] W) :
    CallsIn Fence.wide n Tryd.prog 36 #[.func (.yield l) #[] #[], .pointer (some ⟨Bt, 0, none⟩)] W fun e W' => (∃ v, e = .returned v) ∧ ((∃ ys, elv ys = vall v ∧ J ys W') ∨ (∃ pre, elv pre <+: vall v ∧ Jx pre W')) := by
  have hdd : ∀ k : Nat, (Fence.wide.depth.isSome = true → 1 ≤ k) := fun k h => by cases h
  obtain ⟨a0, a1, a2, a3, a4, a5, a6, rfl⟩ := list7 hcs
  have hp := Lib.hid (walk_in J Jx hJA l (vall v).length hY v hO (n - 1) _ [] W hK hW h0 (by simp))
  have c0 := (blk_cell hB 0).trans rfl
  have c1 := (blk_cell hB 1).trans rfl
  have c2 := (blk_cell hB 2).trans rfl
  have c3 := (blk_cell hB 3).trans rfl
  have c4 := (blk_cell hB 4).trans rfl
  have c5 := (blk_cell hB 5).trans rfl
  have c6 := (blk_cell hB 6).trans rfl
  clear hY hK hB h0 hW
  refine callsIn_of_wp Tryd.func36 rfl trivial ?_ rfl
  simp only [Tryd.ntmps36, List.size_toArray, List.length_cons, List.length_nil, Nat.reduceAdd, Nat.reduceSub, Array.replicate_succ, Array.replicate_zero, List.push_toArray, List.append_toArray, List.nil_append, List.cons_append]
  gi_wp2_with (first | (refine ⟨trivial, hdd _, ?_⟩; gi_at_call 37; refine hp.out.mono ?_; rintro e W1 (⟨ys, rfl, hy1, hj1, hk1⟩ | ⟨q, rfl, hq, hx⟩)))
  · go_end0
    exact ⟨⟨_, rfl⟩, .inl ⟨ys, hy1, by simpa using hj1⟩⟩
  · go_end0
    exact ⟨⟨_, rfl⟩, .inr ⟨q, hq, by simpa using hx⟩⟩
theorem all_stops (v : V) (hO : OkV v) (cs : List Value) (hcs : cs.length = 7) (hK : k34.K w0 v cs) (n Bt : Nat) (hB : w0.heap[Bt]? = some (.cells cs.toArray 34 (0, 0))) :
    SeqStopsK Fence.wide n Tryd.prog 36 #[.pointer (some ⟨Bt, 0, none⟩)] (fun x : El w0 => #[.agg x.1.2.toArray]) (KpC w0.heap.size) (fun ys => elv ys = vall v) (fun pre => elv pre <+: vall v) (vall v).length w0 := fun l J Jx W hW hJ _ hY h0 =>
  all1_in v hO cs hcs hK n l Bt J Jx (fun x A B h g => hJ x A B none h g (fun r e => by cases e)) (fun m pre x W1 hj hl => YieldAt.anyDepth' rfl m (hY pre x W1 hj hl)) W ((hW.block Bt (blk_lt hB)).trans hB) hW h0
end
theorem keepsO_below {W W' : World} (h : Below W.heap.size W W') : KeepsOthers W W' := ⟨h.size, fun k o hk _ => (h.block k (blk_lt hk)).trans hk⟩
theorem orL_app (a b : List Int) : orL (a ++ b) = if orL a = 0 then orL b else orL a := by
  induction a with
  | nil => simp [orL]
  | cons x a ih =>
    rw [List.cons_append, orL, orL, ih]
    by_cases h : x = 0
    · rw [if_pos h, if_pos h]
    · rw [if_neg h, if_neg h, if_neg h]
theorem vown_orL_pre {a : List V} {x : V} {l : List V} (h : a ++ [x] <+: l) (h0 : orL (a.map vown) = 0) (h1 : vown x ≠ 0) : orL (l.map vown) = vown x := by
  obtain ⟨t, rfl⟩ := h
  rw [List.map_append, List.map_append, List.append_assoc, orL_app, if_pos h0, orL_app]
  simp [orL, h1]
set_option maxRecDepth 100000 in
set_option maxHeartbeats 4000000 in
theorem Check_in (n : Nat) (hn : 4 ≤ n) (x : V) (cs : List Value) (w : World) (hLD : LaidW w) (hK : k34.K w x cs) (hO : OkV x) :
    CallsIn Fence.wide n Tryd.prog 22 #[.agg cs.toArray] w fun e W' => e = .returned (.int .i64 (vchk x)) ∧ Below w.heap.size w W' := by
  have h1 : 1 ≤ n := by omega
  have hcs := k34.K_len hK
  obtain ⟨a0, a1, a2, a3, a4, a5, a6, rfl⟩ := list7 hcs
  have HK := Lib.hid hK
  have HL := Lib.hid hLD
  have HO := Lib.hid hO
  have HCS := Lib.hid hcs
  obtain ⟨W2, hW2⟩ : ∃ W2, W2 = (w.alloc (.cells #[a0, a1, a2, a3, a4, a5, a6] 34)).alloc (.cells #[.int .i64 0] 25) := ⟨_, rfl⟩
  have hb2 : Below w.heap.size w W2 := by rw [hW2]; exact ((Below.refl _ _).alloc (Nat.le_refl _) _).alloc (by simp) _
  have hv2 : W2.heap[w.heap.size]? = some (.cells #[a0, a1, a2, a3, a4, a5, a6] 34 (0, 0)) := by rw [hW2]; exact blk_alloc (blk_new _ _) _
  have hr2 : W2.heap[w.heap.size + 1]? = some (.cells #[.int .i64 0] 25 (0, 0)) := by rw [hW2]; have := blk_new (w.alloc (.cells #[a0, a1, a2, a3, a4, a5, a6] 34)) (.cells #[.int .i64 0] 25); rwa [World.size_alloc] at this
  have HB2 := Lib.hid hb2
  have HV2 := Lib.hid hv2
  have HR2 := Lib.hid hr2
  have HW2 := Lib.hid hW2
  clear hK hLD hO hcs hb2 hv2 hr2 hW2
  have arm1 : Hid (CallsIn Fence.wide (n - 1) Tryd.prog 28 #[.agg #[a0, a1, a2, a3, a4, a5, a6]] W2 fun e w1 => e = .returned (.int .i64 (vdeep 1000 x)) ∧ Below W2.heap.size W2 w1) := Lib.hid (callsIn_wide.2 (Deep_any x _ _ (k34.K_below HB2.out HK.out)))
  unfold vchk
  by_cases hd : 64 < vdeep 1000 x
  · rw [if_pos hd]
    have hd2 : (64 : Int) < (vdeep 1000 x : Int) := by omega
    rw [HW2.out] at arm1 HV2 HR2 HB2
    refine callsIn_of_wp_marks Tryd.func22 rfl trivial ?_ rfl
    simp only [Tryd.ntmps22, List.size_toArray, List.length_cons, List.length_nil, Nat.reduceAdd, Nat.reduceSub, Array.replicate_succ, Array.replicate_zero, List.push_toArray, List.append_toArray, List.nil_append, List.cons_append]
    gi_wp2_with (first | (refine ⟨trivial, ?_⟩; gi_at_call 28; refine arm1.out.mono ?_; clear arm1; rintro e w1 ⟨rfl, hB1⟩; obtain ⟨hcl, hfz⟩ := bcells HV2.out hB1; obtain ⟨hcr, hfr⟩ := bcells HR2.out hB1))
    exact ⟨.int .i64 42, by simp [results, Tryd.f22, go_sem, hcr, hfr], rfl, (HB2.out.trans (hB1.mono HB2.out.size)).setCell (p := ⟨w.heap.size + 1, 0, none⟩) (by simp) _⟩
  rw [if_neg hd]
  have hd2 : ¬ (64 : Int) < (vdeep 1000 x : Int) := by omega
  have arm2 : Hid (∀ w1, Below W2.heap.size W2 w1 → CallsIn Fence.wide (n - 1) Tryd.prog 29 #[.agg #[a0, a1, a2, a3, a4, a5, a6]] w1 fun e w2 => e = .returned (.int .i64 (vsize x)) ∧ Below w1.heap.size w1 w2) := Lib.hid fun w1 h => callsIn_wide.2 (Size_any x _ _ (k34.K_below (HB2.out.trans (h.mono HB2.out.size)) HK.out))
  by_cases hz : 16384 < vsize x
  · rw [if_pos hz]
    have hz2 : (16384 : Int) < (vsize x : Int) := by omega
    rw [HW2.out] at arm1 arm2 HV2 HR2 HB2
    refine callsIn_of_wp_marks Tryd.func22 rfl trivial ?_ rfl
    simp only [Tryd.ntmps22, List.size_toArray, List.length_cons, List.length_nil, Nat.reduceAdd, Nat.reduceSub, Array.replicate_succ, Array.replicate_zero, List.push_toArray, List.append_toArray, List.nil_append, List.cons_append]
    gi_wp2_with (first
      | (refine ⟨trivial, ?_⟩; gi_at_call 28; refine arm1.out.mono ?_; clear arm1; rintro e w1 ⟨rfl, hB1⟩; obtain ⟨hcl, hfz⟩ := bcells HV2.out hB1; have hv3 := blk_below2 HV2.out hB1; have hr3 := blk_below2 HR2.out hB1)
      | (refine ⟨trivial, ?_⟩; gi_at_call 29; refine (arm2.out _ hB1).mono ?_; clear arm2; rintro e w2 ⟨rfl, hB3⟩; obtain ⟨hcr, hfr⟩ := bcells hr3 hB3))
    exact ⟨.int .i64 3, by simp [results, Tryd.f22, go_sem, hcr, hfr], rfl, (HB2.out.trans ((hB1.trans (hB3.mono hB1.size)).mono HB2.out.size)).setCell (p := ⟨w.heap.size + 1, 0, none⟩) (by simp) _⟩
  rw [if_neg hz]
  have hz2 : ¬ (16384 : Int) < (vsize x : Int) := by omega
  have H2 := HW2.out
  rw [HW2.out] at arm1 arm2 HV2 HR2 HB2
  refine callsIn_of_wp_marks Tryd.func22 rfl trivial ?_ rfl
  simp only [Tryd.ntmps22, List.size_toArray, List.length_cons, List.length_nil, Nat.reduceAdd, Nat.reduceSub, Array.replicate_succ, Array.replicate_zero, List.push_toArray, List.append_toArray, List.nil_append, List.cons_append]
  gi_wp2_with (first
    | (refine ⟨trivial, ?_⟩; gi_at_call 28; refine arm1.out.mono ?_; clear arm1; rintro e w1 ⟨rfl, hB1⟩; obtain ⟨hcl, hfz⟩ := bcells HV2.out hB1; have hv3 := blk_below2 HV2.out hB1; have hr3 := blk_below2 HR2.out hB1)
    | (refine ⟨trivial, ?_⟩; gi_at_call 29; refine (arm2.out _ hB1).mono ?_; clear arm2; rintro e w2 ⟨rfl, hB3⟩; obtain ⟨hcl2, hfz2⟩ := bcells hv3 hB3; have hr4 := blk_below2 hr3 hB3)
    | (refine ⟨trivial, ?_⟩; gi_at_call 30; refine (all_in (n - 1) [a0, a1, a2, a3, a4, a5, a6] rfl _).mono ?_; rintro e w4 ⟨rfl, rfl⟩))
  have hBw : Below w.heap.size w w2 := HB2.out.trans ((hB1.trans (hB3.mono hB1.size)).mono HB2.out.size)
  have hsz : w.heap.size + 2 ≤ w2.heap.size := by have h1 := hB1.size; have h3 := hB3.size; simp only [World.size_alloc] at h1 h3; omega
  obtain ⟨W0, hW0⟩ : ∃ W0, W0 = w2.alloc (.cells #[a0, a1, a2, a3, a4, a5, a6] 34) := ⟨_, rfl⟩
  have hb0 : Below w.heap.size w W0 := by rw [hW0]; exact hBw.alloc hBw.size _
  have hr0 : W0.heap[w.heap.size + 1]? = some (.cells #[.int .i64 0] 25 (0, 0)) := by rw [hW0]; exact blk_alloc hr4 _
  have hx0 : W0.heap[w2.heap.size]? = some (.cells #[a0, a1, a2, a3, a4, a5, a6] 34 (0, 0)) := by rw [hW0]; exact blk_new _ _
  have hk0 : k34.K W0 x [a0, a1, a2, a3, a4, a5, a6] := k34.K_below hb0 HK.out
  have hl0 : LaidW W0 := HL.out.below hb0
  have hs0 : W0.heap.size = w2.heap.size + 1 := by rw [hW0]; simp
  rw [← hW0]
  have HB0 := Lib.hid hb0
  have HR0 := Lib.hid hr0
  have HX0 := Lib.hid hx0
  have HK0 := Lib.hid hk0
  have HL0 := Lib.hid hl0
  have HS0 := Lib.hid hs0
  clear hBw hB1 hB3 hcl hfz hcl2 hfz2 hv3 hr3 hr4 HV2 HR2 HB2 H2 hb0 hr0 hx0 hk0 hl0 hs0 hW0
  generalize decide ((64 : Int) < (vdeep 1000 x : Int)) = b1
  generalize decide ((16384 : Int) < (vsize x : Int)) = b2
  refine wpIn_rangeFunc_ownH rfl h1 (gf := 36) (lb := #[.pointer (some ⟨w2.heap.size, 0, none⟩)]) rfl trivial (enters_of Tryd.func36 (by kernel_rfl) rfl)
    (all_stops x HO.out [a0, a1, a2, a3, a4, a5, a6] rfl HK0.out (n - 1) w2.heap.size HX0.out) kpC_t (kpC_b (Nat.le_refl _)) (Below.refl _ _) (fun _ => rfl)
    (fun pre W => orL ((elv pre).map vown) = 0 ∧ Below W0.heap.size W0 W)
    (fun c pre W => (c = .ret ∧ (∃ l y, pre = l ++ [y] ∧ orL ((elv l).map vown) = 0 ∧ vown y.1.1 ≠ 0 ∧ W.cell? ⟨w.heap.size + 1, 0, none⟩ = some (.int .i64 (vown y.1.1)))) ∧ Below w.heap.size w W)
    (OwnFrom.and (fun _ _ _ _ hs _ _ => hs) (ownFrom_below (Nat.le_refl _) (Nat.le_refl _)))
    (fun c => OwnFrom.and (Own.from (fun s A B row hs hg hr => by
      obtain ⟨h0, l, y, hl, hg0, hy, hc1⟩ := hs
      exact ⟨h0, l, y, hl, hg0, hy, cell_kept hc1 hg hr⟩) _) (ownFrom_below (Nat.le_refl _) (by have := HS0.out; omega)))
    ⟨rfl, Below.refl _ _⟩
    (fun y a' W => ∃ Bx, W0.heap.size ≤ Bx ∧ W.heap[Bx]? = some (.cells y.1.2.toArray 34 (0, 0)) ∧ a' = { tmps := #[.agg #[a0, a1, a2, a3, a4, a5, a6], .pointer (some ⟨w.heap.size, 0, none⟩), .pointer (some ⟨w.heap.size + 1, 0, none⟩), .pointer (some ⟨Bx, 0, none⟩), undef, .bool b1, .agg #[a0, a1, a2, a3, a4, a5, a6], .int .i64 (vdeep 1000 x), .bool b1, .bool b2, .agg #[a0, a1, a2, a3, a4, a5, a6], .int .i64 (vsize x), .bool b2, .agg #[a0, a1, a2, a3, a4, a5, a6], .func (.func 36) #[] #[.pointer (some ⟨w2.heap.size, 0, none⟩)], .agg y.1.2.toArray, undef, undef, undef, undef, undef], defers := [] })
    (fun y a' s W W' row hs hg hr => by
      obtain ⟨Bx, hle, hb, ha⟩ := hs
      exact ⟨Bx, hle, (hg.block Bx (blk_lt hb) (fun e => by obtain ⟨_, o, ho, hc⟩ := hr _ e.symm; rw [hb] at ho; cases ho; cases hc)).trans hb, ha⟩)
    ?assign ?body ?done ?stop
  case assign =>
    rintro l pre ⟨⟨v, cs⟩, hK, hO⟩ W K ⟨hi, hB⟩ hKK
    replace hK : k34.K W0 v cs := hK
    obtain ⟨A2, c2, A5, c5, A6, c6, rfl, _⟩ := k34_open hK
    gi_wp2
    exact hKK _ _ ((KeepsOthers.alloc _ _).from _) (kpC_below hB.size (below_alloc (Below.refl _ _) _)) ⟨hi, hB.alloc hB.size _⟩ ⟨W.heap.size, hB.size, blk_new _ _, rfl⟩
  case body =>
    rintro l pre ⟨⟨v, cs⟩, hK, hO⟩ a' W hl hr ⟨hi, hB⟩ ⟨Bx, hBx, hbx, rfl⟩ _
    replace hK : k34.K W0 v cs := hK
    replace hO : OkV v := hO
    replace hbx : W.heap[Bx]? = some (.cells cs.toArray 34 (0, 0)) := hbx
    obtain ⟨x1, hx1⟩ : ∃ x1 : El W0, x1 = ⟨(v, cs), hK, hO⟩ := ⟨_, rfl⟩
    have hv1 : x1.1.1 = v := by rw [hx1]
    rw [← hx1]
    have hv2 : elv (pre ++ [x1]) = elv pre ++ [v] := by rw [elv_app, ← hv1]; rfl
    obtain ⟨A2, c2, A5, c5, A6, c6, rfl, _⟩ := k34_open hK
    have hd1 : 1 ≤ n - 1 - 1 := by omega
    have hBw := HB0.out.trans (hB.mono HB0.out.size)
    have hcall := Lib.hid (own_any v _ W (HL0.out.below hB) (k34.K_below hB hK) hO)
    have e0 := (blk_cell hbx 0).trans rfl
    have e1 := (blk_cell hbx 1).trans rfl
    have e2 := (blk_cell hbx 2).trans rfl
    have e3 := (blk_cell hbx 3).trans rfl
    have e4 := (blk_cell hbx 4).trans rfl
    have e5 := (blk_cell hbx 5).trans rfl
    have e6 := (blk_cell hbx 6).trans rfl
    have HI := Lib.hid hi
    have HBB := Lib.hid hB
    have HBW := Lib.hid hBw
    have HV := Lib.hid hv2
    have HV1 := Lib.hid hv1
    have hrw : W.heap[w.heap.size + 1]? = some (.cells #[.int .i64 0] 25 (0, 0)) := (hB.block _ (blk_lt HR0.out)).trans HR0.out
    have HRW := Lib.hid hrw
    clear hi hB hBw hx1 hv2 hv1 hK hO hrw hbx
    by_cases hz : vown v = 0
    · rw [hz] at hcall
      gi_wp2_with (first | (refine ⟨trivial, ?_⟩; gi_at_call 31; refine (CallsIn.inRound l (callsIn_wide.2 hcall.out)).mono ?_; rintro e w5 ⟨rfl, hB5⟩))
      exact ⟨(keepsO_below hB5).from _, kpC_below HBB.out.size hB5, ⟨by rw [HV.out, List.map_append, orL_app, if_pos HI.out]; simp [orL, hz], HBB.out.trans (hB5.mono HBB.out.size)⟩⟩
    · have hzb : (vown v != 0) = true := by simpa using hz
      have HZ := Lib.hid hz
      clear hz
      gi_wp2_with (first | (refine ⟨trivial, ?_⟩; gi_at_call 31; refine (CallsIn.inRound l (callsIn_wide.2 hcall.out)).mono ?_; rintro e w5 ⟨rfl, hB5⟩; obtain ⟨hcr, hfr⟩ := bcells HRW.out hB5))
      exact ⟨((keepsO_below hB5).trans (KeepsOthers.setCell _ _ _)).from _, ⟨rfl, pre, x1, rfl, HI.out, by rw [HV1.out]; exact HZ.out, by rw [HV1.out]; go_simp⟩, (HBW.out.trans (hB5.mono HBW.out.size)).setCell (p := ⟨w.heap.size + 1, 0, none⟩) (by simp) _⟩
  case done =>
    rintro D ys W hD hys ⟨hi, hB⟩ hK
    have hBw := HB0.out.trans (hB.mono HB0.out.size)
    have hrw : W.heap[w.heap.size + 1]? = some (.cells #[.int .i64 0] 25 (0, 0)) := (hB.block _ (blk_lt HR0.out)).trans HR0.out
    have hcr : W.cell? ⟨w.heap.size + 1, 0, none⟩ = some (.int .i64 0) := (blk_cell hrw 0).trans rfl
    have hfr := blk_frozen hrw 0
    have HI := Lib.hid hi
    have HY := Lib.hid hys
    have HBW := Lib.hid hBw
    have HK := Lib.hid hK
    clear hi hys hB hBw hK hrw
    gi_wp2
    have hK' := (KeepsOthers.setCell W ⟨w.heap.size + 1, 0, none⟩ (.int .i64 0)).same D _ HK.out rfl
    refine ⟨by simp, .inl ⟨_, _, rfl, run_takeDeferred hK', ?_⟩⟩
    have e2 : (W.setCell ⟨w.heap.size + 1, 0, none⟩ (.int .i64 0)).cell? ⟨w.heap.size + 1, 0, none⟩ = some (.int .i64 0) := by go_simp
    have k2 := cell_kept e2 (grownBy_putObj' _ D (.deferred none)) (fun r e => by cases e; exact ⟨_, hK', rfl⟩)
    refine ⟨.int .i64 0, by simp [results, Tryd.f22, go_sem, k2], ?_, (HBW.out.setCell (p := ⟨w.heap.size + 1, 0, none⟩) (by simp) _).trans (belowK_b (w := w) (Nat.le_refl _) _ D _ _ (by have := HB0.out.size; omega) hK' rfl rfl)⟩
    rw [← HY.out, HI.out]
  case stop =>
    rintro D c pre W hD hpre ⟨⟨rfl, l, y, rfl, hl, hy, e2⟩, hB⟩ hK
    have HB := Lib.hid hB
    have HK := Lib.hid hK
    have HL := Lib.hid hl
    have HP := Lib.hid hpre
    have HY := Lib.hid hy
    clear hB hK hl hpre hy
    gi_wp2
    refine ⟨by simp, .inl ⟨_, _, rfl, run_takeDeferred HK.out, ?_⟩⟩
    have k2 := cell_kept e2 (grownBy_putObj' _ D (.deferred none)) (fun r e => by cases e; exact ⟨_, HK.out, rfl⟩)
    refine ⟨.int .i64 (vown y.1.1), by simp [results, Tryd.f22, go_sem, k2], ?_, HB.out.trans (belowK_b (w := w) (Nat.le_refl _) W D _ _ (by have := HB0.out.size; omega) HK.out rfl rfl)⟩
    have hp := HP.out
    rw [elv_app] at hp
    rw [vown_orL_pre hp HL.out HY.out]
theorem Check_any (x : V) (cs : List Value) (w : World) (hLD : LaidW w) (hK : k34.K w x cs) (hO : OkV x) :
    Calls Tryd.prog 22 #[.agg cs.toArray] w fun e w' => e = .returned (.int .i64 (vchk x)) ∧ Below w.heap.size w w' :=
  callsIn_wide.1 (Check_in 4 (Nat.le_refl _) x cs w hLD hK hO)
end Go.Proofs.YtdgebcgcabhjoaaDoor.P
/- value.Checks, bolterref05.Own, bolterplain.Copies by value. -/
namespace Go.Proofs.YtdgebcgcabhjoaaDoor.P
set_option linter.unusedVariables false
set_option linter.unusedSimpArgs false
open Go.RowKit Go.Proofs.YtdgebcgcabhjoaaDoorW.PrintWords Go.Proofs.YtdgebcgcabhjoaaDoorW.PrintMore Go.Proofs.YtdgebcgcabhjoaaDoorW.PrintLast
theorem orL_zero {l : List Int} (h : ∀ x ∈ l, x = 0) : orL l = 0 := by
  induction l with
  | nil => rfl
  | cons x l ih =>
    rw [orL, if_pos (h x List.mem_cons_self)]
    exact ih fun y hy => h y (List.mem_cons_of_mem _ hy)
/-- The first error of values. -/
def vchks (l : List V) : Int := orL (l.map vchk)
theorem vchks_app (l : List V) (k : Nat) (hk : k ≤ l.length) (h : ∀ i, i < k → vchk (rd_T34 l (i : Int)) = 0) : vchks l = vchks (l.drop k) := by
  unfold vchks
  conv => lhs; rw [← List.take_append_drop k l, List.map_append]
  refine (orL_app _ _).trans (if_pos (orL_zero fun x hx => ?_))
  obtain ⟨y, hy, rfl⟩ := List.mem_map.1 hx
  obtain ⟨i, hi, rfl⟩ := List.mem_iff_getElem.1 hy
  rw [List.length_take] at hi
  have := h i (by omega)
  rw [show rd_T34 l (i : Int) = (l.take k)[i] by unfold rd_T34; rw [List.getElem_take]; simp [show i < l.length by omega]] at this
  exact this
theorem vchks_at (l : List V) (k : Nat) (hk : k < l.length) (h : ∀ i, i < k → vchk (rd_T34 l (i : Int)) = 0) (hn : vchk (rd_T34 l (k : Int)) ≠ 0) : vchks l = vchk (rd_T34 l (k : Int)) := by
  rw [vchks_app l k (by omega) h]
  have : rd_T34 l (k : Int) = l[k] := by unfold rd_T34; simp [hk]
  rw [this] at hn ⊢
  unfold vchks
  rw [List.drop_eq_getElem_cons hk, List.map_cons, orL, if_neg hn]
theorem vchks_all (l : List V) (h : ∀ i, i < l.length → vchk (rd_T34 l (i : Int)) = 0) : vchks l = 0 := by
  rw [vchks_app l l.length (Nat.le_refl _) h, List.drop_length]
  rfl
set_option maxHeartbeats 1000000 in
set_option maxRecDepth 100000 in
theorem Checks_any (l : List V) (A : Option Addr) (c : Nat) (w : World) (hLD : LaidW w) (hA : k34.C w A l.length l) (hO : ∀ x ∈ l, OkV x) :
    Calls Tryd.prog 14 #[.slice A l.length c] w fun e w' => e = .returned (.int .i64 (vchks l)) ∧ Below w.heap.size w w' := by
  have HA := Lib.hid hA
  have HO := Lib.hid hO
  have HL := Lib.hid hLD
  have hlen := hA.2.1
  clear hA hO hLD
  go_enter Tryd.func14, Tryd.ntmps14
  go_wp2
  go_loopw [8] (fun vi wr => ∃ k : Nat, k ≤ l.length ∧ vi = .int .i64 k ∧ Hid (∀ i, i < k → vchk (rd_T34 l (i : Int)) = 0) ∧ Below w.heap.size w wr) (fun vi _ => l.length - (intOf vi).toNat)
  case atStart => exact ⟨0, Nat.zero_le _, rfl, Lib.hid (fun i h => absurd h (by omega)), Below.refl _ _⟩
  case round =>
    obtain ⟨k, hk, rfl, hu, hB⟩ := hrel
    have HB := Lib.hid hB
    have hsz := hB.size
    clear hB
    by_cases hlt : k < l.length
    · obtain ⟨ad, D2, d2, D5, d5, D6, d6, rfl, q0, q1, q2, q3, q4, q5, q6, m2, G2, m5, G5, m6, G6⟩ := at_T34 (Kd.C_below HA.out HB.out) (k : Int) (by omega) (by omega)
      rw [Int.toNat_natCast] at q0 q1 q2 q3 q4 q5 q6
      have hKa := k34_mk wr (rd_T34 l k) m2 G2 m5 G5 m6 G6
      clear m2 G2 m5 G5 m6 G6
      have hmem : rd_T34 l (k : Int) ∈ l := by unfold rd_T34; simp [hlt]
      have HC := Lib.hid (Check_any _ _ (wr.alloc (.cells #[.int .i64 (rd_T34 l k).f0, .bool (rd_T34 l k).f1.f0, .slice D2 (rd_T34 l k).f1.f1.length d2, .int .i64 (rd_T34 l k).f1.f2, .string (rd_T34 l k).f2, .slice D5 (rd_T34 l k).f3.length d5, .slice D6 (rd_T34 l k).f4.length d6] 34)) ((HL.out.below HB.out).below ((Below.refl _ _).alloc (Nat.le_refl _) _)) (k34.K_below ((Below.refl _ _).alloc (Nat.le_refl _) _) hKa) (HO.out _ hmem))
      have hw : wrap64 ((k : Int) + 1) = ((k + 1 : Nat) : Int) := by unfold wrap64; omega
      clear hKa hmem
      by_cases hz : vchk (rd_T34 l (k : Int)) = 0
      · have hu' : Hid (∀ i, i < k + 1 → vchk (rd_T34 l (i : Int)) = 0) := Lib.hid (fun i hi => by
          rcases Nat.lt_or_ge i k with h | h
          · exact hu.out i h
          · obtain rfl : i = k := by omega
            exact hz)
        clear hu
        go_wp2_with (first | (go_at_call 22; refine HC.out.mono ?_; rw [hz]; rintro e w2 ⟨rfl, hB2⟩; have HB2 := Lib.hid (below_box HB.out hsz hB2)))
        go_roundw
        case rel => exact ⟨k + 1, by omega, by go_num, hu', HB2.out⟩
        case measure => simp [intOf]; omega
      · have hr : Hid (vchks l = vchk (rd_T34 l (k : Int))) := Lib.hid (vchks_at l k hlt hu.out hz)
        have hzb : (vchk (rd_T34 l (k : Int)) != 0) = true := by simpa using hz
        clear hu
        generalize vchk (rd_T34 l (k : Int)) = v at *
        go_wp2_with (first | (go_at_call 22; refine HC.out.mono ?_; rintro e w2 ⟨rfl, hB2⟩; have HB2 := Lib.hid (below_box HB.out hsz hB2)))
        go_ret
        exact ⟨by rw [hr.out]; rfl, HB2.out⟩
    · obtain rfl : k = l.length := by omega
      have hr : Hid (vchks l = 0) := Lib.hid (vchks_all l hu.out)
      clear hu
      go_wp2
      go_ret
      exact ⟨by rw [hr.out]; rfl, HB.out⟩
end Go.Proofs.YtdgebcgcabhjoaaDoor.P

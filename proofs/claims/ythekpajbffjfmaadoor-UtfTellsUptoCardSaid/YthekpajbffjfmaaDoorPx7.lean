-- Written by a program for this claim. Not trusted: Lean checks it.
import Derived.Test.YthekpajbffjfmaaDoorPx0
import Derived.Test.YthekpajbffjfmaaDoorPx6
import Derived.Test.YthekpajbffjfmaaDoorUb
namespace Go.Proofs.YthekpajbffjfmaaDoor.P
open Go.RowKit Go.Proofs.YthekpajbffjfmaaDoorW.PrintWords Go.Proofs.YthekpajbffjfmaaDoorW.PrintLast Go.Proofs.YthekpajbffjfmaaDoorW.PrintMore
attribute [local go_sem] max2_int min2_int max_two min_two max_three min_three max_four min_four   -- for this text's walks alone
set_option linter.unusedVariables false
set_option linter.unusedSimpArgs false

/-! ### utf_Find: function 24 -/
mutual
def utf_Find.j0 : Nat → List Int → Int → List Int → Bool → Option (List Int × Int)
  | 0, _, _, _, _ => none
  | k + 1, x6, x7, x8, x30 => if x30 = true then (some (([] : List Int), x7)) else (utf_Find.l0 k x6 x8 ([] : List Int) (x6.length : Int) 0)
def utf_Find.l0 : Nat → List Int → List Int → List Int → Int → Int → Option (List Int × Int)
  | 0, _, _, _, _, _ => none
  | k + 1, x6, x8, x9, x33, x34 => if x34 < x33 then (if (wrap64 ((x6.length : Int) - x34)) ≥ (x8.length : Int) then (if 0 ≤ x34 then (if x34 ≤ (wrap64 (x34 + (x8.length : Int))) then (if (wrap64 (x34 + (x8.length : Int))) ≤ (x6.length : Int) then ((slices_Equal_int_int.f k ((x6.take ((wrap64 (x34 + (x8.length : Int))) : Int).toNat).drop (x34 : Int).toNat) x8).bind fun t236 => (if t236 = true then (if x9.length < 17592186044416 then (utf_Find.l0 k x6 x8 (x9 ++ [x34]) x33 (wrap64 (x34 + 1))) else (none)) else (utf_Find.l0 k x6 x8 x9 x33 (wrap64 (x34 + 1))))) else (none)) else (none)) else (none)) else (utf_Find.l0 k x6 x8 x9 x33 (wrap64 (x34 + 1)))) else (some (x9, 0))
end
def utf_Find.f (k : Nat) (a0 : ByteArray) (a1 : ByteArray) : Option (List Int × Int) := (utf_Runes.f a0).bind fun bt224 => (if bt224.2 = 0 then ((utf_Runes.f a1).bind fun bt228 => (if bt228.2 = 0 then (utf_Find.j0 k bt224.1 bt228.2 bt228.1 ((bt228.1.length : Int) == 0)) else (utf_Find.j0 k bt224.1 bt228.2 bt228.1 true))) else (some (([] : List Int), bt224.2)))
theorem utf_Find.mono_l : ∀ k, (∀ y0 y1 y2 y3, LeO (utf_Find.j0 k y0 y1 y2 y3) (utf_Find.j0 (k + 1) y0 y1 y2 y3)) ∧ (∀ y0 y1 y2 y3 y4, LeO (utf_Find.l0 k y0 y1 y2 y3 y4) (utf_Find.l0 (k + 1) y0 y1 y2 y3 y4))
  | 0 => ⟨fun _ _ _ _ r h => by simp [utf_Find.j0] at h, fun _ _ _ _ _ r h => by simp [utf_Find.l0] at h⟩
  | k + 1 => by
    obtain ⟨ih0, ih1⟩ := utf_Find.mono_l k
    refine ⟨?_, ?_⟩
    · intro y0 y1 y2 y3
      unfold utf_Find.j0
      repeat' first
      | (with_reducible exact ih0 _ _ _ _)
      | (with_reducible exact ih1 _ _ _ _ _)
      | (with_reducible exact slices_Equal_int_int.mono _ _ _)
      | (with_reducible exact LeO.refl _)
      | (with_reducible exact LeO.none _)
      | (with_reducible refine LeO.ite ?_ ?_)
      | (with_reducible refine LeO.bind ?_ (fun _ => ?_))
      | exact ih0 _ _ _ _
      | exact ih1 _ _ _ _ _
      | exact slices_Equal_int_int.mono _ _ _
      | exact LeO.none _
      | refine LeO.ite ?_ ?_
      | refine LeO.bind ?_ (fun _ => ?_)
    · intro y0 y1 y2 y3 y4
      unfold utf_Find.l0
      repeat' first
      | (with_reducible exact ih0 _ _ _ _)
      | (with_reducible exact ih1 _ _ _ _ _)
      | (with_reducible exact slices_Equal_int_int.mono _ _ _)
      | (with_reducible exact LeO.refl _)
      | (with_reducible exact LeO.none _)
      | (with_reducible refine LeO.ite ?_ ?_)
      | (with_reducible refine LeO.bind ?_ (fun _ => ?_))
      | exact ih0 _ _ _ _
      | exact ih1 _ _ _ _ _
      | exact slices_Equal_int_int.mono _ _ _
      | exact LeO.none _
      | refine LeO.ite ?_ ?_
      | refine LeO.bind ?_ (fun _ => ?_)
theorem utf_Find.mono : ∀ a0 a1 k, LeO (utf_Find.f k a0 a1) (utf_Find.f (k + 1) a0 a1) := by
  intro a0 a1 k
  obtain ⟨ih0, ih1⟩ := utf_Find.mono_l k
  unfold utf_Find.f
  repeat' first
      | (with_reducible exact ih0 _ _ _ _)
      | (with_reducible exact ih1 _ _ _ _ _)
      | (with_reducible exact slices_Equal_int_int.mono _ _ _)
      | (with_reducible exact LeO.refl _)
      | (with_reducible exact LeO.none _)
      | (with_reducible refine LeO.ite ?_ ?_)
      | (with_reducible refine LeO.bind ?_ (fun _ => ?_))
      | exact ih0 _ _ _ _
      | exact ih1 _ _ _ _ _
      | exact slices_Equal_int_int.mono _ _ _
      | exact LeO.none _
      | refine LeO.ite ?_ ?_
      | refine LeO.bind ?_ (fun _ => ?_)
set_option maxHeartbeats 8000000 in
set_option maxRecDepth 100000 in
theorem utf_Find.calls (k : Nat) (a0 : ByteArray) (a1 : ByteArray) (r1 : List Int) (r2 : Int) (w : World) (hLD : LaidW w) (h : utf_Find.f k a0 a1 = some (r1, r2)) :
    Calls Tryd.prog 24 #[.string a0, .string a1] w fun e w' => ∃ v0_ : Value, e = .returned (.tuple #[v0_, .int .i64 r2]) ∧ Kd.R (Kd.int .i64) 3 w' w.heap.size (fun _ => True) v0_ r1 ∧ Below w.heap.size w w' := by
  have HLD := Aside0.mk hLD
  clear hLD
  have HB := Aside0.mk (Below.refl w.heap.size w)
  have H : ((utf_Runes.f a0).bind fun bt224 => (if bt224.2 = 0 then ((utf_Runes.f a1).bind fun bt228 => (if bt228.2 = 0 then (utf_Find.j0 k bt224.1 bt228.2 bt228.1 ((bt228.1.length : Int) == 0)) else (utf_Find.j0 k bt224.1 bt228.2 bt228.1 true))) else (some (([] : List Int), bt224.2)))) = some (r1, r2) := h
  clear h
  replace H := Option.bind_eq_some_iff.mp H
  obtain ⟨⟨t224, t225⟩, A30, H⟩ := H
  replace H : (if t225 = 0 then ((utf_Runes.f a1).bind fun bt228 => (if bt228.2 = 0 then (utf_Find.j0 k t224 bt228.2 bt228.1 ((bt228.1.length : Int) == 0)) else (utf_Find.j0 k t224 bt228.2 bt228.1 true))) else (some (([] : List Int), t225))) = some (r1, r2) := H
  have A3 := Aside0.mk A30
  clear A30
  by_cases c4 : t225 = 0
  · rw [if_pos c4] at H
    have c4b0 : (t225 == 0) = true := beq_iff_eq.mpr c4
    have c4b1 : (t225 != 0) = false := bne_eq_false_iff_eq.mpr c4
    clear c4
    replace H := Option.bind_eq_some_iff.mp H
    obtain ⟨⟨t228, t229⟩, A50, H⟩ := H
    replace H : (if t229 = 0 then (utf_Find.j0 k t224 t229 t228 ((t228.length : Int) == 0)) else (utf_Find.j0 k t224 t229 t228 true)) = some (r1, r2) := H
    have A5 := Aside0.mk A50
    clear A50
    have HC6 := Aside0.mk H
    clear H
    go_enter Tryd.func24, Tryd.ntmps24
    go_upto_region 5 with (first | ((with_reducible refine gate_callee (f := 10) rfl ?_); refine goesL_ (some 13) rfl rfl Tryd.func10 (by kernel_rfl) rfl #[.string a0] rfl (by (try simp only [List.map_toArray, List.map_cons, List.map_nil]); first | done | rfl | (simp only [List.length_drop, List.length_take]; rfl)) ?_; (with_reducible refine (utf_Runes.calls a0 t224 t225 _ ?side1 A3.out).mono ?_); (case side1 => exact LaidW.below HLD.out (by repeat (first | (with_reducible first | exact HB.out | apply below_alloc | apply pw_below_drewN | apply below_drew1) | exact HB.out))); rintro e w7 ⟨v226, rfl, ho0, hb⟩; refine ⟨_, rfl, ?_⟩; have n0_ := Aside0.mk (Kd.R_lower ho0 (below_size (by repeat (first | (with_reducible first | exact HB.out | apply below_alloc | apply pw_below_drewN | apply below_drew1) | exact HB.out)))); have n1_ := Aside0.mk (below_step (by repeat (first | (with_reducible first | exact HB.out | apply below_alloc | apply pw_below_drewN | apply below_drew1) | exact HB.out)) hb); clear HB; have HO227 := n0_; have HB := n1_; clear n0_ n1_; (try clear hb); (try clear hb2); (try clear hk); (try clear hi); (try clear ho0)) | ((with_reducible refine gate_callee (f := 10) rfl ?_); refine goesL_ (some 21) rfl rfl Tryd.func10 (by kernel_rfl) rfl #[.string a1] rfl (by (try simp only [List.map_toArray, List.map_cons, List.map_nil]); first | done | rfl | (simp only [List.length_drop, List.length_take]; rfl)) ?_; (with_reducible refine (utf_Runes.calls a1 t228 t229 _ ?side1 A5.out).mono ?_); (case side1 => exact LaidW.below HLD.out (by repeat (first | (with_reducible first | exact HB.out | apply below_alloc | apply pw_below_drewN | apply below_drew1) | exact HB.out))); rintro e w8 ⟨v230, rfl, ho0, hb⟩; refine ⟨_, rfl, ?_⟩; have n0_ := Aside0.mk (Kd.R_elder' (by (with_reducible repeat (first | apply Kd.R_alloc | apply Kd.R_drewN | apply Kd.R_drew)); exact HO227.out) (Kd.R_base ho0) hb); have n1_ := Aside0.mk (Kd.R_lower (Kd.R_new' ho0 (Kd.R_lt (by (with_reducible repeat (first | apply Kd.R_alloc | apply Kd.R_drewN | apply Kd.R_drew)); exact HO227.out))) (below_size (by repeat (first | (with_reducible first | exact HB.out | apply below_alloc | apply pw_below_drewN | apply below_drew1) | exact HB.out)))); have n2_ := Aside0.mk (below_step (by repeat (first | (with_reducible first | exact HB.out | apply below_alloc | apply pw_below_drewN | apply below_drew1) | exact HB.out)) hb); clear HO227; clear HB; have HO227 := n0_; have HO231 := n1_; have HB := n2_; clear n0_ n1_ n2_; (try clear hb); (try clear hb2); (try clear hk); (try clear hi); (try clear ho0)))
    (try simp only [Act.put, List.setIfInBounds_toArray, List.set_cons_zero, List.set_cons_succ])
    go_cut [30] (fun v30 wc => ∃ (kq : Nat) (x30_5 : Bool), v30 = .bool x30_5 ∧ Aside0 (utf_Find.j0 kq t224 t229 t228 x30_5 = some (r1, r2)) ∧ Aside0 (kq ≤ k) ∧ Aside0 (Kd.R (Kd.int .i64) 3 wc w.heap.size (fun k_ => some k_ ≠ (v230 : Value).ownBlock) v226 t224) ∧ Aside0 (Kd.R (Kd.int .i64) 3 wc w.heap.size (fun k_ => some k_ ≠ (v226 : Value).ownBlock) v230 t228) ∧ Aside0 (Below w.heap.size w wc))
    case first =>
      have H := HC6.out
      clear HC6
      by_cases c9 : t229 = 0
      · rw [if_pos c9] at H
        have c9b0 : (t229 == 0) = true := beq_iff_eq.mpr c9
        have c9b1 : (t229 != 0) = false := bne_eq_false_iff_eq.mpr c9
        clear c9
        (first | rw [c9b0] | (simp only [i64_w, i32_w]; rw [c9b0]) | skip)
        have H' := Aside0.mk H
        clear H
        obtain ⟨Ao10, co10, eo10⟩ := Kd.R_slice HO231.out
        subst eo10
        go_wp2
        go_meet
        case rel => exact ⟨_, (((t228.length : Int) == 0)), (by first | rfl | (simp; done) | (simp [*]; done)), H', ⟨by first | omega | exact Nat.le_refl _⟩, ⟨by (with_reducible repeat (first | apply Kd.R_alloc | apply Kd.R_drewN | apply Kd.R_drew)); exact Kd.R_mono HO227.out (fun _ hk => hk.2)⟩, ⟨by (with_reducible repeat (first | apply Kd.R_alloc | apply Kd.R_drewN | apply Kd.R_drew)); exact Kd.R_mono HO231.out (fun _ hk => hk.2)⟩, ⟨by repeat (first | (with_reducible first | exact HB.out | apply below_alloc | apply pw_below_drewN | apply below_drew1) | exact HB.out)⟩⟩
      · rw [if_neg c9] at H
        have c9b0 : (t229 == 0) = false := beq_eq_false_iff_ne.mpr c9
        have c9b1 : (t229 != 0) = true := bne_iff_ne.mpr c9
        (first | rw [c9b0] | (simp only [i64_w, i32_w]; rw [c9b0]) | skip)
        have H' := Aside0.mk H
        clear H
        go_wp2
        go_meet
        case rel => exact ⟨_, (true), (by first | rfl | (simp; done) | (simp [*]; done)), H', ⟨by first | omega | exact Nat.le_refl _⟩, ⟨by (with_reducible repeat (first | apply Kd.R_alloc | apply Kd.R_drewN | apply Kd.R_drew)); exact Kd.R_mono HO227.out (fun _ hk => hk.2)⟩, ⟨by (with_reducible repeat (first | apply Kd.R_alloc | apply Kd.R_drewN | apply Kd.R_drew)); exact Kd.R_mono HO231.out (fun _ hk => hk.2)⟩, ⟨by repeat (first | (with_reducible first | exact HB.out | apply below_alloc | apply pw_below_drewN | apply below_drew1) | exact HB.out)⟩⟩
    case rest =>
      clear HC6
      try clear c1
      try clear c2
      try clear p2
      try clear c4
      try clear c4b0
      try clear c4b1
      try clear c9
      try clear c9b0
      try clear c9b1
      try clear c10
      obtain ⟨kq, x30_5, rfl, HA, HJ5, HO_6, HO_8, HB⟩ := hcut
      cases kq with
      | zero => exact absurd HA.out (by simp [utf_Find.j0])
      | succ kj5 =>
        have H := HA.out
        clear HA
        simp only [utf_Find.j0] at H
        by_cases c11 : x30_5 = true
        · subst c11
          have H1 : (some (([] : List Int), t229)) = some (r1, r2) := by rw [if_pos rfl] at H; exact H
          clear H
          have H := H1
          clear H1
          simp only [Option.some.injEq, Prod.mk.injEq] at H
          obtain ⟨rfl, rfl⟩ := H
          go_wp2
          go_ret2
          exact ⟨_, by first | rfl | (simp [errW_none, errW_some] <;> rfl) | (simp [*, errW_none, errW_some] <;> rfl), by first | exact Kd.R_nil _ _ _ _ _ | exact Kd.N_nil _ _ _ _ _ | exact Kd.V_nil _ _ _ _ _ | exact Kd.Q_nil _ _ _ _ _ | exact Kd.S_nil _ _ _ _ _, by repeat (first | (with_reducible first | exact HB.out | apply below_alloc | apply pw_below_drewN | apply below_drew1) | exact HB.out)⟩
        · replace c11 := Bool.eq_false_iff.mpr c11
          subst c11
          have H1 : (utf_Find.l0 kj5 t224 t228 ([] : List Int) (t224.length : Int) 0) = some (r1, r2) := by rw [if_neg (show ¬ (false = true) by decide)] at H; exact H
          clear H
          have H := H1
          clear H1
          have H' := Aside0.mk H
          clear H
          obtain ⟨Ao12, co12, eo12⟩ := Kd.R_slice HO_6.out
          subst eo12
          go_wp2
          go_loopg [9, 34] kj5 (fun kq v9 v34 w' => ∃ (x9_2 : List Int) (x34_2 : Int), v34 = .int .i64 x34_2 ∧ Aside0 (utf_Find.l0 kq t224 t228 x9_2 (t224.length : Int) x34_2 = some (r1, r2)) ∧ Aside0 (kq ≤ kj5) ∧ Aside0 (Kd.R (Kd.int .i64) 3 w' w.heap.size (fun k_ => some k_ ≠ (v230 : Value).ownBlock ∧ some k_ ≠ (v9 : Value).ownBlock) (.slice Ao12 t224.length co12) t224) ∧ Aside0 (Kd.R (Kd.int .i64) 3 w' w.heap.size (fun k_ => some k_ ≠ ((.slice Ao12 t224.length co12) : Value).ownBlock ∧ some k_ ≠ (v9 : Value).ownBlock) v230 t228) ∧ Aside0 (Kd.R (Kd.int .i64) 3 w' w.heap.size (fun k_ => some k_ ≠ ((.slice Ao12 t224.length co12) : Value).ownBlock ∧ some k_ ≠ (v230 : Value).ownBlock) v9 x9_2) ∧ Aside0 (Below w.heap.size w w'))
          case atStart => exact ⟨(([] : List Int)), (0), (by first | rfl | (simp; done) | (simp [*]; done)), H', ⟨Nat.le_refl _⟩, ⟨by (with_reducible repeat (first | apply Kd.R_alloc | apply Kd.R_drewN | apply Kd.R_drew)); exact Kd.R_mono HO_6.out (fun _ hk => ⟨hk, (by simp [Value.ownBlock])⟩)⟩, ⟨by (with_reducible repeat (first | apply Kd.R_alloc | apply Kd.R_drewN | apply Kd.R_drew)); exact Kd.R_mono HO_8.out (fun _ hk => ⟨hk, (by simp [Value.ownBlock])⟩)⟩, ⟨by first | exact Kd.R_nil _ _ _ _ _ | exact Kd.N_nil _ _ _ _ _ | exact Kd.V_nil _ _ _ _ _ | exact Kd.Q_nil _ _ _ _ _ | exact Kd.S_nil _ _ _ _ _⟩, ⟨by repeat (first | (with_reducible first | exact HB.out | apply below_alloc | apply pw_below_drewN | apply below_drew1) | exact HB.out)⟩⟩
          case round =>
            clear H'
            try clear c1
            try clear c2
            try clear p2
            try clear c4
            try clear c4b0
            try clear c4b1
            try clear c9
            try clear c9b0
            try clear c9b1
            try clear c10
            try clear c11
            try clear p2
            obtain ⟨x9_2, x34_2, rfl, HA, HK2, HO_6, HO_8, HO_9, HB⟩ := hrel
            cases gk with
            | zero => exact absurd HA.out (by simp [utf_Find.l0])
            | succ k2 =>
              have H := HA.out
              clear HA
              simp only [utf_Find.l0] at H
              by_cases c13 : x34_2 < (t224.length : Int)
              · rw [if_pos c13] at H
                have c13b0 : decide (x34_2 < (t224.length : Int)) = true := decide_eq_true c13
                clear c13
                by_cases c14 : (wrap64 ((t224.length : Int) - x34_2)) ≥ (t228.length : Int)
                · rw [if_pos c14] at H
                  have c14b0 : decide ((t228.length : Int) ≤ (wrap64 ((t224.length : Int) - x34_2))) = true := decide_eq_true c14
                  clear c14
                  by_cases c15 : 0 ≤ x34_2
                  · rw [if_pos c15] at H
                    have c15b0 := eq_true c15
                    have c15b1 : decide (0 ≤ x34_2) = true := decide_eq_true c15
                    clear c15
                    by_cases c16 : x34_2 ≤ (wrap64 (x34_2 + (t228.length : Int)))
                    · rw [if_pos c16] at H
                      have c16b0 := eq_true c16
                      have c16b1 : decide (x34_2 ≤ (wrap64 (x34_2 + (t228.length : Int)))) = true := decide_eq_true c16
                      by_cases c17 : (wrap64 (x34_2 + (t228.length : Int))) ≤ (t224.length : Int)
                      · rw [if_pos c17] at H
                        have c17b0 := eq_true c17
                        have c17b1 : decide ((wrap64 (x34_2 + (t228.length : Int))) ≤ (t224.length : Int)) = true := decide_eq_true c17
                        obtain ⟨y232, hy232⟩ : ∃ y_ : List Int, y_ = ((t224.take ((wrap64 (x34_2 + (t228.length : Int))) : Int).toNat).drop (x34_2 : Int).toNat) := ⟨_, rfl⟩
                        replace H : ((slices_Equal_int_int.f k2 y232 t228).bind fun t236 => (if t236 = true then (if x9_2.length < 17592186044416 then (utf_Find.l0 k2 t224 t228 (x9_2 ++ [x34_2]) (t224.length : Int) (wrap64 (x34_2 + 1))) else (none)) else (utf_Find.l0 k2 t224 t228 x9_2 (t224.length : Int) (wrap64 (x34_2 + 1))))) = some (r1, r2) := by first | (rw [hy232]; with_reducible exact H) | (have H2_ := (Option.bind_some _ _).symm.trans H; rw [hy232]; with_reducible exact H2_) | (have H2_ := (Option.bind_some _ _).symm.trans H; with_reducible exact H2_) | with_reducible exact H | (rw [hy232]; exact H) | exact H
                        have Ny232 := Aside0.mk hy232
                        clear hy232
                        replace H := Option.bind_eq_some_iff.mp H
                        obtain ⟨t236, A180, H⟩ := H
                        replace H : (if t236 = true then (if x9_2.length < 17592186044416 then (utf_Find.l0 k2 t224 t228 (x9_2 ++ [x34_2]) (t224.length : Int) (wrap64 (x34_2 + 1))) else (none)) else (utf_Find.l0 k2 t224 t228 x9_2 (t224.length : Int) (wrap64 (x34_2 + 1)))) = some (r1, r2) := H
                        have A18 := Aside0.mk A180
                        clear A180
                        by_cases c19 : t236 = true
                        · subst c19
                          have H1 : (if x9_2.length < 17592186044416 then (utf_Find.l0 k2 t224 t228 (x9_2 ++ [x34_2]) (t224.length : Int) (wrap64 (x34_2 + 1))) else (none)) = some (r1, r2) := by rw [if_pos rfl] at H; exact H
                          clear H
                          have H := H1
                          clear H1
                          by_cases c20 : x9_2.length < 17592186044416
                          · rw [if_pos c20] at H
                            have LMc20 := Aside0.mk c20
                            clear c20
                            obtain ⟨y237, hy237⟩ : ∃ y_ : List Int, y_ = (x9_2 ++ [x34_2]) := ⟨_, rfl⟩
                            replace H : (utf_Find.l0 k2 t224 t228 y237 (t224.length : Int) (wrap64 (x34_2 + 1))) = some (r1, r2) := by first | (rw [hy237]; with_reducible exact H) | (have H2_ := (Option.bind_some _ _).symm.trans H; rw [hy237]; with_reducible exact H2_) | (have H2_ := (Option.bind_some _ _).symm.trans H; with_reducible exact H2_) | with_reducible exact H | (rw [hy237]; exact H) | exact H
                            have Ny237 := Aside0.mk hy237
                            clear hy237
                            have H' := Aside0.mk H
                            clear H
                            obtain ⟨Ao21, co21, eo21⟩ := Kd.R_slice HO_8.out
                            subst eo21
                            have q22 : ((wrap64 (x34_2 + (t228.length : Int))) : Int) ≤ ((t224.length : Int) : Int) := of_decide_eq_true (by first | (with_reducible assumption) | assumption)
                            obtain ⟨i022, hi022, _, hsz22, _⟩ := info_parts info3
                            have hroom22 : t224.length ≤ co12 := (Kd.R_reads' HO_6.out).2.1
                            have hC22 : Kd.C (Kd.int .i64) _ Ao12 t224.length t224 := (Kd.R_reads' HO_6.out).2.2
                            have ql22 : (x34_2 : Int) ≤ ((wrap64 (x34_2 + (t228.length : Int))) : Int) := of_decide_eq_true (by first | (with_reducible assumption) | assumption)
                            have q022 : (0 : Int) ≤ (x34_2 : Int) := of_decide_eq_true (by first | (with_reducible assumption) | assumption)
                            have hcut22 := cut_mid (P := Tryd.prog) 22 3 .i64 .i64 Tryd.underlying22 hi022 1 hsz22 Ao12 t224.length co12 x34_2 (wrap64 (x34_2 + (t228.length : Int))) q022 ql22 q22 hroom22
                            have hr22 := Kd.C_mid (lo := (x34_2 : Int).toNat) (hi := ((wrap64 (x34_2 + (t228.length : Int))) : Int).toNat) (c := co12) hC22 (by omega) (by omega) hroom22
                            obtain ⟨A22, hA22⟩ : ∃ A1, A1 = (if co12 = (x34_2 : Int).toNat then Ao12 else (Ao12 : Option Addr).map (·.add ((x34_2 : Int).toNat * 1))) := ⟨_, rfl⟩
                            obtain ⟨c22, hc22⟩ : ∃ c1, c1 = co12 - (x34_2 : Int).toNat := ⟨_, rfl⟩
                            have hy22 : y232.length = ((wrap64 (x34_2 + (t228.length : Int))) : Int).toNat - (x34_2 : Int).toNat := (by rw [Ny232.out, List.length_drop, List.length_take] <;> omega)
                            rw [show ((t224).take ((wrap64 (x34_2 + (t228.length : Int))) : Int).toNat).drop (x34_2 : Int).toNat = y232 from Ny232.out.symm] at hr22
                            replace hr22 : Kd.C (Kd.int .i64) _ A22 y232.length y232 := (by rw [hA22]; exact hr22)
                            rw [← hy22, ← hA22, ← hc22] at hcut22
                            have HR235 := Aside0.mk hr22
                            have HC235 := Aside0.mk (show y232.length ≤ c22 from by rw [hy22, hc22]; exact Nat.sub_le_sub_right (Nat.le_trans (by omega) hroom22) _)
                            clear hr22 hC22 hroom22 hi022 hsz22 hc22
                            have KY22 := Aside0.mk hy22
                            have KA22 := Aside0.mk hA22
                            clear hy22 hA22
                            have KL22 := Aside0.mk (show ((wrap64 (x34_2 + (t228.length : Int))) : Int).toNat ≤ t224.length from by omega)
                            have KM22 := Aside0.mk (show (x34_2 : Int).toNat ≤ ((wrap64 (x34_2 + (t228.length : Int))) : Int).toNat from by omega)
                            replace q22 := eq_true q22
                            go_wp2_with (first | (go_at_call 37; (with_reducible refine (slices_Equal_int_int.calls k2 _ _ y232 _ _ t228 true _ ?side1 ?side2 ?side3 ?side4 ?side5 A18.out).mono ?_); (case side1 => exact LaidW.below HLD.out (by repeat (first | (with_reducible first | exact HB.out | apply below_alloc | apply pw_below_drewN | apply below_drew1) | exact HB.out))); (case side2 => repeat (first | exact (by repeat (first | (with_reducible exact HR235.out) | (with_reducible refine Kd.C_alloc ?_ _) | (with_reducible refine Kd.C_drewN ?_ _) | (with_reducible refine Kd.C_drew ?_) | exact HR235.out)) | (with_reducible refine Kd.C_alloc ?_ _) | (with_reducible refine Kd.C_drewN ?_ _) | (with_reducible refine Kd.C_drew ?_))); (case side3 => exact HC235.out); (case side4 => repeat (first | exact (Kd.R_reads' HO_8.out).2.2 | (with_reducible refine Kd.C_alloc ?_ _) | (with_reducible refine Kd.C_drewN ?_ _) | (with_reducible refine Kd.C_drew ?_))); (case side5 => exact (Kd.R_reads' HO_8.out).2.1); rintro e w' ⟨rfl, ⟨nd, rfl⟩⟩) | ((with_reducible refine gate_builtin (b := .append) (xs := #[.tmp 55, .tmp 57]) rfl ?_); (try (refine gate_guard (by rfl) ?_; dsimp only)); at_builtin; refine Kd.R_append (Kd.int .i64) (w0 := w) w.heap.size rfl (.tmp 55) (.tmp 57) 22 3 (.int .i64 0) 8 rfl Tryd.underlying22 info3 rfl (by decide) (by omega) u9 x9_2 x34_2 [.int .i64 x34_2] (fun k_ => some k_ ≠ (.slice Ao12 t224.length co12 : Value).ownBlock ∧ some k_ ≠ (.slice Ao21 t228.length co21 : Value).ownBlock) (fun _ => False) rfl rfl ?aP (fun _ hk => hk.elim) ?aF ?aO ?aB ?aS ?aL ?_; (case aP => exact rfl); (case aB => exact (by repeat (first | (with_reducible first | exact HB.out | apply below_alloc | apply pw_below_drewN | apply below_drew1) | exact HB.out))); (case aF => exact (fun k_ hk => ⟨Kd.fresh' (Kd.R_lt (by (with_reducible repeat (first | apply Kd.R_alloc | apply Kd.R_drewN | apply Kd.R_drew)); exact HO_6.out)) k_ hk, Kd.fresh' (Kd.R_lt (by (with_reducible repeat (first | apply Kd.R_alloc | apply Kd.R_drewN | apply Kd.R_drew)); exact HO_8.out)) k_ hk⟩)); (case aO => exact (by (with_reducible repeat (first | apply Kd.R_alloc | apply Kd.R_drewN | apply Kd.R_drew)); exact HO_9.out)); (case aS => exact (below_size (by repeat (first | (with_reducible first | exact HB.out | apply below_alloc | apply pw_below_drewN | apply below_drew1) | exact HB.out)))); (case aL => have := LMc20.out; omega); intro v238 w23 ho hb hg hat; rw [← Ny237.out] at ho; have n0_ := Aside0.mk (Kd.R_after (ok := (fun k_ => some k_ ≠ (.slice Ao21 t228.length co21 : Value).ownBlock)) (by (with_reducible repeat (first | apply Kd.R_alloc | apply Kd.R_drewN | apply Kd.R_drew)); exact HO_6.out) hg hat); have n1_ := Aside0.mk (Kd.R_after (ok := (fun k_ => some k_ ≠ (.slice Ao12 t224.length co12 : Value).ownBlock)) (by (with_reducible repeat (first | apply Kd.R_alloc | apply Kd.R_drewN | apply Kd.R_drew)); exact HO_8.out) hg hat); have n2_ := Aside0.mk (hb); have n3_ := Aside0.mk ((show Kd.C (Kd.int .i64) w23 A22 y232.length y232 from by rw [Ny232.out, KA22.out]; exact Kd.C_mid (lo := (x34_2 : Int).toNat) (hi := ((wrap64 (x34_2 + (t228.length : Int))) : Int).toNat) (c := co12) ((Kd.R_reads' (Kd.R_after (ok := (fun k_ => some k_ ≠ (.slice Ao21 t228.length co21 : Value).ownBlock)) (by (with_reducible repeat (first | apply Kd.R_alloc | apply Kd.R_drewN | apply Kd.R_drew)); exact HO_6.out) hg hat)).2.2) KM22.out KL22.out ((Kd.R_reads' (Kd.R_after (ok := (fun k_ => some k_ ≠ (.slice Ao21 t228.length co21 : Value).ownBlock)) (by (with_reducible repeat (first | apply Kd.R_alloc | apply Kd.R_drewN | apply Kd.R_drew)); exact HO_6.out) hg hat)).2.1))); have n4_ := Aside0.mk (ho); clear HO_6; clear HO_8; clear HB; clear HR235; clear HO_9; have HO_6 := n0_; have HO_8 := n1_; have HB := n2_; have HR235 := n3_; have HO239 := n4_; clear n0_ n1_ n2_ n3_ n4_; clear ho hb hg hat))
                            go_roundg k2
                            case measure => have := HJ5.out; have := HK2.out; omega
                            case rel => exact ⟨(y237), (wrap64 (x34_2 + 1)), (by first | rfl | (simp; done) | (simp [*]; done)), H', ⟨by have := HJ5.out; have := HK2.out; omega⟩, ⟨by (with_reducible repeat (first | apply Kd.R_alloc | apply Kd.R_drewN | apply Kd.R_drew)); exact HO_6.out⟩, ⟨by (with_reducible repeat (first | apply Kd.R_alloc | apply Kd.R_drewN | apply Kd.R_drew)); exact HO_8.out⟩, ⟨by (with_reducible repeat (first | apply Kd.R_alloc | apply Kd.R_drewN | apply Kd.R_drew)); exact HO239.out⟩, ⟨by repeat (first | (with_reducible first | exact HB.out | apply below_alloc | apply pw_below_drewN | apply below_drew1) | exact HB.out)⟩⟩
                          · rw [if_neg c20] at H
                            exact absurd H (by simp)
                        · replace c19 := Bool.eq_false_iff.mpr c19
                          subst c19
                          have H1 : (utf_Find.l0 k2 t224 t228 x9_2 (t224.length : Int) (wrap64 (x34_2 + 1))) = some (r1, r2) := by rw [if_neg (show ¬ (false = true) by decide)] at H; exact H
                          clear H
                          have H := H1
                          clear H1
                          have H' := Aside0.mk H
                          clear H
                          obtain ⟨Ao24, co24, eo24⟩ := Kd.R_slice HO_8.out
                          subst eo24
                          have q25 : ((wrap64 (x34_2 + (t228.length : Int))) : Int) ≤ ((t224.length : Int) : Int) := of_decide_eq_true (by first | (with_reducible assumption) | assumption)
                          obtain ⟨i025, hi025, _, hsz25, _⟩ := info_parts info3
                          have hroom25 : t224.length ≤ co12 := (Kd.R_reads' HO_6.out).2.1
                          have hC25 : Kd.C (Kd.int .i64) _ Ao12 t224.length t224 := (Kd.R_reads' HO_6.out).2.2
                          have ql25 : (x34_2 : Int) ≤ ((wrap64 (x34_2 + (t228.length : Int))) : Int) := of_decide_eq_true (by first | (with_reducible assumption) | assumption)
                          have q025 : (0 : Int) ≤ (x34_2 : Int) := of_decide_eq_true (by first | (with_reducible assumption) | assumption)
                          have hcut25 := cut_mid (P := Tryd.prog) 22 3 .i64 .i64 Tryd.underlying22 hi025 1 hsz25 Ao12 t224.length co12 x34_2 (wrap64 (x34_2 + (t228.length : Int))) q025 ql25 q25 hroom25
                          have hr25 := Kd.C_mid (lo := (x34_2 : Int).toNat) (hi := ((wrap64 (x34_2 + (t228.length : Int))) : Int).toNat) (c := co12) hC25 (by omega) (by omega) hroom25
                          obtain ⟨A25, hA25⟩ : ∃ A1, A1 = (if co12 = (x34_2 : Int).toNat then Ao12 else (Ao12 : Option Addr).map (·.add ((x34_2 : Int).toNat * 1))) := ⟨_, rfl⟩
                          obtain ⟨c25, hc25⟩ : ∃ c1, c1 = co12 - (x34_2 : Int).toNat := ⟨_, rfl⟩
                          have hy25 : y232.length = ((wrap64 (x34_2 + (t228.length : Int))) : Int).toNat - (x34_2 : Int).toNat := (by rw [Ny232.out, List.length_drop, List.length_take] <;> omega)
                          rw [show ((t224).take ((wrap64 (x34_2 + (t228.length : Int))) : Int).toNat).drop (x34_2 : Int).toNat = y232 from Ny232.out.symm] at hr25
                          replace hr25 : Kd.C (Kd.int .i64) _ A25 y232.length y232 := (by rw [hA25]; exact hr25)
                          rw [← hy25, ← hA25, ← hc25] at hcut25
                          have HR235 := Aside0.mk hr25
                          have HC235 := Aside0.mk (show y232.length ≤ c25 from by rw [hy25, hc25]; exact Nat.sub_le_sub_right (Nat.le_trans (by omega) hroom25) _)
                          clear hr25 hC25 hroom25 hi025 hsz25 hc25
                          have KY25 := Aside0.mk hy25
                          have KA25 := Aside0.mk hA25
                          clear hy25 hA25
                          have KL25 := Aside0.mk (show ((wrap64 (x34_2 + (t228.length : Int))) : Int).toNat ≤ t224.length from by omega)
                          have KM25 := Aside0.mk (show (x34_2 : Int).toNat ≤ ((wrap64 (x34_2 + (t228.length : Int))) : Int).toNat from by omega)
                          replace q25 := eq_true q25
                          go_wp2_with (first | (go_at_call 37; (with_reducible refine (slices_Equal_int_int.calls k2 _ _ y232 _ _ t228 false _ ?side1 ?side2 ?side3 ?side4 ?side5 A18.out).mono ?_); (case side1 => exact LaidW.below HLD.out (by repeat (first | (with_reducible first | exact HB.out | apply below_alloc | apply pw_below_drewN | apply below_drew1) | exact HB.out))); (case side2 => repeat (first | exact (by repeat (first | (with_reducible exact HR235.out) | (with_reducible refine Kd.C_alloc ?_ _) | (with_reducible refine Kd.C_drewN ?_ _) | (with_reducible refine Kd.C_drew ?_) | exact HR235.out)) | (with_reducible refine Kd.C_alloc ?_ _) | (with_reducible refine Kd.C_drewN ?_ _) | (with_reducible refine Kd.C_drew ?_))); (case side3 => exact HC235.out); (case side4 => repeat (first | exact (Kd.R_reads' HO_8.out).2.2 | (with_reducible refine Kd.C_alloc ?_ _) | (with_reducible refine Kd.C_drewN ?_ _) | (with_reducible refine Kd.C_drew ?_))); (case side5 => exact (Kd.R_reads' HO_8.out).2.1); rintro e w' ⟨rfl, ⟨nd, rfl⟩⟩))
                          go_roundg k2
                          case measure => have := HJ5.out; have := HK2.out; omega
                          case rel => exact ⟨(x9_2), (wrap64 (x34_2 + 1)), (by first | rfl | (simp; done) | (simp [*]; done)), H', ⟨by have := HJ5.out; have := HK2.out; omega⟩, ⟨by (with_reducible repeat (first | apply Kd.R_alloc | apply Kd.R_drewN | apply Kd.R_drew)); exact HO_6.out⟩, ⟨by (with_reducible repeat (first | apply Kd.R_alloc | apply Kd.R_drewN | apply Kd.R_drew)); exact HO_8.out⟩, ⟨by (with_reducible repeat (first | apply Kd.R_alloc | apply Kd.R_drewN | apply Kd.R_drew)); exact HO_9.out⟩, ⟨by repeat (first | (with_reducible first | exact HB.out | apply below_alloc | apply pw_below_drewN | apply below_drew1) | exact HB.out)⟩⟩
                      · rw [if_neg c17] at H
                        exact absurd H (by simp)
                    · rw [if_neg c16] at H
                      exact absurd H (by simp)
                  · rw [if_neg c15] at H
                    exact absurd H (by simp)
                · rw [if_neg c14] at H
                  have c14b0 : decide ((t228.length : Int) ≤ (wrap64 ((t224.length : Int) - x34_2))) = false := decide_eq_false c14
                  clear c14
                  have H' := Aside0.mk H
                  clear H
                  obtain ⟨Ao26, co26, eo26⟩ := Kd.R_slice HO_8.out
                  subst eo26
                  go_wp2
                  go_roundg k2
                  case measure => have := HJ5.out; have := HK2.out; omega
                  case rel => exact ⟨(x9_2), (wrap64 (x34_2 + 1)), (by first | rfl | (simp; done) | (simp [*]; done)), H', ⟨by have := HJ5.out; have := HK2.out; omega⟩, ⟨by (with_reducible repeat (first | apply Kd.R_alloc | apply Kd.R_drewN | apply Kd.R_drew)); exact HO_6.out⟩, ⟨by (with_reducible repeat (first | apply Kd.R_alloc | apply Kd.R_drewN | apply Kd.R_drew)); exact HO_8.out⟩, ⟨by (with_reducible repeat (first | apply Kd.R_alloc | apply Kd.R_drewN | apply Kd.R_drew)); exact HO_9.out⟩, ⟨by repeat (first | (with_reducible first | exact HB.out | apply below_alloc | apply pw_below_drewN | apply below_drew1) | exact HB.out)⟩⟩
              · rw [if_neg c13] at H
                have c13b0 : decide (x34_2 < (t224.length : Int)) = false := decide_eq_false c13
                clear c13
                simp only [Option.some.injEq, Prod.mk.injEq] at H
                obtain ⟨rfl, rfl⟩ := H
                go_wp2
                go_ret2
                exact ⟨_, by first | rfl | (simp [errW_none, errW_some] <;> rfl) | (simp [*, errW_none, errW_some] <;> rfl), by (with_reducible repeat (first | apply Kd.R_alloc | apply Kd.R_drewN | apply Kd.R_drew)); exact Kd.R_mono HO_9.out (fun _ hk => trivial), by repeat (first | (with_reducible first | exact HB.out | apply below_alloc | apply pw_below_drewN | apply below_drew1) | exact HB.out)⟩
  · rw [if_neg c4] at H
    have c4b0 : (t225 == 0) = false := beq_eq_false_iff_ne.mpr c4
    have c4b1 : (t225 != 0) = true := bne_iff_ne.mpr c4
    simp only [Option.some.injEq, Prod.mk.injEq] at H
    obtain ⟨rfl, rfl⟩ := H
    go_enter Tryd.func24, Tryd.ntmps24
    go_wp2_with (first | ((with_reducible refine gate_callee (f := 10) rfl ?_); refine goesL_ (some 13) rfl rfl Tryd.func10 (by kernel_rfl) rfl #[.string a0] rfl (by (try simp only [List.map_toArray, List.map_cons, List.map_nil]); first | done | rfl | (simp only [List.length_drop, List.length_take]; rfl)) ?_; (with_reducible refine (utf_Runes.calls a0 t224 t225 _ ?side1 A3.out).mono ?_); (case side1 => exact LaidW.below HLD.out (by repeat (first | (with_reducible first | exact HB.out | apply below_alloc | apply pw_below_drewN | apply below_drew1) | exact HB.out))); rintro e w27 ⟨v226, rfl, ho0, hb⟩; refine ⟨_, rfl, ?_⟩; have n0_ := Aside0.mk (Kd.R_lower ho0 (below_size (by repeat (first | (with_reducible first | exact HB.out | apply below_alloc | apply pw_below_drewN | apply below_drew1) | exact HB.out)))); have n1_ := Aside0.mk (below_step (by repeat (first | (with_reducible first | exact HB.out | apply below_alloc | apply pw_below_drewN | apply below_drew1) | exact HB.out)) hb); clear HB; have HO227 := n0_; have HB := n1_; clear n0_ n1_; (try clear hb); (try clear hb2); (try clear hk); (try clear hi); (try clear ho0)))
    go_ret2
    exact ⟨_, by first | rfl | (simp [errW_none, errW_some] <;> rfl) | (simp [*, errW_none, errW_some] <;> rfl), by first | exact Kd.R_nil _ _ _ _ _ | exact Kd.N_nil _ _ _ _ _ | exact Kd.V_nil _ _ _ _ _ | exact Kd.Q_nil _ _ _ _ _ | exact Kd.S_nil _ _ _ _ _, by repeat (first | (with_reducible first | exact HB.out | apply below_alloc | apply pw_below_drewN | apply below_drew1) | exact HB.out)⟩

end Go.Proofs.YthekpajbffjfmaaDoor.P

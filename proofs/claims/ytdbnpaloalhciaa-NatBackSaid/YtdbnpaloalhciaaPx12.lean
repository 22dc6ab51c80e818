-- Written by a program for this claim. Not trusted: Lean checks it.
import Derived.Test.YtdbnpaloalhciaaPx0
import Derived.Test.YtdbnpaloalhciaaPx1
import Derived.Test.YtdbnpaloalhciaaPx3
import Derived.Test.YtdbnpaloalhciaaPx5
import Derived.Test.YtdbnpaloalhciaaPx6
import Derived.Test.YtdbnpaloalhciaaNi
namespace Go.Proofs.Ytdbnpaloalhciaa.P
open Go.RowKit Go.Proofs.YtdbnpaloalhciaaW.PrintWords Go.Proofs.YtdbnpaloalhciaaW.PrintLast Go.Proofs.YtdbnpaloalhciaaW.PrintMore
attribute [local go_sem] max2_int min2_int max_two min_two max_three min_three max_four min_four   -- for this text's walks alone
set_option linter.unusedVariables false
set_option linter.unusedSimpArgs false

/-! ### bolterlaw01_NatBack: function 5 -/
def bolterlaw01_NatBack.j0 : Nat → ByteArray → Int → ByteArray → Int → Bool → Option (Bool)
  | 0, _, _, _, _, _ => none
  | k + 1, x1, x10, x11, x12, x53 => if x53 = true then (some false) else ((bolterlaw01_num.f x10).bind fun t331 => (if t331 = 0 then ((bolterlaw01_num.f x12).bind fun t332 => (if t332 = 0 then (if x11.toList = x1.toList then (some true) else (if 0 < (x1.size : Int) then (if (bt x1 0) = 48 then (some (decide ((x11.size : Int) ≤ (x1.size : Int)))) else (some false)) else (none))) else (some false))) else (some true)))
def bolterlaw01_NatBack.f (k : Nat) (l0 : List Int) (a1 : ByteArray) : Option (Bool) := (bolterlaw01_alive.f k).bind fun t315 => (if t315 = true then ((nat_Print.f k l0).bind fun bt316 => ((nat_Parse.f bt316.1).bind fun bt318 => ((nat_Parse.f a1).bind fun bt322 => ((nat_Print.f k bt322.1).bind fun bt326 => ((bolterlaw01_num.f bt316.2).bind fun t328 => (if t328 = 0 then (if (bt316.1.size : Int) ≤ 2400 then ((bolterlaw01_num.f bt318.2).bind fun t329 => (if t329 = 0 then ((bolterplain_SameLimbs.f k bt318.1 l0).bind fun t330 => (bolterlaw01_NatBack.j0 k a1 bt322.2 bt326.1 bt326.2 (!t330))) else (bolterlaw01_NatBack.j0 k a1 bt322.2 bt326.1 bt326.2 true))) else (bolterlaw01_NatBack.j0 k a1 bt322.2 bt326.1 bt326.2 false)) else (bolterlaw01_NatBack.j0 k a1 bt322.2 bt326.1 bt326.2 false))))))) else (some false))
theorem bolterlaw01_NatBack.mono_l : ∀ k, (∀ y0 y1 y2 y3 y4, LeO (bolterlaw01_NatBack.j0 k y0 y1 y2 y3 y4) (bolterlaw01_NatBack.j0 (k + 1) y0 y1 y2 y3 y4))
  | 0 => fun _ _ _ _ _ r h => by simp [bolterlaw01_NatBack.j0] at h
  | k + 1 => by
    have ih0 := bolterlaw01_NatBack.mono_l k
    · intro y0 y1 y2 y3 y4
      unfold bolterlaw01_NatBack.j0
      repeat' first
      | (with_reducible exact ih0 _ _ _ _ _)
      | (with_reducible exact bolterlaw01_alive.mono _)
      | (with_reducible exact bolterplain_SameLimbs.mono _ _ _)
      | (with_reducible exact nat_Print.mono _ _)
      | (with_reducible exact LeO.refl _)
      | (with_reducible exact LeO.none _)
      | (with_reducible refine LeO.ite ?_ ?_)
      | (with_reducible refine LeO.bind ?_ (fun _ => ?_))
      | exact ih0 _ _ _ _ _
      | exact bolterlaw01_alive.mono _
      | exact bolterplain_SameLimbs.mono _ _ _
      | exact nat_Print.mono _ _
      | exact LeO.none _
      | refine LeO.ite ?_ ?_
      | refine LeO.bind ?_ (fun _ => ?_)
theorem bolterlaw01_NatBack.mono : ∀ a0 a1 k, LeO (bolterlaw01_NatBack.f k a0 a1) (bolterlaw01_NatBack.f (k + 1) a0 a1) := by
  intro a0 a1 k
  have ih0 := bolterlaw01_NatBack.mono_l k
  unfold bolterlaw01_NatBack.f
  repeat' first
      | (with_reducible exact ih0 _ _ _ _ _)
      | (with_reducible exact bolterlaw01_alive.mono _)
      | (with_reducible exact bolterplain_SameLimbs.mono _ _ _)
      | (with_reducible exact nat_Print.mono _ _)
      | (with_reducible exact LeO.refl _)
      | (with_reducible exact LeO.none _)
      | (with_reducible refine LeO.ite ?_ ?_)
      | (with_reducible refine LeO.bind ?_ (fun _ => ?_))
      | exact ih0 _ _ _ _ _
      | exact bolterlaw01_alive.mono _
      | exact bolterplain_SameLimbs.mono _ _ _
      | exact nat_Print.mono _ _
      | exact LeO.none _
      | refine LeO.ite ?_ ?_
      | refine LeO.bind ?_ (fun _ => ?_)
set_option maxHeartbeats 8000000 in
set_option maxRecDepth 100000 in
theorem bolterlaw01_NatBack.calls (k : Nat) (A0 : Option Addr) (c0 : Nat) (l0 : List Int) (a1 : ByteArray) (r : Bool) (w : World) (hr0 : Kd.C (Kd.int .u32) w A0 l0.length l0) (hc0 : l0.length ≤ c0) (h : bolterlaw01_NatBack.f k l0 a1 = some r) :
    Calls Try.prog 5 #[.slice A0 l0.length c0, .string a1] w fun e w' => e = .returned (.bool r) ∧ Below w.heap.size w w' := by
  have HR0 := Aside0.mk hr0
  have HC0 := Aside0.mk hc0
  clear hr0 hc0
  have HB := Aside0.mk (Below.refl w.heap.size w)
  have H : ((bolterlaw01_alive.f k).bind fun t315 => (if t315 = true then ((nat_Print.f k l0).bind fun bt316 => ((nat_Parse.f bt316.1).bind fun bt318 => ((nat_Parse.f a1).bind fun bt322 => ((nat_Print.f k bt322.1).bind fun bt326 => ((bolterlaw01_num.f bt316.2).bind fun t328 => (if t328 = 0 then (if (bt316.1.size : Int) ≤ 2400 then ((bolterlaw01_num.f bt318.2).bind fun t329 => (if t329 = 0 then ((bolterplain_SameLimbs.f k bt318.1 l0).bind fun t330 => (bolterlaw01_NatBack.j0 k a1 bt322.2 bt326.1 bt326.2 (!t330))) else (bolterlaw01_NatBack.j0 k a1 bt322.2 bt326.1 bt326.2 true))) else (bolterlaw01_NatBack.j0 k a1 bt322.2 bt326.1 bt326.2 false)) else (bolterlaw01_NatBack.j0 k a1 bt322.2 bt326.1 bt326.2 false))))))) else (some false))) = some r := h
  clear h
  replace H := Option.bind_eq_some_iff.mp H
  obtain ⟨t315, A30, H⟩ := H
  replace H : (if t315 = true then ((nat_Print.f k l0).bind fun bt316 => ((nat_Parse.f bt316.1).bind fun bt318 => ((nat_Parse.f a1).bind fun bt322 => ((nat_Print.f k bt322.1).bind fun bt326 => ((bolterlaw01_num.f bt316.2).bind fun t328 => (if t328 = 0 then (if (bt316.1.size : Int) ≤ 2400 then ((bolterlaw01_num.f bt318.2).bind fun t329 => (if t329 = 0 then ((bolterplain_SameLimbs.f k bt318.1 l0).bind fun t330 => (bolterlaw01_NatBack.j0 k a1 bt322.2 bt326.1 bt326.2 (!t330))) else (bolterlaw01_NatBack.j0 k a1 bt322.2 bt326.1 bt326.2 true))) else (bolterlaw01_NatBack.j0 k a1 bt322.2 bt326.1 bt326.2 false)) else (bolterlaw01_NatBack.j0 k a1 bt322.2 bt326.1 bt326.2 false))))))) else (some false)) = some r := H
  have A3 := Aside0.mk A30
  clear A30
  by_cases c4 : t315 = true
  · subst c4
    have H1 : ((nat_Print.f k l0).bind fun bt316 => ((nat_Parse.f bt316.1).bind fun bt318 => ((nat_Parse.f a1).bind fun bt322 => ((nat_Print.f k bt322.1).bind fun bt326 => ((bolterlaw01_num.f bt316.2).bind fun t328 => (if t328 = 0 then (if (bt316.1.size : Int) ≤ 2400 then ((bolterlaw01_num.f bt318.2).bind fun t329 => (if t329 = 0 then ((bolterplain_SameLimbs.f k bt318.1 l0).bind fun t330 => (bolterlaw01_NatBack.j0 k a1 bt322.2 bt326.1 bt326.2 (!t330))) else (bolterlaw01_NatBack.j0 k a1 bt322.2 bt326.1 bt326.2 true))) else (bolterlaw01_NatBack.j0 k a1 bt322.2 bt326.1 bt326.2 false)) else (bolterlaw01_NatBack.j0 k a1 bt322.2 bt326.1 bt326.2 false))))))) = some r := by rw [if_pos rfl] at H; exact H
    clear H
    have H := H1
    clear H1
    replace H := Option.bind_eq_some_iff.mp H
    obtain ⟨⟨t316, t317⟩, A50, H⟩ := H
    replace H : ((nat_Parse.f t316).bind fun bt318 => ((nat_Parse.f a1).bind fun bt322 => ((nat_Print.f k bt322.1).bind fun bt326 => ((bolterlaw01_num.f t317).bind fun t328 => (if t328 = 0 then (if (t316.size : Int) ≤ 2400 then ((bolterlaw01_num.f bt318.2).bind fun t329 => (if t329 = 0 then ((bolterplain_SameLimbs.f k bt318.1 l0).bind fun t330 => (bolterlaw01_NatBack.j0 k a1 bt322.2 bt326.1 bt326.2 (!t330))) else (bolterlaw01_NatBack.j0 k a1 bt322.2 bt326.1 bt326.2 true))) else (bolterlaw01_NatBack.j0 k a1 bt322.2 bt326.1 bt326.2 false)) else (bolterlaw01_NatBack.j0 k a1 bt322.2 bt326.1 bt326.2 false)))))) = some r := H
    have A5 := Aside0.mk A50
    clear A50
    replace H := Option.bind_eq_some_iff.mp H
    obtain ⟨⟨t318, t319⟩, A60, H⟩ := H
    replace H : ((nat_Parse.f a1).bind fun bt322 => ((nat_Print.f k bt322.1).bind fun bt326 => ((bolterlaw01_num.f t317).bind fun t328 => (if t328 = 0 then (if (t316.size : Int) ≤ 2400 then ((bolterlaw01_num.f t319).bind fun t329 => (if t329 = 0 then ((bolterplain_SameLimbs.f k t318 l0).bind fun t330 => (bolterlaw01_NatBack.j0 k a1 bt322.2 bt326.1 bt326.2 (!t330))) else (bolterlaw01_NatBack.j0 k a1 bt322.2 bt326.1 bt326.2 true))) else (bolterlaw01_NatBack.j0 k a1 bt322.2 bt326.1 bt326.2 false)) else (bolterlaw01_NatBack.j0 k a1 bt322.2 bt326.1 bt326.2 false))))) = some r := H
    have A6 := Aside0.mk A60
    clear A60
    replace H := Option.bind_eq_some_iff.mp H
    obtain ⟨⟨t322, t323⟩, A70, H⟩ := H
    replace H : ((nat_Print.f k t322).bind fun bt326 => ((bolterlaw01_num.f t317).bind fun t328 => (if t328 = 0 then (if (t316.size : Int) ≤ 2400 then ((bolterlaw01_num.f t319).bind fun t329 => (if t329 = 0 then ((bolterplain_SameLimbs.f k t318 l0).bind fun t330 => (bolterlaw01_NatBack.j0 k a1 t323 bt326.1 bt326.2 (!t330))) else (bolterlaw01_NatBack.j0 k a1 t323 bt326.1 bt326.2 true))) else (bolterlaw01_NatBack.j0 k a1 t323 bt326.1 bt326.2 false)) else (bolterlaw01_NatBack.j0 k a1 t323 bt326.1 bt326.2 false)))) = some r := H
    have A7 := Aside0.mk A70
    clear A70
    replace H := Option.bind_eq_some_iff.mp H
    obtain ⟨⟨t326, t327⟩, A80, H⟩ := H
    replace H : ((bolterlaw01_num.f t317).bind fun t328 => (if t328 = 0 then (if (t316.size : Int) ≤ 2400 then ((bolterlaw01_num.f t319).bind fun t329 => (if t329 = 0 then ((bolterplain_SameLimbs.f k t318 l0).bind fun t330 => (bolterlaw01_NatBack.j0 k a1 t323 t326 t327 (!t330))) else (bolterlaw01_NatBack.j0 k a1 t323 t326 t327 true))) else (bolterlaw01_NatBack.j0 k a1 t323 t326 t327 false)) else (bolterlaw01_NatBack.j0 k a1 t323 t326 t327 false))) = some r := H
    have A8 := Aside0.mk A80
    clear A80
    have HC9 := Aside0.mk H
    clear H
    go_enter Try.func5, Try.ntmps5
    go_upto_region 7 with (first | ((with_reducible refine gate_callee (f := 10) rfl ?_); refine goesL_ (some 13) rfl rfl Try.func10 (by kernel_rfl) rfl #[] rfl (by (try simp only [List.map_toArray, List.map_cons, List.map_nil]); first | done | rfl | (simp only [List.length_drop, List.length_take]; rfl)) ?_; (with_reducible refine (bolterlaw01_alive.calls k  true _ A3.out).mono ?_); rintro e w10 ⟨rfl, hb⟩; refine ⟨_, rfl, ?_⟩; have n0_ := Aside0.mk (below_step (by repeat (first | (with_reducible first | exact HB.out | apply below_alloc | apply pw_below_drewN | apply below_drew1) | exact HB.out)) hb); clear HB; have HB := n0_; clear n0_; (try clear hb); (try clear hb2); (try clear hk); (try clear hi)) | ((with_reducible refine gate_callee (f := 17) rfl ?_); refine goesL_ (some 17) rfl rfl Try.func17 (by kernel_rfl) rfl #[.slice A0 l0.length c0] rfl (by (try simp only [List.map_toArray, List.map_cons, List.map_nil]); first | done | rfl | (simp only [List.length_drop, List.length_take]; rfl)) ?_; (with_reducible refine (nat_Print.calls k (fun k_ => k_ < w.heap.size) _ _ l0 t316 t317 _ ?side1 A5.out).mono ?_); (case side1 => exact Kd.V_mk HC0.out (Kd.F_below (Kd.C_F (Kd.heap_int .u32) HR0.out) (by repeat (first | (with_reducible first | exact HB.out | apply below_alloc | apply pw_below_drewN | apply below_drew1) | exact HB.out)))); rintro e w11 ⟨rfl, hb⟩; refine ⟨_, rfl, ?_⟩; have n0_ := Aside0.mk (below_step (by repeat (first | (with_reducible first | exact HB.out | apply below_alloc | apply pw_below_drewN | apply below_drew1) | exact HB.out)) hb); clear HB; have HB := n0_; clear n0_; (try clear hb); (try clear hb2); (try clear hk); (try clear hi)) | ((with_reducible refine gate_callee (f := 15) rfl ?_); refine goesL_ (some 22) rfl rfl Try.func15 (by kernel_rfl) rfl #[.string t316] rfl (by (try simp only [List.map_toArray, List.map_cons, List.map_nil]); first | done | rfl | (simp only [List.length_drop, List.length_take]; rfl)) ?_; (with_reducible refine (nat_Parse.calls t316 t318 t319 _ A6.out).mono ?_); rintro e w12 ⟨v320, rfl, ho0, hb⟩; refine ⟨_, rfl, ?_⟩; have n0_ := Aside0.mk (Kd.R_lower ho0 (below_size (by repeat (first | (with_reducible first | exact HB.out | apply below_alloc | apply pw_below_drewN | apply below_drew1) | exact HB.out)))); have n1_ := Aside0.mk (below_step (by repeat (first | (with_reducible first | exact HB.out | apply below_alloc | apply pw_below_drewN | apply below_drew1) | exact HB.out)) hb); clear HB; have HO321 := n0_; have HB := n1_; clear n0_ n1_; (try clear hb); (try clear hb2); (try clear hk); (try clear hi); (try clear ho0)) | ((with_reducible refine gate_callee (f := 15) rfl ?_); refine goesL_ (some 27) rfl rfl Try.func15 (by kernel_rfl) rfl #[.string a1] rfl (by (try simp only [List.map_toArray, List.map_cons, List.map_nil]); first | done | rfl | (simp only [List.length_drop, List.length_take]; rfl)) ?_; (with_reducible refine (nat_Parse.calls a1 t322 t323 _ A7.out).mono ?_); rintro e w13 ⟨v324, rfl, ho0, hb⟩; refine ⟨_, rfl, ?_⟩; have n0_ := Aside0.mk (Kd.R_elder' (by (with_reducible repeat (first | apply Kd.R_alloc | apply Kd.R_drewN | apply Kd.R_drew)); exact HO321.out) (Kd.R_base ho0) hb); have n1_ := Aside0.mk (Kd.R_lower (Kd.R_new' ho0 (Kd.R_lt (by (with_reducible repeat (first | apply Kd.R_alloc | apply Kd.R_drewN | apply Kd.R_drew)); exact HO321.out))) (below_size (by repeat (first | (with_reducible first | exact HB.out | apply below_alloc | apply pw_below_drewN | apply below_drew1) | exact HB.out)))); have n2_ := Aside0.mk (below_step (by repeat (first | (with_reducible first | exact HB.out | apply below_alloc | apply pw_below_drewN | apply below_drew1) | exact HB.out)) hb); clear HO321; clear HB; have HO321 := n0_; have HO325 := n1_; have HB := n2_; clear n0_ n1_ n2_; (try clear hb); (try clear hb2); (try clear hk); (try clear hi); (try clear ho0); obtain ⟨Ao14, co14, eo14⟩ := Kd.R_slice HO325.out; subst eo14) | ((with_reducible refine gate_callee (f := 17) rfl ?_); refine goesL_ (some 32) rfl rfl Try.func17 (by kernel_rfl) rfl #[.slice Ao14 t322.length co14] rfl (by (try simp only [List.map_toArray, List.map_cons, List.map_nil]); first | done | rfl | (simp only [List.length_drop, List.length_take]; rfl)) ?_; (with_reducible refine (nat_Print.calls k (fun k_ => some k_ = (.slice Ao14 t322.length co14 : Value).ownBlock) _ _ t322 t326 t327 _ ?side1 A8.out).mono ?_); (case side1 => exact Kd.R_V (Kd.R_tight rfl (HO325.out))); rintro e w15 ⟨rfl, hb⟩; refine ⟨_, rfl, ?_⟩; have n0_ := Aside0.mk (Kd.R_below (by (with_reducible repeat (first | apply Kd.R_alloc | apply Kd.R_drewN | apply Kd.R_drew)); exact HO321.out) hb); have n1_ := Aside0.mk (Kd.R_below (by (with_reducible repeat (first | apply Kd.R_alloc | apply Kd.R_drewN | apply Kd.R_drew)); exact HO325.out) hb); have n2_ := Aside0.mk (below_step (by repeat (first | (with_reducible first | exact HB.out | apply below_alloc | apply pw_below_drewN | apply below_drew1) | exact HB.out)) hb); clear HO321; clear HO325; clear HB; have HO321 := n0_; have HO325 := n1_; have HB := n2_; clear n0_ n1_ n2_; (try clear hb); (try clear hb2); (try clear hk); (try clear hi)))
    (try simp only [Act.put, List.setIfInBounds_toArray, List.set_cons_zero, List.set_cons_succ])
    go_cut [53] (fun v53 wc => ∃ (kq : Nat) (x53_8 : Bool), v53 = .bool x53_8 ∧ Aside0 (bolterlaw01_NatBack.j0 kq a1 t323 t326 t327 x53_8 = some r) ∧ Aside0 (kq ≤ k) ∧ Aside0 (Below w.heap.size w wc))
    case first =>
      have H := HC9.out
      clear HC9
      replace H := Option.bind_eq_some_iff.mp H
      obtain ⟨t328, A160, H⟩ := H
      replace H : (if t328 = 0 then (if (t316.size : Int) ≤ 2400 then ((bolterlaw01_num.f t319).bind fun t329 => (if t329 = 0 then ((bolterplain_SameLimbs.f k t318 l0).bind fun t330 => (bolterlaw01_NatBack.j0 k a1 t323 t326 t327 (!t330))) else (bolterlaw01_NatBack.j0 k a1 t323 t326 t327 true))) else (bolterlaw01_NatBack.j0 k a1 t323 t326 t327 false)) else (bolterlaw01_NatBack.j0 k a1 t323 t326 t327 false)) = some r := H
      have A16 := Aside0.mk A160
      clear A160
      by_cases c17 : t328 = 0
      · rw [if_pos c17] at H
        have c17b0 : (t328 == 0) = true := beq_iff_eq.mpr c17
        have c17b1 : (t328 != 0) = false := bne_eq_false_iff_eq.mpr c17
        clear c17
        (first | rw [c17b0] | (simp only [i64_w, i32_w]; rw [c17b0]) | skip)
        by_cases c18 : (t316.size : Int) ≤ 2400
        · rw [if_pos c18] at H
          have c18b0 : decide ((t316.size : Int) ≤ 2400) = true := decide_eq_true c18
          have c18b1 : decide (t316.size ≤ 2400) = true := decide_eq_true (by omega)
          clear c18
          replace H := Option.bind_eq_some_iff.mp H
          obtain ⟨t329, A190, H⟩ := H
          replace H : (if t329 = 0 then ((bolterplain_SameLimbs.f k t318 l0).bind fun t330 => (bolterlaw01_NatBack.j0 k a1 t323 t326 t327 (!t330))) else (bolterlaw01_NatBack.j0 k a1 t323 t326 t327 true)) = some r := H
          have A19 := Aside0.mk A190
          clear A190
          by_cases c20 : t329 = 0
          · rw [if_pos c20] at H
            have c20b0 : (t329 == 0) = true := beq_iff_eq.mpr c20
            have c20b1 : (t329 != 0) = false := bne_eq_false_iff_eq.mpr c20
            clear c20
            replace H := Option.bind_eq_some_iff.mp H
            obtain ⟨t330, A210, H⟩ := H
            replace H : (bolterlaw01_NatBack.j0 k a1 t323 t326 t327 (!t330)) = some r := H
            have A21 := Aside0.mk A210
            clear A210
            have H' := Aside0.mk H
            clear H
            go_wp2_with (first | ((with_reducible refine gate_callee (f := 13) rfl ?_); refine goesL_ (some 36) rfl rfl Try.func13 (by kernel_rfl) rfl #[.int .i64 t317] rfl (by (try simp only [List.map_toArray, List.map_cons, List.map_nil]); first | done | rfl | (simp only [List.length_drop, List.length_take]; rfl)) ?_; (with_reducible refine (bolterlaw01_num.calls t317 t328 _ A16.out).mono ?_); rintro e w' ⟨rfl, ⟨nd, rfl⟩⟩; refine ⟨_, rfl, ?_⟩) | (go_at_call 13; (with_reducible refine (bolterlaw01_num.calls t319 t329 _ A19.out).mono ?_); rintro e w' ⟨rfl, ⟨nd, rfl⟩⟩; obtain ⟨Ao22, co22, eo22⟩ := Kd.R_slice HO321.out; subst eo22) | (go_at_call 14; (with_reducible refine (bolterplain_SameLimbs.calls k _ _ t318 _ _ l0 t330 _ ?side1 ?side2 ?side3 ?side4 A21.out).mono ?_); (case side1 => repeat (first | exact (Kd.R_reads' HO321.out).2.2 | (with_reducible refine Kd.C_alloc ?_ _) | (with_reducible refine Kd.C_drewN ?_ _) | (with_reducible refine Kd.C_drew ?_))); (case side2 => exact (Kd.R_reads' HO321.out).2.1); (case side3 => repeat (first | exact (Kd.C_below HR0.out (by repeat (first | (with_reducible first | exact HB.out | apply below_alloc | apply pw_below_drewN | apply below_drew1) | exact HB.out))) | (with_reducible refine Kd.C_alloc ?_ _) | (with_reducible refine Kd.C_drewN ?_ _) | (with_reducible refine Kd.C_drew ?_))); (case side4 => exact HC0.out); rintro e w' ⟨rfl, ⟨nd, rfl⟩⟩))
            go_meet
            case rel => exact ⟨_, (!t330), (by first | rfl | (simp; done) | (simp [*]; done)), H', ⟨by first | omega | exact Nat.le_refl _⟩, ⟨by repeat (first | (with_reducible first | exact HB.out | apply below_alloc | apply pw_below_drewN | apply below_drew1) | exact HB.out)⟩⟩
          · rw [if_neg c20] at H
            have c20b0 : (t329 == 0) = false := beq_eq_false_iff_ne.mpr c20
            have c20b1 : (t329 != 0) = true := bne_iff_ne.mpr c20
            have H' := Aside0.mk H
            clear H
            go_wp2_with (first | ((with_reducible refine gate_callee (f := 13) rfl ?_); refine goesL_ (some 36) rfl rfl Try.func13 (by kernel_rfl) rfl #[.int .i64 t317] rfl (by (try simp only [List.map_toArray, List.map_cons, List.map_nil]); first | done | rfl | (simp only [List.length_drop, List.length_take]; rfl)) ?_; (with_reducible refine (bolterlaw01_num.calls t317 t328 _ A16.out).mono ?_); rintro e w' ⟨rfl, ⟨nd, rfl⟩⟩; refine ⟨_, rfl, ?_⟩) | (go_at_call 13; (with_reducible refine (bolterlaw01_num.calls t319 t329 _ A19.out).mono ?_); rintro e w' ⟨rfl, ⟨nd, rfl⟩⟩))
            go_meet
            case rel => exact ⟨_, (true), (by first | rfl | (simp; done) | (simp [*]; done)), H', ⟨by first | omega | exact Nat.le_refl _⟩, ⟨by repeat (first | (with_reducible first | exact HB.out | apply below_alloc | apply pw_below_drewN | apply below_drew1) | exact HB.out)⟩⟩
        · rw [if_neg c18] at H
          have c18b0 : decide ((t316.size : Int) ≤ 2400) = false := decide_eq_false c18
          have c18b1 : decide (t316.size ≤ 2400) = false := decide_eq_false (by omega)
          clear c18
          have H' := Aside0.mk H
          clear H
          go_wp2_with (first | ((with_reducible refine gate_callee (f := 13) rfl ?_); refine goesL_ (some 36) rfl rfl Try.func13 (by kernel_rfl) rfl #[.int .i64 t317] rfl (by (try simp only [List.map_toArray, List.map_cons, List.map_nil]); first | done | rfl | (simp only [List.length_drop, List.length_take]; rfl)) ?_; (with_reducible refine (bolterlaw01_num.calls t317 t328 _ A16.out).mono ?_); rintro e w' ⟨rfl, ⟨nd, rfl⟩⟩; refine ⟨_, rfl, ?_⟩))
          go_meet
          case rel => exact ⟨_, (false), (by first | rfl | (simp; done) | (simp [*]; done)), H', ⟨by first | omega | exact Nat.le_refl _⟩, ⟨by repeat (first | (with_reducible first | exact HB.out | apply below_alloc | apply pw_below_drewN | apply below_drew1) | exact HB.out)⟩⟩
      · rw [if_neg c17] at H
        have c17b0 : (t328 == 0) = false := beq_eq_false_iff_ne.mpr c17
        have c17b1 : (t328 != 0) = true := bne_iff_ne.mpr c17
        (first | rw [c17b0] | (simp only [i64_w, i32_w]; rw [c17b0]) | skip)
        have H' := Aside0.mk H
        clear H
        go_wp2_with (first | ((with_reducible refine gate_callee (f := 13) rfl ?_); refine goesL_ (some 36) rfl rfl Try.func13 (by kernel_rfl) rfl #[.int .i64 t317] rfl (by (try simp only [List.map_toArray, List.map_cons, List.map_nil]); first | done | rfl | (simp only [List.length_drop, List.length_take]; rfl)) ?_; (with_reducible refine (bolterlaw01_num.calls t317 t328 _ A16.out).mono ?_); rintro e w' ⟨rfl, ⟨nd, rfl⟩⟩; refine ⟨_, rfl, ?_⟩))
        go_meet
        case rel => exact ⟨_, (false), (by first | rfl | (simp; done) | (simp [*]; done)), H', ⟨by first | omega | exact Nat.le_refl _⟩, ⟨by repeat (first | (with_reducible first | exact HB.out | apply below_alloc | apply pw_below_drewN | apply below_drew1) | exact HB.out)⟩⟩
    case rest =>
      clear HC9
      try clear c1
      try clear c2
      try clear p2
      try clear c4
      try clear c5
      try clear c10
      try clear c13
      try clear c15
      try clear c17
      try clear c17b0
      try clear c17b1
      try clear c18
      try clear c18b0
      try clear c18b1
      try clear c20
      try clear c20b0
      try clear c20b1
      obtain ⟨kq, x53_8, rfl, HA, HJ8, HB⟩ := hcut
      cases kq with
      | zero => exact absurd HA.out (by simp [bolterlaw01_NatBack.j0])
      | succ kj8 =>
        have H := HA.out
        clear HA
        simp only [bolterlaw01_NatBack.j0] at H
        by_cases c23 : x53_8 = true
        · subst c23
          have H1 : (some false) = some r := by rw [if_pos rfl] at H; exact H
          clear H
          have H := H1
          clear H1
          obtain rfl := Option.some.inj H
          go_wp2
          go_ret
          exact ⟨by first | rfl | (simp [errW_none, errW_some] <;> rfl) | (simp [*, errW_none, errW_some] <;> rfl), by repeat (first | (with_reducible first | exact HB.out | apply below_alloc | apply pw_below_drewN | apply below_drew1) | exact HB.out)⟩
        · replace c23 := Bool.eq_false_iff.mpr c23
          subst c23
          have H1 : ((bolterlaw01_num.f t323).bind fun t331 => (if t331 = 0 then ((bolterlaw01_num.f t327).bind fun t332 => (if t332 = 0 then (if t326.toList = a1.toList then (some true) else (if 0 < (a1.size : Int) then (if (bt a1 0) = 48 then (some (decide ((t326.size : Int) ≤ (a1.size : Int)))) else (some false)) else (none))) else (some false))) else (some true))) = some r := by rw [if_neg (show ¬ (false = true) by decide)] at H; exact H
          clear H
          have H := H1
          clear H1
          replace H := Option.bind_eq_some_iff.mp H
          obtain ⟨t331, A240, H⟩ := H
          replace H : (if t331 = 0 then ((bolterlaw01_num.f t327).bind fun t332 => (if t332 = 0 then (if t326.toList = a1.toList then (some true) else (if 0 < (a1.size : Int) then (if (bt a1 0) = 48 then (some (decide ((t326.size : Int) ≤ (a1.size : Int)))) else (some false)) else (none))) else (some false))) else (some true)) = some r := H
          have A24 := Aside0.mk A240
          clear A240
          by_cases c25 : t331 = 0
          · rw [if_pos c25] at H
            have c25b0 : (t331 == 0) = true := beq_iff_eq.mpr c25
            have c25b1 : (t331 != 0) = false := bne_eq_false_iff_eq.mpr c25
            clear c25
            replace H := Option.bind_eq_some_iff.mp H
            obtain ⟨t332, A260, H⟩ := H
            replace H : (if t332 = 0 then (if t326.toList = a1.toList then (some true) else (if 0 < (a1.size : Int) then (if (bt a1 0) = 48 then (some (decide ((t326.size : Int) ≤ (a1.size : Int)))) else (some false)) else (none))) else (some false)) = some r := H
            have A26 := Aside0.mk A260
            clear A260
            by_cases c27 : t332 = 0
            · rw [if_pos c27] at H
              have c27b0 : (t332 == 0) = true := beq_iff_eq.mpr c27
              have c27b1 : (t332 != 0) = false := bne_eq_false_iff_eq.mpr c27
              clear c27
              by_cases c28 : t326.toList = a1.toList
              · rw [if_pos c28] at H
                have c28b0 : (t326.toList == a1.toList) = true := beq_iff_eq.mpr c28
                have c28b1 : (t326.toList != a1.toList) = false := bne_eq_false_iff_eq.mpr c28
                clear c28
                obtain rfl := Option.some.inj H
                go_wp2_with (first | ((with_reducible refine gate_callee (f := 13) rfl ?_); refine goesL_ (some 55) rfl rfl Try.func13 (by kernel_rfl) rfl #[.int .i64 t323] rfl (by (try simp only [List.map_toArray, List.map_cons, List.map_nil]); first | done | rfl | (simp only [List.length_drop, List.length_take]; rfl)) ?_; (with_reducible refine (bolterlaw01_num.calls t323 t331 _ A24.out).mono ?_); rintro e w' ⟨rfl, ⟨nd, rfl⟩⟩; refine ⟨_, rfl, ?_⟩) | (go_at_call 13; (with_reducible refine (bolterlaw01_num.calls t327 t332 _ A26.out).mono ?_); rintro e w' ⟨rfl, ⟨nd, rfl⟩⟩))
                go_ret
                exact ⟨by first | rfl | (simp [errW_none, errW_some] <;> rfl) | (simp [*, errW_none, errW_some] <;> rfl), by repeat (first | (with_reducible first | exact HB.out | apply below_alloc | apply pw_below_drewN | apply below_drew1) | exact HB.out)⟩
              · rw [if_neg c28] at H
                have c28b0 : (t326.toList == a1.toList) = false := beq_eq_false_iff_ne.mpr c28
                have c28b1 : (t326.toList != a1.toList) = true := bne_iff_ne.mpr c28
                by_cases c29 : 0 < (a1.size : Int)
                · rw [if_pos c29] at H
                  have c29b0 : decide (0 < (a1.size : Int)) = true := decide_eq_true c29
                  have c29b1 : decide (0 < a1.size) = true := decide_eq_true (by omega)
                  clear c29
                  by_cases c31 : (bt a1 0) = 48
                  · rw [if_pos c31] at H
                    have c31b0 : ((bt a1 0) == 48) = true := beq_iff_eq.mpr c31
                    have c31b1 : ((bt a1 0) != 48) = false := bne_eq_false_iff_eq.mpr c31
                    clear c31
                    obtain rfl := Option.some.inj H
                    go_wp2_with (first | ((with_reducible refine gate_callee (f := 13) rfl ?_); refine goesL_ (some 55) rfl rfl Try.func13 (by kernel_rfl) rfl #[.int .i64 t323] rfl (by (try simp only [List.map_toArray, List.map_cons, List.map_nil]); first | done | rfl | (simp only [List.length_drop, List.length_take]; rfl)) ?_; (with_reducible refine (bolterlaw01_num.calls t323 t331 _ A24.out).mono ?_); rintro e w' ⟨rfl, ⟨nd, rfl⟩⟩; refine ⟨_, rfl, ?_⟩) | (go_at_call 13; (with_reducible refine (bolterlaw01_num.calls t327 t332 _ A26.out).mono ?_); rintro e w' ⟨rfl, ⟨nd, rfl⟩⟩; have p30 : 0 ≤ (0 : Int) := (by omega); have q30 : 0 < a1.size := (by have : (0 : Int) < (a1.size : Int) := of_decide_eq_true (by first | (with_reducible assumption) | assumption); omega); have hx30 : ∀ h : 0 < a1.size, ((a1[0]'h).toNat : Int) = bt a1 0 := bt_at a1 0; clear p30; have qi30 : (0 < (a1.size : Int)) = True := eq_true (of_decide_eq_true (by first | (with_reducible assumption) | assumption)); replace q30 := eq_true q30))
                    go_ret
                    exact ⟨by first | rfl | (simp [errW_none, errW_some] <;> rfl) | (simp [*, errW_none, errW_some] <;> rfl), by repeat (first | (with_reducible first | exact HB.out | apply below_alloc | apply pw_below_drewN | apply below_drew1) | exact HB.out)⟩
                  · rw [if_neg c31] at H
                    have c31b0 : ((bt a1 0) == 48) = false := beq_eq_false_iff_ne.mpr c31
                    have c31b1 : ((bt a1 0) != 48) = true := bne_iff_ne.mpr c31
                    obtain rfl := Option.some.inj H
                    go_wp2_with (first | ((with_reducible refine gate_callee (f := 13) rfl ?_); refine goesL_ (some 55) rfl rfl Try.func13 (by kernel_rfl) rfl #[.int .i64 t323] rfl (by (try simp only [List.map_toArray, List.map_cons, List.map_nil]); first | done | rfl | (simp only [List.length_drop, List.length_take]; rfl)) ?_; (with_reducible refine (bolterlaw01_num.calls t323 t331 _ A24.out).mono ?_); rintro e w' ⟨rfl, ⟨nd, rfl⟩⟩; refine ⟨_, rfl, ?_⟩) | (go_at_call 13; (with_reducible refine (bolterlaw01_num.calls t327 t332 _ A26.out).mono ?_); rintro e w' ⟨rfl, ⟨nd, rfl⟩⟩; have p30 : 0 ≤ (0 : Int) := (by omega); have q30 : 0 < a1.size := (by have : (0 : Int) < (a1.size : Int) := of_decide_eq_true (by first | (with_reducible assumption) | assumption); omega); have hx30 : ∀ h : 0 < a1.size, ((a1[0]'h).toNat : Int) = bt a1 0 := bt_at a1 0; clear p30; have qi30 : (0 < (a1.size : Int)) = True := eq_true (of_decide_eq_true (by first | (with_reducible assumption) | assumption)); replace q30 := eq_true q30))
                    go_ret
                    exact ⟨by first | rfl | (simp [errW_none, errW_some] <;> rfl) | (simp [*, errW_none, errW_some] <;> rfl), by repeat (first | (with_reducible first | exact HB.out | apply below_alloc | apply pw_below_drewN | apply below_drew1) | exact HB.out)⟩
                · rw [if_neg c29] at H
                  exact absurd H (by simp)
            · rw [if_neg c27] at H
              have c27b0 : (t332 == 0) = false := beq_eq_false_iff_ne.mpr c27
              have c27b1 : (t332 != 0) = true := bne_iff_ne.mpr c27
              obtain rfl := Option.some.inj H
              go_wp2_with (first | ((with_reducible refine gate_callee (f := 13) rfl ?_); refine goesL_ (some 55) rfl rfl Try.func13 (by kernel_rfl) rfl #[.int .i64 t323] rfl (by (try simp only [List.map_toArray, List.map_cons, List.map_nil]); first | done | rfl | (simp only [List.length_drop, List.length_take]; rfl)) ?_; (with_reducible refine (bolterlaw01_num.calls t323 t331 _ A24.out).mono ?_); rintro e w' ⟨rfl, ⟨nd, rfl⟩⟩; refine ⟨_, rfl, ?_⟩) | (go_at_call 13; (with_reducible refine (bolterlaw01_num.calls t327 t332 _ A26.out).mono ?_); rintro e w' ⟨rfl, ⟨nd, rfl⟩⟩))
              go_ret
              exact ⟨by first | rfl | (simp [errW_none, errW_some] <;> rfl) | (simp [*, errW_none, errW_some] <;> rfl), by repeat (first | (with_reducible first | exact HB.out | apply below_alloc | apply pw_below_drewN | apply below_drew1) | exact HB.out)⟩
          · rw [if_neg c25] at H
            have c25b0 : (t331 == 0) = false := beq_eq_false_iff_ne.mpr c25
            have c25b1 : (t331 != 0) = true := bne_iff_ne.mpr c25
            obtain rfl := Option.some.inj H
            go_wp2_with (first | ((with_reducible refine gate_callee (f := 13) rfl ?_); refine goesL_ (some 55) rfl rfl Try.func13 (by kernel_rfl) rfl #[.int .i64 t323] rfl (by (try simp only [List.map_toArray, List.map_cons, List.map_nil]); first | done | rfl | (simp only [List.length_drop, List.length_take]; rfl)) ?_; (with_reducible refine (bolterlaw01_num.calls t323 t331 _ A24.out).mono ?_); rintro e w' ⟨rfl, ⟨nd, rfl⟩⟩; refine ⟨_, rfl, ?_⟩))
            go_ret
            exact ⟨by first | rfl | (simp [errW_none, errW_some] <;> rfl) | (simp [*, errW_none, errW_some] <;> rfl), by repeat (first | (with_reducible first | exact HB.out | apply below_alloc | apply pw_below_drewN | apply below_drew1) | exact HB.out)⟩
  · replace c4 := Bool.eq_false_iff.mpr c4
    subst c4
    have H1 : (some false) = some r := by rw [if_neg (show ¬ (false = true) by decide)] at H; exact H
    clear H
    have H := H1
    clear H1
    obtain rfl := Option.some.inj H
    go_enter Try.func5, Try.ntmps5
    go_wp2_with (first | ((with_reducible refine gate_callee (f := 10) rfl ?_); refine goesL_ (some 13) rfl rfl Try.func10 (by kernel_rfl) rfl #[] rfl (by (try simp only [List.map_toArray, List.map_cons, List.map_nil]); first | done | rfl | (simp only [List.length_drop, List.length_take]; rfl)) ?_; (with_reducible refine (bolterlaw01_alive.calls k  false _ A3.out).mono ?_); rintro e w32 ⟨rfl, hb⟩; refine ⟨_, rfl, ?_⟩; have n0_ := Aside0.mk (below_step (by repeat (first | (with_reducible first | exact HB.out | apply below_alloc | apply pw_below_drewN | apply below_drew1) | exact HB.out)) hb); clear HB; have HB := n0_; clear n0_; (try clear hb); (try clear hb2); (try clear hk); (try clear hi)))
    go_ret
    exact ⟨by first | rfl | (simp [errW_none, errW_some] <;> rfl) | (simp [*, errW_none, errW_some] <;> rfl), by repeat (first | (with_reducible first | exact HB.out | apply below_alloc | apply pw_below_drewN | apply below_drew1) | exact HB.out)⟩

/-- THE ONE PURE STATEMENT of bolterlaw01_NatBack: yours. -/
def bolterlaw01_NatBack.Pure : Prop := ∀ (l0 : List Int) (a1 : ByteArray), l0.length ≤ maxLen → l0.length * 4 ≤ 140737488351232 → (∀ x ∈ l0, (Lit.int .u32 x).wf = true) → a1.size ≤ 140737488351232 → ∃ k, bolterlaw01_NatBack.f k l0 a1 = some true
theorem bolterlaw01_NatBack.walk (P : bolterlaw01_NatBack.Pure) (a0 : Option Addr) (len0 cap0 : Nat) (z0 : List Int) (a1 : ByteArray) (w : World) (w0 : (a0 = none ∧ len0 = 0 ∧ cap0 = 0 ∧ z0 = []) ∨ ∃ x, a0 = some x ∧ len0 ≤ cap0 ∧ cap0 ≤ maxLen ∧ z0.length = cap0 ∧ (∀ i, i < z0.length → w.cell? (x.add i) = some (.int .u32 (z0.getD i 0))) ∧ ∀ n ∈ z0, (Lit.int .u32 n).wf = true) (y0 : len0 * 4 ≤ 140737488351232) (w1 : a1.size ≤ 140737488351232) :
    Calls Try.prog 5 #[.slice a0 len0 cap0, .string a1] w fun e w' => e = .returned (.bool true) ∧ Below w.heap.size w w' := by
  obtain ⟨l0, rfl, hr0, hm0, hw0, hc0⟩ := ReadsInt.ofRowC w0
  obtain ⟨k, h⟩ := P l0 a1 hm0 y0 hw0 w1
  refine (bolterlaw01_NatBack.calls k _ _ l0 a1 true w (Kd.C_of_reads (d := (0 : Int)) (h1 := fun _ => rfl) hr0) hc0 h).mono ?_
  rintro e w' ⟨rfl, hd⟩
  exact ⟨rfl, hd⟩

end Go.Proofs.Ytdbnpaloalhciaa.P

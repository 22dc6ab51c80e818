import Derived.Test.YthigbklhngihkaaGreatDoorMValueKeysj
set_option linter.unusedVariables false
set_option linter.unusedSimpArgs false
set_option maxRecDepth 100000
namespace Go.Proofs.YthigbklhngihkaaGreatDoor.P
open Go.RowKit Go.Proofs.YthigbklhngihkaaGreatDoorW.PrintWords Go.Proofs.YthigbklhngihkaaGreatDoorW.PrintMore Go.Proofs.YthigbklhngihkaaGreatDoorW.PrintLast
set_option maxHeartbeats 1000000 in
theorem ask1_any (d : D) (A : Option Addr) (c : Nat) (w : World) (hl : d.f1.length ≤ c) (hC : Kd.C (Kd.int .u32) w A d.f1.length d.f1) (hO : OkD d) :
 Calls Tryz.prog 174 #[.agg #[.bool d.f0, .slice A d.f1.length c, .int .i64 d.f2]] w fun e w' => e = .returned (.bool (dchk d != 0)) ∧ Below w.heap.size w w' := by
 have HDC : Hid (∀ W, Below w.heap.size w W → Calls Tryz.prog 172 #[.agg #[.bool d.f0, .slice A d.f1.length c, .int .i64 d.f2]] W fun e w' => e = .returned (.int .i64 (dchk d)) ∧ Below W.heap.size W w') := Lib.hid (fun W hW => decCheck_any d A c W hl (Kd.C_below hC hW) hO)
 clear hC hO
 go_enter Tryz.func174, Tryz.ntmps174
 go_wp2_with (first | (go_at_call 172; (with_reducible refine (HDC.out _ ?hb).mono ?_); (case hb => first | exact Below.refl _ _ | exact (Below.refl _ _).alloc (Nat.le_refl _) _); rintro e w1 ⟨rfl, hB1⟩))
 go_ret
 exact ⟨rfl, by first | exact hB1 | exact below_box (Below.refl _ _) (Nat.le_refl _) hB1⟩
def dsOk (l : List D) : Bool := l.all fun d => dchk d == 0
set_option maxHeartbeats 1000000 in
theorem index_dec (A : Option Addr) (c : Nat) (l : List D) (w : World) (hC : k24.C w A l.length l) (hO : ∀ d ∈ l, OkD d) (hz : l.length ≤ 4611686018427387904) :
 Calls Tryz.prog 221 #[.slice A l.length c, .func (.func 174) #[] #[]] w fun e w' => ∃ r : Int, e = .returned (.int .i64 r) ∧ (0 ≤ r ↔ dsOk l = false) ∧ Below w.heap.size w w' := by
 have HC := Lib.hid hC
 have HO := Lib.hid hO
 clear hC hO
 go_enter Tryz.func221, Tryz.ntmps221
 go_wp2
 go_loopw [8] (fun vi wr => ∃ k : Nat, k ≤ l.length ∧ vi = .int .i64 k ∧ Hid (dsOk (l.take k) = true) ∧ Below w.heap.size w wr) (fun vi _ => l.length - (intOf vi).toNat)
 case atStart => exact ⟨0, Nat.zero_le _, rfl, Lib.hid rfl, Below.refl _ _⟩
 case round =>
  obtain ⟨k, hk, rfl, hd, hB⟩ := hrel
  have HB := Lib.hid hB
  have hsz := hB.size
  clear hB
  by_cases hlt : k < l.length
  · obtain ⟨ad, A1, c1, rfl, q0, q1, q2, m1, G1⟩ := at_T24 (Kd.C_below HC.out HB.out) (k : Int) (by omega) (by omega)
    rw [Int.toNat_natCast] at q0 q1 q2
    have hx : rd_T24 l (k : Int) = l[k] := by unfold rd_T24; simp [hlt]
    have HCK := Lib.hid (ask1_any (rd_T24 l (k : Int)) A1 c1 wr m1 G1 (HO.out _ (by rw [hx]; exact List.getElem_mem _)))
    have ht : Hid (dsOk (l.take (k + 1)) = (dchk (rd_T24 l (k : Int)) == 0)) := Lib.hid (by
     have := hd.out
     rw [List.take_succ_eq_append_getElem hlt, hx]
     unfold dsOk at this ⊢
     rw [List.all_append, this]
     simp)
    have hw : wrap64 ((k : Int) + 1) = ((k + 1 : Nat) : Int) := by unfold wrap64; omega
    clear G1 hx
    cases hc : (dchk (rd_T24 l (k : Int)) != 0) with
    | true =>
     have hbad : Hid (dsOk l = false) := Lib.hid (by
      have h1 := ht.out
      have e : l = l.take (k + 1) ++ l.drop (k + 1) := (List.take_append_drop _ _).symm
      rw [e]
      unfold dsOk at h1 ⊢
      rw [List.all_append, h1]
      simp only [bne, Bool.not_eq_true'] at hc
      rw [hc]
      rfl)
     clear ht hd
     go_wp2_with (first | (go_at_call 174; refine HCK.out.mono ?_; rw [hc]; rintro e w' ⟨rfl, hB2⟩; have HB2 := Lib.hid (HB.out.trans (hB2.mono hsz))))
     go_ret
     exact ⟨_, rfl, by rw [hbad.out]; simp, HB2.out⟩
    | false =>
     have hgood : Hid (dsOk (l.take (k + 1)) = true) := Lib.hid (by
      rw [ht.out]
      simp only [bne, Bool.not_eq_false'] at hc
      exact hc)
     clear ht hd
     go_wp2_with (first | (go_at_call 174; refine HCK.out.mono ?_; rw [hc]; rintro e w' ⟨rfl, hB2⟩; have HB2 := Lib.hid (HB.out.trans (hB2.mono hsz))))
     go_roundw
     case rel => exact ⟨k + 1, hlt, by go_num, hgood, HB2.out⟩
     case measure => simp [intOf]; omega
  · obtain rfl : k = l.length := by omega
    have hall : dsOk l = true := by have := hd.out; rwa [List.take_length] at this
    clear hd
    go_wp2
    go_ret
    exact ⟨_, rfl, by rw [hall]; simp, HB.out⟩
set_option maxHeartbeats 1000000 in
theorem ask_any (A : Option Addr) (c : Nat) (l : List D) (w : World) (hC : k24.C w A l.length l) (hO : ∀ d ∈ l, OkD d) (hz : l.length ≤ 4611686018427387904) :
 Calls Tryz.prog 143 #[.slice A l.length c] w fun e w' => e = .returned (.int .i64 (if dsOk l then 0 else 9)) ∧ Below w.heap.size w w' := by
 have HI := Lib.hid (index_dec A c l w hC hO hz)
 have hC2 : Calls Tryz.prog 173 #[.slice A l.length c, .func (.func 174) #[] #[]] w fun e w' => e = .returned (.bool (!dsOk l)) ∧ Below w.heap.size w w' := by
  go_enter Tryz.func173, Tryz.ntmps173
  go_wp2_with (first | (go_at_call 221; refine HI.out.mono ?_; rintro e w' ⟨r, rfl, hr, hB⟩))
  go_ret
  refine ⟨?_, hB⟩
  cases hd : dsOk l with
  | true => simp [hd] at hr ⊢ <;> omega
  | false => simp [hd] at hr ⊢ <;> omega
 have HC2 := Lib.hid hC2
 clear hC2 hC hO
 cases hd : dsOk l with
 | true =>
  rw [hd] at HC2
  go_enter Tryz.func143, Tryz.ntmps143
  go_wp2_with (first | (go_at_call 173; refine HC2.out.mono ?_; rintro e w' ⟨rfl, hB⟩))
  go_ret
  exact ⟨rfl, hB⟩
 | false =>
  rw [hd] at HC2
  go_enter Tryz.func143, Tryz.ntmps143
  go_wp2_with (first | (go_at_call 173; refine HC2.out.mono ?_; rintro e w' ⟨rfl, hB⟩))
  go_ret
  exact ⟨rfl, hB⟩
end Go.Proofs.YthigbklhngihkaaGreatDoor.P
namespace Go.Proofs.YthigbklhngihkaaGreatDoor.P
open Go.RowKit Go.Proofs.YthigbklhngihkaaGreatDoorW.PrintWords Go.Proofs.YthigbklhngihkaaGreatDoorW.PrintLast Go.Proofs.YthigbklhngihkaaGreatDoorW.PrintMore
attribute [local go_sem] max2_int min2_int max_two min_two max_three min_three max_four min_four   -- for this text's walks alone
def nat_Compare.f (k : Nat) (l0 : List Int) (l1 : List Int) : Option (Int × Int) := (nat_Check.f l0).bind fun t288 => ((nat_Check.f l1).bind fun t289 => ((api_Errno.f k (([t288, t289] : List Int))).bind fun t293 => (if t293 = 0 then ((nat_num_compare.f l0 l1).bind fun t294 => (some (t294, 0))) else (some (0, t293)))))
theorem nat_Compare.mono : ∀ a0 a1 k, LeO (nat_Compare.f k a0 a1) (nat_Compare.f (k + 1) a0 a1) := by
 intro a0 a1 k
 unfold nat_Compare.f
 repeat' first
  | (with_reducible exact api_Errno.mono _ _)
  | (with_reducible exact LeO.refl _)
  | (with_reducible exact LeO.none _)
  | (with_reducible refine LeO.ite ?_ ?_)
  | (with_reducible refine LeO.bind ?_ (fun _ => ?_))
  | exact api_Errno.mono _ _
  | exact LeO.none _
  | refine LeO.ite ?_ ?_
  | refine LeO.bind ?_ (fun _ => ?_)
set_option maxHeartbeats 8000000 in
theorem nat_Compare.calls (k : Nat) (A0 : Option Addr) (c0 : Nat) (l0 : List Int) (A1 : Option Addr) (c1 : Nat) (l1 : List Int) (r1 : Int) (r2 : Int) (w : World) (hr0 : Kd.C (Kd.int .u32) w A0 l0.length l0) (hc0 : l0.length ≤ c0) (hr1 : Kd.C (Kd.int .u32) w A1 l1.length l1) (hc1 : l1.length ≤ c1) (h : nat_Compare.f k l0 l1 = some (r1, r2)) :
 Calls Tryz.prog 178 #[.slice A0 l0.length c0, .slice A1 l1.length c1] w fun e w' => e = .returned (.tuple #[.int .i64 r1, .int .i64 r2]) ∧ Below w.heap.size w w' := by
 have HR0 := Aside0.mk hr0
 have HC0 := Aside0.mk hc0
 clear hr0 hc0
 have HR1 := Aside0.mk hr1
 have HC1 := Aside0.mk hc1
 clear hr1 hc1
 have HB := Aside0.mk (Below.refl w.heap.size w)
 have H : ((nat_Check.f l0).bind fun t288 => ((nat_Check.f l1).bind fun t289 => ((api_Errno.f k (([t288, t289] : List Int))).bind fun t293 => (if t293 = 0 then ((nat_num_compare.f l0 l1).bind fun t294 => (some (t294, 0))) else (some (0, t293)))))) = some (r1, r2) := h
 clear h
 replace H := Option.bind_eq_some_iff.mp H
 obtain ⟨t288, A30, H⟩ := H
 replace H : ((nat_Check.f l1).bind fun t289 => ((api_Errno.f k (([t288, t289] : List Int))).bind fun t293 => (if t293 = 0 then ((nat_num_compare.f l0 l1).bind fun t294 => (some (t294, 0))) else (some (0, t293))))) = some (r1, r2) := H
 have A3 := Aside0.mk A30
 clear A30
 replace H := Option.bind_eq_some_iff.mp H
 obtain ⟨t289, A40, H⟩ := H
 replace H : ((api_Errno.f k (([t288, t289] : List Int))).bind fun t293 => (if t293 = 0 then ((nat_num_compare.f l0 l1).bind fun t294 => (some (t294, 0))) else (some (0, t293)))) = some (r1, r2) := H
 have A4 := Aside0.mk A40
 clear A40
 obtain ⟨y290, hy290⟩ : ∃ y_ : List Int, y_ = (([t288, t289] : List Int)) := ⟨_, rfl⟩
 replace H : ((api_Errno.f k y290).bind fun t293 => (if t293 = 0 then ((nat_num_compare.f l0 l1).bind fun t294 => (some (t294, 0))) else (some (0, t293)))) = some (r1, r2) := by first | (rw [hy290]; with_reducible exact H) | (have H2_ := (Option.bind_some _ _).symm.trans H; rw [hy290]; with_reducible exact H2_) | (have H2_ := (Option.bind_some _ _).symm.trans H; with_reducible exact H2_) | with_reducible exact H | (rw [hy290]; exact H) | exact H
 have Ny290 := Aside0.mk hy290
 clear hy290
 replace H := Option.bind_eq_some_iff.mp H
 obtain ⟨t293, A50, H⟩ := H
 replace H : (if t293 = 0 then ((nat_num_compare.f l0 l1).bind fun t294 => (some (t294, 0))) else (some (0, t293))) = some (r1, r2) := H
 have A5 := Aside0.mk A50
 clear A50
 by_cases c6 : t293 = 0
 · rw [if_pos c6] at H
   have c6b0 : (t293 == 0) = true := beq_iff_eq.mpr c6
   have c6b1 : (t293 != 0) = false := bne_eq_false_iff_eq.mpr c6
   clear c6
   replace H := Option.bind_eq_some_iff.mp H
   obtain ⟨t294, A70, H⟩ := H
   replace H : (some (t294, 0)) = some (r1, r2) := H
   have A7 := Aside0.mk A70
   clear A70
   simp only [Option.some.injEq, Prod.mk.injEq] at H
   obtain ⟨rfl, rfl⟩ := H
   go_enter Tryz.func178, Tryz.ntmps178
   go_wp2_with (first | ((with_reducible refine gate_callee (f := 219) rfl ?_); refine goesL_ (some 8) rfl rfl Tryz.func219 (by kernel_rfl) rfl #[.slice A0 l0.length c0] rfl (by (try simp only [List.map_toArray, List.map_cons, List.map_nil]); first | done | rfl | (simp only [List.length_drop, List.length_take]; rfl)) ?_; (with_reducible refine (nat_Check.calls _ _ l0 t288 _ ?side1 ?side2 A3.out).mono ?_); (case side1 => repeat (first | exact HR0.out | (with_reducible refine Kd.C_alloc ?_ _) | (with_reducible refine Kd.C_drewN ?_ _) | (with_reducible refine Kd.C_drew ?_))); (case side2 => exact HC0.out); rintro e w' ⟨rfl, ⟨nd, rfl⟩⟩; refine ⟨_, rfl, ?_⟩) | ((with_reducible refine gate_callee (f := 219) rfl ?_); refine goesL_ (some 10) rfl rfl Tryz.func219 (by kernel_rfl) rfl #[.slice A1 l1.length c1] rfl (by (try simp only [List.map_toArray, List.map_cons, List.map_nil]); first | done | rfl | (simp only [List.length_drop, List.length_take]; rfl)) ?_; (with_reducible refine (nat_Check.calls _ _ l1 t289 _ ?side1 ?side2 A4.out).mono ?_); (case side1 => repeat (first | exact HR1.out | (with_reducible refine Kd.C_alloc ?_ _) | (with_reducible refine Kd.C_drewN ?_ _) | (with_reducible refine Kd.C_drew ?_))); (case side2 => exact HC1.out); rintro e w' ⟨rfl, ⟨nd, rfl⟩⟩; refine ⟨_, rfl, ?_⟩) | ((with_reducible refine gate_dst (N := 11) rfl ?_); refine Kd.R_lit (Kd.int .i64) _ 30 ?hg (N := 11) ?hd (xs := ([t288, t289] : List Int)) (inner := [.int .i64 t288, .int .i64 t289]) (ok := fun _ => True) (okp := fun _ => True) ?hr ?hp (fun _ hk => hk) trivial (Below.refl _ _) (Nat.le_refl _) (by simp) ?_; (case hd => rfl); (case hg => rfl); (case hr => first | (go_simp; done) | (go_simp; rfl)); (case hp => exact (Reps.one (show Kd.M (Kd.int .i64) _ _ _ t288 [.int .i64 t288] from rfl) (Reps.one (show Kd.M (Kd.int .i64) _ _ _ t289 [.int .i64 t289] from rfl) (Reps.none _ _)))); intro v291 w8 ho9 hb hg_ hnew_; clear hg_ hnew_; (first | rw [← Ny290.out] at ho9 | (simp only [Int.reduceToNat] at ho9; rw [← Ny290.out] at ho9)); have n0_ := Aside0.mk (Kd.R_lower ho9 (below_size (by repeat (first | (with_reducible first | exact HB.out | apply below_alloc | apply pw_below_drewN | apply below_drew1) | exact HB.out)))); have n1_ := Aside0.mk (below_step (by repeat (first | (with_reducible first | exact HB.out | apply below_alloc | apply pw_below_drewN | apply below_drew1) | exact HB.out)) hb); clear HB; have HO292 := n0_; have HB := n1_; clear n0_ n1_; clear hb ho9; obtain ⟨Ao10, co10, eo10⟩ := Kd.R_slice HO292.out; subst eo10) | ((with_reducible refine gate_callee (f := 61) rfl ?_); refine goesL_ (some 12) rfl rfl Tryz.func61 (by kernel_rfl) rfl #[.slice Ao10 y290.length co10] rfl (by (try simp only [List.map_toArray, List.map_cons, List.map_nil]); first | done | rfl | (simp only [List.length_drop, List.length_take]; rfl)) ?_; (with_reducible refine (api_Errno.calls k _ _ y290 t293 _ ?side1 ?side2 A5.out).mono ?_); (case side1 => repeat (first | exact (Kd.R_reads' HO292.out).2.2 | (with_reducible refine Kd.C_alloc ?_ _) | (with_reducible refine Kd.C_drewN ?_ _) | (with_reducible refine Kd.C_drew ?_))); (case side2 => exact (Kd.R_reads' HO292.out).2.1); rintro e w' ⟨rfl, ⟨nd, rfl⟩⟩; refine ⟨_, rfl, ?_⟩) | ((with_reducible refine gate_callee (f := 227) rfl ?_); refine goesL_ (some 18) rfl rfl Tryz.func227 (by kernel_rfl) rfl #[.slice A0 l0.length c0, .slice A1 l1.length c1] rfl (by (try simp only [List.map_toArray, List.map_cons, List.map_nil]); first | done | rfl | (simp only [List.length_drop, List.length_take]; rfl)) ?_; (with_reducible refine (nat_num_compare.calls _ _ l0 _ _ l1 t294 _ ?side1 ?side2 ?side3 ?side4 A7.out).mono ?_); (case side1 => repeat (first | exact (Kd.C_below HR0.out (by repeat (first | (with_reducible first | exact HB.out | apply below_alloc | apply pw_below_drewN | apply below_drew1) | exact HB.out))) | (with_reducible refine Kd.C_alloc ?_ _) | (with_reducible refine Kd.C_drewN ?_ _) | (with_reducible refine Kd.C_drew ?_))); (case side2 => exact HC0.out); (case side3 => repeat (first | exact (Kd.C_below HR1.out (by repeat (first | (with_reducible first | exact HB.out | apply below_alloc | apply pw_below_drewN | apply below_drew1) | exact HB.out))) | (with_reducible refine Kd.C_alloc ?_ _) | (with_reducible refine Kd.C_drewN ?_ _) | (with_reducible refine Kd.C_drew ?_))); (case side4 => exact HC1.out); rintro e w11 ⟨rfl, hb⟩; refine ⟨_, rfl, ?_⟩; have n0_ := Aside0.mk (Kd.R_below (by (with_reducible repeat (first | apply Kd.R_alloc | apply Kd.R_drewN | apply Kd.R_drew)); exact HO292.out) hb); have n1_ := Aside0.mk (below_step (by repeat (first | (with_reducible first | exact HB.out | apply below_alloc | apply pw_below_drewN | apply below_drew1) | exact HB.out)) hb); clear HO292; clear HB; have HO292 := n0_; have HB := n1_; clear n0_ n1_; (try clear hb); (try clear hb2); (try clear hk); (try clear hi)))
   go_ret2
   exact ⟨by first | rfl | (simp [errW_none, errW_some] <;> rfl) | (simp [*, errW_none, errW_some] <;> rfl), by repeat (first | (with_reducible first | exact HB.out | apply below_alloc | apply pw_below_drewN | apply below_drew1) | exact HB.out)⟩
 · rw [if_neg c6] at H
   have c6b0 : (t293 == 0) = false := beq_eq_false_iff_ne.mpr c6
   have c6b1 : (t293 != 0) = true := bne_iff_ne.mpr c6
   simp only [Option.some.injEq, Prod.mk.injEq] at H
   obtain ⟨rfl, rfl⟩ := H
   go_enter Tryz.func178, Tryz.ntmps178
   go_wp2_with (first | ((with_reducible refine gate_callee (f := 219) rfl ?_); refine goesL_ (some 8) rfl rfl Tryz.func219 (by kernel_rfl) rfl #[.slice A0 l0.length c0] rfl (by (try simp only [List.map_toArray, List.map_cons, List.map_nil]); first | done | rfl | (simp only [List.length_drop, List.length_take]; rfl)) ?_; (with_reducible refine (nat_Check.calls _ _ l0 t288 _ ?side1 ?side2 A3.out).mono ?_); (case side1 => repeat (first | exact HR0.out | (with_reducible refine Kd.C_alloc ?_ _) | (with_reducible refine Kd.C_drewN ?_ _) | (with_reducible refine Kd.C_drew ?_))); (case side2 => exact HC0.out); rintro e w' ⟨rfl, ⟨nd, rfl⟩⟩; refine ⟨_, rfl, ?_⟩) | ((with_reducible refine gate_callee (f := 219) rfl ?_); refine goesL_ (some 10) rfl rfl Tryz.func219 (by kernel_rfl) rfl #[.slice A1 l1.length c1] rfl (by (try simp only [List.map_toArray, List.map_cons, List.map_nil]); first | done | rfl | (simp only [List.length_drop, List.length_take]; rfl)) ?_; (with_reducible refine (nat_Check.calls _ _ l1 t289 _ ?side1 ?side2 A4.out).mono ?_); (case side1 => repeat (first | exact HR1.out | (with_reducible refine Kd.C_alloc ?_ _) | (with_reducible refine Kd.C_drewN ?_ _) | (with_reducible refine Kd.C_drew ?_))); (case side2 => exact HC1.out); rintro e w' ⟨rfl, ⟨nd, rfl⟩⟩; refine ⟨_, rfl, ?_⟩) | ((with_reducible refine gate_dst (N := 11) rfl ?_); refine Kd.R_lit (Kd.int .i64) _ 30 ?hg (N := 11) ?hd (xs := ([t288, t289] : List Int)) (inner := [.int .i64 t288, .int .i64 t289]) (ok := fun _ => True) (okp := fun _ => True) ?hr ?hp (fun _ hk => hk) trivial (Below.refl _ _) (Nat.le_refl _) (by simp) ?_; (case hd => rfl); (case hg => rfl); (case hr => first | (go_simp; done) | (go_simp; rfl)); (case hp => exact (Reps.one (show Kd.M (Kd.int .i64) _ _ _ t288 [.int .i64 t288] from rfl) (Reps.one (show Kd.M (Kd.int .i64) _ _ _ t289 [.int .i64 t289] from rfl) (Reps.none _ _)))); intro v291 w12 ho13 hb hg_ hnew_; clear hg_ hnew_; (first | rw [← Ny290.out] at ho13 | (simp only [Int.reduceToNat] at ho13; rw [← Ny290.out] at ho13)); have n0_ := Aside0.mk (Kd.R_lower ho13 (below_size (by repeat (first | (with_reducible first | exact HB.out | apply below_alloc | apply pw_below_drewN | apply below_drew1) | exact HB.out)))); have n1_ := Aside0.mk (below_step (by repeat (first | (with_reducible first | exact HB.out | apply below_alloc | apply pw_below_drewN | apply below_drew1) | exact HB.out)) hb); clear HB; have HO292 := n0_; have HB := n1_; clear n0_ n1_; clear hb ho13; obtain ⟨Ao14, co14, eo14⟩ := Kd.R_slice HO292.out; subst eo14) | ((with_reducible refine gate_callee (f := 61) rfl ?_); refine goesL_ (some 12) rfl rfl Tryz.func61 (by kernel_rfl) rfl #[.slice Ao14 y290.length co14] rfl (by (try simp only [List.map_toArray, List.map_cons, List.map_nil]); first | done | rfl | (simp only [List.length_drop, List.length_take]; rfl)) ?_; (with_reducible refine (api_Errno.calls k _ _ y290 t293 _ ?side1 ?side2 A5.out).mono ?_); (case side1 => repeat (first | exact (Kd.R_reads' HO292.out).2.2 | (with_reducible refine Kd.C_alloc ?_ _) | (with_reducible refine Kd.C_drewN ?_ _) | (with_reducible refine Kd.C_drew ?_))); (case side2 => exact (Kd.R_reads' HO292.out).2.1); rintro e w' ⟨rfl, ⟨nd, rfl⟩⟩; refine ⟨_, rfl, ?_⟩))
   go_ret2
   exact ⟨by first | rfl | (simp [errW_none, errW_some] <;> rfl) | (simp [*, errW_none, errW_some] <;> rfl), by repeat (first | (with_reducible first | exact HB.out | apply below_alloc | apply pw_below_drewN | apply below_drew1) | exact HB.out)⟩
end Go.Proofs.YthigbklhngihkaaGreatDoor.P
namespace Go.Proofs.YthigbklhngihkaaGreatDoor.P
open Go.RowKit Go.Proofs.YthigbklhngihkaaGreatDoorW.PrintWords Go.Proofs.YthigbklhngihkaaGreatDoorW.PrintLast Go.Proofs.YthigbklhngihkaaGreatDoorW.PrintMore
attribute [local go_sem] max2_int min2_int max_two min_two max_three min_three max_four min_four   -- for this text's walks alone
def nat_Sub.f (k : Nat) (l0 : List Int) (l1 : List Int) : Option (List Int × Int) := (nat_two.f k l0 l1).bind fun t295 => (if t295 = 0 then ((nat_num_compare.f l0 l1).bind fun t296 => (if t296 < 0 then (some (([] : List Int), 4)) else ((nat_num_sub.f l0 l1).bind fun t297 => (some (t297, 0))))) else (some (([] : List Int), t295)))
theorem nat_Sub.mono : ∀ a0 a1 k, LeO (nat_Sub.f k a0 a1) (nat_Sub.f (k + 1) a0 a1) := by
 intro a0 a1 k
 unfold nat_Sub.f
 repeat' first
  | (with_reducible exact nat_two.mono _ _ _)
  | (with_reducible exact LeO.refl _)
  | (with_reducible exact LeO.none _)
  | (with_reducible refine LeO.ite ?_ ?_)
  | (with_reducible refine LeO.bind ?_ (fun _ => ?_))
  | exact nat_two.mono _ _ _
  | exact LeO.none _
  | refine LeO.ite ?_ ?_
  | refine LeO.bind ?_ (fun _ => ?_)
set_option maxHeartbeats 8000000 in
theorem nat_Sub.calls (k : Nat) (A0 : Option Addr) (c0 : Nat) (l0 : List Int) (A1 : Option Addr) (c1 : Nat) (l1 : List Int) (r1 : List Int) (r2 : Int) (w : World) (hr0 : Kd.C (Kd.int .u32) w A0 l0.length l0) (hc0 : l0.length ≤ c0) (hr1 : Kd.C (Kd.int .u32) w A1 l1.length l1) (hc1 : l1.length ≤ c1) (h : nat_Sub.f k l0 l1 = some (r1, r2)) :
 Calls Tryz.prog 179 #[.slice A0 l0.length c0, .slice A1 l1.length c1] w fun e w' => ∃ v0_ : Value, e = .returned (.tuple #[v0_, .int .i64 r2]) ∧ Kd.R (Kd.int .u32) 131 w' w.heap.size (fun _ => True) v0_ r1 ∧ Below w.heap.size w w' := by
 have HR0 := Aside0.mk hr0
 have HC0 := Aside0.mk hc0
 clear hr0 hc0
 have HR1 := Aside0.mk hr1
 have HC1 := Aside0.mk hc1
 clear hr1 hc1
 have HB := Aside0.mk (Below.refl w.heap.size w)
 have H : ((nat_two.f k l0 l1).bind fun t295 => (if t295 = 0 then ((nat_num_compare.f l0 l1).bind fun t296 => (if t296 < 0 then (some (([] : List Int), 4)) else ((nat_num_sub.f l0 l1).bind fun t297 => (some (t297, 0))))) else (some (([] : List Int), t295)))) = some (r1, r2) := h
 clear h
 replace H := Option.bind_eq_some_iff.mp H
 obtain ⟨t295, A30, H⟩ := H
 replace H : (if t295 = 0 then ((nat_num_compare.f l0 l1).bind fun t296 => (if t296 < 0 then (some (([] : List Int), 4)) else ((nat_num_sub.f l0 l1).bind fun t297 => (some (t297, 0))))) else (some (([] : List Int), t295))) = some (r1, r2) := H
 have A3 := Aside0.mk A30
 clear A30
 by_cases c4 : t295 = 0
 · rw [if_pos c4] at H
   have c4b0 : (t295 == 0) = true := beq_iff_eq.mpr c4
   have c4b1 : (t295 != 0) = false := bne_eq_false_iff_eq.mpr c4
   clear c4
   replace H := Option.bind_eq_some_iff.mp H
   obtain ⟨t296, A50, H⟩ := H
   replace H : (if t296 < 0 then (some (([] : List Int), 4)) else ((nat_num_sub.f l0 l1).bind fun t297 => (some (t297, 0)))) = some (r1, r2) := H
   have A5 := Aside0.mk A50
   clear A50
   by_cases c6 : t296 < 0
   · rw [if_pos c6] at H
     have c6b0 : decide (t296 < 0) = true := decide_eq_true c6
     clear c6
     simp only [Option.some.injEq, Prod.mk.injEq] at H
     obtain ⟨rfl, rfl⟩ := H
     go_enter Tryz.func179, Tryz.ntmps179
     go_wp2_with (first | ((with_reducible refine gate_callee (f := 224) rfl ?_); refine goesL_ (some 9) rfl rfl Tryz.func224 (by kernel_rfl) rfl #[.slice A0 l0.length c0, .slice A1 l1.length c1] rfl (by (try simp only [List.map_toArray, List.map_cons, List.map_nil]); first | done | rfl | (simp only [List.length_drop, List.length_take]; rfl)) ?_; (with_reducible refine (nat_two.calls k _ _ l0 _ _ l1 t295 _ ?side1 ?side2 ?side3 ?side4 A3.out).mono ?_); (case side1 => repeat (first | exact HR0.out | (with_reducible refine Kd.C_alloc ?_ _) | (with_reducible refine Kd.C_drewN ?_ _) | (with_reducible refine Kd.C_drew ?_))); (case side2 => exact HC0.out); (case side3 => repeat (first | exact HR1.out | (with_reducible refine Kd.C_alloc ?_ _) | (with_reducible refine Kd.C_drewN ?_ _) | (with_reducible refine Kd.C_drew ?_))); (case side4 => exact HC1.out); rintro e w7 ⟨rfl, hb⟩; refine ⟨_, rfl, ?_⟩; have n0_ := Aside0.mk (below_step (by repeat (first | (with_reducible first | exact HB.out | apply below_alloc | apply pw_below_drewN | apply below_drew1) | exact HB.out)) hb); clear HB; have HB := n0_; clear n0_; (try clear hb); (try clear hb2); (try clear hk); (try clear hi)) | ((with_reducible refine gate_callee (f := 227) rfl ?_); refine goesL_ (some 15) rfl rfl Tryz.func227 (by kernel_rfl) rfl #[.slice A0 l0.length c0, .slice A1 l1.length c1] rfl (by (try simp only [List.map_toArray, List.map_cons, List.map_nil]); first | done | rfl | (simp only [List.length_drop, List.length_take]; rfl)) ?_; (with_reducible refine (nat_num_compare.calls _ _ l0 _ _ l1 t296 _ ?side1 ?side2 ?side3 ?side4 A5.out).mono ?_); (case side1 => repeat (first | exact (Kd.C_below HR0.out HB.out) | (with_reducible refine Kd.C_alloc ?_ _) | (with_reducible refine Kd.C_drewN ?_ _) | (with_reducible refine Kd.C_drew ?_))); (case side2 => exact HC0.out); (case side3 => repeat (first | exact (Kd.C_below HR1.out HB.out) | (with_reducible refine Kd.C_alloc ?_ _) | (with_reducible refine Kd.C_drewN ?_ _) | (with_reducible refine Kd.C_drew ?_))); (case side4 => exact HC1.out); rintro e w8 ⟨rfl, hb⟩; refine ⟨_, rfl, ?_⟩; have n0_ := Aside0.mk (below_step (by repeat (first | (with_reducible first | exact HB.out | apply below_alloc | apply pw_below_drewN | apply below_drew1) | exact HB.out)) hb); clear HB; have HB := n0_; clear n0_; (try clear hb); (try clear hb2); (try clear hk); (try clear hi)))
     go_ret2
     exact ⟨_, by first | rfl | (simp [errW_none, errW_some] <;> rfl) | (simp [*, errW_none, errW_some] <;> rfl), by first | exact Kd.R_nil _ _ _ _ _ | exact Kd.N_nil _ _ _ _ _ | exact Kd.V_nil _ _ _ _ _ | exact Kd.Q_nil _ _ _ _ _ | exact Kd.S_nil _ _ _ _ _, by repeat (first | (with_reducible first | exact HB.out | apply below_alloc | apply pw_below_drewN | apply below_drew1) | exact HB.out)⟩
   · rw [if_neg c6] at H
     have c6b0 : decide (t296 < 0) = false := decide_eq_false c6
     clear c6
     replace H := Option.bind_eq_some_iff.mp H
     obtain ⟨t297, A90, H⟩ := H
     replace H : (some (t297, 0)) = some (r1, r2) := H
     have A9 := Aside0.mk A90
     clear A90
     simp only [Option.some.injEq, Prod.mk.injEq] at H
     obtain ⟨rfl, rfl⟩ := H
     go_enter Tryz.func179, Tryz.ntmps179
     go_wp2_with (first | ((with_reducible refine gate_callee (f := 224) rfl ?_); refine goesL_ (some 9) rfl rfl Tryz.func224 (by kernel_rfl) rfl #[.slice A0 l0.length c0, .slice A1 l1.length c1] rfl (by (try simp only [List.map_toArray, List.map_cons, List.map_nil]); first | done | rfl | (simp only [List.length_drop, List.length_take]; rfl)) ?_; (with_reducible refine (nat_two.calls k _ _ l0 _ _ l1 t295 _ ?side1 ?side2 ?side3 ?side4 A3.out).mono ?_); (case side1 => repeat (first | exact HR0.out | (with_reducible refine Kd.C_alloc ?_ _) | (with_reducible refine Kd.C_drewN ?_ _) | (with_reducible refine Kd.C_drew ?_))); (case side2 => exact HC0.out); (case side3 => repeat (first | exact HR1.out | (with_reducible refine Kd.C_alloc ?_ _) | (with_reducible refine Kd.C_drewN ?_ _) | (with_reducible refine Kd.C_drew ?_))); (case side4 => exact HC1.out); rintro e w10 ⟨rfl, hb⟩; refine ⟨_, rfl, ?_⟩; have n0_ := Aside0.mk (below_step (by repeat (first | (with_reducible first | exact HB.out | apply below_alloc | apply pw_below_drewN | apply below_drew1) | exact HB.out)) hb); clear HB; have HB := n0_; clear n0_; (try clear hb); (try clear hb2); (try clear hk); (try clear hi)) | ((with_reducible refine gate_callee (f := 227) rfl ?_); refine goesL_ (some 15) rfl rfl Tryz.func227 (by kernel_rfl) rfl #[.slice A0 l0.length c0, .slice A1 l1.length c1] rfl (by (try simp only [List.map_toArray, List.map_cons, List.map_nil]); first | done | rfl | (simp only [List.length_drop, List.length_take]; rfl)) ?_; (with_reducible refine (nat_num_compare.calls _ _ l0 _ _ l1 t296 _ ?side1 ?side2 ?side3 ?side4 A5.out).mono ?_); (case side1 => repeat (first | exact (Kd.C_below HR0.out HB.out) | (with_reducible refine Kd.C_alloc ?_ _) | (with_reducible refine Kd.C_drewN ?_ _) | (with_reducible refine Kd.C_drew ?_))); (case side2 => exact HC0.out); (case side3 => repeat (first | exact (Kd.C_below HR1.out HB.out) | (with_reducible refine Kd.C_alloc ?_ _) | (with_reducible refine Kd.C_drewN ?_ _) | (with_reducible refine Kd.C_drew ?_))); (case side4 => exact HC1.out); rintro e w11 ⟨rfl, hb⟩; refine ⟨_, rfl, ?_⟩; have n0_ := Aside0.mk (below_step (by repeat (first | (with_reducible first | exact HB.out | apply below_alloc | apply pw_below_drewN | apply below_drew1) | exact HB.out)) hb); clear HB; have HB := n0_; clear n0_; (try clear hb); (try clear hb2); (try clear hk); (try clear hi)) | ((with_reducible refine gate_callee (f := 228) rfl ?_); refine goesL_ (some 19) rfl rfl Tryz.func228 (by kernel_rfl) rfl #[.slice A0 l0.length c0, .slice A1 l1.length c1] rfl (by (try simp only [List.map_toArray, List.map_cons, List.map_nil]); first | done | rfl | (simp only [List.length_drop, List.length_take]; rfl)) ?_; (with_reducible refine (nat_num_sub.calls _ _ l0 _ _ l1 t297 _ ?side1 ?side2 ?side3 ?side4 A9.out).mono ?_); (case side1 => repeat (first | exact (Kd.C_below HR0.out HB.out) | (with_reducible refine Kd.C_alloc ?_ _) | (with_reducible refine Kd.C_drewN ?_ _) | (with_reducible refine Kd.C_drew ?_))); (case side2 => exact HC0.out); (case side3 => repeat (first | exact (Kd.C_below HR1.out HB.out) | (with_reducible refine Kd.C_alloc ?_ _) | (with_reducible refine Kd.C_drewN ?_ _) | (with_reducible refine Kd.C_drew ?_))); (case side4 => exact HC1.out); rintro e w12 ⟨v298, rfl, ho0, hb⟩; refine ⟨_, rfl, ?_⟩; have n0_ := Aside0.mk (Kd.R_lower ho0 (below_size (by repeat (first | (with_reducible first | exact HB.out | apply below_alloc | apply pw_below_drewN | apply below_drew1) | exact HB.out)))); have n1_ := Aside0.mk (below_step (by repeat (first | (with_reducible first | exact HB.out | apply below_alloc | apply pw_below_drewN | apply below_drew1) | exact HB.out)) hb); clear HB; have HO299 := n0_; have HB := n1_; clear n0_ n1_; (try clear hb); (try clear hb2); (try clear hk); (try clear hi); (try clear ho0)))
     go_ret2
     exact ⟨_, by first | rfl | (simp [errW_none, errW_some] <;> rfl) | (simp [*, errW_none, errW_some] <;> rfl), by (with_reducible repeat (first | apply Kd.R_alloc | apply Kd.R_drewN | apply Kd.R_drew)); exact HO299.out, by repeat (first | (with_reducible first | exact HB.out | apply below_alloc | apply pw_below_drewN | apply below_drew1) | exact HB.out)⟩
 · rw [if_neg c4] at H
   have c4b0 : (t295 == 0) = false := beq_eq_false_iff_ne.mpr c4
   have c4b1 : (t295 != 0) = true := bne_iff_ne.mpr c4
   simp only [Option.some.injEq, Prod.mk.injEq] at H
   obtain ⟨rfl, rfl⟩ := H
   go_enter Tryz.func179, Tryz.ntmps179
   go_wp2_with (first | ((with_reducible refine gate_callee (f := 224) rfl ?_); refine goesL_ (some 9) rfl rfl Tryz.func224 (by kernel_rfl) rfl #[.slice A0 l0.length c0, .slice A1 l1.length c1] rfl (by (try simp only [List.map_toArray, List.map_cons, List.map_nil]); first | done | rfl | (simp only [List.length_drop, List.length_take]; rfl)) ?_; (with_reducible refine (nat_two.calls k _ _ l0 _ _ l1 t295 _ ?side1 ?side2 ?side3 ?side4 A3.out).mono ?_); (case side1 => repeat (first | exact HR0.out | (with_reducible refine Kd.C_alloc ?_ _) | (with_reducible refine Kd.C_drewN ?_ _) | (with_reducible refine Kd.C_drew ?_))); (case side2 => exact HC0.out); (case side3 => repeat (first | exact HR1.out | (with_reducible refine Kd.C_alloc ?_ _) | (with_reducible refine Kd.C_drewN ?_ _) | (with_reducible refine Kd.C_drew ?_))); (case side4 => exact HC1.out); rintro e w13 ⟨rfl, hb⟩; refine ⟨_, rfl, ?_⟩; have n0_ := Aside0.mk (below_step (by repeat (first | (with_reducible first | exact HB.out | apply below_alloc | apply pw_below_drewN | apply below_drew1) | exact HB.out)) hb); clear HB; have HB := n0_; clear n0_; (try clear hb); (try clear hb2); (try clear hk); (try clear hi)))
   go_ret2
   exact ⟨_, by first | rfl | (simp [errW_none, errW_some] <;> rfl) | (simp [*, errW_none, errW_some] <;> rfl), by first | exact Kd.R_nil _ _ _ _ _ | exact Kd.N_nil _ _ _ _ _ | exact Kd.V_nil _ _ _ _ _ | exact Kd.Q_nil _ _ _ _ _ | exact Kd.S_nil _ _ _ _ _, by repeat (first | (with_reducible first | exact HB.out | apply below_alloc | apply pw_below_drewN | apply below_drew1) | exact HB.out)⟩
end Go.Proofs.YthigbklhngihkaaGreatDoor.P
namespace Go.Proofs.YthigbklhngihkaaGreatDoor.P
open Go.RowKit Go.Proofs.YthigbklhngihkaaGreatDoorW.PrintWords Go.Proofs.YthigbklhngihkaaGreatDoorW.PrintMore
def expo : Nat := 2400
def top : Nat := 10 ^ expo
theorem ten_bound : top < 4294967296 ^ 256 := by decide +kernel
theorem top_ge {m : Nat} (h : m ≤ 2400) : 10 ^ m ≤ top := by
 have h2 : m ≤ expo := h
 unfold top
 generalize expo = e at *
 exact Nat.pow_le_pow_right (Nat.succ_pos 9) h2
theorem mul_limbs {a b : Nat} (ha : a ≤ top) (hb : b ≤ top) (k : Nat) (hk : 70000 ≤ k) : nat_num_mul.f k (limbs a) (limbs b) = some (limbs (a * b)) := by
 have h1 := limbs_len (Nat.lt_of_le_of_lt ha ten_bound)
 have h2 := limbs_len (Nat.lt_of_le_of_lt hb ten_bound)
 have := mul_eq (limbs a) (limbs b) (okL_limbs a) (okL_limbs b) (by omega) (by omega) k (by have := mul_bound h1 h2; omega)
 rwa [val_limbs, val_limbs] at this
theorem power_loop : ∀ (n : Nat) (o b k : Nat), n ≤ 4096 → 1 ≤ o → 1 ≤ b → o * b ^ n ≤ top → n + 70001 ≤ k → nat_power.l0 k n (limbs o) (limbs b) = some (limbs (o * b ^ n)) := by
 intro n
 induction n using Nat.strongRecOn with
 | _ n ih =>
  intro o b k hn ho hb hle hk
  obtain ⟨k, rfl⟩ : ∃ m, k = m + 1 := ⟨k - 1, by omega⟩
  by_cases h0 : n = 0
  · subst h0
    rw [nat_power.l0.eq_2, if_neg (by omega), Nat.pow_zero, Nat.mul_one]
  · have hbn : b ≤ b ^ n := Nat.le_self_pow h0 b
    have hb1 : b ≤ top := Nat.le_trans hbn (Nat.le_trans (Nat.le_mul_of_pos_left _ ho) hle)
    have ho1 : o ≤ top := Nat.le_trans (Nat.le_mul_of_pos_right _ (Nat.pow_pos hb)) hle
    have e2 : wrap64 (Int.tdiv (n : Int) 2) = ((n / 2 : Nat) : Int) := by
     rw [Int.tdiv_eq_ediv_of_nonneg (by omega), w64 _ (by omega)]; omega
    have em : Int.tmod (n : Int) 2 = ((n % 2 : Nat) : Int) := by rw [Int.tmod_eq_emod_of_nonneg (by omega)]; omega
    rw [nat_power.l0.eq_2, if_pos (by omega), em]
    by_cases h1 : n % 2 = 1
    · rw [if_pos (by omega), mul_limbs ho1 hb1 k (by omega), Option.bind_some]
      by_cases hn1 : 1 < n
      · have ep : o * b * (b * b) ^ (n / 2) = o * b ^ n := by
         rw [← Nat.pow_two, ← Nat.pow_mul, Nat.mul_assoc, ← Nat.pow_succ']
         congr 2
         omega
        rw [if_pos (by omega), mul_limbs hb1 hb1 k (by omega), Option.bind_some, e2, ih (n / 2) (by omega) (o * b) (b * b) k (by omega) (Nat.mul_pos ho hb) (Nat.mul_pos hb hb) (by rw [ep]; exact hle) (by omega), ep]
      · obtain rfl : n = 1 := by omega
        rw [if_neg (by omega), e2, ih (1 / 2) (by omega) (o * b) b k (by omega) (Nat.mul_pos ho hb) hb (by simpa using hle) (by omega)]
        simp
    · have hn1 : 1 < n := by omega
      have ep : o * (b * b) ^ (n / 2) = o * b ^ n := by
       rw [← Nat.pow_two, ← Nat.pow_mul]
       congr 2
       omega
      rw [if_neg (by omega), if_pos (by omega), mul_limbs hb1 hb1 k (by omega), Option.bind_some, e2, ih (n / 2) (by omega) o (b * b) k (by omega) ho (Nat.mul_pos hb hb) (by rw [ep]; exact hle) (by omega), ep]
def powV (n : Int) : List Int × Int := if 0 ≤ n ∧ n ≤ 2400 then (limbs (10 ^ n.toNat), 0) else ([], 4)
theorem pow_f (n : Int) (k : Nat) (hk : 80000 ≤ k) : nat_Pow.f k n = some (powV n) := by
 unfold nat_Pow.f powV nat_power.f
 by_cases h0 : n < 0
 · rw [if_pos h0, if_neg (by omega)]
 · by_cases h1 : n > 2400
   · rw [if_neg h0, if_pos h1, if_neg (by omega)]
   · obtain ⟨m, rfl⟩ : ∃ m : Nat, n = m := ⟨n.toNat, by omega⟩
     have e1 : ([1] : List Int) = limbs 1 := by rw [limbs_pos (by omega), limbs_zero]; rfl
     have e2 : ([10] : List Int) = limbs 10 := by rw [limbs_pos (by omega), show (10 : Nat) / 4294967296 = 0 by omega, limbs_zero]; rfl
     rw [if_neg h0, if_neg h1, if_pos (by omega), e1, e2, power_loop m 1 10 k (by omega) (by omega) (by omega) (by rw [Nat.one_mul]; exact top_ge (by omega)) (by omega), Option.bind_some, Nat.one_mul, Int.toNat_natCast]
def cmpV (a b : List Int) : Int × Int := if tw a b = 0 then (cmpI (val a) (val b), 0) else (0, tw a b)
def subV (a b : List Int) : List Int × Int := if tw a b = 0 then (if val a < val b then ([], 4) else (limbs (val a - val b), 0)) else ([], tw a b)
theorem cmp_neg {m n : Nat} : cmpI m n < 0 ↔ m < n := by unfold cmpI; split <;> (try split) <;> omega
theorem cmp_f (a b : List Int) (ha : okL a) (hb : okL b) (hla : a.length ≤ 4611686018427387904) (hlb : b.length ≤ 4611686018427387904) : Ev (fun k => nat_Compare.f k a b) (cmpV a b) := by
 unfold nat_Compare.f cmpV
 rw [check_f a hla, check_f b hlb]
 simp only [Option.bind_some]
 refine Ev.bind (a := tw a b) ⟨3, fun k hk => errs_f (chk a) (chk b) k hk⟩ ?_
 by_cases h : tw a b = 0
 · simp only [if_pos h]
   obtain ⟨⟨h1, h2⟩, h3, h4⟩ := (tw_ok ha hb).1 h
   unfold nat_num_compare.f
   simp only [if_pos (show (canon a ∧ canon b) ∧ a.length ≤ 1073741824 ∧ b.length ≤ 1073741824 from ⟨⟨h2, h4⟩, by omega, by omega⟩), Option.bind_some]
   exact Ev.now _
 · simp only [if_neg h]
   exact Ev.now _
theorem canon_le_len {a b : List Int} (ha : canon a) (hb : canon b) (h : val b ≤ val a) : b.length ≤ a.length := canon_len hb (Nat.lt_of_le_of_lt h (val_lt (canon_okL ha)))
theorem sub_f (a b : List Int) (ha : okL a) (hb : okL b) (hla : a.length ≤ 4611686018427387904) (hlb : b.length ≤ 4611686018427387904) : Ev (fun k => nat_Sub.f k a b) (subV a b) := by
 unfold nat_Sub.f subV
 refine Ev.bind (a := tw a b) ⟨3, fun k hk => two_f a b hla hlb k hk⟩ ?_
 by_cases h : tw a b = 0
 · simp only [if_pos h]
   obtain ⟨⟨h1, h2⟩, h3, h4⟩ := (tw_ok ha hb).1 h
   unfold nat_num_compare.f
   simp only [if_pos (show (canon a ∧ canon b) ∧ a.length ≤ 1073741824 ∧ b.length ≤ 1073741824 from ⟨⟨h2, h4⟩, by omega, by omega⟩), Option.bind_some]
   by_cases hlt : val a < val b
   · simp only [if_pos hlt, if_pos (cmp_neg.2 hlt)]
     exact Ev.now _
   · simp only [if_neg hlt, if_neg (fun hh => hlt (cmp_neg.1 hh))]
     unfold nat_num_sub.f
     simp only [if_pos (show (okL a ∧ okL b) ∧ a.length ≤ 1073741824 ∧ b.length ≤ a.length ∧ val b ≤ val a from ⟨⟨ha, hb⟩, by omega, canon_le_len h2 h4 (by omega), by omega⟩), Option.bind_some]
     exact Ev.now _
 · simp only [if_neg h]
   exact Ev.now _
end Go.Proofs.YthigbklhngihkaaGreatDoor.P
namespace Go.Proofs.YthigbklhngihkaaGreatDoor.P
open Go.RowKit Go.Proofs.YthigbklhngihkaaGreatDoorW.PrintWords Go.Proofs.YthigbklhngihkaaGreatDoorW.PrintMore Go.Proofs.YthigbklhngihkaaGreatDoorW.PrintLast
set_option maxHeartbeats 1000000 in
theorem minus_any (d : D) (A : Option Addr) (c : Nat) (w : World) :
 Calls Tryz.prog 145 #[.agg #[.bool d.f0, .slice A d.f1.length c, .int .i64 d.f2]] w fun e w' => e = .returned (.agg #[.bool (!d.f0 && decide (d.f1.length ≠ 0)), .slice A d.f1.length c, .int .i64 d.f2]) ∧ Below w.heap.size w w' := by
 obtain ⟨f0, l, x⟩ := d
 cases f0 with
 | true =>
  go_enter Tryz.func145, Tryz.ntmps145
  go_wp2
  refine bodyPost_ret (v := .agg #[.bool false, .slice A l.length c, .int .i64 x]) ?_ rfl ⟨rfl, ?_⟩
  · simp [results, Tryz.f145, go_sem]
  · exact by repeat (first | exact Below.refl _ _ | refine Below.alloc ?_ (by simp; omega) _ | refine Below.alloc ?_ (by simp) _)
 | false =>
  cases hz : ((l.length : Int) == 0) with
  | true =>
   have h0 : l.length = 0 := by have := eq_of_beq hz; omega
   have hd : decide (l.length ≠ 0) = false := by simp [h0]
   show Calls _ _ _ _ fun e w' => e = .returned (.agg #[.bool (!false && decide (l.length ≠ 0)), .slice A l.length c, .int .i64 x]) ∧ _
   rw [hd]
   clear h0 hd
   go_enter Tryz.func145, Tryz.ntmps145
   go_wp2
   refine bodyPost_ret (v := .agg #[.bool false, .slice A l.length c, .int .i64 x]) ?_ rfl ⟨rfl, ?_⟩
   · simp [results, Tryz.f145, go_sem]
   · exact by repeat (first | exact Below.refl _ _ | refine Below.alloc ?_ (by simp; omega) _ | refine Below.alloc ?_ (by simp) _)
  | false =>
   have h0 : l.length ≠ 0 := by intro h; rw [h] at hz; simp at hz
   have hd : decide (l.length ≠ 0) = true := by simp [h0]
   show Calls _ _ _ _ fun e w' => e = .returned (.agg #[.bool (!false && decide (l.length ≠ 0)), .slice A l.length c, .int .i64 x]) ∧ _
   rw [hd]
   clear h0 hd
   go_enter Tryz.func145, Tryz.ntmps145
   go_wp2
   refine bodyPost_ret (v := .agg #[.bool true, .slice A l.length c, .int .i64 x]) ?_ rfl ⟨rfl, ?_⟩
   · simp [results, Tryz.f145, go_sem]
   · exact by repeat (first | exact Below.refl _ _ | refine Below.alloc ?_ (by simp; omega) _ | refine Below.alloc ?_ (by simp) _)
set_option maxHeartbeats 1000000 in
theorem down_same (d : D) (A : Option Addr) (c : Nat) (x : Int) (w : World) (h : d.f1.length = 0 ∨ d.f2 = x) :
 Calls Tryz.prog 175 #[.agg #[.bool d.f0, .slice A d.f1.length c, .int .i64 d.f2], .int .i64 x] w fun e w' => e = .returned (.agg #[.bool d.f0, .slice A d.f1.length c, .int .i64 x]) ∧ Below w.heap.size w w' := by
 cases hz : ((d.f1.length : Int) == 0) with
 | true =>
  go_enter Tryz.func175, Tryz.ntmps175
  go_wp2
  refine bodyPost_ret (v := .agg #[.bool d.f0, .slice A d.f1.length c, .int .i64 x]) ?_ rfl ⟨rfl, ?_⟩
  · simp [results, Tryz.f175, go_sem]
  · exact by repeat (first | exact Below.refl _ _ | refine Below.alloc ?_ (by simp; omega) _ | refine Below.alloc ?_ (by simp) _)
 | false =>
  have h0 : d.f1.length ≠ 0 := by intro h; rw [h] at hz; simp at hz
  have hx : d.f2 = x := by omega
  have hb : (d.f2 == x) = true := by simp [hx]
  clear h h0
  go_enter Tryz.func175, Tryz.ntmps175
  go_wp2
  refine bodyPost_ret (v := .agg #[.bool d.f0, .slice A d.f1.length c, .int .i64 x]) ?_ rfl ⟨rfl, ?_⟩
  · simp [results, Tryz.f175, go_sem]
  · exact by repeat (first | exact Below.refl _ _ | refine Below.alloc ?_ (by simp; omega) _ | refine Below.alloc ?_ (by simp) _)
theorem must_any (v : Value) (x : Int) (w : World) : Calls Tryz.prog 176 #[v, .int .i64 x] w fun e w' => e = .returned v ∧ w = w' := by
 go_enter Tryz.func176, Tryz.ntmps176
 go_wp2
 go_ret
 exact ⟨rfl, rfl⟩
theorem down_end {w w5 w6 X : World} {P2 : Option Addr} {m : List Int} {p2 : Nat} {x : Int} {b0 : Bool} (hX : X = (w6.setCell ⟨w.heap.size, 1, none⟩ (.slice P2 m.length p2)).setCell ⟨w.heap.size, 2, none⟩ (.int .i64 x) ∨ X = (w6.setCell ⟨w.heap.size, 2, none⟩ (.int .i64 x)).setCell ⟨w.heap.size, 1, none⟩ (.slice P2 m.length p2))
 (hs : w.heap.size + 2 ≤ w5.heap.size) (hB : Below w.heap.size w w6) (hR : (Kd.int .u32).R 131 w6 w5.heap.size (fun _ => True) (.slice P2 m.length p2) m)
 (hy : w6.heap[w.heap.size + 1]? = some (.cells #[.bool false, .slice none 0 0, .int .i64 0] 137 (0, 0))) :
 ∃ W7, W7 = ((X.setCell ⟨w.heap.size + 1, 0, none⟩ (.bool b0)).setCell ⟨w.heap.size + 1, 1, none⟩ (.slice P2 m.length p2)).setCell ⟨w.heap.size + 1, 2, none⟩ (.int .i64 x) ∧ Below w.heap.size w W7 ∧ Kd.C (Kd.int .u32) W7 P2 m.length m ∧ W7.heap[w.heap.size + 1]? = some (.cells #[.bool b0, .slice P2 m.length p2, .int .i64 x] 137 (0, 0)) := by
 have far : ∀ j, j ≠ w.heap.size → X.heap[j]? = w6.heap[j]? := fun j hj => by
  rcases hX with rfl | rfl <;> rw [Below.heap_setCell _ _ _ _ (by simpa using hj), Below.heap_setCell _ _ _ _ (by simpa using hj)]
 have hbX : Below w.heap.size w X := by
  rcases hX with rfl | rfl <;> exact (hB.setCell (p := ⟨w.heap.size, _, none⟩) (Nat.le_refl _) _).setCell (p := ⟨w.heap.size, _, none⟩) (Nat.le_refl _) _
 refine ⟨_, rfl, ((hbX.setCell (p := ⟨w.heap.size + 1, 0, none⟩) (Nat.le_succ _) _).setCell (p := ⟨w.heap.size + 1, 1, none⟩) (Nat.le_succ _) _).setCell (p := ⟨w.heap.size + 1, 2, none⟩) (Nat.le_succ _) _, ?_, box3_out ((far _ (by omega)).trans hy) _ _ _⟩
 exact (Kd.R_reads' (Kd.R_move (Kd.R_bound hR) (fun j hj => by
  have := hj.2.1
  rw [Below.heap_setCell _ _ _ _ (by simp; omega), Below.heap_setCell _ _ _ _ (by simp; omega), Below.heap_setCell _ _ _ _ (by simp; omega)]
  exact far j (by omega)))).2.2
set_option maxHeartbeats 4000000 in
theorem down_more (d : D) (A : Option Addr) (c : Nat) (n : Nat) (m : List Int) (x : Int) (w : World) (hc : d.f1.length ≤ c) (hC : Kd.C (Kd.int .u32) w A d.f1.length d.f1) (hl : okL d.f1) (h40 : d.f1.length ≤ 256) (h0 : d.f1.length ≠ 0) (hx : d.f2 - x = n) (hn0 : n ≠ 0) (hn : n ≤ 2400) (hb : -9000000 ≤ x ∧ d.f2 ≤ 9000000) (hm : mulV d.f1 (limbs (10 ^ n)) = (m, 0)) (hlen : (limbs (10 ^ n)).length ≤ 4611686018427387904) :
 Calls Tryz.prog 175 #[.agg #[.bool d.f0, .slice A d.f1.length c, .int .i64 d.f2], .int .i64 x] w fun e w' => ∃ B dd, e = .returned (.agg #[.bool d.f0, .slice B m.length dd, .int .i64 x]) ∧ m.length ≤ dd ∧ Kd.C (Kd.int .u32) w' B m.length m ∧ Below w.heap.size w w' := by
 have hz : ((d.f1.length : Int) == 0) = false := beq_eq_false_iff_ne.mpr (by omega)
 have he : (d.f2 == x) = false := beq_eq_false_iff_ne.mpr (by omega)
 have hw : IntKind.i64.wrap (d.f2 - x) = (n : Int) := by rw [wrap_in _ (by omega)]; exact hx
 have hw2 : wrap64 (d.f2 - x) = (n : Int) := by unfold wrap64; omega
 have HP : Hid (nat_Pow.f 80000 (n : Int) = some (limbs (10 ^ n), 0)) := Lib.hid (by
  rw [pow_f _ _ (Nat.le_refl _)]
  unfold powV
  rw [if_pos (by omega), Int.toNat_natCast])
 have HM : Hid (nat_Mul.f 70000 d.f1 (limbs (10 ^ n)) = some (m, 0)) := Lib.hid (by rw [mul_f _ _ hl (okL_limbs _) (by omega) hlen 70000 (Nat.le_refl _), hm])
 have HC := Lib.hid hC
 clear hC hm hx h0 hn0 hl hlen
 generalize limbs (10 ^ n) = pw at *
 have HCC := Lib.hid hc
 have hzero : ∀ W : World, Calls Tryz.prog 146 #[.agg #[.bool d.f0, .slice A d.f1.length c, .int .i64 d.f2]] W fun e w' => e = .returned (.bool false) ∧ Below W.heap.size W w' := by
  intro W
  go_enter Tryz.func146, Tryz.ntmps146
  go_wp2
  go_ret
  exact ⟨rfl, (Below.refl _ _).alloc (Nat.le_refl _) _⟩
 have HZ := Lib.hid hzero
 obtain ⟨W2, hW2⟩ : ∃ W2, W2 = (w.alloc (.cells #[.bool d.f0, .slice A d.f1.length c, .int .i64 d.f2] 137)).alloc (.cells #[.bool false, .slice none 0 0, .int .i64 0] 137) := ⟨_, rfl⟩
 have hA : Below w.heap.size w W2 := by rw [hW2]; exact ((Below.refl _ _).alloc (Nat.le_refl _) _).alloc (by simp) _
 have hs2 : W2.heap.size = w.heap.size + 2 := by rw [hW2]; simp
 have hbx : W2.heap[w.heap.size]? = some (.cells #[.bool d.f0, .slice A d.f1.length c, .int .i64 d.f2] 137 (0, 0)) := by rw [hW2]; exact blk_alloc (blk_new _ _) _
 have hby : W2.heap[w.heap.size + 1]? = some (.cells #[.bool false, .slice none 0 0, .int .i64 0] 137 (0, 0)) := by
  rw [hW2]
  have := blk_new (w.alloc (.cells #[.bool d.f0, .slice A d.f1.length c, .int .i64 d.f2] 137)) (.cells #[.bool false, .slice none 0 0, .int .i64 0] 137)
  rw [World.size_alloc] at this
  exact this
 rw [hW2] at hA hs2 hbx hby
 have HA := Lib.hid hA
 have HS2 := Lib.hid hs2
 have HX := Lib.hid hbx
 have HY := Lib.hid hby
 clear hA hs2 hbx hby hz hzero
 go_enter Tryz.func175, Tryz.ntmps175
 go_upto_region 4 with (first | (go_at_call 146; refine (HZ.out _).mono ?_; rintro e w3 ⟨rfl, hB3⟩; obtain ⟨hx3, hxf⟩ := bcells HX.out hB3))
 have hA3 := HA.out.trans (hB3.mono (by rw [HS2.out]; omega))
 have hX4 := blk_drew (blk_below3 HX.out hB3)
 have hY4 := blk_drew (blk_below3 HY.out hB3)
 have HA4 := Lib.hid (below_drew hA3)
 have HX4 := Lib.hid hX4
 have HY4 := Lib.hid hY4
 have hs4 := hB3.size
 rw [HS2.out] at hs4
 obtain ⟨hx4, hxf4⟩ := bcells hX4 (Below.refl _ _)
 clear hx3 hxf hA3 hX4 hY4 hB3
 go_region_law (first
  | (go_simp; go_at_call 223; refine (nat_Pow.calls 80000 (n : Int) _ _ _ HP.out).mono ?_; rintro e w5 ⟨v1, rfl, hR1, hB5⟩; obtain ⟨P1, p1, rfl⟩ := Kd.R_slice hR1; obtain ⟨hx5, hxf5⟩ := bcells HX4.out hB5)
  | (go_simp; go_at_call 176; refine (must_any _ _ _).mono ?_; rintro e w9 ⟨rfl, rfl⟩)
  | (go_simp; go_at_call 222; refine (nat_Mul.calls 70000 A c d.f1 P1 p1 pw m 0 w5 (Kd.C_below HC.out (HA4.out.trans (hB5.mono (by rw [World.size_drew]; omega)))) HCC.out (Kd.R_reads' hR1).2.2 (Kd.R_reads' hR1).2.1 HM.out).mono ?_; rintro e w6 ⟨v2, rfl, hR2, hB6⟩; obtain ⟨P2, p2, rfl⟩ := Kd.R_slice hR2; obtain ⟨hx6, hxf6⟩ := bcells (blk_below3 HX4.out hB5) hB6))
 all_goals
  have hs5 := hB5.size
  have hs6 := hB6.size
  rw [World.size_drew] at hs5
  have hfin := down_end (b0 := d.f0) (x := x) (by first | exact .inl rfl | exact .inr rfl) (Nat.le_trans hs4 hs5) (HA4.out.trans ((hB5.mono (by rw [World.size_drew]; omega)).trans (hB6.mono (by omega)))) hR2 (blk_below3 (blk_below3 HY4.out hB5) hB6)
  obtain ⟨hy6, hyf6⟩ := bcells (blk_below3 (blk_below3 HY4.out hB5) hB6) (Below.refl _ _)
  have HF := Lib.hid hfin
  have hpp := (Kd.R_reads' hR2).2.1
  clear hR2 hB5 hB6 hR1 hx5 hxf5 hx4 hxf4 hfin
  rename_i q_ k_ a_
  refine a_ _ _ ?_
  go_wp2_with fail
  obtain ⟨W7, hW7, hBW, hCW, hrow⟩ := HF.out
  rw [← hW7]
  obtain ⟨z0, z1, z2⟩ := cells3 hrow
  refine bodyPost_ret (v := .agg #[.bool d.f0, .slice P2 m.length p2, .int .i64 x]) ?_ rfl ⟨P2, p2, rfl, hpp, hCW, hBW⟩
  simp [results, Tryz.f175, go_sem, z0, z1, z2]
theorem fitsV_yes' {n : Nat} (h : (limbs n).length ≤ 256) : fitsV n = (limbs n, 0) := by unfold fitsV; rw [if_neg (by omega)]
theorem canon_tw' {a b : List Int} (ha : canon a) (hb : canon b) (h1 : a.length ≤ 256) (h2 : b.length ≤ 256) : tw a b = 0 := (tw_ok (canon_okL ha) (canon_okL hb)).2 ⟨⟨h1, ha⟩, h2, hb⟩
theorem mulV_fits {a b : List Int} (ha : canon a) (hb : canon b) (h1 : a.length ≤ 256) (h2 : b.length ≤ 256) (h : val a * val b ≤ top) : mulV a b = (limbs (val a * val b), 0) := by
 unfold mulV
 rw [if_pos (canon_tw' ha hb h1 h2), fitsV_yes' (limbs_len (Nat.lt_of_le_of_lt h ten_bound))]
theorem addV_fits {a b : List Int} (ha : canon a) (hb : canon b) (h1 : a.length ≤ 256) (h2 : b.length ≤ 256) (h : val a + val b ≤ top) : addV a b = (limbs (val a + val b), 0) := by
 unfold addV
 rw [if_pos (canon_tw' ha hb h1 h2), fitsV_yes' (limbs_len (Nat.lt_of_le_of_lt h ten_bound))]
theorem top_len {n : Nat} (h : n ≤ top) : (limbs n).length ≤ 256 := limbs_len (Nat.lt_of_le_of_lt h ten_bound)
theorem canon_nil_iff {l : List Int} (h : canon l) : l.length = 0 ↔ val l = 0 := by
 constructor
 · intro e
   have : l = [] := List.eq_nil_of_length_eq_zero e
   subst this
   rfl
 · intro e
   unfold canon at h
   rw [e, limbs_zero] at h
   rw [← h]
   rfl
def downN (d : D) (x : Int) : Nat := val d.f1 * 10 ^ (d.f2 - x).toNat
set_option maxHeartbeats 1000000 in
theorem down_any (d : D) (A : Option Addr) (c : Nat) (x : Int) (w : World) (hc : d.f1.length ≤ c) (hC : Kd.C (Kd.int .u32) w A d.f1.length d.f1) (hcan : canon d.f1) (hlen : d.f1.length ≤ 256) (hx : x ≤ d.f2) (hn : d.f1.length ≠ 0 → d.f2 - x ≤ 2400) (hb : -9000000 ≤ x ∧ d.f2 ≤ 9000000) (ht : downN d x ≤ top) :
 Calls Tryz.prog 175 #[.agg #[.bool d.f0, .slice A d.f1.length c, .int .i64 d.f2], .int .i64 x] w fun e w' => ∃ B dd, e = .returned (.agg #[.bool d.f0, .slice B (limbs (downN d x)).length dd, .int .i64 x]) ∧ (limbs (downN d x)).length ≤ dd ∧ Kd.C (Kd.int .u32) w' B (limbs (downN d x)).length (limbs (downN d x)) ∧ Below w.heap.size w w' := by
 by_cases h : d.f1.length = 0 ∨ d.f2 = x
 · have e : limbs (downN d x) = d.f1 := by
    unfold downN
    rcases h with h | h
    · rw [(canon_nil_iff hcan).1 h, Nat.zero_mul, limbs_zero, List.eq_nil_of_length_eq_zero h]
    · rw [show (d.f2 - x).toNat = 0 by omega, Nat.pow_zero, Nat.mul_one]
      exact hcan
   rw [e]
   refine (down_same d A c x w h).mono ?_
   rintro e w' ⟨rfl, hB⟩
   exact ⟨A, c, rfl, hc, Kd.C_below hC hB, hB⟩
 · obtain ⟨n, hn'⟩ : ∃ n : Nat, d.f2 - x = n := ⟨(d.f2 - x).toNat, by omega⟩
   have h0 : d.f1.length ≠ 0 := fun e => h (.inl e)
   have h1 : n ≠ 0 := fun e => h (.inr (by omega))
   have hn2 : n ≤ 2400 := by have := hn h0; omega
   have e : downN d x = val d.f1 * val (limbs (10 ^ n)) := by unfold downN; rw [hn', val_limbs, Int.toNat_natCast]
   have hpl : (limbs (10 ^ n)).length ≤ 256 := top_len (top_ge hn2)
   rw [e] at ht ⊢
   exact down_more d A c n _ x w hc hC (canon_okL hcan) hlen h0 hn' h1 hn2 hb (mulV_fits hcan (canon_limbs _) hlen hpl ht) (by omega)
def plusD (a b : D) : D :=
 let low := min a.f2 b.f2
 if a.f0 = b.f0 then ⟨a.f0, limbs (downN a low + downN b low), low⟩ else if downN a low < downN b low then ⟨b.f0, limbs (downN b low - downN a low), low⟩ else ⟨a.f0, limbs (downN a low - downN b low), low⟩
structure PlusAt (w W : World) (a0 b0 : Bool) (E1 : Option Addr) (e1 : Nat) (E2 : Option Addr) (e2 : Nat) (l1 l2 : List Int) (low : Int) : Prop where
 x : W.heap[w.heap.size]? = some (.cells #[.bool a0, .slice E1 l1.length e1, .int .i64 low] 137 (0, 0))
 y : W.heap[w.heap.size + 1]? = some (.cells #[.bool b0, .slice E2 l2.length e2, .int .i64 low] 137 (0, 0))
 o : W.heap[w.heap.size + 2]? = some (.cells #[.bool false, .slice none 0 0, .int .i64 0] 137 (0, 0))
 below : Below w.heap.size w W
 c1 : Kd.C (Kd.int .u32) W E1 l1.length l1
 c2 : Kd.C (Kd.int .u32) W E2 l2.length l2
 k1 : l1.length ≤ e1
 k2 : l2.length ≤ e2
def set3 (W : World) (g : Nat) (v0 v1 v2 : Value) : World := ((W.setCell ⟨g, 0, none⟩ v0).setCell ⟨g, 1, none⟩ v1).setCell ⟨g, 2, none⟩ v2
theorem set3_far (W : World) (g : Nat) (v0 v1 v2 : Value) (j : Nat) (h : j ≠ g) : (set3 W g v0 v1 v2).heap[j]? = W.heap[j]? := by
 unfold set3
 rw [Below.heap_setCell _ _ _ _ (by simpa using h), Below.heap_setCell _ _ _ _ (by simpa using h), Below.heap_setCell _ _ _ _ (by simpa using h)]
theorem set3_below {w W : World} {B g : Nat} (h : Below B w W) (hg : B ≤ g) (v0 v1 v2 : Value) : Below B w (set3 W g v0 v1 v2) :=
 ((h.setCell (p := ⟨g, 0, none⟩) hg _).setCell (p := ⟨g, 1, none⟩) hg _).setCell (p := ⟨g, 2, none⟩) hg _
theorem C_far {W W' : World} {g : Nat} {t : Nat} {cs : Array Value} {A : Option Addr} {l : List Int} (hC : Kd.C (Kd.int .u32) W A l.length l) (hg : W.heap[g]? = some (.cells cs t (0, 0))) (hno : ∀ (i : Nat) (n : Int), cs[i]? ≠ some (.int .u32 n)) (far : ∀ j, j ≠ g → W'.heap[j]? = W.heap[j]?) : Kd.C (Kd.int .u32) W' A l.length l := by
 refine ⟨hC.1, hC.2.1, fun hp => ?_⟩
 obtain ⟨ad, e, hc⟩ := hC.2.2 hp
 refine ⟨ad, e, fun j p hj => ?_⟩
 obtain ⟨cs', h1, h2, h3⟩ := hc j p hj
 refine ⟨cs', h1, h2, fun i u hu => ?_⟩
 have h4 := h3 i u hu
 have hne : (ad.add (j * (Kd.int .u32).sz + i)).block ≠ g := by
  intro hb
  obtain rfl := h2
  have hi : i = 0 := by
   rcases Nat.eq_zero_or_pos i with h | h
   · exact h
   · rw [List.getElem?_eq_none (by simp; omega)] at hu; cases hu
  subst hi
  simp only [List.getElem?_cons_zero, Option.some.injEq] at hu
  subst hu
  simp only [World.cell?, hb, hg] at h4
  split at h4
  · cases h4
  · exact hno _ _ h4
 rw [← h4]
 exact World.cell?_of_block (far _ hne)
theorem set3_row {X : World} {g t : Nat} {o0 o1 o2 : Value} (h : X.heap[g]? = some (.cells #[o0, o1, o2] t (0, 0))) (v0 v1 v2 : Value) : (set3 X g v0 v1 v2).heap[g]? = some (.cells #[v0, v1, v2] t (0, 0)) := box3_out h v0 v1 v2
theorem noU (b : Bool) (A : Option Addr) (m c : Nat) (x : Int) (i : Nat) (n : Int) : (#[Value.bool b, .slice A m c, .int .i64 x] : Array Value)[i]? ≠ some (.int .u32 n) := by
 intro h
 rcases i with _ | _ | _ | i
 · simp at h
 · simp at h
 · simp at h
 · simp at h
theorem plus_mid {w W : World} {a0 b0 a1 b1 : Bool} {E1 E2 F1 F2 : Option Addr} {e1 e2 f1 f2 m1 m2 : Nat} {l1 l2 : List Int} {low x1 x2 : Int}
 (hx : W.heap[w.heap.size]? = some (.cells #[.bool a1, .slice F1 m1 f1, .int .i64 x1] 137 (0, 0)))
 (hy : W.heap[w.heap.size + 1]? = some (.cells #[.bool b1, .slice F2 m2 f2, .int .i64 x2] 137 (0, 0)))
 (ho : W.heap[w.heap.size + 2]? = some (.cells #[.bool false, .slice none 0 0, .int .i64 0] 137 (0, 0)))
 (hB : Below w.heap.size w W) (h1 : Kd.C (Kd.int .u32) W E1 l1.length l1) (h2 : Kd.C (Kd.int .u32) W E2 l2.length l2) (k1 : l1.length ≤ e1) (k2 : l2.length ≤ e2) :
 PlusAt w (set3 (set3 W w.heap.size (.bool a0) (.slice E1 l1.length e1) (.int .i64 low)) (w.heap.size + 1) (.bool b0) (.slice E2 l2.length e2) (.int .i64 low)) a0 b0 E1 e1 E2 e2 l1 l2 low := by
 have hy1 := (set3_far W w.heap.size (.bool a0) (.slice E1 l1.length e1) (.int .i64 low) (w.heap.size + 1) (by omega)).trans hy
 have mv : ∀ {A : Option Addr} {l : List Int}, Kd.C (Kd.int .u32) W A l.length l → Kd.C (Kd.int .u32) (set3 (set3 W w.heap.size (.bool a0) (.slice E1 l1.length e1) (.int .i64 low)) (w.heap.size + 1) (.bool b0) (.slice E2 l2.length e2) (.int .i64 low)) A l.length l := fun h =>
  C_far (C_far h hx (noU _ _ _ _ _) (fun j hj => set3_far _ _ _ _ _ j hj)) hy1 (noU _ _ _ _ _) (fun j hj => set3_far _ _ _ _ _ j hj)
 refine ⟨?_, set3_row hy1 _ _ _, ?_, set3_below (set3_below hB (Nat.le_refl _) _ _ _) (Nat.le_succ _) _ _ _, mv h1, mv h2, k1, k2⟩
 · rw [set3_far _ _ _ _ _ _ (by omega)]; exact set3_row hx _ _ _
 · rw [set3_far _ _ _ _ _ _ (by omega), set3_far _ _ _ _ _ _ (by omega)]; exact ho
theorem PlusAt.later {w W W' : World} {a0 b0 : Bool} {E1 E2 : Option Addr} {e1 e2 : Nat} {l1 l2 : List Int} {low : Int} (h : PlusAt w W a0 b0 E1 e1 E2 e2 l1 l2 low) (hB : Below W.heap.size W W') : PlusAt w W' a0 b0 E1 e1 E2 e2 l1 l2 low :=
 ⟨blk_below3 h.x hB, blk_below3 h.y hB, blk_below3 h.o hB, h.below.trans (hB.mono h.below.size), Kd.C_below h.c1 hB, Kd.C_below h.c2 hB, h.k1, h.k2⟩
theorem plus_end {w W w8 : World} {a0 b0 : Bool} {E1 E2 P : Option Addr} {e1 e2 p : Nat} {l1 l2 m : List Int} {low : Int} (h : PlusAt w W a0 b0 E1 e1 E2 e2 l1 l2 low) (hB : Below W.heap.size W w8)
 (hR : (Kd.int .u32).R 131 w8 W.heap.size (fun _ => True) (.slice P m.length p) m) :
 Below w.heap.size w (set3 (w8.setCell ⟨w.heap.size, 1, none⟩ (.slice P m.length p)) (w.heap.size + 1 + 1) (.bool a0) (.slice P m.length p) (.int .i64 low)) ∧ Kd.C (Kd.int .u32) (set3 (w8.setCell ⟨w.heap.size, 1, none⟩ (.slice P m.length p)) (w.heap.size + 1 + 1) (.bool a0) (.slice P m.length p) (.int .i64 low)) P m.length m ∧ (set3 (w8.setCell ⟨w.heap.size, 1, none⟩ (.slice P m.length p)) (w.heap.size + 1 + 1) (.bool a0) (.slice P m.length p) (.int .i64 low)).heap[w.heap.size + 1 + 1]? = some (.cells #[.bool a0, .slice P m.length p, .int .i64 low] 137 (0, 0)) ∧ m.length ≤ p := by
 have hs := blk_lt h.o
 have hoo := blk_below3 h.o hB
 refine ⟨set3_below ((h.below.trans (hB.mono (by omega))).setCell (p := ⟨w.heap.size, 1, none⟩) (Nat.le_refl _) _) (by omega) _ _ _, ?_, set3_row (o0 := .bool false) (o1 := .slice none 0 0) (o2 := .int .i64 0) ?_ _ _ _, (Kd.R_reads' hR).2.1⟩
 · exact (Kd.R_reads' (Kd.R_move (Kd.R_bound hR) (fun j hj => by
    have := hj.2.1
    rw [set3_far _ _ _ _ _ _ (by omega), Below.heap_setCell _ _ _ _ (by simp; omega)]))).2.2
 · rw [Below.heap_setCell _ _ _ _ (by simp; omega)]
   exact hoo
set_option maxHeartbeats 1000000 in
theorem plus_any (a b : D) (A : Option Addr) (c : Nat) (B : Option Addr) (dd : Nat) (w : World) (hc : a.f1.length ≤ c) (hC : Kd.C (Kd.int .u32) w A a.f1.length a.f1) (hd : b.f1.length ≤ dd) (hD : Kd.C (Kd.int .u32) w B b.f1.length b.f1)
 (ha : canon a.f1) (hb : canon b.f1) (hla : a.f1.length ≤ 256) (hlb : b.f1.length ≤ 256) (low : Int) (hlow : low = min a.f2 b.f2) (hda : a.f1.length ≠ 0 → a.f2 - low ≤ 2400) (hdb : b.f1.length ≠ 0 → b.f2 - low ≤ 2400) (hr : -9000000 ≤ a.f2 ∧ a.f2 ≤ 9000000 ∧ -9000000 ≤ b.f2 ∧ b.f2 ≤ 9000000) (ht : downN a low + downN b low ≤ top) :
 Calls Tryz.prog 144 #[.agg #[.bool a.f0, .slice A a.f1.length c, .int .i64 a.f2], .agg #[.bool b.f0, .slice B b.f1.length dd, .int .i64 b.f2]] w fun e w' => ∃ E ee, e = .returned (.agg #[.bool (plusD a b).f0, .slice E (plusD a b).f1.length ee, .int .i64 (plusD a b).f2]) ∧ (plusD a b).f1.length ≤ ee ∧ Kd.C (Kd.int .u32) w' E (plusD a b).f1.length (plusD a b).f1 ∧ Below w.heap.size w w' := by
 obtain ⟨X, hX⟩ : ∃ X, X = downN a low := ⟨_, rfl⟩
 obtain ⟨Y, hY⟩ : ∃ Y, Y = downN b low := ⟨_, rfl⟩
 have HDA := Lib.hid (fun W (hW : Below w.heap.size w W) => down_any a A c low W hc (Kd.C_below hC hW) ha hla (by omega) hda ⟨by omega, by omega⟩ (by omega))
 have HDB := Lib.hid (fun W (hW : Below w.heap.size w W) => down_any b B dd low W hd (Kd.C_below hD hW) hb hlb (by omega) hdb ⟨by omega, by omega⟩ (by omega))
 have HP : Hid (plusD a b = if a.f0 = b.f0 then ⟨a.f0, limbs (X + Y), low⟩ else if X < Y then ⟨b.f0, limbs (Y - X), low⟩ else ⟨a.f0, limbs (X - Y), low⟩) := Lib.hid (by unfold plusD; simp only; rw [← hlow, ← hX, ← hY])
 rw [← hX] at HDA
 rw [← hY] at HDB
 rw [← hX, ← hY] at ht
 have hlx : (limbs X).length ≤ 256 := top_len (by omega)
 have hly : (limbs Y).length ≤ 256 := top_len (by omega)
 have HADD : Hid (nat_Add.f 3 (limbs X) (limbs Y) = some (limbs (X + Y), 0)) := Lib.hid (by
  rw [add_f _ _ (okL_limbs X) (okL_limbs Y) (by omega) (by omega) 3 (Nat.le_refl _), addV_fits (canon_limbs X) (canon_limbs Y) hlx hly (by rw [val_limbs, val_limbs]; exact ht), val_limbs, val_limbs])
 have HCMP : Hid (∃ k, nat_Compare.f k (limbs X) (limbs Y) = some (cmpI X Y, 0)) := Lib.hid (by
  obtain ⟨k, hk⟩ := cmp_f (limbs X) (limbs Y) (okL_limbs X) (okL_limbs Y) (by omega) (by omega)
  refine ⟨k, (hk k (Nat.le_refl _)).trans ?_⟩
  unfold cmpV
  rw [if_pos (canon_tw' (canon_limbs X) (canon_limbs Y) hlx hly), val_limbs, val_limbs])
 have HSB : ∀ U V : Nat, V ≤ U → (limbs U).length ≤ 256 → (limbs V).length ≤ 256 → ∃ k, nat_Sub.f k (limbs U) (limbs V) = some (limbs (U - V), 0) := fun U V h h1 h2 => by
  obtain ⟨k, hk⟩ := sub_f (limbs U) (limbs V) (okL_limbs U) (okL_limbs V) (by omega) (by omega)
  refine ⟨k, (hk k (Nat.le_refl _)).trans ?_⟩
  unfold subV
  rw [if_pos (canon_tw' (canon_limbs U) (canon_limbs V) h1 h2), val_limbs, val_limbs, if_neg (by omega)]
 have HS1 : Hid (X < Y → ∃ k, nat_Sub.f k (limbs Y) (limbs X) = some (limbs (Y - X), 0)) := Lib.hid (fun h => HSB Y X (by omega) hly hlx)
 have HS2 : Hid (¬ X < Y → ∃ k, nat_Sub.f k (limbs X) (limbs Y) = some (limbs (X - Y), 0)) := Lib.hid (fun h => HSB X Y (by omega) hlx hly)
 subst hlow
 clear hX hY hC hD ha hb hda hdb ht hlx hly HSB
 obtain ⟨R, hR⟩ : ∃ R, R = plusD a b := ⟨_, rfl⟩
 rw [← hR]
 rw [← hR] at HP
 clear hR
 generalize limbs X = lx at *
 generalize limbs Y = ly at *
 obtain ⟨W3, hW3⟩ : ∃ W3, W3 = ((w.alloc (.cells #[.bool a.f0, .slice A a.f1.length c, .int .i64 a.f2] 137)).alloc (.cells #[.bool b.f0, .slice B b.f1.length dd, .int .i64 b.f2] 137)).alloc (.cells #[.bool false, .slice none 0 0, .int .i64 0] 137) := ⟨_, rfl⟩
 have hz : W3.heap.size = w.heap.size + 3 := by rw [hW3]; simp
 have hA : Below w.heap.size w W3 := by rw [hW3]; exact (((Below.refl _ _).alloc (Nat.le_refl _) _).alloc (by simp) _).alloc (by simp; omega) _
 have hx : W3.heap[w.heap.size]? = some (.cells #[.bool a.f0, .slice A a.f1.length c, .int .i64 a.f2] 137 (0, 0)) := by rw [hW3]; exact blk_alloc (blk_alloc (blk_new _ _) _) _
 have hy : W3.heap[w.heap.size + 1]? = some (.cells #[.bool b.f0, .slice B b.f1.length dd, .int .i64 b.f2] 137 (0, 0)) := by
  rw [hW3]
  have := blk_new (w.alloc (.cells #[.bool a.f0, .slice A a.f1.length c, .int .i64 a.f2] 137)) (.cells #[.bool b.f0, .slice B b.f1.length dd, .int .i64 b.f2] 137)
  rw [World.size_alloc] at this
  exact blk_alloc this _
 have ho : W3.heap[w.heap.size + 2]? = some (.cells #[.bool false, .slice none 0 0, .int .i64 0] 137 (0, 0)) := by
  rw [hW3]
  have := blk_new ((w.alloc (.cells #[.bool a.f0, .slice A a.f1.length c, .int .i64 a.f2] 137)).alloc (.cells #[.bool b.f0, .slice B b.f1.length dd, .int .i64 b.f2] 137)) (.cells #[.bool false, .slice none 0 0, .int .i64 0] 137)
  rw [World.size_alloc, World.size_alloc] at this
  exact this
 have HZ := Lib.hid hz
 have HA := Lib.hid hA
 have HX := Lib.hid hx
 have HY := Lib.hid hy
 have HO := Lib.hid ho
 have HW3 := Lib.hid hW3
 clear hz hA hx hy ho hW3
 go_enter Tryz.func144, Tryz.ntmps144
 go_upto_region 2 with (fail)
 rw [← HW3.out]
 clear HW3
 have HAd := Lib.hid (below_drew HA.out)
 have HXd := Lib.hid (blk_drew HX.out)
 have HYd := Lib.hid (blk_drew HY.out)
 have HOd := Lib.hid (blk_drew HO.out)
 have hzd := HZ.out
 rw [← World.size_drew] at hzd
 obtain ⟨hx, hxf⟩ := bcells HXd.out (Below.refl _ _)
 obtain ⟨hy, hyf⟩ := bcells HYd.out (Below.refl _ _)
 clear HA HX HY HO HZ
 go_region_law (first
  | (go_simp; go_at_call 175; (with_reducible refine (HDA.out _ HAd.out).mono ?_); rintro e w5 ⟨E1, e1, rfl, hp1, hC1, hB1⟩; have hs1 := hB1.size; obtain ⟨hx5, hxf5⟩ := bcells HXd.out hB1; obtain ⟨hy5, hyf5⟩ := bcells HYd.out hB1)
  | (go_simp; go_at_call 175; (with_reducible refine (HDB.out w5 (HAd.out.trans (hB1.mono (by omega)))).mono ?_); rintro e w6 ⟨E2, e2, rfl, hp2, hC2, hB2⟩; obtain ⟨hx6, hxf6⟩ := bcells (blk_below3 HXd.out hB1) hB2; obtain ⟨hy6, hyf6⟩ := bcells (blk_below3 HYd.out hB1) hB2))
 all_goals
  have hm := plus_mid (a0 := a.f0) (b0 := b.f0) (low := min a.f2 b.f2) (blk_below3 (blk_below3 HXd.out hB1) hB2) (blk_below3 (blk_below3 HYd.out hB1) hB2) (blk_below3 (blk_below3 HOd.out hB1) hB2) (HAd.out.trans ((hB1.mono (by omega)).trans (hB2.mono (by omega)))) (Kd.C_below hC1 hB2) hC2 hp1 hp2
  simp only [set3] at hm
  rename_i q_ k_ a_
  refine a_ _ _ ?_
  clear a_ hx6 hxf6 hy6 hyf6 hx5 hxf5 hy5 hyf5 hx hxf hy hyf hB1 hB2 hC1 hC2 hp1 hp2 hs1 hzd HAd HXd HYd HOd HDA HDB
  generalize (((((w6.setCell ⟨w.heap.size, 0, none⟩ (.bool a.f0)).setCell ⟨w.heap.size, 1, none⟩ (.slice E1 lx.length e1)).setCell ⟨w.heap.size, 2, none⟩ (.int .i64 (min a.f2 b.f2))).setCell ⟨w.heap.size + 1, 0, none⟩ (.bool b.f0)).setCell ⟨w.heap.size + 1, 1, none⟩ (.slice E2 ly.length e2)).setCell ⟨w.heap.size + 1, 2, none⟩ (.int .i64 (min a.f2 b.f2)) = W7 at hm ⊢
  generalize min a.f2 b.f2 = low at *
  have HM := Lib.hid hm
  obtain ⟨hx, hxf⟩ := bcells hm.x (Below.refl _ _)
  obtain ⟨hy, hyf⟩ := bcells hm.y (Below.refl _ _)
  clear hm
  cases hab : (a.f0 == b.f0) with
  | true =>
   have hR := HP.out
   rw [if_pos (eq_of_beq hab)] at hR
   clear HP
   subst hR
   go_wp2_with (first
    | (go_at_call 177; (with_reducible refine (nat_Add.calls 3 E1 e1 lx E2 e2 ly (limbs (X + Y)) 0 W7 HM.out.c1 HM.out.k1 HM.out.c2 HM.out.k2 HADD.out).mono ?_); rintro e w8 ⟨v8, rfl, hR8, hB8⟩; obtain ⟨P, p, rfl⟩ := Kd.R_slice hR8; have hend := plus_end HM.out hB8 hR8; obtain ⟨hx8, hxf8⟩ := bcells (blk_below3 HM.out.x hB8) (Below.refl _ _); obtain ⟨ho8, hof8⟩ := bcells (blk_below3 HM.out.o hB8) (Below.refl _ _); have HE := Lib.hid hend; clear hend hR8 hB8)
    | (go_at_call 176; (with_reducible refine (must_any _ _ _).mono ?_); rintro e w9 ⟨rfl, rfl⟩))
   obtain ⟨hb9, hc9, hr9, hk9⟩ := HE.out
   simp only [set3] at hb9 hc9 hr9
   obtain ⟨W9, hW9⟩ : ∃ W9, W9 = (((w8.setCell ⟨w.heap.size, 1, none⟩ (.slice P (limbs (X + Y)).length p)).setCell ⟨w.heap.size + 1 + 1, 0, none⟩ (.bool a.f0)).setCell ⟨w.heap.size + 1 + 1, 1, none⟩ (.slice P (limbs (X + Y)).length p)).setCell ⟨w.heap.size + 1 + 1, 2, none⟩ (.int .i64 low) := ⟨_, rfl⟩
   rw [← hW9] at hb9 hc9 hr9 ⊢
   obtain ⟨z0, z1, z2⟩ := cells3 hr9
   refine bodyPost_ret (v := .agg #[.bool a.f0, .slice P (limbs (X + Y)).length p, .int .i64 low]) ?_ rfl ⟨P, p, rfl, hk9, hc9, hb9⟩
   simp [results, Tryz.f144, go_sem, z0, z1, z2]
  | false =>
   have hR := HP.out
   rw [if_neg (by intro h; rw [h] at hab; simp at hab)] at hR
   clear HP
   obtain ⟨kc, hkc⟩ := HCMP.out
   have HK := Lib.hid hkc
   by_cases hlt : X < Y
   · rw [if_pos hlt] at hR
     subst hR
     obtain ⟨ks, hks⟩ := HS1.out hlt
     have HKS := Lib.hid hks
     have hcm : cmpI X Y = -1 := by unfold cmpI; rw [if_pos (by omega)]
     rw [hcm] at HK
     clear hkc hks hcm HS1 HS2 HADD HCMP
     go_wp2_with (first
      | (go_at_call 178; (with_reducible refine (nat_Compare.calls kc E1 e1 lx E2 e2 ly (-1) 0 W7 HM.out.c1 HM.out.k1 HM.out.c2 HM.out.k2 HK.out).mono ?_); rintro e w8 ⟨rfl, hB8⟩; have HM8 := Lib.hid (HM.out.later hB8); obtain ⟨hx8, hxf8⟩ := bcells HM8.out.x (Below.refl _ _); obtain ⟨hy8, hyf8⟩ := bcells HM8.out.y (Below.refl _ _); have hsw := plus_mid (a0 := b.f0) (b0 := a.f0) (low := low) HM8.out.x HM8.out.y HM8.out.o HM8.out.below HM8.out.c2 HM8.out.c1 HM8.out.k2 HM8.out.k1; simp only [set3] at hsw; have HSW := Lib.hid hsw; obtain ⟨hxs, hxsf⟩ := bcells HSW.out.x (Below.refl _ _); obtain ⟨hys, hysf⟩ := bcells HSW.out.y (Below.refl _ _); clear hsw hB8 hx hxf hy hyf)
      | (go_at_call 179; (with_reducible refine (nat_Sub.calls ks E2 e2 ly E1 e1 lx (limbs (Y - X)) 0 _ HSW.out.c1 HSW.out.k1 HSW.out.c2 HSW.out.k2 HKS.out).mono ?_); rintro e w9 ⟨v9, rfl, hR9, hB9⟩; obtain ⟨P, p, rfl⟩ := Kd.R_slice hR9; have hend := plus_end HSW.out hB9 hR9; obtain ⟨hx9, hxf9⟩ := bcells (blk_below3 HSW.out.x hB9) (Below.refl _ _); obtain ⟨ho9, hof9⟩ := bcells (blk_below3 HSW.out.o hB9) (Below.refl _ _); have HE := Lib.hid hend; clear hend hR9 hB9)
      | (go_at_call 176; (with_reducible refine (must_any _ _ _).mono ?_); rintro e w9 ⟨rfl, rfl⟩))
     obtain ⟨hb9, hc9, hr9, hk9⟩ := HE.out
     simp only [set3] at hb9 hc9 hr9
     obtain ⟨W9, hW9⟩ : ∃ W9, W9 = (((w9.setCell ⟨w.heap.size, 1, none⟩ (.slice P (limbs (Y - X)).length p)).setCell ⟨w.heap.size + 1 + 1, 0, none⟩ (.bool b.f0)).setCell ⟨w.heap.size + 1 + 1, 1, none⟩ (.slice P (limbs (Y - X)).length p)).setCell ⟨w.heap.size + 1 + 1, 2, none⟩ (.int .i64 low) := ⟨_, rfl⟩
     rw [← hW9] at hb9 hc9 hr9 ⊢
     obtain ⟨z0, z1, z2⟩ := cells3 hr9
     refine bodyPost_ret (v := .agg #[.bool b.f0, .slice P (limbs (Y - X)).length p, .int .i64 low]) ?_ rfl ⟨P, p, rfl, hk9, hc9, hb9⟩
     simp [results, Tryz.f144, go_sem, z0, z1, z2]
   · rw [if_neg hlt] at hR
     subst hR
     obtain ⟨ks, hks⟩ := HS2.out hlt
     have HKS := Lib.hid hks
     obtain ⟨cv, hcv⟩ : ∃ cv, cv = cmpI X Y := ⟨_, rfl⟩
     have hcm : ¬ cv < 0 := by rw [hcv]; unfold cmpI; split <;> (try split) <;> omega
     rw [← hcv] at HK
     clear hkc hks hcv HS1 HS2 HADD HCMP
     go_wp2_with (first
      | (go_at_call 178; (with_reducible refine (nat_Compare.calls kc E1 e1 lx E2 e2 ly cv 0 W7 HM.out.c1 HM.out.k1 HM.out.c2 HM.out.k2 HK.out).mono ?_); rintro e w8 ⟨rfl, hB8⟩; have HM8 := Lib.hid (HM.out.later hB8); obtain ⟨hx8, hxf8⟩ := bcells HM8.out.x (Below.refl _ _); obtain ⟨hy8, hyf8⟩ := bcells HM8.out.y (Below.refl _ _); clear hB8 hx hxf hy hyf)
      | (go_at_call 179; (with_reducible refine (nat_Sub.calls ks E1 e1 lx E2 e2 ly (limbs (X - Y)) 0 _ HM8.out.c1 HM8.out.k1 HM8.out.c2 HM8.out.k2 HKS.out).mono ?_); rintro e w9 ⟨v9, rfl, hR9, hB9⟩; obtain ⟨P, p, rfl⟩ := Kd.R_slice hR9; have hend := plus_end HM8.out hB9 hR9; obtain ⟨hx9, hxf9⟩ := bcells (blk_below3 HM8.out.x hB9) (Below.refl _ _); obtain ⟨ho9, hof9⟩ := bcells (blk_below3 HM8.out.o hB9) (Below.refl _ _); have HE := Lib.hid hend; clear hend hR9 hB9)
      | (go_at_call 176; (with_reducible refine (must_any _ _ _).mono ?_); rintro e w9 ⟨rfl, rfl⟩))
     obtain ⟨hb9, hc9, hr9, hk9⟩ := HE.out
     simp only [set3] at hb9 hc9 hr9
     obtain ⟨W9, hW9⟩ : ∃ W9, W9 = (((w9.setCell ⟨w.heap.size, 1, none⟩ (.slice P (limbs (X - Y)).length p)).setCell ⟨w.heap.size + 1 + 1, 0, none⟩ (.bool a.f0)).setCell ⟨w.heap.size + 1 + 1, 1, none⟩ (.slice P (limbs (X - Y)).length p)).setCell ⟨w.heap.size + 1 + 1, 2, none⟩ (.int .i64 low) := ⟨_, rfl⟩
     rw [← hW9] at hb9 hc9 hr9 ⊢
     obtain ⟨z0, z1, z2⟩ := cells3 hr9
     refine bodyPost_ret (v := .agg #[.bool a.f0, .slice P (limbs (X - Y)).length p, .int .i64 low]) ?_ rfl ⟨P, p, rfl, hk9, hc9, hb9⟩
     simp [results, Tryz.f144, go_sem, z0, z1, z2]
end Go.Proofs.YthigbklhngihkaaGreatDoor.P

/- Texts of this claim, one behind the other. -/
import Derived.Test.YtmfpakolfpoamaaGreatDoorMOrderGroupsza
import Derived.Test.YtmfpakolfpoamaaGreatDoorMOrderGroupsl
namespace Go.Proofs.YtmfpakolfpoamaaGreatDoor.P
set_option linter.unusedVariables false
set_option linter.unusedSimpArgs false
open Go.RowKit Go.Proofs.YtmfpakolfpoamaaGreatDoorW.PrintWords Go.Proofs.YtmfpakolfpoamaaGreatDoorW.PrintMore Go.Proofs.YtmfpakolfpoamaaGreatDoorW.PrintLast
theorem okV_num (n : Int) (h0 : 0 ≤ n) (h1 : n ≤ 9) : OkV (numV n) :=
 OkV.mk _ (by show (Lit.int .i64 3).wf = true; rfl) (fun m hm => by
  have : m = n := by simpa [numV] using hm
  subst this
  rcases (show m = 0 ∨ m = 1 ∨ m = 2 ∨ m = 3 ∨ m = 4 ∨ m = 5 ∨ m = 6 ∨ m = 7 ∨ m = 8 ∨ m = 9 by omega) with rfl | rfl | rfl | rfl | rfl | rfl | rfl | rfl | rfl | rfl <;> rfl) (by show (Lit.int .i64 0).wf = true; rfl) (by show (0 : Nat) ≤ 1073741824; decide) (fun n hn => absurd hn (by unfold numV; simp)) (by unfold numV; simp) (by unfold numV; simp) (by unfold numV; simp) (fun y hy => absurd hy (by unfold numV; simp))
theorem okV_three : ∀ x ∈ lst3, OkV x := fun x hx => by
 unfold lst3 at hx
 simp only [List.mem_cons, List.mem_nil_iff, or_false] at hx
 rcases hx with rfl | rfl | rfl
 · exact okV_num 3 (by decide) (by decide)
 · exact okV_num 1 (by decide) (by decide)
 · exact okV_num 2 (by decide) (by decide)
theorem rd_of_at {l : List V} {k : Nat} {x : V} (h : l[k]? = some x) : rd_T34 l (k : Int) = x := by
 unfold rd_T34
 rw [Int.toNat_natCast, List.getD_eq_getElem?_getD, h]
 rfl
theorem rng_V {w0 : World} {g : Nat} {l : List V} (h : k34.C w0 (some ⟨g, 0, none⟩) l.length l) (k : Nat) (hk : k < l.length) : ∃ cs : List Value, cs.length = 7 ∧ k34.K w0 (rd_T34 l (k : Int)) cs ∧ ∀ W : World, Below w0.heap.size w0 W → W.rangeAt g (k * 7) cs := by
 obtain ⟨ad, c, hA, hl, hK, hc⟩ := Kd.C_get h z34 (k : Int) (by omega) (by omega)
 obtain rfl := Option.some.inj hA
 rw [Int.toNat_natCast] at hK hc
 refine ⟨c, hl, by unfold rd_T34; rw [Int.toNat_natCast]; exact hK, fun W hb j v hj => ?_⟩
 have := hc j v hj
 rw [Addr.add_mid, Nat.zero_add] at this
 exact pw_cell_below hb this
theorem info_V (cs : List Value) (h : cs.length = 7) : (Tryz.prog.info? 34).map (·.size) = some cs.length := by rw [h]; kernel_rfl
theorem num_any (n : Int) (W : World) : Calls Tryz.prog 15 #[.int .i64 n] W fun e w' => e = .returned (.int .i64 n) ∧ w' = W := by
 go_enter Tryz.func15, Tryz.ntmps15
 go_wp2
 go_ret
 exact ⟨rfl, rfl⟩
set_option maxHeartbeats 2000000 in
set_option maxRecDepth 100000 in
theorem alive_any (w : World) (hLD : LaidW w) : Calls Tryz.prog 9 #[] w fun e w' => e = .returned (.bool true) ∧ Below w.heap.size w w' := by
 have H1 : Hid (∀ W, Calls Tryz.prog 34 #[.int .i64 1] W fun e w' => ∃ cs : List Value, e = .returned (.agg cs.toArray) ∧ k34.M w' W.heap.size (fun _ => True) (numV 1) cs ∧ Below W.heap.size W w') := Lib.hid (fun W => Number_any 1 number_1 (by decide) W)
 have H2 : Hid (∀ W, Calls Tryz.prog 34 #[.int .i64 2] W fun e w' => ∃ cs : List Value, e = .returned (.agg cs.toArray) ∧ k34.M w' W.heap.size (fun _ => True) (numV 2) cs ∧ Below W.heap.size W w') := Lib.hid (fun W => Number_any 2 number_2 (by decide) W)
 have H3 : Hid (∀ W, Calls Tryz.prog 34 #[.int .i64 3] W fun e w' => ∃ cs : List Value, e = .returned (.agg cs.toArray) ∧ k34.M w' W.heap.size (fun _ => True) (numV 3) cs ∧ Below W.heap.size W w') := Lib.hid (fun W => Number_any 3 number_3 (by decide) W)
 have HLD := Lib.hid hLD
 clear hLD
 have HOK : Hid (∀ x ∈ lst3, OkV x) := Lib.hid okV_three
 go_enter Tryz.func9, Tryz.ntmps9
 go_upto_region 2 with (first
  | (go_at_call 34; (with_reducible refine (H3.out _).mono ?_); rintro e w1 ⟨cs3, rfl, hM3, hB1⟩; have HM3 := Lib.hid hM3; have HB1 := Lib.hid hB1; obtain ⟨v2, v5, v6, rfl, r2, r5, r6⟩ := k34_openM hM3; clear hM3 hB1 r2 r5 r6)
  | (go_at_call 34; (with_reducible refine (H1.out _).mono ?_); rintro e w2 ⟨cs1, rfl, hM1, hB2⟩; have HM1 := Lib.hid hM1; have HB2 := Lib.hid hB2; obtain ⟨u2, u5, u6, rfl, r2, r5, r6⟩ := k34_openM hM1; clear hM1 hB2 r2 r5 r6)
  | (go_at_call 34; (with_reducible refine (H2.out _).mono ?_); rintro e w3 ⟨cs2, rfl, hM2, hB3⟩; have HM2 := Lib.hid hM2; have HB3 := Lib.hid hB3; obtain ⟨t2, t5, t6, rfl, r2, r5, r6⟩ := k34_openM hM2; clear hM2 hB3 r2 r5 r6)
  | (go_at_call 11; go_loud (refine (Sort_any lst3 (some ⟨w3.heap.size, 0, none⟩) 3 _ (HLD.out.below ((HB1.out.trans (HB2.out.mono HB1.out.size)).trans (HB3.out.mono (Nat.le_trans HB1.out.size HB2.out.size)) |>.alloc (Nat.le_trans HB1.out.size (Nat.le_trans HB2.out.size HB3.out.size)) _)) (three_C (w0 := w3) (Below.refl _ _) (k34.K_below (HB3.out) (k34.K_below HB2.out (k34.K_of_M HM3.out))) (k34.K_below HB3.out (k34.K_of_M HM1.out)) (k34.K_of_M HM2.out)) HOK.out (by decide)).mono ?_); rintro e w4 ⟨(⟨hbad, rfl⟩ | ⟨h0, v4, ys, rfl, hs, hr⟩), hB4⟩))
 · exact absurd lask_three hbad
 · obtain ⟨y1, y2, y3⟩ := sorted_three hs
   obtain ⟨g, c4, rfl, -⟩ := Kd.R_form hr (by omega)
   have hC := (Kd.R_reads' hr).2.2
   have e0 : rd_T34 ys ((0 : Nat) : Int) = numV 1 := rd_of_at y2
   have e2 : rd_T34 ys ((2 : Nat) : Int) = numV 3 := rd_of_at y3
   obtain ⟨ca, la, hKa, ra⟩ := rng_V hC 0 (by omega)
   obtain ⟨cb, lb, hKb, rb⟩ := rng_V hC 2 (by omega)
   rw [e0] at hKa
   rw [e2] at hKb
   rw [y1]
   have HKA := Lib.hid hKa
   have HKB := Lib.hid hKb
   have RA := Lib.hid ra
   have RB := Lib.hid rb
   have ia := info_V ca la
   have ib := info_V cb lb
   have hu := Tryz.underlying34
   have HW4 : Hid (Below w.heap.size w w4) := Lib.hid ((((HB1.out.trans (HB2.out.mono HB1.out.size)).trans (HB3.out.mono (Nat.le_trans HB1.out.size HB2.out.size))).alloc (Nat.le_trans HB1.out.size (Nat.le_trans HB2.out.size HB3.out.size)) _).trans (hB4.mono (by have h1 := HB1.out.size; have h2 := HB2.out.size; have h3 := HB3.out.size; rw [World.size_alloc]; omega)))
   clear hC hKa hKb hr hs y1 y2 y3 e0 e2 HM1 HM2 HM3 HOK HLD H2 hB4 HB1 HB2 HB3 h0 ra rb la lb
   have HBc : Hid (Below w4.heap.size w4 w4.drew) := Lib.hid (below_drew (Below.refl _ _))
   refine wp_region_any (by kernel_rfl) ?_
   change wpAny _ _ _ _ _ _ _ (World.drew _)
   refine tk 0 rfl rfl (by kernel_rfl) (fun _ _ _ h => h) (by rfl) (by intro w_; go_simp; try with_reducible rfl) ?_
   simp only [List.set_cons_zero, List.set_cons_succ]
   refine one 1 rfl (by kernel_rfl) (by rfl) fun K_ hK_ => ?_
   simp only [List.getElem_toArray, List.getElem_cons_succ, List.getElem_cons_zero]
   go_simp
   refine (num_any _ _).mono ?_
   rintro e_ w5 ⟨rfl, rfl⟩
   simp only [Oper.upon]
   refine hK_ _ _ ?_
   clear hK_ K_
   refine tk 2 rfl rfl (by kernel_rfl) (fun _ _ _ h => h) (by rfl) (by intro w_; go_simp; try with_reducible rfl) ?_
   refine tk 3 rfl rfl (by kernel_rfl) (fun _ _ _ h => h) (by rfl) (by intro w_; go_simp; try with_reducible rfl) ?_
   simp only [List.set_cons_zero, List.set_cons_succ]
   refine tk 4 rfl rfl (by kernel_rfl) (fun _ _ _ h => h) (by rfl) (by intro w_; go_simp; try with_reducible rfl) ?_
   simp only [List.set_cons_zero, List.set_cons_succ]
   refine one 5 rfl (by kernel_rfl) (by rfl) fun K_ hK_ => ?_
   simp only [List.getElem_toArray, List.getElem_cons_succ, List.getElem_cons_zero]
   go_simp
   refine hK_ _ _ ?_
   clear hK_ K_
   refine tk 6 rfl rfl (by kernel_rfl) (fun _ _ _ h => h) (by rfl) (by intro w_; go_simp; try with_reducible rfl) ?_
   refine tk 7 rfl rfl (by kernel_rfl) (fun _ _ _ h => h) (by rfl) (by intro w_; go_simp; try with_reducible rfl) ?_
   simp only [List.set_cons_zero, List.set_cons_succ]
   refine tk 8 rfl rfl (by kernel_rfl) (fun _ _ _ h => h) (by rfl) (by intro w_; go_simp; try with_reducible rfl) ?_
   refine tk 9 rfl rfl (by kernel_rfl) (fun _ _ _ h => h) (by rfl) (by intro w_; go_simp; try with_reducible rfl) ?_
   simp only [List.set_cons_zero, List.set_cons_succ]
   refine tk 10 rfl rfl (by kernel_rfl) (fun _ _ _ h => h) (by rfl) (by intro w_; go_simp; try with_reducible rfl) ?_
   simp only [List.set_cons_zero, List.set_cons_succ]
   refine two 11 12 rfl rfl (by kernel_rfl) (by rfl) (by rfl) (fun K_ hK_ => ?_) (fun K_ hK_ => ?_)
   have rx := RA.out _ HBc.out
   refine wp_load_mid _ _ rfl _ _ rfl _ _ rx hu rfl ia ?_
   refine hK_ _ _ ?_
   clear hK_ K_
   simp only [Act.put, List.getElem_toArray, List.getElem_cons_zero, List.getElem_cons_succ, List.setIfInBounds_toArray, List.set_cons_zero, List.set_cons_succ]
   refine one 12 rfl (by kernel_rfl) (by rfl) fun K_ hK_ => ?_
   simp only [List.getElem_toArray, List.getElem_cons_succ, List.getElem_cons_zero]
   go_simp
   refine (H1.out _).mono ?_
   rintro e_ w6 ⟨cs6, rfl, hM6, hB6⟩
   have HB6 := Lib.hid hB6
   have HK6 := Lib.hid (k34.K_of_M hM6)
   clear hB6 hM6
   have HBc := Lib.hid (HBc.out.trans (HB6.out.mono HBc.out.size))
   simp only [Oper.upon]
   refine hK_ _ _ ?_
   clear hK_ K_
   refine one 13 rfl (by kernel_rfl) (by rfl) fun K_ hK_ => ?_
   simp only [List.getElem_toArray, List.getElem_cons_succ, List.getElem_cons_zero]
   go_simp
   refine (Same_any _ _ _ _ _ (k34.K_below HBc.out HKA.out) HK6.out).mono ?_
   rw [same_refl]
   rintro e_ w7 ⟨rfl, hB7⟩
   have HB7 := Lib.hid hB7
   clear hB7
   have HBc := Lib.hid (HBc.out.trans (HB7.out.mono HBc.out.size))
   simp only [Oper.upon]
   refine hK_ _ _ ?_
   clear hK_ K_
   refine tk 14 rfl rfl (by kernel_rfl) (fun _ _ _ h => h) (by rfl) (by intro w_; go_simp; try with_reducible rfl) ?_
   refine tk 15 rfl rfl (by kernel_rfl) (fun _ _ _ h => h) (by rfl) (by intro w_; go_simp; try with_reducible rfl) ?_
   simp only [List.set_cons_zero, List.set_cons_succ]
   refine tk 16 rfl rfl (by kernel_rfl) (fun _ _ _ h => h) (by rfl) (by intro w_; go_simp; try with_reducible rfl) ?_
   refine tk 17 rfl rfl (by kernel_rfl) (fun _ _ _ h => h) (by rfl) (by intro w_; go_simp; try with_reducible rfl) ?_
   simp only [List.set_cons_zero, List.set_cons_succ]
   refine two 18 19 rfl rfl (by kernel_rfl) (by rfl) (by rfl) (fun K_ hK_ => ?_) (fun K_ hK_ => ?_)
   have rx := RB.out _ HBc.out
   refine wp_load_mid _ _ rfl _ _ rfl _ _ rx hu rfl ib ?_
   refine hK_ _ _ ?_
   clear hK_ K_
   simp only [Act.put, List.getElem_toArray, List.getElem_cons_zero, List.getElem_cons_succ, List.setIfInBounds_toArray, List.set_cons_zero, List.set_cons_succ]
   refine one 19 rfl (by kernel_rfl) (by rfl) fun K_ hK_ => ?_
   simp only [List.getElem_toArray, List.getElem_cons_succ, List.getElem_cons_zero]
   go_simp
   refine (H3.out _).mono ?_
   rintro e_ w6 ⟨cs6, rfl, hM6, hB6⟩
   have HB6 := Lib.hid hB6
   have HK6 := Lib.hid (k34.K_of_M hM6)
   clear hB6 hM6
   have HBc := Lib.hid (HBc.out.trans (HB6.out.mono HBc.out.size))
   simp only [Oper.upon]
   refine hK_ _ _ ?_
   clear hK_ K_
   refine one 20 rfl (by kernel_rfl) (by rfl) fun K_ hK_ => ?_
   simp only [List.getElem_toArray, List.getElem_cons_succ, List.getElem_cons_zero]
   go_simp
   refine (Same_any _ _ _ _ _ (k34.K_below HBc.out HKB.out) HK6.out).mono ?_
   rw [same_refl]
   rintro e_ w7 ⟨rfl, hB7⟩
   have HB7 := Lib.hid hB7
   clear hB7
   have HBc := Lib.hid (HBc.out.trans (HB7.out.mono HBc.out.size))
   simp only [Oper.upon]
   refine hK_ _ _ ?_
   clear hK_ K_
   refine tk 21 rfl rfl (by kernel_rfl) (fun _ _ _ h => h) (by rfl) (by intro w_; go_simp; try with_reducible rfl) ?_
   refine tk 22 rfl rfl (by kernel_rfl) (fun _ _ _ h => h) (by rfl) (by intro w_; go_simp; try with_reducible rfl) ?_
   refine wpAny_done (by kernel_rfl) ?_ _
   simp only [List.set_cons_zero, List.set_cons_succ]
   rotate_left
   simp only [List.getElem_toArray, List.getElem_cons_succ, List.getElem_cons_zero]
   go_simp
   refine (H3.out _).mono ?_
   rintro e_ w6 ⟨cs6, rfl, hM6, hB6⟩
   have HB6 := Lib.hid hB6
   have HK6 := Lib.hid (k34.K_of_M hM6)
   clear hB6 hM6
   have HBc := Lib.hid (HBc.out.trans (HB6.out.mono HBc.out.size))
   simp only [Oper.upon]
   refine hK_ _ _ ?_
   clear hK_ K_
   refine one 18 rfl (by kernel_rfl) (by rfl) fun K_ hK_ => ?_
   have rx := RB.out _ HBc.out
   refine wp_load_mid _ _ rfl _ _ rfl _ _ rx hu rfl ib ?_
   refine hK_ _ _ ?_
   clear hK_ K_
   simp only [Act.put, List.getElem_toArray, List.getElem_cons_zero, List.getElem_cons_succ, List.setIfInBounds_toArray, List.set_cons_zero, List.set_cons_succ]
   refine one 20 rfl (by kernel_rfl) (by rfl) fun K_ hK_ => ?_
   simp only [List.getElem_toArray, List.getElem_cons_succ, List.getElem_cons_zero]
   go_simp
   refine (Same_any _ _ _ _ _ (k34.K_below HBc.out HKB.out) HK6.out).mono ?_
   rw [same_refl]
   rintro e_ w7 ⟨rfl, hB7⟩
   have HB7 := Lib.hid hB7
   clear hB7
   have HBc := Lib.hid (HBc.out.trans (HB7.out.mono HBc.out.size))
   simp only [Oper.upon]
   refine hK_ _ _ ?_
   clear hK_ K_
   refine tk 21 rfl rfl (by kernel_rfl) (fun _ _ _ h => h) (by rfl) (by intro w_; go_simp; try with_reducible rfl) ?_
   refine tk 22 rfl rfl (by kernel_rfl) (fun _ _ _ h => h) (by rfl) (by intro w_; go_simp; try with_reducible rfl) ?_
   refine wpAny_done (by kernel_rfl) ?_ _
   simp only [List.set_cons_zero, List.set_cons_succ]
   rotate_left
   simp only [List.getElem_toArray, List.getElem_cons_succ, List.getElem_cons_zero]
   go_simp
   refine (H1.out _).mono ?_
   rintro e_ w6 ⟨cs6, rfl, hM6, hB6⟩
   have HB6 := Lib.hid hB6
   have HK6 := Lib.hid (k34.K_of_M hM6)
   clear hB6 hM6
   have HBc := Lib.hid (HBc.out.trans (HB6.out.mono HBc.out.size))
   simp only [Oper.upon]
   refine hK_ _ _ ?_
   clear hK_ K_
   refine one 11 rfl (by kernel_rfl) (by rfl) fun K_ hK_ => ?_
   have rx := RA.out _ HBc.out
   refine wp_load_mid _ _ rfl _ _ rfl _ _ rx hu rfl ia ?_
   refine hK_ _ _ ?_
   clear hK_ K_
   simp only [Act.put, List.getElem_toArray, List.getElem_cons_zero, List.getElem_cons_succ, List.setIfInBounds_toArray, List.set_cons_zero, List.set_cons_succ]
   refine one 13 rfl (by kernel_rfl) (by rfl) fun K_ hK_ => ?_
   simp only [List.getElem_toArray, List.getElem_cons_succ, List.getElem_cons_zero]
   go_simp
   refine (Same_any _ _ _ _ _ (k34.K_below HBc.out HKA.out) HK6.out).mono ?_
   rw [same_refl]
   rintro e_ w7 ⟨rfl, hB7⟩
   have HB7 := Lib.hid hB7
   clear hB7
   have HBc := Lib.hid (HBc.out.trans (HB7.out.mono HBc.out.size))
   simp only [Oper.upon]
   refine hK_ _ _ ?_
   clear hK_ K_
   refine tk 14 rfl rfl (by kernel_rfl) (fun _ _ _ h => h) (by rfl) (by intro w_; go_simp; try with_reducible rfl) ?_
   refine tk 15 rfl rfl (by kernel_rfl) (fun _ _ _ h => h) (by rfl) (by intro w_; go_simp; try with_reducible rfl) ?_
   simp only [List.set_cons_zero, List.set_cons_succ]
   refine tk 16 rfl rfl (by kernel_rfl) (fun _ _ _ h => h) (by rfl) (by intro w_; go_simp; try with_reducible rfl) ?_
   refine tk 17 rfl rfl (by kernel_rfl) (fun _ _ _ h => h) (by rfl) (by intro w_; go_simp; try with_reducible rfl) ?_
   simp only [List.set_cons_zero, List.set_cons_succ]
   refine two 18 19 rfl rfl (by kernel_rfl) (by rfl) (by rfl) (fun K_ hK_ => ?_) (fun K_ hK_ => ?_)
   have rx := RB.out _ HBc.out
   refine wp_load_mid _ _ rfl _ _ rfl _ _ rx hu rfl ib ?_
   refine hK_ _ _ ?_
   clear hK_ K_
   simp only [Act.put, List.getElem_toArray, List.getElem_cons_zero, List.getElem_cons_succ, List.setIfInBounds_toArray, List.set_cons_zero, List.set_cons_succ]
   refine one 19 rfl (by kernel_rfl) (by rfl) fun K_ hK_ => ?_
   simp only [List.getElem_toArray, List.getElem_cons_succ, List.getElem_cons_zero]
   go_simp
   refine (H3.out _).mono ?_
   rintro e_ w6 ⟨cs6, rfl, hM6, hB6⟩
   have HB6 := Lib.hid hB6
   have HK6 := Lib.hid (k34.K_of_M hM6)
   clear hB6 hM6
   have HBc := Lib.hid (HBc.out.trans (HB6.out.mono HBc.out.size))
   simp only [Oper.upon]
   refine hK_ _ _ ?_
   clear hK_ K_
   refine one 20 rfl (by kernel_rfl) (by rfl) fun K_ hK_ => ?_
   simp only [List.getElem_toArray, List.getElem_cons_succ, List.getElem_cons_zero]
   go_simp
   refine (Same_any _ _ _ _ _ (k34.K_below HBc.out HKB.out) HK6.out).mono ?_
   rw [same_refl]
   rintro e_ w7 ⟨rfl, hB7⟩
   have HB7 := Lib.hid hB7
   clear hB7
   have HBc := Lib.hid (HBc.out.trans (HB7.out.mono HBc.out.size))
   simp only [Oper.upon]
   refine hK_ _ _ ?_
   clear hK_ K_
   refine tk 21 rfl rfl (by kernel_rfl) (fun _ _ _ h => h) (by rfl) (by intro w_; go_simp; try with_reducible rfl) ?_
   refine tk 22 rfl rfl (by kernel_rfl) (fun _ _ _ h => h) (by rfl) (by intro w_; go_simp; try with_reducible rfl) ?_
   refine wpAny_done (by kernel_rfl) ?_ _
   simp only [List.set_cons_zero, List.set_cons_succ]
   rotate_left
   simp only [List.getElem_toArray, List.getElem_cons_succ, List.getElem_cons_zero]
   go_simp
   refine (H3.out _).mono ?_
   rintro e_ w6 ⟨cs6, rfl, hM6, hB6⟩
   have HB6 := Lib.hid hB6
   have HK6 := Lib.hid (k34.K_of_M hM6)
   clear hB6 hM6
   have HBc := Lib.hid (HBc.out.trans (HB6.out.mono HBc.out.size))
   simp only [Oper.upon]
   refine hK_ _ _ ?_
   clear hK_ K_
   refine one 18 rfl (by kernel_rfl) (by rfl) fun K_ hK_ => ?_
   have rx := RB.out _ HBc.out
   refine wp_load_mid _ _ rfl _ _ rfl _ _ rx hu rfl ib ?_
   refine hK_ _ _ ?_
   clear hK_ K_
   simp only [Act.put, List.getElem_toArray, List.getElem_cons_zero, List.getElem_cons_succ, List.setIfInBounds_toArray, List.set_cons_zero, List.set_cons_succ]
   refine one 20 rfl (by kernel_rfl) (by rfl) fun K_ hK_ => ?_
   simp only [List.getElem_toArray, List.getElem_cons_succ, List.getElem_cons_zero]
   go_simp
   refine (Same_any _ _ _ _ _ (k34.K_below HBc.out HKB.out) HK6.out).mono ?_
   rw [same_refl]
   rintro e_ w7 ⟨rfl, hB7⟩
   have HB7 := Lib.hid hB7
   clear hB7
   have HBc := Lib.hid (HBc.out.trans (HB7.out.mono HBc.out.size))
   simp only [Oper.upon]
   refine hK_ _ _ ?_
   clear hK_ K_
   refine tk 21 rfl rfl (by kernel_rfl) (fun _ _ _ h => h) (by rfl) (by intro w_; go_simp; try with_reducible rfl) ?_
   refine tk 22 rfl rfl (by kernel_rfl) (fun _ _ _ h => h) (by rfl) (by intro w_; go_simp; try with_reducible rfl) ?_
   refine wpAny_done (by kernel_rfl) ?_ _
   simp only [List.set_cons_zero, List.set_cons_succ]
   rotate_left
   all_goals
    have HF := Lib.hid (HW4.out.trans (HBc.out.mono HW4.out.size))
    clear HBc HB7 HK6 HB6 HKA HKB RA RB ia ib hu
    go_wp2_with fail
    go_ret
    exact ⟨rfl, HF.out⟩
end Go.Proofs.YtmfpakolfpoamaaGreatDoor.P

/- Texts of this claim, one behind the other. -/
import Derived.Test.YtmfpakolfpoamaaGreatDoorMOrderKeepszb
import Derived.Test.YtmfpakolfpoamaaGreatDoorMOrderKeepsl
import Derived.Test.YtmfpakolfpoamaaGreatDoorMOrderKeepsy
import Derived.Test.YtmfpakolfpoamaaGreatDoorMOrderKeepsza
namespace Go.Proofs.YtmfpakolfpoamaaGreatDoor.P
set_option linter.unusedVariables false
set_option linter.unusedSimpArgs false
open Go.RowKit Go.Proofs.YtmfpakolfpoamaaGreatDoorW.PrintWords Go.Proofs.YtmfpakolfpoamaaGreatDoorW.PrintMore Go.Proofs.YtmfpakolfpoamaaGreatDoorW.PrintLast
theorem okV_num (n : Int) (h0 : 0 ≤ n) (h1 : n ≤ 9) : OkV (numV n) :=
 OkV.mk _ (by show (Lit.int .i64 3).wf = true; rfl) (fun m hm => by
  have : m = n := by simpa [numV] using hm
  subst this
  rcases (show m = 0 ∨ m = 1 ∨ m = 2 ∨ m = 3 ∨ m = 4 ∨ m = 5 ∨ m = 6 ∨ m = 7 ∨ m = 8 ∨ m = 9 by omega) with rfl | rfl | rfl | rfl | rfl | rfl | rfl | rfl | rfl | rfl <;> rfl) (by show (Lit.int .i64 0).wf = true; rfl) (by show (0 : Nat) ≤ 1073741824; decide) (fun n hn => absurd hn (by unfold numV; simp)) (by unfold numV; simp) (by unfold numV; simp) (by unfold numV; simp) (fun y hy => absurd hy (by unfold numV; simp))
theorem okV_three : ∀ x ∈ lst3, OkV x := fun x hx => by
 unfold lst3 at hx
 simp only [List.mem_cons, List.mem_nil_iff, or_false] at hx
 rcases hx with rfl | rfl | rfl
 · exact okV_num 3 (by decide) (by decide)
 · exact okV_num 1 (by decide) (by decide)
 · exact okV_num 2 (by decide) (by decide)
theorem rd_of_at {l : List V} {k : Nat} {x : V} (h : l[k]? = some x) : rd_T34 l (k : Int) = x := by
 unfold rd_T34
 rw [Int.toNat_natCast, List.getD_eq_getElem?_getD, h]
 rfl
theorem rng_V {w0 : World} {g : Nat} {l : List V} (h : k34.C w0 (some ⟨g, 0, none⟩) l.length l) (k : Nat) (hk : k < l.length) : ∃ cs : List Value, cs.length = 7 ∧ k34.K w0 (rd_T34 l (k : Int)) cs ∧ ∀ W : World, Below w0.heap.size w0 W → W.rangeAt g (k * 7) cs := by
 obtain ⟨ad, c, hA, hl, hK, hc⟩ := Kd.C_get h z34 (k : Int) (by omega) (by omega)
 obtain rfl := Option.some.inj hA
 rw [Int.toNat_natCast] at hK hc
 refine ⟨c, hl, by unfold rd_T34; rw [Int.toNat_natCast]; exact hK, fun W hb j v hj => ?_⟩
 have := hc j v hj
 rw [Addr.add_mid, Nat.zero_add] at this
 exact pw_cell_below hb this
theorem info_V (cs : List Value) (h : cs.length = 7) : (Tryz.prog.info? 34).map (·.size) = some cs.length := by rw [h]; kernel_rfl
theorem num_any (n : Int) (W : World) : Calls Tryz.prog 15 #[.int .i64 n] W fun e w' => e = .returned (.int .i64 n) ∧ w' = W := by
 go_enter Tryz.func15, Tryz.ntmps15
 go_wp2
 go_ret
 exact ⟨rfl, rfl⟩
set_option maxHeartbeats 2000000 in
set_option maxRecDepth 100000 in
theorem alive_any (w : World) (hLD : LaidW w) : Calls Tryz.prog 9 #[] w fun e w' => e = .returned (.bool true) ∧ Below w.heap.size w w' := by
 have H1 : Hid (∀ W, Calls Tryz.prog 34 #[.int .i64 1] W fun e w' => ∃ cs : List Value, e = .returned (.agg cs.toArray) ∧ k34.M w' W.heap.size (fun _ => True) (numV 1) cs ∧ Below W.heap.size W w') := Lib.hid (fun W => Number_any 1 number_1 (by decide) W)
 have H2 : Hid (∀ W, Calls Tryz.prog 34 #[.int .i64 2] W fun e w' => ∃ cs : List Value, e = .returned (.agg cs.toArray) ∧ k34.M w' W.heap.size (fun _ => True) (numV 2) cs ∧ Below W.heap.size W w') := Lib.hid (fun W => Number_any 2 number_2 (by decide) W)
 have H3 : Hid (∀ W, Calls Tryz.prog 34 #[.int .i64 3] W fun e w' => ∃ cs : List Value, e = .returned (.agg cs.toArray) ∧ k34.M w' W.heap.size (fun _ => True) (numV 3) cs ∧ Below W.heap.size W w') := Lib.hid (fun W => Number_any 3 number_3 (by decide) W)
 have HLD := Lib.hid hLD
 clear hLD
 have HOK : Hid (∀ x ∈ lst3, OkV x) := Lib.hid okV_three
 go_enter Tryz.func9, Tryz.ntmps9
 go_upto_region 2 with (first
  | (go_at_call 34; (with_reducible refine (H3.out _).mono ?_); rintro e w1 ⟨cs3, rfl, hM3, hB1⟩; have HM3 := Lib.hid hM3; have HB1 := Lib.hid hB1; obtain ⟨v2, v5, v6, rfl, r2, r5, r6⟩ := k34_openM hM3; clear hM3 hB1 r2 r5 r6)
  | (go_at_call 34; (with_reducible refine (H1.out _).mono ?_); rintro e w2 ⟨cs1, rfl, hM1, hB2⟩; have HM1 := Lib.hid hM1; have HB2 := Lib.hid hB2; obtain ⟨u2, u5, u6, rfl, r2, r5, r6⟩ := k34_openM hM1; clear hM1 hB2 r2 r5 r6)
  | (go_at_call 34; (with_reducible refine (H2.out _).mono ?_); rintro e w3 ⟨cs2, rfl, hM2, hB3⟩; have HM2 := Lib.hid hM2; have HB3 := Lib.hid hB3; obtain ⟨t2, t5, t6, rfl, r2, r5, r6⟩ := k34_openM hM2; clear hM2 hB3 r2 r5 r6)
  | (go_at_call 11; go_loud (refine (Sort_any lst3 (some ⟨w3.heap.size, 0, none⟩) 3 _ (HLD.out.below ((HB1.out.trans (HB2.out.mono HB1.out.size)).trans (HB3.out.mono (Nat.le_trans HB1.out.size HB2.out.size)) |>.alloc (Nat.le_trans HB1.out.size (Nat.le_trans HB2.out.size HB3.out.size)) _)) (three_C (w0 := w3) (Below.refl _ _) (k34.K_below (HB3.out) (k34.K_below HB2.out (k34.K_of_M HM3.out))) (k34.K_below HB3.out (k34.K_of_M HM1.out)) (k34.K_of_M HM2.out)) HOK.out (by decide)).mono ?_); rintro e w4 ⟨(⟨hbad, rfl⟩ | ⟨h0, v4, ys, rfl, hs, hr⟩), hB4⟩))
 · exact absurd lask_three hbad
 · obtain ⟨y1, y2, y3⟩ := sorted_three hs
   obtain ⟨g, c4, rfl, -⟩ := Kd.R_form hr (by omega)
   have hC := (Kd.R_reads' hr).2.2
   have e0 : rd_T34 ys ((0 : Nat) : Int) = numV 1 := rd_of_at y2
   have e2 : rd_T34 ys ((2 : Nat) : Int) = numV 3 := rd_of_at y3
   obtain ⟨ca, la, hKa, ra⟩ := rng_V hC 0 (by omega)
   obtain ⟨cb, lb, hKb, rb⟩ := rng_V hC 2 (by omega)
   rw [e0] at hKa
   rw [e2] at hKb
   rw [y1]
   have HKA := Lib.hid hKa
   have HKB := Lib.hid hKb
   have RA := Lib.hid ra
   have RB := Lib.hid rb
   have ia := info_V ca la
   have ib := info_V cb lb
   have hu := Tryz.underlying34
   have HW4 : Hid (Below w.heap.size w w4) := Lib.hid ((((HB1.out.trans (HB2.out.mono HB1.out.size)).trans (HB3.out.mono (Nat.le_trans HB1.out.size HB2.out.size))).alloc (Nat.le_trans HB1.out.size (Nat.le_trans HB2.out.size HB3.out.size)) _).trans (hB4.mono (by have h1 := HB1.out.size; have h2 := HB2.out.size; have h3 := HB3.out.size; rw [World.size_alloc]; omega)))
   clear hC hKa hKb hr hs y1 y2 y3 e0 e2 HM1 HM2 HM3 HOK HLD H2 hB4 HB1 HB2 HB3 h0 ra rb la lb
   have HBc : Hid (Below w4.heap.size w4 w4.drew) := Lib.hid (below_drew (Below.refl _ _))
   refine wp_region_any (by kernel_rfl) ?_
   change wpAny _ _ _ _ _ _ _ (World.drew _)
   refine tk 0 rfl rfl (by kernel_rfl) (fun _ _ _ h => h) (by rfl) (by intro w_; go_simp; try with_reducible rfl) ?_
   simp only [List.set_cons_zero, List.set_cons_succ]
   refine one 1 rfl (by kernel_rfl) (by rfl) fun K_ hK_ => ?_
   simp only [List.getElem_toArray, List.getElem_cons_succ, List.getElem_cons_zero]
   go_simp
   refine (num_any _ _).mono ?_
   rintro e_ w5 ⟨rfl, rfl⟩
   simp only [Oper.upon]
   refine hK_ _ _ ?_
   clear hK_ K_
   refine tk 2 rfl rfl (by kernel_rfl) (fun _ _ _ h => h) (by rfl) (by intro w_; go_simp; try with_reducible rfl) ?_
   refine tk 3 rfl rfl (by kernel_rfl) (fun _ _ _ h => h) (by rfl) (by intro w_; go_simp; try with_reducible rfl) ?_
   simp only [List.set_cons_zero, List.set_cons_succ]
   refine tk 4 rfl rfl (by kernel_rfl) (fun _ _ _ h => h) (by rfl) (by intro w_; go_simp; try with_reducible rfl) ?_
   simp only [List.set_cons_zero, List.set_cons_succ]
   refine one 5 rfl (by kernel_rfl) (by rfl) fun K_ hK_ => ?_
   simp only [List.getElem_toArray, List.getElem_cons_succ, List.getElem_cons_zero]
   go_simp
   refine hK_ _ _ ?_
   clear hK_ K_
   refine tk 6 rfl rfl (by kernel_rfl) (fun _ _ _ h => h) (by rfl) (by intro w_; go_simp; try with_reducible rfl) ?_
   refine tk 7 rfl rfl (by kernel_rfl) (fun _ _ _ h => h) (by rfl) (by intro w_; go_simp; try with_reducible rfl) ?_
   simp only [List.set_cons_zero, List.set_cons_succ]
   refine tk 8 rfl rfl (by kernel_rfl) (fun _ _ _ h => h) (by rfl) (by intro w_; go_simp; try with_reducible rfl) ?_
   refine tk 9 rfl rfl (by kernel_rfl) (fun _ _ _ h => h) (by rfl) (by intro w_; go_simp; try with_reducible rfl) ?_
   simp only [List.set_cons_zero, List.set_cons_succ]
   refine tk 10 rfl rfl (by kernel_rfl) (fun _ _ _ h => h) (by rfl) (by intro w_; go_simp; try with_reducible rfl) ?_
   simp only [List.set_cons_zero, List.set_cons_succ]
   refine two 11 12 rfl rfl (by kernel_rfl) (by rfl) (by rfl) (fun K_ hK_ => ?_) (fun K_ hK_ => ?_)
   have rx := RA.out _ HBc.out
   refine wp_load_mid _ _ rfl _ _ rfl _ _ rx hu rfl ia ?_
   refine hK_ _ _ ?_
   clear hK_ K_
   simp only [Act.put, List.getElem_toArray, List.getElem_cons_zero, List.getElem_cons_succ, List.setIfInBounds_toArray, List.set_cons_zero, List.set_cons_succ]
   refine one 12 rfl (by kernel_rfl) (by rfl) fun K_ hK_ => ?_
   simp only [List.getElem_toArray, List.getElem_cons_succ, List.getElem_cons_zero]
   go_simp
   refine (H1.out _).mono ?_
   rintro e_ w6 ⟨cs6, rfl, hM6, hB6⟩
   have HB6 := Lib.hid hB6
   have HK6 := Lib.hid (k34.K_of_M hM6)
   clear hB6 hM6
   have HBc := Lib.hid (HBc.out.trans (HB6.out.mono HBc.out.size))
   simp only [Oper.upon]
   refine hK_ _ _ ?_
   clear hK_ K_
   refine one 13 rfl (by kernel_rfl) (by rfl) fun K_ hK_ => ?_
   simp only [List.getElem_toArray, List.getElem_cons_succ, List.getElem_cons_zero]
   go_simp
   refine (Same_any _ _ _ _ _ (k34.K_below HBc.out HKA.out) HK6.out).mono ?_
   rw [same_refl]
   rintro e_ w7 ⟨rfl, hB7⟩
   have HB7 := Lib.hid hB7
   clear hB7
   have HBc := Lib.hid (HBc.out.trans (HB7.out.mono HBc.out.size))
   simp only [Oper.upon]
   refine hK_ _ _ ?_
   clear hK_ K_
   refine tk 14 rfl rfl (by kernel_rfl) (fun _ _ _ h => h) (by rfl) (by intro w_; go_simp; try with_reducible rfl) ?_
   refine tk 15 rfl rfl (by kernel_rfl) (fun _ _ _ h => h) (by rfl) (by intro w_; go_simp; try with_reducible rfl) ?_
   simp only [List.set_cons_zero, List.set_cons_succ]
   refine tk 16 rfl rfl (by kernel_rfl) (fun _ _ _ h => h) (by rfl) (by intro w_; go_simp; try with_reducible rfl) ?_
   refine tk 17 rfl rfl (by kernel_rfl) (fun _ _ _ h => h) (by rfl) (by intro w_; go_simp; try with_reducible rfl) ?_
   simp only [List.set_cons_zero, List.set_cons_succ]
   refine two 18 19 rfl rfl (by kernel_rfl) (by rfl) (by rfl) (fun K_ hK_ => ?_) (fun K_ hK_ => ?_)
   have rx := RB.out _ HBc.out
   refine wp_load_mid _ _ rfl _ _ rfl _ _ rx hu rfl ib ?_
   refine hK_ _ _ ?_
   clear hK_ K_
   simp only [Act.put, List.getElem_toArray, List.getElem_cons_zero, List.getElem_cons_succ, List.setIfInBounds_toArray, List.set_cons_zero, List.set_cons_succ]
   refine one 19 rfl (by kernel_rfl) (by rfl) fun K_ hK_ => ?_
   simp only [List.getElem_toArray, List.getElem_cons_succ, List.getElem_cons_zero]
   go_simp
   refine (H3.out _).mono ?_
   rintro e_ w6 ⟨cs6, rfl, hM6, hB6⟩
   have HB6 := Lib.hid hB6
   have HK6 := Lib.hid (k34.K_of_M hM6)
   clear hB6 hM6
   have HBc := Lib.hid (HBc.out.trans (HB6.out.mono HBc.out.size))
   simp only [Oper.upon]
   refine hK_ _ _ ?_
   clear hK_ K_
   refine one 20 rfl (by kernel_rfl) (by rfl) fun K_ hK_ => ?_
   simp only [List.getElem_toArray, List.getElem_cons_succ, List.getElem_cons_zero]
   go_simp
   refine (Same_any _ _ _ _ _ (k34.K_below HBc.out HKB.out) HK6.out).mono ?_
   rw [same_refl]
   rintro e_ w7 ⟨rfl, hB7⟩
   have HB7 := Lib.hid hB7
   clear hB7
   have HBc := Lib.hid (HBc.out.trans (HB7.out.mono HBc.out.size))
   simp only [Oper.upon]
   refine hK_ _ _ ?_
   clear hK_ K_
   refine tk 21 rfl rfl (by kernel_rfl) (fun _ _ _ h => h) (by rfl) (by intro w_; go_simp; try with_reducible rfl) ?_
   refine tk 22 rfl rfl (by kernel_rfl) (fun _ _ _ h => h) (by rfl) (by intro w_; go_simp; try with_reducible rfl) ?_
   refine wpAny_done (by kernel_rfl) ?_ _
   simp only [List.set_cons_zero, List.set_cons_succ]
   rotate_left
   simp only [List.getElem_toArray, List.getElem_cons_succ, List.getElem_cons_zero]
   go_simp
   refine (H3.out _).mono ?_
   rintro e_ w6 ⟨cs6, rfl, hM6, hB6⟩
   have HB6 := Lib.hid hB6
   have HK6 := Lib.hid (k34.K_of_M hM6)
   clear hB6 hM6
   have HBc := Lib.hid (HBc.out.trans (HB6.out.mono HBc.out.size))
   simp only [Oper.upon]
   refine hK_ _ _ ?_
   clear hK_ K_
   refine one 18 rfl (by kernel_rfl) (by rfl) fun K_ hK_ => ?_
   have rx := RB.out _ HBc.out
   refine wp_load_mid _ _ rfl _ _ rfl _ _ rx hu rfl ib ?_
   refine hK_ _ _ ?_
   clear hK_ K_
   simp only [Act.put, List.getElem_toArray, List.getElem_cons_zero, List.getElem_cons_succ, List.setIfInBounds_toArray, List.set_cons_zero, List.set_cons_succ]
   refine one 20 rfl (by kernel_rfl) (by rfl) fun K_ hK_ => ?_
   simp only [List.getElem_toArray, List.getElem_cons_succ, List.getElem_cons_zero]
   go_simp
   refine (Same_any _ _ _ _ _ (k34.K_below HBc.out HKB.out) HK6.out).mono ?_
   rw [same_refl]
   rintro e_ w7 ⟨rfl, hB7⟩
   have HB7 := Lib.hid hB7
   clear hB7
   have HBc := Lib.hid (HBc.out.trans (HB7.out.mono HBc.out.size))
   simp only [Oper.upon]
   refine hK_ _ _ ?_
   clear hK_ K_
   refine tk 21 rfl rfl (by kernel_rfl) (fun _ _ _ h => h) (by rfl) (by intro w_; go_simp; try with_reducible rfl) ?_
   refine tk 22 rfl rfl (by kernel_rfl) (fun _ _ _ h => h) (by rfl) (by intro w_; go_simp; try with_reducible rfl) ?_
   refine wpAny_done (by kernel_rfl) ?_ _
   simp only [List.set_cons_zero, List.set_cons_succ]
   rotate_left
   simp only [List.getElem_toArray, List.getElem_cons_succ, List.getElem_cons_zero]
   go_simp
   refine (H1.out _).mono ?_
   rintro e_ w6 ⟨cs6, rfl, hM6, hB6⟩
   have HB6 := Lib.hid hB6
   have HK6 := Lib.hid (k34.K_of_M hM6)
   clear hB6 hM6
   have HBc := Lib.hid (HBc.out.trans (HB6.out.mono HBc.out.size))
   simp only [Oper.upon]
   refine hK_ _ _ ?_
   clear hK_ K_
   refine one 11 rfl (by kernel_rfl) (by rfl) fun K_ hK_ => ?_
   have rx := RA.out _ HBc.out
   refine wp_load_mid _ _ rfl _ _ rfl _ _ rx hu rfl ia ?_
   refine hK_ _ _ ?_
   clear hK_ K_
   simp only [Act.put, List.getElem_toArray, List.getElem_cons_zero, List.getElem_cons_succ, List.setIfInBounds_toArray, List.set_cons_zero, List.set_cons_succ]
   refine one 13 rfl (by kernel_rfl) (by rfl) fun K_ hK_ => ?_
   simp only [List.getElem_toArray, List.getElem_cons_succ, List.getElem_cons_zero]
   go_simp
   refine (Same_any _ _ _ _ _ (k34.K_below HBc.out HKA.out) HK6.out).mono ?_
   rw [same_refl]
   rintro e_ w7 ⟨rfl, hB7⟩
   have HB7 := Lib.hid hB7
   clear hB7
   have HBc := Lib.hid (HBc.out.trans (HB7.out.mono HBc.out.size))
   simp only [Oper.upon]
   refine hK_ _ _ ?_
   clear hK_ K_
   refine tk 14 rfl rfl (by kernel_rfl) (fun _ _ _ h => h) (by rfl) (by intro w_; go_simp; try with_reducible rfl) ?_
   refine tk 15 rfl rfl (by kernel_rfl) (fun _ _ _ h => h) (by rfl) (by intro w_; go_simp; try with_reducible rfl) ?_
   simp only [List.set_cons_zero, List.set_cons_succ]
   refine tk 16 rfl rfl (by kernel_rfl) (fun _ _ _ h => h) (by rfl) (by intro w_; go_simp; try with_reducible rfl) ?_
   refine tk 17 rfl rfl (by kernel_rfl) (fun _ _ _ h => h) (by rfl) (by intro w_; go_simp; try with_reducible rfl) ?_
   simp only [List.set_cons_zero, List.set_cons_succ]
   refine two 18 19 rfl rfl (by kernel_rfl) (by rfl) (by rfl) (fun K_ hK_ => ?_) (fun K_ hK_ => ?_)
   have rx := RB.out _ HBc.out
   refine wp_load_mid _ _ rfl _ _ rfl _ _ rx hu rfl ib ?_
   refine hK_ _ _ ?_
   clear hK_ K_
   simp only [Act.put, List.getElem_toArray, List.getElem_cons_zero, List.getElem_cons_succ, List.setIfInBounds_toArray, List.set_cons_zero, List.set_cons_succ]
   refine one 19 rfl (by kernel_rfl) (by rfl) fun K_ hK_ => ?_
   simp only [List.getElem_toArray, List.getElem_cons_succ, List.getElem_cons_zero]
   go_simp
   refine (H3.out _).mono ?_
   rintro e_ w6 ⟨cs6, rfl, hM6, hB6⟩
   have HB6 := Lib.hid hB6
   have HK6 := Lib.hid (k34.K_of_M hM6)
   clear hB6 hM6
   have HBc := Lib.hid (HBc.out.trans (HB6.out.mono HBc.out.size))
   simp only [Oper.upon]
   refine hK_ _ _ ?_
   clear hK_ K_
   refine one 20 rfl (by kernel_rfl) (by rfl) fun K_ hK_ => ?_
   simp only [List.getElem_toArray, List.getElem_cons_succ, List.getElem_cons_zero]
   go_simp
   refine (Same_any _ _ _ _ _ (k34.K_below HBc.out HKB.out) HK6.out).mono ?_
   rw [same_refl]
   rintro e_ w7 ⟨rfl, hB7⟩
   have HB7 := Lib.hid hB7
   clear hB7
   have HBc := Lib.hid (HBc.out.trans (HB7.out.mono HBc.out.size))
   simp only [Oper.upon]
   refine hK_ _ _ ?_
   clear hK_ K_
   refine tk 21 rfl rfl (by kernel_rfl) (fun _ _ _ h => h) (by rfl) (by intro w_; go_simp; try with_reducible rfl) ?_
   refine tk 22 rfl rfl (by kernel_rfl) (fun _ _ _ h => h) (by rfl) (by intro w_; go_simp; try with_reducible rfl) ?_
   refine wpAny_done (by kernel_rfl) ?_ _
   simp only [List.set_cons_zero, List.set_cons_succ]
   rotate_left
   simp only [List.getElem_toArray, List.getElem_cons_succ, List.getElem_cons_zero]
   go_simp
   refine (H3.out _).mono ?_
   rintro e_ w6 ⟨cs6, rfl, hM6, hB6⟩
   have HB6 := Lib.hid hB6
   have HK6 := Lib.hid (k34.K_of_M hM6)
   clear hB6 hM6
   have HBc := Lib.hid (HBc.out.trans (HB6.out.mono HBc.out.size))
   simp only [Oper.upon]
   refine hK_ _ _ ?_
   clear hK_ K_
   refine one 18 rfl (by kernel_rfl) (by rfl) fun K_ hK_ => ?_
   have rx := RB.out _ HBc.out
   refine wp_load_mid _ _ rfl _ _ rfl _ _ rx hu rfl ib ?_
   refine hK_ _ _ ?_
   clear hK_ K_
   simp only [Act.put, List.getElem_toArray, List.getElem_cons_zero, List.getElem_cons_succ, List.setIfInBounds_toArray, List.set_cons_zero, List.set_cons_succ]
   refine one 20 rfl (by kernel_rfl) (by rfl) fun K_ hK_ => ?_
   simp only [List.getElem_toArray, List.getElem_cons_succ, List.getElem_cons_zero]
   go_simp
   refine (Same_any _ _ _ _ _ (k34.K_below HBc.out HKB.out) HK6.out).mono ?_
   rw [same_refl]
   rintro e_ w7 ⟨rfl, hB7⟩
   have HB7 := Lib.hid hB7
   clear hB7
   have HBc := Lib.hid (HBc.out.trans (HB7.out.mono HBc.out.size))
   simp only [Oper.upon]
   refine hK_ _ _ ?_
   clear hK_ K_
   refine tk 21 rfl rfl (by kernel_rfl) (fun _ _ _ h => h) (by rfl) (by intro w_; go_simp; try with_reducible rfl) ?_
   refine tk 22 rfl rfl (by kernel_rfl) (fun _ _ _ h => h) (by rfl) (by intro w_; go_simp; try with_reducible rfl) ?_
   refine wpAny_done (by kernel_rfl) ?_ _
   simp only [List.set_cons_zero, List.set_cons_succ]
   rotate_left
   all_goals
    have HF := Lib.hid (HW4.out.trans (HBc.out.mono HW4.out.size))
    clear HBc HB7 HK6 HB6 HKA HKB RA RB ia ib hu
    go_wp2_with fail
    go_ret
    exact ⟨rfl, HF.out⟩
theorem rng_A {w0 : World} {A : Option Addr} {l : List V} (h : k34.C w0 A l.length l) (k : Nat) (hk : k < l.length) : ∃ ad a0 a1 a2 a3 a4 a5 a6, A = some ad ∧ k34.K w0 (rd_T34 l (k : Int)) [a0, a1, a2, a3, a4, a5, a6] ∧
 ∀ w : World, Below w0.heap.size w0 w → w.cell? (ad.add (k * 7)) = some a0 ∧ w.cell? ⟨(ad.add (k * 7)).block, (ad.add (k * 7)).off + 1, none⟩ = some a1 ∧ w.cell? ⟨(ad.add (k * 7)).block, (ad.add (k * 7)).off + 2, none⟩ = some a2 ∧ w.cell? ⟨(ad.add (k * 7)).block, (ad.add (k * 7)).off + 3, none⟩ = some a3 ∧ w.cell? ⟨(ad.add (k * 7)).block, (ad.add (k * 7)).off + 4, none⟩ = some a4 ∧ w.cell? ⟨(ad.add (k * 7)).block, (ad.add (k * 7)).off + 5, none⟩ = some a5 ∧ w.cell? ⟨(ad.add (k * 7)).block, (ad.add (k * 7)).off + 6, none⟩ = some a6 := by
 obtain ⟨ad, a0, a1, a2, a3, a4, a5, a6, e, hK, p0, p1, p2, p3, p4, p5, p6⟩ := at_V h (Below.refl _ _) k hk
 exact ⟨ad, a0, a1, a2, a3, a4, a5, a6, e, hK, fun w hb => ⟨pw_cell_below hb p0, pw_cell_below hb p1, pw_cell_below hb p2, pw_cell_below hb p3, pw_cell_below hb p4, pw_cell_below hb p5, pw_cell_below hb p6⟩⟩
set_option maxHeartbeats 4000000 in
set_option maxRecDepth 100000 in
theorem keeps_walk (l : List V) (A : Option Addr) (c : Nat) (w : World) (hLD : LaidW w) (hl : l.length ≤ c) (hA : k34.C w A l.length l) (hO : ∀ x ∈ l, OkV x) (hn : l.length ≤ 1048576) :
 Calls Tryz.prog 4 #[.slice A l.length c] w fun e w' => e = .returned (.bool true) ∧ Below w.heap.size w w' := by
 have HL := Lib.hid hLD
 have HS : Hid (∀ W, Below w.heap.size w W → Calls Tryz.prog 11 #[.slice A l.length c] W (SortDone l l W)) := Lib.hid (fun W hW => Sort_any l A c W (hLD.below hW) (Kd.C_below hA hW) hO hn)
 by_cases h0 : lask l l = 0
 rotate_left
 · have HS2 : Hid (∀ W, Below w.heap.size w W → Calls Tryz.prog 11 #[.slice A l.length c] W fun e w' => e = .returned (.tuple #[.slice none 0 0, .int .i64 (lask l l)]) ∧ Below W.heap.size W w') := Lib.hid (fun W hW => (HS.out W hW).mono fun e w' h => by
    rcases h with ⟨⟨_, rfl⟩ | ⟨h1, _⟩, hb⟩
    · exact ⟨rfl, hb⟩
    · exact absurd h1 h0)
   have hq1 : (lask l l != 0) = true := by simpa using h0
   generalize lask l l = er at *
   clear hLD hl hA hO hn HS h0
   go_enter Tryz.func4, Tryz.ntmps4
   go_wp2_with (first
    | (go_at_call 9; (with_reducible refine (alive_any _ HL.out).mono ?_); rintro e w0 ⟨rfl, hB0⟩; have HB0 := Lib.hid hB0; clear hB0)
    | (go_at_call 11; (with_reducible refine (HS2.out _ HB0.out).mono ?_); rintro e w3 ⟨rfl, hB3⟩; have HB3 := Lib.hid (HB0.out.trans (hB3.mono HB0.out.size)); clear hB3)
    | (go_at_call 15; (with_reducible refine (num_any _ _).mono ?_); rintro e w5 ⟨rfl, hw5⟩; obtain rfl := hw5.symm))
   go_ret
   exact ⟨rfl, HB3.out⟩
 · have HS2 : Hid (∀ W, Below w.heap.size w W → Calls Tryz.prog 11 #[.slice A l.length c] W fun e w' => ∃ v ys, e = .returned (.tuple #[v, .int .i64 0]) ∧ (Hid (Sorted l l ys) ∧ Hid (k34.R 34 w' W.heap.size (fun _ => True) v ys)) ∧ Below W.heap.size W w') := Lib.hid (fun W hW => (HS.out W hW).mono fun e w' h => by
    rcases h with ⟨⟨h1, rfl⟩ | ⟨_, v, ys, rfl, hs, hr⟩, hb⟩
    · exact absurd h0 h1
    · exact ⟨_, _, rfl, ⟨Lib.hid hs, Lib.hid hr⟩, hb⟩)
   have HF : Hid (∀ ys, Sorted l l ys → ys.Perm l ∧ ys.Pairwise (fun x y => vord x y ≤ 0) ∧ lask ys ys = 0 ∧ (∀ zs, Sorted ys ys zs → zs = ys) ∧ (∀ x ∈ ys, OkV x) ∧ (∀ x ∈ ys, NumOk x)) := Lib.hid (fun ys h => ⟨h.perm, h.asc, lask_perm h0 h.perm, fun zs k => h.again k, fun x hx => hO x (h.perm.mem_iff.1 hx), fun x hx => (lask_zero h0).1 x (h.perm.mem_iff.1 hx)⟩)
   have HI : Hid (∀ ys, ys.Perm l → ∀ v ∈ l, iask ys v = 0 ∧ (iidx ys v).length = (iidx l v).length) := Lib.hid (fun ys hp v hv => ⟨iask_mem h0 hp hv, iidx_len h0 hp hv⟩)
   have HIX : Hid (∀ W, Below w.heap.size w W → ∀ v cs, v ∈ l → k34.K w v cs → Calls Tryz.prog 16 #[.slice A l.length c, .agg cs.toArray] W fun e w' => ∃ G g, e = .returned (.tuple #[.slice G (iidx l v).length g, .int .i64 0]) ∧ Below W.heap.size W w') := Lib.hid (fun W hW v cs hv hK => (Index_any l v A c cs W (hLD.below hW) (Kd.C_below hA hW) hO hn (k34.K_below hW hK) (hO v hv)).mono fun e w' ⟨G, g, h1, _, h2⟩ => ⟨G, g, by rw [h1, (HI.out l (List.Perm.refl _) v hv).1], h2⟩)
   have HA := Lib.hid hA
   have HO := Lib.hid hO
   obtain ⟨n, hn0⟩ : ∃ n, n = l.length := ⟨_, rfl⟩
   have HN := Lib.hid hn0
   rw [← hn0] at HS2 HIX hn hl
   rw [← hn0]
   clear hLD hA hO hn0 HS h0
   go_enter Tryz.func4, Tryz.ntmps4
   go_wp2_with (first
    | (go_at_call 9; (with_reducible refine (alive_any _ HL.out).mono ?_); rintro e w0 ⟨rfl, hB0⟩; have HB0 := Lib.hid hB0; clear hB0)
    | (go_at_call 11; (with_reducible refine (HS2.out _ HB0.out).mono ?_); rintro e w3 ⟨v3, ys, rfl, ⟨hs3, hr3⟩, hB3⟩; have HB3 := Lib.hid (HB0.out.trans (hB3.mono HB0.out.size)); clear hB3)
    | (go_at_call 15; (with_reducible refine (num_any _ _).mono ?_); rintro e w5 ⟨rfl, hw5⟩; obtain rfl := hw5.symm))
   obtain ⟨G3, c3, rfl⟩ := Kd.R_slice hr3.out
   have hr := Kd.R_reads' hr3.out
   have hyn : ys.length = n := by rw [(HF.out ys hs3.out).1.length_eq, ← HN.out]
   have HYN := Lib.hid hyn
   have HRR := hr3
   have hyc : n ≤ c3 := by rw [← hyn]; exact hr.2.1
   have HY : Hid (k34.C w3 G3 ys.length ys) := Lib.hid hr.2.2
   rw [hyn]
   have HIY : Hid (∀ W, Below w3.heap.size w3 W → ∀ v cs, v ∈ l → k34.K w v cs → Calls Tryz.prog 16 #[.slice G3 n c3, .agg cs.toArray] W fun e w' => ∃ G g, e = .returned (.tuple #[.slice G (iidx l v).length g, .int .i64 0]) ∧ Below W.heap.size W w') := Lib.hid (fun W hW v cs hv hK => by
    have hp := (HF.out ys hs3.out).1
    have := Index_any ys v G3 c3 cs W (HL.out.below (HB3.out.trans (hW.mono HB3.out.size))) (Kd.C_below HY.out hW) (HF.out ys hs3.out).2.2.2.2.1 (by rw [HYN.out]; exact hn) (k34.K_below (HB3.out.trans (hW.mono HB3.out.size)) hK) (HO.out v hv)
    rw [HYN.out] at this
    exact this.mono fun e w' ⟨G, g, h1, _, h2⟩ => ⟨G, g, by rw [h1, (HI.out ys hp v hv).1, (HI.out ys hp v hv).2], h2⟩)
   have HS4 : Hid (∀ W, Below w3.heap.size w3 W → Calls Tryz.prog 11 #[.slice G3 n c3] W fun e w' => ∃ G g, e = .returned (.tuple #[.slice G n g, .int .i64 0]) ∧ (n ≤ g ∧ k34.C w' G ys.length ys) ∧ Below W.heap.size W w') := Lib.hid (fun W hW => by
    have := Sort_any ys G3 c3 W (HL.out.below (HB3.out.trans (hW.mono HB3.out.size))) (Kd.C_below HY.out hW) (HF.out ys hs3.out).2.2.2.2.1 (by rw [HYN.out]; exact hn)
    rw [HYN.out] at this
    refine this.mono fun e w' h => ?_
    rcases h with ⟨⟨h1, rfl⟩ | ⟨_, v, zs, rfl, hs, hr9⟩, hb⟩
    · exact absurd (HF.out ys hs3.out).2.2.1 h1
    · obtain rfl := (HF.out ys hs3.out).2.2.2.1 zs hs
      obtain ⟨G, g, rfl⟩ := Kd.R_slice hr9
      have h3 := Kd.R_reads' hr9
      rw [HYN.out] at h3
      exact ⟨G, g, by rw [HYN.out], ⟨h3.2.1, by rw [HYN.out]; exact h3.2.2⟩, hb⟩)
   have HORD : Hid (∀ j, j + 1 < n → ∀ cs ds W, k34.K W (rd_T34 ys (j : Int)) cs → k34.K W (rd_T34 ys ((j + 1 : Nat) : Int)) ds → Calls Tryz.prog 17 #[.agg cs.toArray, .agg ds.toArray] W fun e w' => ∃ r : Int, e = .returned (.int .i64 r) ∧ Hid (¬ 0 < r) ∧ Below W.heap.size W w') := Lib.hid (fun j hj cs ds W hK hL => (Order05_any _ cs _ ds W hK hL ((HF.out ys hs3.out).2.2.2.2.2 _ (rd_mem (by rw [HYN.out]; omega))) ((HF.out ys hs3.out).2.2.2.2.2 _ (rd_mem (by rw [HYN.out]; exact hj)))).mono fun e w' ⟨h1, h2⟩ => ⟨_, h1, Lib.hid (by have := asc_next (HF.out ys hs3.out).2.1 (i := j) (by rw [HYN.out]; exact hj); omega), h2⟩)
   have HSA : Hid (∀ W G g, Below w3.heap.size w3 W → n ≤ g → k34.C W G ys.length ys → Calls Tryz.prog 14 #[.slice G3 n c3, .slice G n g] W fun e w' => e = .returned (.bool true) ∧ Below W.heap.size W w') := Lib.hid (fun W G g hW hg hC => by
    have := SameAll_any ys ys G3 c3 G g W (by rw [HYN.out]; exact hyc) (Kd.C_below HY.out hW) (by rw [HYN.out]; exact hg) hC
    rw [same_refl, HYN.out] at this
    exact this)
   clear hr hyn hyc hl HF HI hs3 hr3 HS2 HO HB0 HL
   go_loopw [5] (fun vi wr => ∃ k : Nat, k ≤ n ∧ vi = .int .i64 k ∧ Hid (Below w3.heap.size w3 wr)) (fun vi _ => n - (intOf vi).toNat)
   case atStart => exact ⟨0, Nat.zero_le _, rfl, Lib.hid (Below.refl _ _)⟩
   case round =>
    obtain ⟨k, hk, rfl, HBR⟩ := hrel
    by_cases hlt : k < n
    · have hlt2 : (k : Int) < (n : Int) := by omega
      have hk0 : (0 : Int) ≤ (k : Int) := by omega
      obtain ⟨ad, a0, a1, a2, a3, a4, a5, a6, hAd, hKa, ra⟩ := rng_A HA.out k (by rw [← HN.out]; exact hlt)
      subst hAd
      have hmem : rd_T34 l (k : Int) ∈ l := rd_mem (by rw [← HN.out]; exact hlt)
      have HI1 := Lib.hid (fun W hW => HIX.out W hW _ _ hmem hKa)
      have HI2 := Lib.hid (fun W hW => HIY.out W hW _ _ hmem hKa)
      obtain ⟨m, hm⟩ : ∃ m, m = (iidx l (rd_T34 l (k : Int))).length := ⟨_, rfl⟩
      rw [← hm] at HI1 HI2
      have RA := Lib.hid ra
      clear hKa ra hmem hm
      obtain ⟨p0, p1, p2, p3, p4, p5, p6⟩ := RA.out _ (HB3.out.trans (HBR.out.mono HB3.out.size))
      go_upto_region 10 with (go_at_call 16; (with_reducible refine (HI1.out _ (HB3.out.trans (HBR.out.mono HB3.out.size))).mono ?_); rintro e w6 ⟨G6, g6, rfl, hB6⟩; have HB6 := Lib.hid (HBR.out.trans (hB6.mono HBR.out.size)); clear hB6)
      clear p0 p1 p2 p3 p4 p5 p6
      obtain ⟨p0, p1, p2, p3, p4, p5, p6⟩ := RA.out _ (HB3.out.trans (HB6.out.mono HB3.out.size))
      go_upto_region 11 with (go_at_call 16; (with_reducible refine (HI2.out _ HB6.out).mono ?_); rintro e w7 ⟨G7, g7, rfl, hB7⟩; have HB7 := Lib.hid (HB6.out.trans (hB7.mono HB6.out.size)); clear hB7)
      clear p0 p1 p2 p3 p4 p5 p6
      have HBc : Hid (Below w7.heap.size w7 w7.drew) := Lib.hid (below_drew (Below.refl _ _))
      clear RA HI1 HI2 HBR HB6
      cases k with
      | zero =>
       have hz0 : ¬ (0 : Int) < ((0 : Nat) : Int) := by omega
       clear HORD
       refine wp_region_any (by kernel_rfl) ?_
       change wpAny _ _ _ _ _ _ _ (World.drew _)
       refine tk 0 rfl rfl (by kernel_rfl) (fun _ _ _ h => h) (by rfl) (by intro w_; go_simp; try with_reducible rfl) ?_
       refine tk 2 rfl rfl (by kernel_rfl) (fun _ _ _ h => h) (by rfl) (by intro w_; go_simp; try with_reducible rfl) ?_
       simp only [List.set_cons_zero, List.set_cons_succ]
       refine one 1 rfl (by kernel_rfl) (by rfl) fun K_ hK_ => ?_
       simp only [List.getElem_toArray, List.getElem_cons_succ, List.getElem_cons_zero]
       go_simp
       refine (num_any _ _).mono ?_
       rintro e_ w5_ ⟨rfl, hw5_⟩
       obtain rfl := hw5_.symm
       simp only [Oper.upon]
       refine hK_ _ _ ?_
       clear hK_ K_
       refine one 3 rfl (by kernel_rfl) (by rfl) fun K_ hK_ => ?_
       simp only [List.getElem_toArray, List.getElem_cons_succ, List.getElem_cons_zero]
       go_simp
       refine (num_any _ _).mono ?_
       rintro e_ w5_ ⟨rfl, hw5_⟩
       obtain rfl := hw5_.symm
       simp only [Oper.upon]
       refine hK_ _ _ ?_
       clear hK_ K_
       refine tk 4 rfl rfl (by kernel_rfl) (fun _ _ _ h => h) (by rfl) (by intro w_; go_simp; try with_reducible rfl) ?_
       refine tk 5 rfl rfl (by kernel_rfl) (fun _ _ _ h => h) (by rfl) (by intro w_; go_simp; try with_reducible rfl) ?_
       simp only [List.set_cons_zero, List.set_cons_succ]
       refine tk 6 rfl rfl (by kernel_rfl) (fun _ _ _ h => h) (by rfl) (by intro w_; go_simp; try with_reducible rfl) ?_
       refine tk 7 rfl rfl (by kernel_rfl) (fun _ _ _ h => h) (by rfl) (by intro w_; go_simp; try with_reducible rfl) ?_
       simp only [List.set_cons_zero, List.set_cons_succ]
       refine tk 9 rfl rfl (by kernel_rfl) (fun _ _ _ h => h) (by rfl) (by intro w_; go_simp; try with_reducible rfl) ?_
       simp only [List.set_cons_zero, List.set_cons_succ]
       refine two 8 10 rfl rfl (by kernel_rfl) (by rfl) (by rfl) (fun K_ hK_ => ?_) (fun K_ hK_ => ?_)
       simp only [List.getElem_toArray, List.getElem_cons_succ, List.getElem_cons_zero]
       go_simp
       refine hK_ _ _ ?_
       clear hK_ K_
       refine one 10 rfl (by kernel_rfl) (by rfl) fun K_ hK_ => ?_
       simp only [List.getElem_toArray, List.getElem_cons_succ, List.getElem_cons_zero]
       go_simp
       refine hK_ _ _ ?_
       clear hK_ K_
       refine tk 11 rfl rfl (by kernel_rfl) (fun _ _ _ h => h) (by rfl) (by intro w_; go_simp; try with_reducible rfl) ?_
       refine tk 12 rfl rfl (by kernel_rfl) (fun _ _ _ h => h) (by rfl) (by intro w_; go_simp; try with_reducible rfl) ?_
       simp only [List.set_cons_zero, List.set_cons_succ]
       refine tk 13 rfl rfl (by kernel_rfl) (fun _ _ _ h => h) (by rfl) (by intro w_; go_simp; try with_reducible rfl) ?_
       refine tk 14 rfl rfl (by kernel_rfl) (fun _ _ _ h => h) (by rfl) (by intro w_; go_simp; try with_reducible rfl) ?_
       simp only [List.set_cons_zero, List.set_cons_succ]
       refine tk 15 rfl rfl (by kernel_rfl) (fun _ _ _ h => h) (by rfl) (by intro w_; go_simp; try with_reducible rfl) ?_
       refine tk 16 rfl rfl (by kernel_rfl) (fun _ _ _ h => h) (by rfl) (by intro w_; go_simp; try with_reducible rfl) ?_
       simp only [List.set_cons_zero, List.set_cons_succ]
       refine sk 17 rfl rfl (by kernel_rfl) (fun _ _ _ h => h) (by rfl) ?_
       refine sk 18 rfl rfl (by kernel_rfl) (fun _ _ _ h => h) (by rfl) ?_
       simp only [List.set_cons_zero, List.set_cons_succ]
       refine sk 19 rfl rfl (by kernel_rfl) (fun _ _ _ h => h) (by rfl) ?_
       refine sk 20 rfl rfl (by kernel_rfl) (fun _ _ _ h => h) (by rfl) ?_
       simp only [List.set_cons_zero, List.set_cons_succ]
       refine sk 21 rfl rfl (by kernel_rfl) (fun _ _ _ h => h) (by rfl) ?_
       refine sk 22 rfl rfl (by kernel_rfl) (fun _ _ _ h => h) (by rfl) ?_
       simp only [List.set_cons_zero, List.set_cons_succ]
       refine sk 23 rfl rfl (by kernel_rfl) (fun _ _ _ h => h) (by rfl) ?_
       refine sk 24 rfl rfl (by kernel_rfl) (fun _ _ _ h => h) (by rfl) ?_
       simp only [List.set_cons_zero, List.set_cons_succ]
       refine sk 25 rfl rfl (by kernel_rfl) (fun _ _ _ h => h) (by rfl) ?_
       refine sk 26 rfl rfl (by kernel_rfl) (fun _ _ _ h => h) (by rfl) ?_
       simp only [List.set_cons_zero, List.set_cons_succ]
       refine sk 27 rfl rfl (by kernel_rfl) (fun _ _ _ h => h) (by rfl) ?_
       refine tk 28 rfl rfl (by kernel_rfl) (fun _ _ _ h => h) (by rfl) (by intro w_; go_simp; try with_reducible rfl) ?_
       simp only [List.set_cons_zero, List.set_cons_succ]
       refine tk 29 rfl rfl (by kernel_rfl) (fun _ _ _ h => h) (by rfl) (by intro w_; go_simp; try with_reducible rfl) ?_
       refine wpAny_done (by kernel_rfl) ?_ _
       simp only [List.set_cons_zero, List.set_cons_succ]
       rotate_left
       simp only [List.getElem_toArray, List.getElem_cons_succ, List.getElem_cons_zero]
       go_simp
       refine hK_ _ _ ?_
       clear hK_ K_
       refine one 8 rfl (by kernel_rfl) (by rfl) fun K_ hK_ => ?_
       simp only [List.getElem_toArray, List.getElem_cons_succ, List.getElem_cons_zero]
       go_simp
       refine hK_ _ _ ?_
       clear hK_ K_
       refine tk 11 rfl rfl (by kernel_rfl) (fun _ _ _ h => h) (by rfl) (by intro w_; go_simp; try with_reducible rfl) ?_
       refine tk 12 rfl rfl (by kernel_rfl) (fun _ _ _ h => h) (by rfl) (by intro w_; go_simp; try with_reducible rfl) ?_
       simp only [List.set_cons_zero, List.set_cons_succ]
       refine tk 13 rfl rfl (by kernel_rfl) (fun _ _ _ h => h) (by rfl) (by intro w_; go_simp; try with_reducible rfl) ?_
       refine tk 14 rfl rfl (by kernel_rfl) (fun _ _ _ h => h) (by rfl) (by intro w_; go_simp; try with_reducible rfl) ?_
       simp only [List.set_cons_zero, List.set_cons_succ]
       refine tk 15 rfl rfl (by kernel_rfl) (fun _ _ _ h => h) (by rfl) (by intro w_; go_simp; try with_reducible rfl) ?_
       refine tk 16 rfl rfl (by kernel_rfl) (fun _ _ _ h => h) (by rfl) (by intro w_; go_simp; try with_reducible rfl) ?_
       simp only [List.set_cons_zero, List.set_cons_succ]
       refine sk 17 rfl rfl (by kernel_rfl) (fun _ _ _ h => h) (by rfl) ?_
       refine sk 18 rfl rfl (by kernel_rfl) (fun _ _ _ h => h) (by rfl) ?_
       simp only [List.set_cons_zero, List.set_cons_succ]
       refine sk 19 rfl rfl (by kernel_rfl) (fun _ _ _ h => h) (by rfl) ?_
       refine sk 20 rfl rfl (by kernel_rfl) (fun _ _ _ h => h) (by rfl) ?_
       simp only [List.set_cons_zero, List.set_cons_succ]
       refine sk 21 rfl rfl (by kernel_rfl) (fun _ _ _ h => h) (by rfl) ?_
       refine sk 22 rfl rfl (by kernel_rfl) (fun _ _ _ h => h) (by rfl) ?_
       simp only [List.set_cons_zero, List.set_cons_succ]
       refine sk 23 rfl rfl (by kernel_rfl) (fun _ _ _ h => h) (by rfl) ?_
       refine sk 24 rfl rfl (by kernel_rfl) (fun _ _ _ h => h) (by rfl) ?_
       simp only [List.set_cons_zero, List.set_cons_succ]
       refine sk 25 rfl rfl (by kernel_rfl) (fun _ _ _ h => h) (by rfl) ?_
       refine sk 26 rfl rfl (by kernel_rfl) (fun _ _ _ h => h) (by rfl) ?_
       simp only [List.set_cons_zero, List.set_cons_succ]
       refine sk 27 rfl rfl (by kernel_rfl) (fun _ _ _ h => h) (by rfl) ?_
       refine tk 28 rfl rfl (by kernel_rfl) (fun _ _ _ h => h) (by rfl) (by intro w_; go_simp; try with_reducible rfl) ?_
       simp only [List.set_cons_zero, List.set_cons_succ]
       refine tk 29 rfl rfl (by kernel_rfl) (fun _ _ _ h => h) (by rfl) (by intro w_; go_simp; try with_reducible rfl) ?_
       refine wpAny_done (by kernel_rfl) ?_ _
       simp only [List.set_cons_zero, List.set_cons_succ]
       rotate_left
       all_goals
        have HF := Lib.hid (HB7.out.trans (HBc.out.mono HB7.out.size))
        clear HBc
        go_wp2_with fail
        go_roundw
        case rel => exact ⟨1, by omega, by go_num, HF⟩
        case measure => simp [intOf]; omega
      | succ j =>
       have hz0 : (0 : Int) < ((j + 1 : Nat) : Int) := by omega
       have hz1 : decide (0 < j + 1) = true := by simp
       obtain ⟨g, hG⟩ : ∃ g, G3 = some ⟨g, 0, none⟩ := by
        obtain ⟨g, c4, e, -⟩ := Kd.R_form HRR.out (by rw [HYN.out]; omega)
        injection e with e1
        exact ⟨g, e1⟩
       subst hG
       obtain ⟨cy, ly, hKy, ry⟩ := rng_V HY.out j (by rw [HYN.out]; omega)
       obtain ⟨cz, lz, hKz, rz⟩ := rng_V HY.out (j + 1) (by rw [HYN.out]; omega)
       have HKY := Lib.hid hKy
       have HKZ := Lib.hid hKz
       have RY := Lib.hid ry
       have RZ := Lib.hid rz
       have HOC := Lib.hid (fun W (hW : Below w3.heap.size w3 W) => HORD.out j hlt cy cz W (k34.K_below hW hKy) (k34.K_below hW hKz))
       have iy := info_V cy ly
       have iz := info_V cz lz
       have hu := Tryz.underlying34
       have hsub : IntKind.i64.wrap (((j + 1 : Nat) : Int) - 1) = (j : Int) := by rw [wrap_in _ (by omega)]; omega
       have hsub' : IntKind.i64.wrap (j : Int) = (j : Int) := wrap_in _ (by omega)
       have hsb1 : (0 : Int) ≤ (j : Int) := by omega
       have hsb3 : (0 : Int) ≤ (j : Int) + 1 := by omega
       have hsb4 : (j : Int) + 1 < (n : Int) := by omega
       have hsb2 : (j : Int) < (n : Int) := by omega
       clear hKy hKz ly lz ry rz HORD
       refine wp_region_any (by kernel_rfl) ?_
       change wpAny _ _ _ _ _ _ _ (World.drew _)
       refine tk 0 rfl rfl (by kernel_rfl) (fun _ _ _ h => h) (by rfl) (by intro w_; go_simp; try with_reducible rfl) ?_
       refine tk 2 rfl rfl (by kernel_rfl) (fun _ _ _ h => h) (by rfl) (by intro w_; go_simp; try with_reducible rfl) ?_
       simp only [List.set_cons_zero, List.set_cons_succ]
       refine one 1 rfl (by kernel_rfl) (by rfl) fun K_ hK_ => ?_
       simp only [List.getElem_toArray, List.getElem_cons_succ, List.getElem_cons_zero]
       go_simp
       refine (num_any _ _).mono ?_
       rintro e_ w5_ ⟨rfl, hw5_⟩
       obtain rfl := hw5_.symm
       simp only [Oper.upon]
       refine hK_ _ _ ?_
       clear hK_ K_
       refine one 3 rfl (by kernel_rfl) (by rfl) fun K_ hK_ => ?_
       simp only [List.getElem_toArray, List.getElem_cons_succ, List.getElem_cons_zero]
       go_simp
       refine (num_any _ _).mono ?_
       rintro e_ w5_ ⟨rfl, hw5_⟩
       obtain rfl := hw5_.symm
       simp only [Oper.upon]
       refine hK_ _ _ ?_
       clear hK_ K_
       refine tk 4 rfl rfl (by kernel_rfl) (fun _ _ _ h => h) (by rfl) (by intro w_; go_simp; try with_reducible rfl) ?_
       refine tk 5 rfl rfl (by kernel_rfl) (fun _ _ _ h => h) (by rfl) (by intro w_; go_simp; try with_reducible rfl) ?_
       simp only [List.set_cons_zero, List.set_cons_succ]
       refine tk 6 rfl rfl (by kernel_rfl) (fun _ _ _ h => h) (by rfl) (by intro w_; go_simp; try with_reducible rfl) ?_
       refine tk 7 rfl rfl (by kernel_rfl) (fun _ _ _ h => h) (by rfl) (by intro w_; go_simp; try with_reducible rfl) ?_
       simp only [List.set_cons_zero, List.set_cons_succ]
       refine tk 9 rfl rfl (by kernel_rfl) (fun _ _ _ h => h) (by rfl) (by intro w_; go_simp; try with_reducible rfl) ?_
       simp only [List.set_cons_zero, List.set_cons_succ]
       refine two 8 10 rfl rfl (by kernel_rfl) (by rfl) (by rfl) (fun K_ hK_ => ?_) (fun K_ hK_ => ?_)
       simp only [List.getElem_toArray, List.getElem_cons_succ, List.getElem_cons_zero]
       go_simp
       refine hK_ _ _ ?_
       clear hK_ K_
       refine one 10 rfl (by kernel_rfl) (by rfl) fun K_ hK_ => ?_
       simp only [List.getElem_toArray, List.getElem_cons_succ, List.getElem_cons_zero]
       go_simp
       refine hK_ _ _ ?_
       clear hK_ K_
       refine tk 11 rfl rfl (by kernel_rfl) (fun _ _ _ h => h) (by rfl) (by intro w_; go_simp; try with_reducible rfl) ?_
       refine tk 12 rfl rfl (by kernel_rfl) (fun _ _ _ h => h) (by rfl) (by intro w_; go_simp; try with_reducible rfl) ?_
       simp only [List.set_cons_zero, List.set_cons_succ]
       refine tk 13 rfl rfl (by kernel_rfl) (fun _ _ _ h => h) (by rfl) (by intro w_; go_simp; try with_reducible rfl) ?_
       refine tk 14 rfl rfl (by kernel_rfl) (fun _ _ _ h => h) (by rfl) (by intro w_; go_simp; try with_reducible rfl) ?_
       simp only [List.set_cons_zero, List.set_cons_succ]
       refine tk 15 rfl rfl (by kernel_rfl) (fun _ _ _ h => h) (by rfl) (by intro w_; go_simp; try with_reducible rfl) ?_
       refine tk 16 rfl rfl (by kernel_rfl) (fun _ _ _ h => h) (by rfl) (by intro w_; go_simp; try with_reducible rfl) ?_
       simp only [List.set_cons_zero, List.set_cons_succ]
       refine tk 17 rfl rfl (by kernel_rfl) (fun _ _ _ h => h) (by rfl) (by intro w_; go_simp; try with_reducible rfl) ?_
       refine tk 18 rfl rfl (by kernel_rfl) (fun _ _ _ h => h) (by rfl) (by intro w_; go_simp; try with_reducible rfl) ?_
       simp only [List.set_cons_zero, List.set_cons_succ]
       refine tk 19 rfl rfl (by kernel_rfl) (fun _ _ _ h => h) (by rfl) (by intro w_; go_simp; try with_reducible rfl) ?_
       refine tk 20 rfl rfl (by kernel_rfl) (fun _ _ _ h => h) (by rfl) (by intro w_; go_simp; try with_reducible rfl) ?_
       simp only [List.set_cons_zero, List.set_cons_succ]
       refine tk 22 rfl rfl (by kernel_rfl) (fun _ _ _ h => h) (by rfl) (by intro w_; go_simp; try with_reducible rfl) ?_
       refine tk 23 rfl rfl (by kernel_rfl) (fun _ _ _ h => h) (by rfl) (by intro w_; go_simp; try with_reducible rfl) ?_
       simp only [List.set_cons_zero, List.set_cons_succ]
       refine tk 24 rfl rfl (by kernel_rfl) (fun _ _ _ h => h) (by rfl) (by intro w_; go_simp; try with_reducible rfl) ?_
       simp only [List.set_cons_zero, List.set_cons_succ]
       refine two 21 25 rfl rfl (by kernel_rfl) (by rfl) (by rfl) (fun K_ hK_ => ?_) (fun K_ hK_ => ?_)
       have rx := RY.out _ (HB7.out.trans (HBc.out.mono HB7.out.size))
       refine wp_load_mid _ _ rfl _ _ rfl _ _ rx hu rfl iy ?_
       refine hK_ _ _ ?_
       clear hK_ K_
       simp only [Act.put, List.getElem_toArray, List.getElem_cons_zero, List.getElem_cons_succ, List.setIfInBounds_toArray, List.set_cons_zero, List.set_cons_succ]
       refine one 25 rfl (by kernel_rfl) (by rfl) fun K_ hK_ => ?_
       have rx := RZ.out _ (HB7.out.trans (HBc.out.mono HB7.out.size))
       refine wp_load_mid _ _ rfl _ _ rfl _ _ rx hu rfl iz ?_
       refine hK_ _ _ ?_
       clear hK_ K_
       simp only [Act.put, List.getElem_toArray, List.getElem_cons_zero, List.getElem_cons_succ, List.setIfInBounds_toArray, List.set_cons_zero, List.set_cons_succ]
       refine one 26 rfl (by kernel_rfl) (by rfl) fun K_ hK_ => ?_
       simp only [List.getElem_toArray, List.getElem_cons_succ, List.getElem_cons_zero]
       go_simp
       refine (HOC.out _ (HB7.out.trans (HBc.out.mono HB7.out.size))).mono ?_
       rintro e_ w8 ⟨r8, rfl, HR8, hB8⟩
       have HBc := Lib.hid (HBc.out.trans (hB8.mono HBc.out.size))
       clear hB8
       have hr8b : decide (0 < r8) = false := decide_eq_false (by have := HR8.out; omega)
       have hr8 : r8 ≤ 0 := by have := HR8.out; omega
       simp only [Oper.upon]
       refine hK_ _ _ ?_
       clear hK_ K_
       refine tk 27 rfl rfl (by kernel_rfl) (fun _ _ _ h => h) (by rfl) (by intro w_; go_simp; try with_reducible rfl) ?_
       refine tk 28 rfl rfl (by kernel_rfl) (fun _ _ _ h => h) (by rfl) (by intro w_; go_simp; try with_reducible rfl) ?_
       simp only [List.set_cons_zero, List.set_cons_succ]
       refine tk 29 rfl rfl (by kernel_rfl) (fun _ _ _ h => h) (by rfl) (by intro w_; go_simp; try with_reducible rfl) ?_
       refine wpAny_done (by kernel_rfl) ?_ _
       simp only [List.set_cons_zero, List.set_cons_succ]
       rotate_left
       have rx := RZ.out _ (HB7.out.trans (HBc.out.mono HB7.out.size))
       refine wp_load_mid _ _ rfl _ _ rfl _ _ rx hu rfl iz ?_
       refine hK_ _ _ ?_
       clear hK_ K_
       simp only [Act.put, List.getElem_toArray, List.getElem_cons_zero, List.getElem_cons_succ, List.setIfInBounds_toArray, List.set_cons_zero, List.set_cons_succ]
       refine one 21 rfl (by kernel_rfl) (by rfl) fun K_ hK_ => ?_
       have rx := RY.out _ (HB7.out.trans (HBc.out.mono HB7.out.size))
       refine wp_load_mid _ _ rfl _ _ rfl _ _ rx hu rfl iy ?_
       refine hK_ _ _ ?_
       clear hK_ K_
       simp only [Act.put, List.getElem_toArray, List.getElem_cons_zero, List.getElem_cons_succ, List.setIfInBounds_toArray, List.set_cons_zero, List.set_cons_succ]
       refine one 26 rfl (by kernel_rfl) (by rfl) fun K_ hK_ => ?_
       simp only [List.getElem_toArray, List.getElem_cons_succ, List.getElem_cons_zero]
       go_simp
       refine (HOC.out _ (HB7.out.trans (HBc.out.mono HB7.out.size))).mono ?_
       rintro e_ w8 ⟨r8, rfl, HR8, hB8⟩
       have HBc := Lib.hid (HBc.out.trans (hB8.mono HBc.out.size))
       clear hB8
       have hr8b : decide (0 < r8) = false := decide_eq_false (by have := HR8.out; omega)
       have hr8 : r8 ≤ 0 := by have := HR8.out; omega
       simp only [Oper.upon]
       refine hK_ _ _ ?_
       clear hK_ K_
       refine tk 27 rfl rfl (by kernel_rfl) (fun _ _ _ h => h) (by rfl) (by intro w_; go_simp; try with_reducible rfl) ?_
       refine tk 28 rfl rfl (by kernel_rfl) (fun _ _ _ h => h) (by rfl) (by intro w_; go_simp; try with_reducible rfl) ?_
       simp only [List.set_cons_zero, List.set_cons_succ]
       refine tk 29 rfl rfl (by kernel_rfl) (fun _ _ _ h => h) (by rfl) (by intro w_; go_simp; try with_reducible rfl) ?_
       refine wpAny_done (by kernel_rfl) ?_ _
       simp only [List.set_cons_zero, List.set_cons_succ]
       rotate_left
       simp only [List.getElem_toArray, List.getElem_cons_succ, List.getElem_cons_zero]
       go_simp
       refine hK_ _ _ ?_
       clear hK_ K_
       refine one 8 rfl (by kernel_rfl) (by rfl) fun K_ hK_ => ?_
       simp only [List.getElem_toArray, List.getElem_cons_succ, List.getElem_cons_zero]
       go_simp
       refine hK_ _ _ ?_
       clear hK_ K_
       refine tk 11 rfl rfl (by kernel_rfl) (fun _ _ _ h => h) (by rfl) (by intro w_; go_simp; try with_reducible rfl) ?_
       refine tk 12 rfl rfl (by kernel_rfl) (fun _ _ _ h => h) (by rfl) (by intro w_; go_simp; try with_reducible rfl) ?_
       simp only [List.set_cons_zero, List.set_cons_succ]
       refine tk 13 rfl rfl (by kernel_rfl) (fun _ _ _ h => h) (by rfl) (by intro w_; go_simp; try with_reducible rfl) ?_
       refine tk 14 rfl rfl (by kernel_rfl) (fun _ _ _ h => h) (by rfl) (by intro w_; go_simp; try with_reducible rfl) ?_
       simp only [List.set_cons_zero, List.set_cons_succ]
       refine tk 15 rfl rfl (by kernel_rfl) (fun _ _ _ h => h) (by rfl) (by intro w_; go_simp; try with_reducible rfl) ?_
       refine tk 16 rfl rfl (by kernel_rfl) (fun _ _ _ h => h) (by rfl) (by intro w_; go_simp; try with_reducible rfl) ?_
       simp only [List.set_cons_zero, List.set_cons_succ]
       refine tk 17 rfl rfl (by kernel_rfl) (fun _ _ _ h => h) (by rfl) (by intro w_; go_simp; try with_reducible rfl) ?_
       refine tk 18 rfl rfl (by kernel_rfl) (fun _ _ _ h => h) (by rfl) (by intro w_; go_simp; try with_reducible rfl) ?_
       simp only [List.set_cons_zero, List.set_cons_succ]
       refine tk 19 rfl rfl (by kernel_rfl) (fun _ _ _ h => h) (by rfl) (by intro w_; go_simp; try with_reducible rfl) ?_
       refine tk 20 rfl rfl (by kernel_rfl) (fun _ _ _ h => h) (by rfl) (by intro w_; go_simp; try with_reducible rfl) ?_
       simp only [List.set_cons_zero, List.set_cons_succ]
       refine tk 22 rfl rfl (by kernel_rfl) (fun _ _ _ h => h) (by rfl) (by intro w_; go_simp; try with_reducible rfl) ?_
       refine tk 23 rfl rfl (by kernel_rfl) (fun _ _ _ h => h) (by rfl) (by intro w_; go_simp; try with_reducible rfl) ?_
       simp only [List.set_cons_zero, List.set_cons_succ]
       refine tk 24 rfl rfl (by kernel_rfl) (fun _ _ _ h => h) (by rfl) (by intro w_; go_simp; try with_reducible rfl) ?_
       simp only [List.set_cons_zero, List.set_cons_succ]
       refine two 21 25 rfl rfl (by kernel_rfl) (by rfl) (by rfl) (fun K_ hK_ => ?_) (fun K_ hK_ => ?_)
       have rx := RY.out _ (HB7.out.trans (HBc.out.mono HB7.out.size))
       refine wp_load_mid _ _ rfl _ _ rfl _ _ rx hu rfl iy ?_
       refine hK_ _ _ ?_
       clear hK_ K_
       simp only [Act.put, List.getElem_toArray, List.getElem_cons_zero, List.getElem_cons_succ, List.setIfInBounds_toArray, List.set_cons_zero, List.set_cons_succ]
       refine one 25 rfl (by kernel_rfl) (by rfl) fun K_ hK_ => ?_
       have rx := RZ.out _ (HB7.out.trans (HBc.out.mono HB7.out.size))
       refine wp_load_mid _ _ rfl _ _ rfl _ _ rx hu rfl iz ?_
       refine hK_ _ _ ?_
       clear hK_ K_
       simp only [Act.put, List.getElem_toArray, List.getElem_cons_zero, List.getElem_cons_succ, List.setIfInBounds_toArray, List.set_cons_zero, List.set_cons_succ]
       refine one 26 rfl (by kernel_rfl) (by rfl) fun K_ hK_ => ?_
       simp only [List.getElem_toArray, List.getElem_cons_succ, List.getElem_cons_zero]
       go_simp
       refine (HOC.out _ (HB7.out.trans (HBc.out.mono HB7.out.size))).mono ?_
       rintro e_ w8 ⟨r8, rfl, HR8, hB8⟩
       have HBc := Lib.hid (HBc.out.trans (hB8.mono HBc.out.size))
       clear hB8
       have hr8b : decide (0 < r8) = false := decide_eq_false (by have := HR8.out; omega)
       have hr8 : r8 ≤ 0 := by have := HR8.out; omega
       simp only [Oper.upon]
       refine hK_ _ _ ?_
       clear hK_ K_
       refine tk 27 rfl rfl (by kernel_rfl) (fun _ _ _ h => h) (by rfl) (by intro w_; go_simp; try with_reducible rfl) ?_
       refine tk 28 rfl rfl (by kernel_rfl) (fun _ _ _ h => h) (by rfl) (by intro w_; go_simp; try with_reducible rfl) ?_
       simp only [List.set_cons_zero, List.set_cons_succ]
       refine tk 29 rfl rfl (by kernel_rfl) (fun _ _ _ h => h) (by rfl) (by intro w_; go_simp; try with_reducible rfl) ?_
       refine wpAny_done (by kernel_rfl) ?_ _
       simp only [List.set_cons_zero, List.set_cons_succ]
       rotate_left
       have rx := RZ.out _ (HB7.out.trans (HBc.out.mono HB7.out.size))
       refine wp_load_mid _ _ rfl _ _ rfl _ _ rx hu rfl iz ?_
       refine hK_ _ _ ?_
       clear hK_ K_
       simp only [Act.put, List.getElem_toArray, List.getElem_cons_zero, List.getElem_cons_succ, List.setIfInBounds_toArray, List.set_cons_zero, List.set_cons_succ]
       refine one 21 rfl (by kernel_rfl) (by rfl) fun K_ hK_ => ?_
       have rx := RY.out _ (HB7.out.trans (HBc.out.mono HB7.out.size))
       refine wp_load_mid _ _ rfl _ _ rfl _ _ rx hu rfl iy ?_
       refine hK_ _ _ ?_
       clear hK_ K_
       simp only [Act.put, List.getElem_toArray, List.getElem_cons_zero, List.getElem_cons_succ, List.setIfInBounds_toArray, List.set_cons_zero, List.set_cons_succ]
       refine one 26 rfl (by kernel_rfl) (by rfl) fun K_ hK_ => ?_
       simp only [List.getElem_toArray, List.getElem_cons_succ, List.getElem_cons_zero]
       go_simp
       refine (HOC.out _ (HB7.out.trans (HBc.out.mono HB7.out.size))).mono ?_
       rintro e_ w8 ⟨r8, rfl, HR8, hB8⟩
       have HBc := Lib.hid (HBc.out.trans (hB8.mono HBc.out.size))
       clear hB8
       have hr8b : decide (0 < r8) = false := decide_eq_false (by have := HR8.out; omega)
       have hr8 : r8 ≤ 0 := by have := HR8.out; omega
       simp only [Oper.upon]
       refine hK_ _ _ ?_
       clear hK_ K_
       refine tk 27 rfl rfl (by kernel_rfl) (fun _ _ _ h => h) (by rfl) (by intro w_; go_simp; try with_reducible rfl) ?_
       refine tk 28 rfl rfl (by kernel_rfl) (fun _ _ _ h => h) (by rfl) (by intro w_; go_simp; try with_reducible rfl) ?_
       simp only [List.set_cons_zero, List.set_cons_succ]
       refine tk 29 rfl rfl (by kernel_rfl) (fun _ _ _ h => h) (by rfl) (by intro w_; go_simp; try with_reducible rfl) ?_
       refine wpAny_done (by kernel_rfl) ?_ _
       simp only [List.set_cons_zero, List.set_cons_succ]
       rotate_left
       all_goals
        have HF := Lib.hid (HB7.out.trans (HBc.out.mono HB7.out.size))
        clear HBc
        go_wp2_with fail
        exact ⟨⟨j + 1 + 1, by omega, congrArg (Value.int .i64) (by omega), HF⟩, by show n - ((j : Int) + 1 + 1).toNat < n - ((j + 1 : Nat) : Int).toNat; omega⟩
    · obtain rfl : k = n := by omega
      have hlt2 : ¬ (k : Int) < (k : Int) := by omega
      go_wp2_with (first
       | (go_at_call 11; (with_reducible refine (HS4.out _ HBR.out).mono ?_); rintro e w8 ⟨G8, g8, rfl, hf8, hB8⟩; have HF8 := Lib.hid hf8; have HB8 := Lib.hid (HBR.out.trans (hB8.mono HBR.out.size)); clear hB8 hf8)
       | (go_at_call 15; (with_reducible refine (num_any _ _).mono ?_); rintro e w9 ⟨rfl, hw9⟩; obtain rfl := hw9.symm)
       | (go_at_call 14; (with_reducible refine (HSA.out _ _ _ HB8.out HF8.out.1 HF8.out.2).mono ?_); rintro e w10 ⟨rfl, hB10⟩; have HB10 := Lib.hid (HB8.out.trans (hB10.mono HB8.out.size)); clear hB10))
      go_ret
      exact ⟨rfl, HB3.out.trans (HB10.out.mono HB3.out.size)⟩
end Go.Proofs.YtmfpakolfpoamaaGreatDoor.P

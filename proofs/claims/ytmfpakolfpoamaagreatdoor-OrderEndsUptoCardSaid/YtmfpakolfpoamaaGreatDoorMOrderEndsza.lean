/- Texts of this claim, one behind the other. -/
import Derived.Test.YtmfpakolfpoamaaGreatDoorMOrderEndsz
import Derived.Test.YtmfpakolfpoamaaGreatDoorMOrderEndsl
import Derived.Test.YtmfpakolfpoamaaGreatDoorMOrderEndse
import Derived.Test.YtmfpakolfpoamaaGreatDoorRows
import Derived.ChangeArms
import Derived.ChangeSlices
import Derived.DataReads
import Derived.DataElems
/- The page's example of chapter 06 (alive). NOT BUILT: a draft. -/
namespace Go.Proofs.YtmfpakolfpoamaaGreatDoor.P
set_option linter.unusedVariables false
set_option linter.unusedSimpArgs false
open Go.RowKit Go.Proofs.YtmfpakolfpoamaaGreatDoorW.PrintWords Go.Proofs.YtmfpakolfpoamaaGreatDoorW.PrintMore Go.Proofs.YtmfpakolfpoamaaGreatDoorW.PrintLast
theorem okV_num (n : Int) (h0 : 0 ≤ n) (h1 : n ≤ 9) : OkV (numV n) :=
  OkV.mk _ (by show (Lit.int .i64 3).wf = true; rfl) (fun m hm => by
    have : m = n := by simpa [numV] using hm
    subst this
    rcases (show m = 0 ∨ m = 1 ∨ m = 2 ∨ m = 3 ∨ m = 4 ∨ m = 5 ∨ m = 6 ∨ m = 7 ∨ m = 8 ∨ m = 9 by omega) with rfl | rfl | rfl | rfl | rfl | rfl | rfl | rfl | rfl | rfl <;> rfl) (by show (Lit.int .i64 0).wf = true; rfl) (by show (0 : Nat) ≤ 1073741824; decide) (fun n hn => absurd hn (by unfold numV; simp)) (by unfold numV; simp) (by unfold numV; simp) (by unfold numV; simp) (fun y hy => absurd hy (by unfold numV; simp))
theorem okV_three : ∀ x ∈ lst3, OkV x := fun x hx => by
  unfold lst3 at hx
  simp only [List.mem_cons, List.mem_nil_iff, or_false] at hx
  rcases hx with rfl | rfl | rfl
  · exact okV_num 3 (by decide) (by decide)
  · exact okV_num 1 (by decide) (by decide)
  · exact okV_num 2 (by decide) (by decide)
theorem rd_of_at {l : List V} {k : Nat} {x : V} (h : l[k]? = some x) : rd_T34 l (k : Int) = x := by
  unfold rd_T34
  rw [Int.toNat_natCast, List.getD_eq_getElem?_getD, h]
  rfl
/-- An element of a row of values, as cells of its block. -/
theorem rng_V {w0 : World} {g : Nat} {l : List V} (h : k34.C w0 (some ⟨g, 0, none⟩) l.length l) (k : Nat) (hk : k < l.length) : ∃ cs : List Value, cs.length = 7 ∧ k34.K w0 (rd_T34 l (k : Int)) cs ∧ ∀ W : World, Below w0.heap.size w0 W → W.rangeAt g (k * 7) cs := by
  obtain ⟨ad, c, hA, hl, hK, hc⟩ := Kd.C_get h z34 (k : Int) (by omega) (by omega)
  obtain rfl := Option.some.inj hA
  rw [Int.toNat_natCast] at hK hc
  refine ⟨c, hl, by unfold rd_T34; rw [Int.toNat_natCast]; exact hK, fun W hb j v hj => ?_⟩
  have := hc j v hj
  rw [Addr.add_mid, Nat.zero_add] at this
  exact pw_cell_below hb this
theorem info_V (cs : List Value) (h : cs.length = 7) : (Tryz.prog.info? 34).map (·.size) = some cs.length := by rw [h]; kernel_rfl
theorem num_any (n : Int) (W : World) : Calls Tryz.prog 15 #[.int .i64 n] W fun e w' => e = .returned (.int .i64 n) ∧ w' = W := by
  go_enter Tryz.func15, Tryz.ntmps15
  go_wp2
  go_ret
  exact ⟨rfl, rfl⟩
set_option maxHeartbeats 2000000 in
set_option maxRecDepth 100000 in
theorem alive_any (w : World) (hLD : LaidW w) : Calls Tryz.prog 9 #[] w fun e w' => e = .returned (.bool true) ∧ Below w.heap.size w w' := by
  have H1 : Hid (∀ W, Calls Tryz.prog 34 #[.int .i64 1] W fun e w' => ∃ cs : List Value, e = .returned (.agg cs.toArray) ∧ k34.M w' W.heap.size (fun _ => True) (numV 1) cs ∧ Below W.heap.size W w') := Lib.hid (fun W => Number_any 1 number_1 (by decide) W)
  have H2 : Hid (∀ W, Calls Tryz.prog 34 #[.int .i64 2] W fun e w' => ∃ cs : List Value, e = .returned (.agg cs.toArray) ∧ k34.M w' W.heap.size (fun _ => True) (numV 2) cs ∧ Below W.heap.size W w') := Lib.hid (fun W => Number_any 2 number_2 (by decide) W)
  have H3 : Hid (∀ W, Calls Tryz.prog 34 #[.int .i64 3] W fun e w' => ∃ cs : List Value, e = .returned (.agg cs.toArray) ∧ k34.M w' W.heap.size (fun _ => True) (numV 3) cs ∧ Below W.heap.size W w') := Lib.hid (fun W => Number_any 3 number_3 (by decide) W)
  have HLD := Lib.hid hLD
  clear hLD
  have HOK : Hid (∀ x ∈ lst3, OkV x) := Lib.hid okV_three
  go_enter Tryz.func9, Tryz.ntmps9
  go_upto_region 2 with (first
    | (go_at_call 34; (with_reducible refine (H3.out _).mono ?_); rintro e w1 ⟨cs3, rfl, hM3, hB1⟩; have HM3 := Lib.hid hM3; have HB1 := Lib.hid hB1; obtain ⟨v2, v5, v6, rfl, r2, r5, r6⟩ := k34_openM hM3; clear hM3 hB1 r2 r5 r6)
    | (go_at_call 34; (with_reducible refine (H1.out _).mono ?_); rintro e w2 ⟨cs1, rfl, hM1, hB2⟩; have HM1 := Lib.hid hM1; have HB2 := Lib.hid hB2; obtain ⟨u2, u5, u6, rfl, r2, r5, r6⟩ := k34_openM hM1; clear hM1 hB2 r2 r5 r6)
    | (go_at_call 34; (with_reducible refine (H2.out _).mono ?_); rintro e w3 ⟨cs2, rfl, hM2, hB3⟩; have HM2 := Lib.hid hM2; have HB3 := Lib.hid hB3; obtain ⟨t2, t5, t6, rfl, r2, r5, r6⟩ := k34_openM hM2; clear hM2 hB3 r2 r5 r6)
    | (go_at_call 11; go_loud (refine (Sort_any lst3 (some ⟨w3.heap.size, 0, none⟩) 3 _ (HLD.out.below ((HB1.out.trans (HB2.out.mono HB1.out.size)).trans (HB3.out.mono (Nat.le_trans HB1.out.size HB2.out.size)) |>.alloc (Nat.le_trans HB1.out.size (Nat.le_trans HB2.out.size HB3.out.size)) _)) (three_C (w0 := w3) (Below.refl _ _) (k34.K_below (HB3.out) (k34.K_below HB2.out (k34.K_of_M HM3.out))) (k34.K_below HB3.out (k34.K_of_M HM1.out)) (k34.K_of_M HM2.out)) HOK.out (by decide)).mono ?_); rintro e w4 ⟨(⟨hbad, rfl⟩ | ⟨h0, v4, ys, rfl, hs, hr⟩), hB4⟩))
  · exact absurd lask_three hbad
  · obtain ⟨y1, y2, y3⟩ := sorted_three hs
    obtain ⟨g, c4, rfl, -⟩ := Kd.R_form hr (by omega)
    have hC := (Kd.R_reads' hr).2.2
    have e0 : rd_T34 ys ((0 : Nat) : Int) = numV 1 := rd_of_at y2
    have e2 : rd_T34 ys ((2 : Nat) : Int) = numV 3 := rd_of_at y3
    obtain ⟨ca, la, hKa, ra⟩ := rng_V hC 0 (by omega)
    obtain ⟨cb, lb, hKb, rb⟩ := rng_V hC 2 (by omega)
    rw [e0] at hKa
    rw [e2] at hKb
    rw [y1]
    have HKA := Lib.hid hKa
    have HKB := Lib.hid hKb
    have RA := Lib.hid ra
    have RB := Lib.hid rb
    have ia := info_V ca la
    have ib := info_V cb lb
    have hu := Tryz.underlying34
    have HW4 : Hid (Below w.heap.size w w4) := Lib.hid ((((HB1.out.trans (HB2.out.mono HB1.out.size)).trans (HB3.out.mono (Nat.le_trans HB1.out.size HB2.out.size))).alloc (Nat.le_trans HB1.out.size (Nat.le_trans HB2.out.size HB3.out.size)) _).trans (hB4.mono (by have h1 := HB1.out.size; have h2 := HB2.out.size; have h3 := HB3.out.size; rw [World.size_alloc]; omega)))
    clear hC hKa hKb hr hs y1 y2 y3 e0 e2 HM1 HM2 HM3 HOK HLD H2 hB4 HB1 HB2 HB3 h0 ra rb la lb
    have HBc : Hid (Below w4.heap.size w4 w4.drew) := Lib.hid (below_drew (Below.refl _ _))
    refine wp_region_any (by kernel_rfl) ?_
    change wpAny _ _ _ _ _ _ _ (World.drew _)
    refine tk 0 rfl rfl (by kernel_rfl) (fun _ _ _ h => h) (by rfl) (by intro w_; go_simp; try with_reducible rfl) ?_
    simp only [List.set_cons_zero, List.set_cons_succ]
    refine one 1 rfl (by kernel_rfl) (by rfl) fun K_ hK_ => ?_
    simp only [List.getElem_toArray, List.getElem_cons_succ, List.getElem_cons_zero]
    go_simp
    refine (num_any _ _).mono ?_
    rintro e_ w5 ⟨rfl, rfl⟩
    simp only [Oper.upon]
    refine hK_ _ _ ?_
    clear hK_ K_
    refine tk 2 rfl rfl (by kernel_rfl) (fun _ _ _ h => h) (by rfl) (by intro w_; go_simp; try with_reducible rfl) ?_
    refine tk 3 rfl rfl (by kernel_rfl) (fun _ _ _ h => h) (by rfl) (by intro w_; go_simp; try with_reducible rfl) ?_
    simp only [List.set_cons_zero, List.set_cons_succ]
    refine tk 4 rfl rfl (by kernel_rfl) (fun _ _ _ h => h) (by rfl) (by intro w_; go_simp; try with_reducible rfl) ?_
    simp only [List.set_cons_zero, List.set_cons_succ]
    refine one 5 rfl (by kernel_rfl) (by rfl) fun K_ hK_ => ?_
    simp only [List.getElem_toArray, List.getElem_cons_succ, List.getElem_cons_zero]
    go_simp
    refine hK_ _ _ ?_
    clear hK_ K_
    refine tk 6 rfl rfl (by kernel_rfl) (fun _ _ _ h => h) (by rfl) (by intro w_; go_simp; try with_reducible rfl) ?_
    refine tk 7 rfl rfl (by kernel_rfl) (fun _ _ _ h => h) (by rfl) (by intro w_; go_simp; try with_reducible rfl) ?_
    simp only [List.set_cons_zero, List.set_cons_succ]
    refine tk 8 rfl rfl (by kernel_rfl) (fun _ _ _ h => h) (by rfl) (by intro w_; go_simp; try with_reducible rfl) ?_
    refine tk 9 rfl rfl (by kernel_rfl) (fun _ _ _ h => h) (by rfl) (by intro w_; go_simp; try with_reducible rfl) ?_
    simp only [List.set_cons_zero, List.set_cons_succ]
    refine tk 10 rfl rfl (by kernel_rfl) (fun _ _ _ h => h) (by rfl) (by intro w_; go_simp; try with_reducible rfl) ?_
    simp only [List.set_cons_zero, List.set_cons_succ]
    refine two 11 12 rfl rfl (by kernel_rfl) (by rfl) (by rfl) (fun K_ hK_ => ?_) (fun K_ hK_ => ?_)
    have rx := RA.out _ HBc.out
    refine wp_load_mid _ _ rfl _ _ rfl _ _ rx hu rfl ia ?_
    refine hK_ _ _ ?_
    clear hK_ K_
    simp only [Act.put, List.getElem_toArray, List.getElem_cons_zero, List.getElem_cons_succ, List.setIfInBounds_toArray, List.set_cons_zero, List.set_cons_succ]
    refine one 12 rfl (by kernel_rfl) (by rfl) fun K_ hK_ => ?_
    simp only [List.getElem_toArray, List.getElem_cons_succ, List.getElem_cons_zero]
    go_simp
    refine (H1.out _).mono ?_
    rintro e_ w6 ⟨cs6, rfl, hM6, hB6⟩
    have HB6 := Lib.hid hB6
    have HK6 := Lib.hid (k34.K_of_M hM6)
    clear hB6 hM6
    have HBc := Lib.hid (HBc.out.trans (HB6.out.mono HBc.out.size))
    simp only [Oper.upon]
    refine hK_ _ _ ?_
    clear hK_ K_
    refine one 13 rfl (by kernel_rfl) (by rfl) fun K_ hK_ => ?_
    simp only [List.getElem_toArray, List.getElem_cons_succ, List.getElem_cons_zero]
    go_simp
    refine (Same_any _ _ _ _ _ (k34.K_below HBc.out HKA.out) HK6.out).mono ?_
    rw [same_refl]
    rintro e_ w7 ⟨rfl, hB7⟩
    have HB7 := Lib.hid hB7
    clear hB7
    have HBc := Lib.hid (HBc.out.trans (HB7.out.mono HBc.out.size))
    simp only [Oper.upon]
    refine hK_ _ _ ?_
    clear hK_ K_
    refine tk 14 rfl rfl (by kernel_rfl) (fun _ _ _ h => h) (by rfl) (by intro w_; go_simp; try with_reducible rfl) ?_
    refine tk 15 rfl rfl (by kernel_rfl) (fun _ _ _ h => h) (by rfl) (by intro w_; go_simp; try with_reducible rfl) ?_
    simp only [List.set_cons_zero, List.set_cons_succ]
    refine tk 16 rfl rfl (by kernel_rfl) (fun _ _ _ h => h) (by rfl) (by intro w_; go_simp; try with_reducible rfl) ?_
    refine tk 17 rfl rfl (by kernel_rfl) (fun _ _ _ h => h) (by rfl) (by intro w_; go_simp; try with_reducible rfl) ?_
    simp only [List.set_cons_zero, List.set_cons_succ]
    refine two 18 19 rfl rfl (by kernel_rfl) (by rfl) (by rfl) (fun K_ hK_ => ?_) (fun K_ hK_ => ?_)
    have rx := RB.out _ HBc.out
    refine wp_load_mid _ _ rfl _ _ rfl _ _ rx hu rfl ib ?_
    refine hK_ _ _ ?_
    clear hK_ K_
    simp only [Act.put, List.getElem_toArray, List.getElem_cons_zero, List.getElem_cons_succ, List.setIfInBounds_toArray, List.set_cons_zero, List.set_cons_succ]
    refine one 19 rfl (by kernel_rfl) (by rfl) fun K_ hK_ => ?_
    simp only [List.getElem_toArray, List.getElem_cons_succ, List.getElem_cons_zero]
    go_simp
    refine (H3.out _).mono ?_
    rintro e_ w6 ⟨cs6, rfl, hM6, hB6⟩
    have HB6 := Lib.hid hB6
    have HK6 := Lib.hid (k34.K_of_M hM6)
    clear hB6 hM6
    have HBc := Lib.hid (HBc.out.trans (HB6.out.mono HBc.out.size))
    simp only [Oper.upon]
    refine hK_ _ _ ?_
    clear hK_ K_
    refine one 20 rfl (by kernel_rfl) (by rfl) fun K_ hK_ => ?_
    simp only [List.getElem_toArray, List.getElem_cons_succ, List.getElem_cons_zero]
    go_simp
    refine (Same_any _ _ _ _ _ (k34.K_below HBc.out HKB.out) HK6.out).mono ?_
    rw [same_refl]
    rintro e_ w7 ⟨rfl, hB7⟩
    have HB7 := Lib.hid hB7
    clear hB7
    have HBc := Lib.hid (HBc.out.trans (HB7.out.mono HBc.out.size))
    simp only [Oper.upon]
    refine hK_ _ _ ?_
    clear hK_ K_
    refine tk 21 rfl rfl (by kernel_rfl) (fun _ _ _ h => h) (by rfl) (by intro w_; go_simp; try with_reducible rfl) ?_
    refine tk 22 rfl rfl (by kernel_rfl) (fun _ _ _ h => h) (by rfl) (by intro w_; go_simp; try with_reducible rfl) ?_
    refine wpAny_done (by kernel_rfl) ?_ _
    simp only [List.set_cons_zero, List.set_cons_succ]
    rotate_left
    simp only [List.getElem_toArray, List.getElem_cons_succ, List.getElem_cons_zero]
    go_simp
    refine (H3.out _).mono ?_
    rintro e_ w6 ⟨cs6, rfl, hM6, hB6⟩
    have HB6 := Lib.hid hB6
    have HK6 := Lib.hid (k34.K_of_M hM6)
    clear hB6 hM6
    have HBc := Lib.hid (HBc.out.trans (HB6.out.mono HBc.out.size))
    simp only [Oper.upon]
    refine hK_ _ _ ?_
    clear hK_ K_
    refine one 18 rfl (by kernel_rfl) (by rfl) fun K_ hK_ => ?_
    have rx := RB.out _ HBc.out
    refine wp_load_mid _ _ rfl _ _ rfl _ _ rx hu rfl ib ?_
    refine hK_ _ _ ?_
    clear hK_ K_
    simp only [Act.put, List.getElem_toArray, List.getElem_cons_zero, List.getElem_cons_succ, List.setIfInBounds_toArray, List.set_cons_zero, List.set_cons_succ]
    refine one 20 rfl (by kernel_rfl) (by rfl) fun K_ hK_ => ?_
    simp only [List.getElem_toArray, List.getElem_cons_succ, List.getElem_cons_zero]
    go_simp
    refine (Same_any _ _ _ _ _ (k34.K_below HBc.out HKB.out) HK6.out).mono ?_
    rw [same_refl]
    rintro e_ w7 ⟨rfl, hB7⟩
    have HB7 := Lib.hid hB7
    clear hB7
    have HBc := Lib.hid (HBc.out.trans (HB7.out.mono HBc.out.size))
    simp only [Oper.upon]
    refine hK_ _ _ ?_
    clear hK_ K_
    refine tk 21 rfl rfl (by kernel_rfl) (fun _ _ _ h => h) (by rfl) (by intro w_; go_simp; try with_reducible rfl) ?_
    refine tk 22 rfl rfl (by kernel_rfl) (fun _ _ _ h => h) (by rfl) (by intro w_; go_simp; try with_reducible rfl) ?_
    refine wpAny_done (by kernel_rfl) ?_ _
    simp only [List.set_cons_zero, List.set_cons_succ]
    rotate_left
    simp only [List.getElem_toArray, List.getElem_cons_succ, List.getElem_cons_zero]
    go_simp
    refine (H1.out _).mono ?_
    rintro e_ w6 ⟨cs6, rfl, hM6, hB6⟩
    have HB6 := Lib.hid hB6
    have HK6 := Lib.hid (k34.K_of_M hM6)
    clear hB6 hM6
    have HBc := Lib.hid (HBc.out.trans (HB6.out.mono HBc.out.size))
    simp only [Oper.upon]
    refine hK_ _ _ ?_
    clear hK_ K_
    refine one 11 rfl (by kernel_rfl) (by rfl) fun K_ hK_ => ?_
    have rx := RA.out _ HBc.out
    refine wp_load_mid _ _ rfl _ _ rfl _ _ rx hu rfl ia ?_
    refine hK_ _ _ ?_
    clear hK_ K_
    simp only [Act.put, List.getElem_toArray, List.getElem_cons_zero, List.getElem_cons_succ, List.setIfInBounds_toArray, List.set_cons_zero, List.set_cons_succ]
    refine one 13 rfl (by kernel_rfl) (by rfl) fun K_ hK_ => ?_
    simp only [List.getElem_toArray, List.getElem_cons_succ, List.getElem_cons_zero]
    go_simp
    refine (Same_any _ _ _ _ _ (k34.K_below HBc.out HKA.out) HK6.out).mono ?_
    rw [same_refl]
    rintro e_ w7 ⟨rfl, hB7⟩
    have HB7 := Lib.hid hB7
    clear hB7
    have HBc := Lib.hid (HBc.out.trans (HB7.out.mono HBc.out.size))
    simp only [Oper.upon]
    refine hK_ _ _ ?_
    clear hK_ K_
    refine tk 14 rfl rfl (by kernel_rfl) (fun _ _ _ h => h) (by rfl) (by intro w_; go_simp; try with_reducible rfl) ?_
    refine tk 15 rfl rfl (by kernel_rfl) (fun _ _ _ h => h) (by rfl) (by intro w_; go_simp; try with_reducible rfl) ?_
    simp only [List.set_cons_zero, List.set_cons_succ]
    refine tk 16 rfl rfl (by kernel_rfl) (fun _ _ _ h => h) (by rfl) (by intro w_; go_simp; try with_reducible rfl) ?_
    refine tk 17 rfl rfl (by kernel_rfl) (fun _ _ _ h => h) (by rfl) (by intro w_; go_simp; try with_reducible rfl) ?_
    simp only [List.set_cons_zero, List.set_cons_succ]
    refine two 18 19 rfl rfl (by kernel_rfl) (by rfl) (by rfl) (fun K_ hK_ => ?_) (fun K_ hK_ => ?_)
    have rx := RB.out _ HBc.out
    refine wp_load_mid _ _ rfl _ _ rfl _ _ rx hu rfl ib ?_
    refine hK_ _ _ ?_
    clear hK_ K_
    simp only [Act.put, List.getElem_toArray, List.getElem_cons_zero, List.getElem_cons_succ, List.setIfInBounds_toArray, List.set_cons_zero, List.set_cons_succ]
    refine one 19 rfl (by kernel_rfl) (by rfl) fun K_ hK_ => ?_
    simp only [List.getElem_toArray, List.getElem_cons_succ, List.getElem_cons_zero]
    go_simp
    refine (H3.out _).mono ?_
    rintro e_ w6 ⟨cs6, rfl, hM6, hB6⟩
    have HB6 := Lib.hid hB6
    have HK6 := Lib.hid (k34.K_of_M hM6)
    clear hB6 hM6
    have HBc := Lib.hid (HBc.out.trans (HB6.out.mono HBc.out.size))
    simp only [Oper.upon]
    refine hK_ _ _ ?_
    clear hK_ K_
    refine one 20 rfl (by kernel_rfl) (by rfl) fun K_ hK_ => ?_
    simp only [List.getElem_toArray, List.getElem_cons_succ, List.getElem_cons_zero]
    go_simp
    refine (Same_any _ _ _ _ _ (k34.K_below HBc.out HKB.out) HK6.out).mono ?_
    rw [same_refl]
    rintro e_ w7 ⟨rfl, hB7⟩
    have HB7 := Lib.hid hB7
    clear hB7
    have HBc := Lib.hid (HBc.out.trans (HB7.out.mono HBc.out.size))
    simp only [Oper.upon]
    refine hK_ _ _ ?_
    clear hK_ K_
    refine tk 21 rfl rfl (by kernel_rfl) (fun _ _ _ h => h) (by rfl) (by intro w_; go_simp; try with_reducible rfl) ?_
    refine tk 22 rfl rfl (by kernel_rfl) (fun _ _ _ h => h) (by rfl) (by intro w_; go_simp; try with_reducible rfl) ?_
    refine wpAny_done (by kernel_rfl) ?_ _
    simp only [List.set_cons_zero, List.set_cons_succ]
    rotate_left
    simp only [List.getElem_toArray, List.getElem_cons_succ, List.getElem_cons_zero]
    go_simp
    refine (H3.out _).mono ?_
    rintro e_ w6 ⟨cs6, rfl, hM6, hB6⟩
    have HB6 := Lib.hid hB6
    have HK6 := Lib.hid (k34.K_of_M hM6)
    clear hB6 hM6
    have HBc := Lib.hid (HBc.out.trans (HB6.out.mono HBc.out.size))
    simp only [Oper.upon]
    refine hK_ _ _ ?_
    clear hK_ K_
    refine one 18 rfl (by kernel_rfl) (by rfl) fun K_ hK_ => ?_
    have rx := RB.out _ HBc.out
    refine wp_load_mid _ _ rfl _ _ rfl _ _ rx hu rfl ib ?_
    refine hK_ _ _ ?_
    clear hK_ K_
    simp only [Act.put, List.getElem_toArray, List.getElem_cons_zero, List.getElem_cons_succ, List.setIfInBounds_toArray, List.set_cons_zero, List.set_cons_succ]
    refine one 20 rfl (by kernel_rfl) (by rfl) fun K_ hK_ => ?_
    simp only [List.getElem_toArray, List.getElem_cons_succ, List.getElem_cons_zero]
    go_simp
    refine (Same_any _ _ _ _ _ (k34.K_below HBc.out HKB.out) HK6.out).mono ?_
    rw [same_refl]
    rintro e_ w7 ⟨rfl, hB7⟩
    have HB7 := Lib.hid hB7
    clear hB7
    have HBc := Lib.hid (HBc.out.trans (HB7.out.mono HBc.out.size))
    simp only [Oper.upon]
    refine hK_ _ _ ?_
    clear hK_ K_
    refine tk 21 rfl rfl (by kernel_rfl) (fun _ _ _ h => h) (by rfl) (by intro w_; go_simp; try with_reducible rfl) ?_
    refine tk 22 rfl rfl (by kernel_rfl) (fun _ _ _ h => h) (by rfl) (by intro w_; go_simp; try with_reducible rfl) ?_
    refine wpAny_done (by kernel_rfl) ?_ _
    simp only [List.set_cons_zero, List.set_cons_succ]
    rotate_left
    all_goals
      have HF := Lib.hid (HW4.out.trans (HBc.out.mono HW4.out.size))
      clear HBc HB7 HK6 HB6 HKA HKB RA RB ia ib hu
      go_wp2_with fail
      go_ret
      exact ⟨rfl, HF.out⟩
end Go.Proofs.YtmfpakolfpoamaaGreatDoor.P
/- OrderEnds: its walk. -/
namespace Go.Proofs.YtmfpakolfpoamaaGreatDoor.P
set_option linter.unusedVariables false
set_option linter.unusedSimpArgs false
open Go.RowKit Go.Proofs.YtmfpakolfpoamaaGreatDoorW.PrintWords Go.Proofs.YtmfpakolfpoamaaGreatDoorW.PrintMore Go.Proofs.YtmfpakolfpoamaaGreatDoorW.PrintLast
/-- An element of a row of values that came in. -/
theorem rng_A {w0 : World} {A : Option Addr} {l : List V} (h : k34.C w0 A l.length l) (k : Nat) (hk : k < l.length) : ∃ ad a0 a1 a2 a3 a4 a5 a6, A = some ad ∧ k34.K w0 (rd_T34 l (k : Int)) [a0, a1, a2, a3, a4, a5, a6] ∧
    ∀ w : World, Below w0.heap.size w0 w → w.cell? (ad.add (k * 7)) = some a0 ∧ w.cell? ⟨(ad.add (k * 7)).block, (ad.add (k * 7)).off + 1, none⟩ = some a1 ∧ w.cell? ⟨(ad.add (k * 7)).block, (ad.add (k * 7)).off + 2, none⟩ = some a2 ∧ w.cell? ⟨(ad.add (k * 7)).block, (ad.add (k * 7)).off + 3, none⟩ = some a3 ∧ w.cell? ⟨(ad.add (k * 7)).block, (ad.add (k * 7)).off + 4, none⟩ = some a4 ∧ w.cell? ⟨(ad.add (k * 7)).block, (ad.add (k * 7)).off + 5, none⟩ = some a5 ∧ w.cell? ⟨(ad.add (k * 7)).block, (ad.add (k * 7)).off + 6, none⟩ = some a6 := by
  obtain ⟨ad, a0, a1, a2, a3, a4, a5, a6, e, hK, p0, p1, p2, p3, p4, p5, p6⟩ := at_V h (Below.refl _ _) k hk
  exact ⟨ad, a0, a1, a2, a3, a4, a5, a6, e, hK, fun w hb => ⟨pw_cell_below hb p0, pw_cell_below hb p1, pw_cell_below hb p2, pw_cell_below hb p3, pw_cell_below hb p4, pw_cell_below hb p5, pw_cell_below hb p6⟩⟩
set_option maxHeartbeats 4000000 in
set_option maxRecDepth 100000 in
theorem ends_bad (l : List V) (A : Option Addr) (c : Nat) (w : World) (q : Int) (hq : q ≠ 0) (HL : Hid (LaidW w)) (HE : Hid (∀ W, Below w.heap.size w W → Calls Tryz.prog 18 #[.slice A l.length c, .slice A l.length c] W fun e w' => e = .returned (.tuple #[.int .i64 0, .int .i64 q]) ∧ Below W.heap.size W w'))
    (HM : Hid (∀ W, Below w.heap.size w W → Calls Tryz.prog 19 #[.slice A l.length c, .slice A l.length c] W fun e w' => e = .returned (.tuple #[.int .i64 0, .int .i64 q]) ∧ Below W.heap.size W w'))
    (HS : Hid (∀ W, Below w.heap.size w W → Calls Tryz.prog 11 #[.slice A l.length c] W fun e w' => ∃ (v : Value) (g : Int), e = .returned (.tuple #[v, .int .i64 g]) ∧ Below W.heap.size W w')) :
    Calls Tryz.prog 5 #[.slice A l.length c] w fun e w' => e = .returned (.bool true) ∧ Below w.heap.size w w' := by
  have hq1 : (q != 0) = true := by simpa using hq
  clear hq
  go_enter Tryz.func5, Tryz.ntmps5
  go_wp2_with (first
    | (go_at_call 9; (with_reducible refine (alive_any _ HL.out).mono ?_); rintro e w0 ⟨rfl, hB0⟩; have HB0 := Lib.hid hB0; clear hB0)
    | (go_at_call 18; (with_reducible refine (HE.out _ HB0.out).mono ?_); rintro e w1 ⟨rfl, hB1⟩; have HB1 := Lib.hid (HB0.out.trans (hB1.mono HB0.out.size)); clear hB1)
    | (go_at_call 19; (with_reducible refine (HM.out _ HB1.out).mono ?_); rintro e w2 ⟨rfl, hB2⟩; have HB2 := Lib.hid (HB1.out.trans (hB2.mono HB1.out.size)); clear hB2)
    | (go_at_call 11; (with_reducible refine (HS.out _ HB2.out).mono ?_); rintro e w3 ⟨v3, g3, rfl, hB3⟩; have HB3 := Lib.hid (HB2.out.trans (hB3.mono HB2.out.size)); clear hB3)
    | (go_at_call 15; (with_reducible refine (num_any _ _).mono ?_); rintro e w5 ⟨rfl, rfl⟩))
  go_ret
  exact ⟨rfl, HB3.out⟩
set_option maxHeartbeats 4000000 in
set_option maxRecDepth 100000 in
theorem ends_walk (l : List V) (A : Option Addr) (c : Nat) (w : World) (hLD : LaidW w) (hl : l.length ≤ c) (hA : k34.C w A l.length l) (hO : ∀ x ∈ l, OkV x) (hn : l.length ≤ 1048576) :
    Calls Tryz.prog 5 #[.slice A l.length c] w fun e w' => e = .returned (.bool true) ∧ Below w.heap.size w w' := by
  have HL := Lib.hid hLD
  have HE : Hid (∀ W, Below w.heap.size w W → Calls Tryz.prog 18 #[.slice A l.length c, .slice A l.length c] W fun e w' => e = .returned (.tuple #[.int .i64 (lbest leastP l l).1, .int .i64 (lbest leastP l l).2]) ∧ Below W.heap.size W w') := Lib.hid (fun W hW => Least_any l l A A c c W (hLD.below hW) (Kd.C_below hA hW) (Kd.C_below hA hW) hO hO hn)
  have HM : Hid (∀ W, Below w.heap.size w W → Calls Tryz.prog 19 #[.slice A l.length c, .slice A l.length c] W fun e w' => e = .returned (.tuple #[.int .i64 (lbest mostP l l).1, .int .i64 (lbest mostP l l).2]) ∧ Below W.heap.size W w') := Lib.hid (fun W hW => Most_any l l A A c c W (hLD.below hW) (Kd.C_below hA hW) (Kd.C_below hA hW) hO hO hn)
  have HS : Hid (∀ W, Below w.heap.size w W → Calls Tryz.prog 11 #[.slice A l.length c] W (SortDone l l W)) := Lib.hid (fun W hW => Sort_any l A c W (hLD.below hW) (Kd.C_below hA hW) hO hn)
  have HS2 : Hid (∀ W, Below w.heap.size w W → Calls Tryz.prog 11 #[.slice A l.length c] W fun e w' => ∃ (v : Value) (g : Int), e = .returned (.tuple #[v, .int .i64 g]) ∧ Below W.heap.size W w') := Lib.hid (fun W hW => (HS.out W hW).mono fun e w' h => by
    rcases h with ⟨⟨_, rfl⟩ | ⟨_, v, ys, rfl, _⟩, hb⟩
    · exact ⟨_, _, rfl, hb⟩
    · exact ⟨_, _, rfl, hb⟩)
  have HA := Lib.hid hA
  by_cases h0 : lask l l = 0
  · by_cases hz : l.length = 0
    · have e1 : ∀ p, lbest p l l = (0, 71) := fun p => by unfold lbest; rw [if_neg (by simpa using h0), if_pos hz]
      rw [e1] at HE HM
      exact ends_bad l A c w 71 (by decide) HL HE HM HS2
    · have e1 : ∀ p, lbest p l l = (((bestTo p l l.length : Nat) : Int), 0) := fun p => by unfold lbest; rw [if_neg (by simpa using h0), if_neg hz]
      rw [e1] at HE HM
      have ha := bestTo_lt leastP l l.length (by omega)
      have hb := bestTo_lt mostP l l.length (by omega)
      have HS3 : Hid (∀ W, Below w.heap.size w W → Calls Tryz.prog 11 #[.slice A l.length c] W fun e w' => ∃ v ys, e = .returned (.tuple #[v, .int .i64 0]) ∧ (Hid (Sorted l l ys) ∧ Hid (k34.R 34 w' W.heap.size (fun _ => True) v ys)) ∧ Below W.heap.size W w') := Lib.hid (fun W hW => (HS.out W hW).mono fun e w' h => by
        rcases h with ⟨⟨h1, rfl⟩ | ⟨_, v, ys, rfl, hs, hr⟩, hb⟩
        · exact absurd h0 h1
        · exact ⟨_, _, rfl, ⟨Lib.hid hs, Lib.hid hr⟩, hb⟩)
      have HFL : Hid (∀ ys, Sorted l l ys → ys.length = l.length ∧ ys[0]? = some (rd_T34 l (bestTo leastP l l.length : Nat)) ∧ ys[l.length - 1]? = some (rd_T34 l (bestTo mostP l l.length : Nat))) := Lib.hid (fun ys h => ⟨(h.last (by omega)).1, h.first (by omega), (h.last (by omega)).2⟩)
      generalize bestTo leastP l l.length = a at *
      generalize bestTo mostP l l.length = b at *
      obtain ⟨n, hn0⟩ : ∃ n, n = l.length := ⟨_, rfl⟩
      have ha2 : (a : Int) < (n : Int) := by omega
      have hb2 : (b : Int) < (n : Int) := by omega
      have ha3 : (0 : Int) ≤ (a : Int) := by omega
      have hb3 : (0 : Int) ≤ (b : Int) := by omega
      have hn1 : 1 ≤ n := by omega
      have hn3 : n ≤ 1048576 := by omega
      have HN := Lib.hid hn0
      rw [← hn0] at HE HM HS3
      rw [← hn0]
      clear hLD hl hA hO hn h0 hz e1 ha hb hn0 HS HS2
      go_enter Tryz.func5, Tryz.ntmps5
      go_wp2_with (first
        | (go_at_call 9; (with_reducible refine (alive_any _ HL.out).mono ?_); rintro e w0 ⟨rfl, hB0⟩; have HB0 := Lib.hid hB0; clear hB0)
        | (go_at_call 18; (with_reducible refine (HE.out _ HB0.out).mono ?_); rintro e w1 ⟨rfl, hB1⟩; have HB1 := Lib.hid (HB0.out.trans (hB1.mono HB0.out.size)); clear hB1)
        | (go_at_call 19; (with_reducible refine (HM.out _ HB1.out).mono ?_); rintro e w2 ⟨rfl, hB2⟩; have HB2 := Lib.hid (HB1.out.trans (hB2.mono HB1.out.size)); clear hB2)
        | (go_at_call 11; (with_reducible refine (HS3.out _ HB2.out).mono ?_); rintro e w3 ⟨v3, ys, rfl, ⟨hs3, hr3⟩, hB3⟩; have HB3 := Lib.hid (HB2.out.trans (hB3.mono HB2.out.size)); clear hB3)
        | (go_at_call 15; (with_reducible refine (num_any _ _).mono ?_); rintro e w5 ⟨rfl, rfl⟩))
      obtain ⟨y1, y2, y3⟩ := HFL.out ys hs3.out
      obtain ⟨g, c4, rfl, -⟩ := Kd.R_form hr3.out (by rw [y1, ← HN.out]; omega)
      have hC := (Kd.R_reads' hr3.out).2.2
      have hyn : ys.length = n := by rw [y1, ← HN.out]
      obtain ⟨cy, ly, hKy, ry⟩ := rng_V hC 0 (by omega)
      obtain ⟨cz, lz, hKz, rz⟩ := rng_V hC (n - 1) (by omega)
      obtain ⟨ad, a0, a1, a2, a3, a4, a5, a6, hA0, hKa, ra⟩ := rng_A HA.out a (by rw [← HN.out]; omega)
      obtain ⟨bd, b0, b1, b2, b3, b4, b5, b6, hB0, hKb, rb⟩ := rng_A HA.out b (by rw [← HN.out]; omega)
      rw [hA0] at hB0
      obtain rfl := Option.some.inj hB0
      subst hA0
      rw [rd_of_at y2] at hKy
      rw [← HN.out] at y3
      rw [rd_of_at y3] at hKz
      rw [hyn]
      have HKA := Lib.hid hKa
      have HKB := Lib.hid hKb
      have HKY := Lib.hid hKy
      have HKZ := Lib.hid hKz
      have RA := Lib.hid ra
      have RB := Lib.hid rb
      have RY := Lib.hid ry
      have RZ := Lib.hid rz
      have iy := info_V cy ly
      have iz := info_V cz lz
      have hu := Tryz.underlying34
      have hsub : IntKind.i64.wrap ((n : Int) - 1) = ((n - 1 : Nat) : Int) := by rw [wrap_in _ (by omega)]; omega
      have hsb1 : (0 : Int) ≤ ((n - 1 : Nat) : Int) := by omega
      have hsb2 : ((n - 1 : Nat) : Int) < (n : Int) := by omega
      have hsb0 : (0 : Int) < (n : Int) := by omega
      have hsb3 : 0 < n := by omega
      have HBc : Hid (Below w5.heap.size w5 w5.drew) := Lib.hid (below_drew (Below.refl _ _))
      clear hC hKa hKb hKy hKz y1 y2 y3 hyn ra rb ry rz ly lz hr3 hs3 HE HM HS3 HFL HL HB0 HB1 HB2
      refine wp_region_any (by kernel_rfl) ?_
      change wpAny _ _ _ _ _ _ _ (World.drew _)
      refine tk 0 rfl rfl (by kernel_rfl) (fun _ _ _ h => h) (by rfl) (by intro w_; go_simp; try with_reducible rfl) ?_
      refine tk 2 rfl rfl (by kernel_rfl) (fun _ _ _ h => h) (by rfl) (by intro w_; go_simp; try with_reducible rfl) ?_
      simp only [List.set_cons_zero, List.set_cons_succ]
      refine one 1 rfl (by kernel_rfl) (by rfl) fun K_ hK_ => ?_
      simp only [List.getElem_toArray, List.getElem_cons_succ, List.getElem_cons_zero]
      go_simp
      refine (num_any _ _).mono ?_
      rintro e_ w5_ ⟨rfl, rfl⟩
      simp only [Oper.upon]
      refine hK_ _ _ ?_
      clear hK_ K_
      refine one 3 rfl (by kernel_rfl) (by rfl) fun K_ hK_ => ?_
      simp only [List.getElem_toArray, List.getElem_cons_succ, List.getElem_cons_zero]
      go_simp
      refine (num_any _ _).mono ?_
      rintro e_ w5_ ⟨rfl, rfl⟩
      simp only [Oper.upon]
      refine hK_ _ _ ?_
      clear hK_ K_
      refine tk 4 rfl rfl (by kernel_rfl) (fun _ _ _ h => h) (by rfl) (by intro w_; go_simp; try with_reducible rfl) ?_
      refine tk 5 rfl rfl (by kernel_rfl) (fun _ _ _ h => h) (by rfl) (by intro w_; go_simp; try with_reducible rfl) ?_
      simp only [List.set_cons_zero, List.set_cons_succ]
      refine tk 6 rfl rfl (by kernel_rfl) (fun _ _ _ h => h) (by rfl) (by intro w_; go_simp; try with_reducible rfl) ?_
      refine tk 7 rfl rfl (by kernel_rfl) (fun _ _ _ h => h) (by rfl) (by intro w_; go_simp; try with_reducible rfl) ?_
      simp only [List.set_cons_zero, List.set_cons_succ]
      refine tk 8 rfl rfl (by kernel_rfl) (fun _ _ _ h => h) (by rfl) (by intro w_; go_simp; try with_reducible rfl) ?_
      refine tk 9 rfl rfl (by kernel_rfl) (fun _ _ _ h => h) (by rfl) (by intro w_; go_simp; try with_reducible rfl) ?_
      simp only [List.set_cons_zero, List.set_cons_succ]
      refine tk 11 rfl rfl (by kernel_rfl) (fun _ _ _ h => h) (by rfl) (by intro w_; go_simp; try with_reducible rfl) ?_
      refine tk 12 rfl rfl (by kernel_rfl) (fun _ _ _ h => h) (by rfl) (by intro w_; go_simp; try with_reducible rfl) ?_
      simp only [List.set_cons_zero, List.set_cons_succ]
      refine two 10 13 rfl rfl (by kernel_rfl) (by rfl) (by rfl) (fun K_ hK_ => ?_) (fun K_ hK_ => ?_)
      obtain ⟨p0, p1, p2, p3, p4, p5, p6⟩ := RA.out _ (HB3.out.trans (HBc.out.mono HB3.out.size))
      simp only [List.getElem_toArray, List.getElem_cons_succ, List.getElem_cons_zero]
      go_simp
      refine hK_ _ _ ?_
      clear hK_ K_
      refine one 13 rfl (by kernel_rfl) (by rfl) fun K_ hK_ => ?_
      have rx := RY.out _ HBc.out
      refine wp_load_mid _ _ rfl _ _ rfl _ _ rx hu rfl iy ?_
      refine hK_ _ _ ?_
      clear hK_ K_
      simp only [Act.put, List.getElem_toArray, List.getElem_cons_zero, List.getElem_cons_succ, List.setIfInBounds_toArray, List.set_cons_zero, List.set_cons_succ]
      refine one 14 rfl (by kernel_rfl) (by rfl) fun K_ hK_ => ?_
      simp only [List.getElem_toArray, List.getElem_cons_succ, List.getElem_cons_zero]
      go_simp
      refine (Same_any _ _ _ _ _ (k34.K_below (HB3.out.trans (HBc.out.mono HB3.out.size)) HKA.out) (k34.K_below HBc.out HKY.out)).mono ?_
      rw [same_refl]
      rintro e_ w7 ⟨rfl, hB7⟩
      have HB7 := Lib.hid hB7
      clear hB7
      have HBc := Lib.hid (HBc.out.trans (HB7.out.mono HBc.out.size))
      simp only [Oper.upon]
      refine hK_ _ _ ?_
      clear hK_ K_
      refine tk 15 rfl rfl (by kernel_rfl) (fun _ _ _ h => h) (by rfl) (by intro w_; go_simp; try with_reducible rfl) ?_
      refine tk 16 rfl rfl (by kernel_rfl) (fun _ _ _ h => h) (by rfl) (by intro w_; go_simp; try with_reducible rfl) ?_
      simp only [List.set_cons_zero, List.set_cons_succ]
      refine tk 17 rfl rfl (by kernel_rfl) (fun _ _ _ h => h) (by rfl) (by intro w_; go_simp; try with_reducible rfl) ?_
      refine tk 18 rfl rfl (by kernel_rfl) (fun _ _ _ h => h) (by rfl) (by intro w_; go_simp; try with_reducible rfl) ?_
      simp only [List.set_cons_zero, List.set_cons_succ]
      refine tk 19 rfl rfl (by kernel_rfl) (fun _ _ _ h => h) (by rfl) (by intro w_; go_simp; try with_reducible rfl) ?_
      refine tk 21 rfl rfl (by kernel_rfl) (fun _ _ _ h => h) (by rfl) (by intro w_; go_simp; try with_reducible rfl) ?_
      simp only [List.set_cons_zero, List.set_cons_succ]
      refine tk 22 rfl rfl (by kernel_rfl) (fun _ _ _ h => h) (by rfl) (by intro w_; go_simp; try with_reducible rfl) ?_
      simp only [List.set_cons_zero, List.set_cons_succ]
      refine two 20 23 rfl rfl (by kernel_rfl) (by rfl) (by rfl) (fun K_ hK_ => ?_) (fun K_ hK_ => ?_)
      obtain ⟨p0, p1, p2, p3, p4, p5, p6⟩ := RB.out _ (HB3.out.trans (HBc.out.mono HB3.out.size))
      simp only [List.getElem_toArray, List.getElem_cons_succ, List.getElem_cons_zero]
      go_simp
      refine hK_ _ _ ?_
      clear hK_ K_
      refine one 23 rfl (by kernel_rfl) (by rfl) fun K_ hK_ => ?_
      simp only [List.getElem_toArray, List.getElem_cons_succ, List.getElem_cons_zero]
      go_simp
      refine hK_ _ _ ?_
      clear hK_ K_
      refine tk 24 rfl rfl (by kernel_rfl) (fun _ _ _ h => h) (by rfl) (by intro w_; go_simp; try with_reducible rfl) ?_
      refine tk 25 rfl rfl (by kernel_rfl) (fun _ _ _ h => h) (by rfl) (by intro w_; go_simp; try with_reducible rfl) ?_
      simp only [List.set_cons_zero, List.set_cons_succ]
      refine one 26 rfl (by kernel_rfl) (by rfl) fun K_ hK_ => ?_
      have rx := RZ.out _ HBc.out
      refine wp_load_mid _ _ rfl _ _ rfl _ _ rx hu rfl iz ?_
      refine hK_ _ _ ?_
      clear hK_ K_
      simp only [Act.put, List.getElem_toArray, List.getElem_cons_zero, List.getElem_cons_succ, List.setIfInBounds_toArray, List.set_cons_zero, List.set_cons_succ]
      refine one 27 rfl (by kernel_rfl) (by rfl) fun K_ hK_ => ?_
      simp only [List.getElem_toArray, List.getElem_cons_succ, List.getElem_cons_zero]
      go_simp
      refine (Same_any _ _ _ _ _ (k34.K_below (HB3.out.trans (HBc.out.mono HB3.out.size)) HKB.out) (k34.K_below HBc.out HKZ.out)).mono ?_
      rw [same_refl]
      rintro e_ w7 ⟨rfl, hB7⟩
      have HB7 := Lib.hid hB7
      clear hB7
      have HBc := Lib.hid (HBc.out.trans (HB7.out.mono HBc.out.size))
      simp only [Oper.upon]
      refine hK_ _ _ ?_
      clear hK_ K_
      refine tk 28 rfl rfl (by kernel_rfl) (fun _ _ _ h => h) (by rfl) (by intro w_; go_simp; try with_reducible rfl) ?_
      refine tk 29 rfl rfl (by kernel_rfl) (fun _ _ _ h => h) (by rfl) (by intro w_; go_simp; try with_reducible rfl) ?_
      refine wpAny_done (by kernel_rfl) ?_ _
      simp only [List.set_cons_zero, List.set_cons_succ]
      rotate_left
      simp only [List.getElem_toArray, List.getElem_cons_succ, List.getElem_cons_zero]
      go_simp
      refine hK_ _ _ ?_
      clear hK_ K_
      refine tk 24 rfl rfl (by kernel_rfl) (fun _ _ _ h => h) (by rfl) (by intro w_; go_simp; try with_reducible rfl) ?_
      refine tk 25 rfl rfl (by kernel_rfl) (fun _ _ _ h => h) (by rfl) (by intro w_; go_simp; try with_reducible rfl) ?_
      simp only [List.set_cons_zero, List.set_cons_succ]
      refine two 20 26 rfl rfl (by kernel_rfl) (by rfl) (by rfl) (fun K_ hK_ => ?_) (fun K_ hK_ => ?_)
      obtain ⟨p0, p1, p2, p3, p4, p5, p6⟩ := RB.out _ (HB3.out.trans (HBc.out.mono HB3.out.size))
      simp only [List.getElem_toArray, List.getElem_cons_succ, List.getElem_cons_zero]
      go_simp
      refine hK_ _ _ ?_
      clear hK_ K_
      refine one 26 rfl (by kernel_rfl) (by rfl) fun K_ hK_ => ?_
      have rx := RZ.out _ HBc.out
      refine wp_load_mid _ _ rfl _ _ rfl _ _ rx hu rfl iz ?_
      refine hK_ _ _ ?_
      clear hK_ K_
      simp only [Act.put, List.getElem_toArray, List.getElem_cons_zero, List.getElem_cons_succ, List.setIfInBounds_toArray, List.set_cons_zero, List.set_cons_succ]
      refine one 27 rfl (by kernel_rfl) (by rfl) fun K_ hK_ => ?_
      simp only [List.getElem_toArray, List.getElem_cons_succ, List.getElem_cons_zero]
      go_simp
      refine (Same_any _ _ _ _ _ (k34.K_below (HB3.out.trans (HBc.out.mono HB3.out.size)) HKB.out) (k34.K_below HBc.out HKZ.out)).mono ?_
      rw [same_refl]
      rintro e_ w7 ⟨rfl, hB7⟩
      have HB7 := Lib.hid hB7
      clear hB7
      have HBc := Lib.hid (HBc.out.trans (HB7.out.mono HBc.out.size))
      simp only [Oper.upon]
      refine hK_ _ _ ?_
      clear hK_ K_
      refine tk 28 rfl rfl (by kernel_rfl) (fun _ _ _ h => h) (by rfl) (by intro w_; go_simp; try with_reducible rfl) ?_
      refine tk 29 rfl rfl (by kernel_rfl) (fun _ _ _ h => h) (by rfl) (by intro w_; go_simp; try with_reducible rfl) ?_
      refine wpAny_done (by kernel_rfl) ?_ _
      simp only [List.set_cons_zero, List.set_cons_succ]
      rotate_left
      have rx := RZ.out _ HBc.out
      refine wp_load_mid _ _ rfl _ _ rfl _ _ rx hu rfl iz ?_
      refine hK_ _ _ ?_
      clear hK_ K_
      simp only [Act.put, List.getElem_toArray, List.getElem_cons_zero, List.getElem_cons_succ, List.setIfInBounds_toArray, List.set_cons_zero, List.set_cons_succ]
      refine one 20 rfl (by kernel_rfl) (by rfl) fun K_ hK_ => ?_
      obtain ⟨p0, p1, p2, p3, p4, p5, p6⟩ := RB.out _ (HB3.out.trans (HBc.out.mono HB3.out.size))
      simp only [List.getElem_toArray, List.getElem_cons_succ, List.getElem_cons_zero]
      go_simp
      refine hK_ _ _ ?_
      clear hK_ K_
      refine one 27 rfl (by kernel_rfl) (by rfl) fun K_ hK_ => ?_
      simp only [List.getElem_toArray, List.getElem_cons_succ, List.getElem_cons_zero]
      go_simp
      refine (Same_any _ _ _ _ _ (k34.K_below (HB3.out.trans (HBc.out.mono HB3.out.size)) HKB.out) (k34.K_below HBc.out HKZ.out)).mono ?_
      rw [same_refl]
      rintro e_ w7 ⟨rfl, hB7⟩
      have HB7 := Lib.hid hB7
      clear hB7
      have HBc := Lib.hid (HBc.out.trans (HB7.out.mono HBc.out.size))
      simp only [Oper.upon]
      refine hK_ _ _ ?_
      clear hK_ K_
      refine tk 28 rfl rfl (by kernel_rfl) (fun _ _ _ h => h) (by rfl) (by intro w_; go_simp; try with_reducible rfl) ?_
      refine tk 29 rfl rfl (by kernel_rfl) (fun _ _ _ h => h) (by rfl) (by intro w_; go_simp; try with_reducible rfl) ?_
      refine wpAny_done (by kernel_rfl) ?_ _
      simp only [List.set_cons_zero, List.set_cons_succ]
      rotate_left
      have rx := RY.out _ HBc.out
      refine wp_load_mid _ _ rfl _ _ rfl _ _ rx hu rfl iy ?_
      refine hK_ _ _ ?_
      clear hK_ K_
      simp only [Act.put, List.getElem_toArray, List.getElem_cons_zero, List.getElem_cons_succ, List.setIfInBounds_toArray, List.set_cons_zero, List.set_cons_succ]
      refine one 10 rfl (by kernel_rfl) (by rfl) fun K_ hK_ => ?_
      obtain ⟨p0, p1, p2, p3, p4, p5, p6⟩ := RA.out _ (HB3.out.trans (HBc.out.mono HB3.out.size))
      simp only [List.getElem_toArray, List.getElem_cons_succ, List.getElem_cons_zero]
      go_simp
      refine hK_ _ _ ?_
      clear hK_ K_
      refine one 14 rfl (by kernel_rfl) (by rfl) fun K_ hK_ => ?_
      simp only [List.getElem_toArray, List.getElem_cons_succ, List.getElem_cons_zero]
      go_simp
      refine (Same_any _ _ _ _ _ (k34.K_below (HB3.out.trans (HBc.out.mono HB3.out.size)) HKA.out) (k34.K_below HBc.out HKY.out)).mono ?_
      rw [same_refl]
      rintro e_ w7 ⟨rfl, hB7⟩
      have HB7 := Lib.hid hB7
      clear hB7
      have HBc := Lib.hid (HBc.out.trans (HB7.out.mono HBc.out.size))
      simp only [Oper.upon]
      refine hK_ _ _ ?_
      clear hK_ K_
      refine tk 15 rfl rfl (by kernel_rfl) (fun _ _ _ h => h) (by rfl) (by intro w_; go_simp; try with_reducible rfl) ?_
      refine tk 16 rfl rfl (by kernel_rfl) (fun _ _ _ h => h) (by rfl) (by intro w_; go_simp; try with_reducible rfl) ?_
      simp only [List.set_cons_zero, List.set_cons_succ]
      refine tk 17 rfl rfl (by kernel_rfl) (fun _ _ _ h => h) (by rfl) (by intro w_; go_simp; try with_reducible rfl) ?_
      refine tk 18 rfl rfl (by kernel_rfl) (fun _ _ _ h => h) (by rfl) (by intro w_; go_simp; try with_reducible rfl) ?_
      simp only [List.set_cons_zero, List.set_cons_succ]
      refine tk 19 rfl rfl (by kernel_rfl) (fun _ _ _ h => h) (by rfl) (by intro w_; go_simp; try with_reducible rfl) ?_
      refine tk 21 rfl rfl (by kernel_rfl) (fun _ _ _ h => h) (by rfl) (by intro w_; go_simp; try with_reducible rfl) ?_
      simp only [List.set_cons_zero, List.set_cons_succ]
      refine tk 22 rfl rfl (by kernel_rfl) (fun _ _ _ h => h) (by rfl) (by intro w_; go_simp; try with_reducible rfl) ?_
      simp only [List.set_cons_zero, List.set_cons_succ]
      refine two 20 23 rfl rfl (by kernel_rfl) (by rfl) (by rfl) (fun K_ hK_ => ?_) (fun K_ hK_ => ?_)
      obtain ⟨p0, p1, p2, p3, p4, p5, p6⟩ := RB.out _ (HB3.out.trans (HBc.out.mono HB3.out.size))
      simp only [List.getElem_toArray, List.getElem_cons_succ, List.getElem_cons_zero]
      go_simp
      refine hK_ _ _ ?_
      clear hK_ K_
      refine one 23 rfl (by kernel_rfl) (by rfl) fun K_ hK_ => ?_
      simp only [List.getElem_toArray, List.getElem_cons_succ, List.getElem_cons_zero]
      go_simp
      refine hK_ _ _ ?_
      clear hK_ K_
      refine tk 24 rfl rfl (by kernel_rfl) (fun _ _ _ h => h) (by rfl) (by intro w_; go_simp; try with_reducible rfl) ?_
      refine tk 25 rfl rfl (by kernel_rfl) (fun _ _ _ h => h) (by rfl) (by intro w_; go_simp; try with_reducible rfl) ?_
      simp only [List.set_cons_zero, List.set_cons_succ]
      refine one 26 rfl (by kernel_rfl) (by rfl) fun K_ hK_ => ?_
      have rx := RZ.out _ HBc.out
      refine wp_load_mid _ _ rfl _ _ rfl _ _ rx hu rfl iz ?_
      refine hK_ _ _ ?_
      clear hK_ K_
      simp only [Act.put, List.getElem_toArray, List.getElem_cons_zero, List.getElem_cons_succ, List.setIfInBounds_toArray, List.set_cons_zero, List.set_cons_succ]
      refine one 27 rfl (by kernel_rfl) (by rfl) fun K_ hK_ => ?_
      simp only [List.getElem_toArray, List.getElem_cons_succ, List.getElem_cons_zero]
      go_simp
      refine (Same_any _ _ _ _ _ (k34.K_below (HB3.out.trans (HBc.out.mono HB3.out.size)) HKB.out) (k34.K_below HBc.out HKZ.out)).mono ?_
      rw [same_refl]
      rintro e_ w7 ⟨rfl, hB7⟩
      have HB7 := Lib.hid hB7
      clear hB7
      have HBc := Lib.hid (HBc.out.trans (HB7.out.mono HBc.out.size))
      simp only [Oper.upon]
      refine hK_ _ _ ?_
      clear hK_ K_
      refine tk 28 rfl rfl (by kernel_rfl) (fun _ _ _ h => h) (by rfl) (by intro w_; go_simp; try with_reducible rfl) ?_
      refine tk 29 rfl rfl (by kernel_rfl) (fun _ _ _ h => h) (by rfl) (by intro w_; go_simp; try with_reducible rfl) ?_
      refine wpAny_done (by kernel_rfl) ?_ _
      simp only [List.set_cons_zero, List.set_cons_succ]
      rotate_left
      simp only [List.getElem_toArray, List.getElem_cons_succ, List.getElem_cons_zero]
      go_simp
      refine hK_ _ _ ?_
      clear hK_ K_
      refine tk 24 rfl rfl (by kernel_rfl) (fun _ _ _ h => h) (by rfl) (by intro w_; go_simp; try with_reducible rfl) ?_
      refine tk 25 rfl rfl (by kernel_rfl) (fun _ _ _ h => h) (by rfl) (by intro w_; go_simp; try with_reducible rfl) ?_
      simp only [List.set_cons_zero, List.set_cons_succ]
      refine two 20 26 rfl rfl (by kernel_rfl) (by rfl) (by rfl) (fun K_ hK_ => ?_) (fun K_ hK_ => ?_)
      obtain ⟨p0, p1, p2, p3, p4, p5, p6⟩ := RB.out _ (HB3.out.trans (HBc.out.mono HB3.out.size))
      simp only [List.getElem_toArray, List.getElem_cons_succ, List.getElem_cons_zero]
      go_simp
      refine hK_ _ _ ?_
      clear hK_ K_
      refine one 26 rfl (by kernel_rfl) (by rfl) fun K_ hK_ => ?_
      have rx := RZ.out _ HBc.out
      refine wp_load_mid _ _ rfl _ _ rfl _ _ rx hu rfl iz ?_
      refine hK_ _ _ ?_
      clear hK_ K_
      simp only [Act.put, List.getElem_toArray, List.getElem_cons_zero, List.getElem_cons_succ, List.setIfInBounds_toArray, List.set_cons_zero, List.set_cons_succ]
      refine one 27 rfl (by kernel_rfl) (by rfl) fun K_ hK_ => ?_
      simp only [List.getElem_toArray, List.getElem_cons_succ, List.getElem_cons_zero]
      go_simp
      refine (Same_any _ _ _ _ _ (k34.K_below (HB3.out.trans (HBc.out.mono HB3.out.size)) HKB.out) (k34.K_below HBc.out HKZ.out)).mono ?_
      rw [same_refl]
      rintro e_ w7 ⟨rfl, hB7⟩
      have HB7 := Lib.hid hB7
      clear hB7
      have HBc := Lib.hid (HBc.out.trans (HB7.out.mono HBc.out.size))
      simp only [Oper.upon]
      refine hK_ _ _ ?_
      clear hK_ K_
      refine tk 28 rfl rfl (by kernel_rfl) (fun _ _ _ h => h) (by rfl) (by intro w_; go_simp; try with_reducible rfl) ?_
      refine tk 29 rfl rfl (by kernel_rfl) (fun _ _ _ h => h) (by rfl) (by intro w_; go_simp; try with_reducible rfl) ?_
      refine wpAny_done (by kernel_rfl) ?_ _
      simp only [List.set_cons_zero, List.set_cons_succ]
      rotate_left
      have rx := RZ.out _ HBc.out
      refine wp_load_mid _ _ rfl _ _ rfl _ _ rx hu rfl iz ?_
      refine hK_ _ _ ?_
      clear hK_ K_
      simp only [Act.put, List.getElem_toArray, List.getElem_cons_zero, List.getElem_cons_succ, List.setIfInBounds_toArray, List.set_cons_zero, List.set_cons_succ]
      refine one 20 rfl (by kernel_rfl) (by rfl) fun K_ hK_ => ?_
      obtain ⟨p0, p1, p2, p3, p4, p5, p6⟩ := RB.out _ (HB3.out.trans (HBc.out.mono HB3.out.size))
      simp only [List.getElem_toArray, List.getElem_cons_succ, List.getElem_cons_zero]
      go_simp
      refine hK_ _ _ ?_
      clear hK_ K_
      refine one 27 rfl (by kernel_rfl) (by rfl) fun K_ hK_ => ?_
      simp only [List.getElem_toArray, List.getElem_cons_succ, List.getElem_cons_zero]
      go_simp
      refine (Same_any _ _ _ _ _ (k34.K_below (HB3.out.trans (HBc.out.mono HB3.out.size)) HKB.out) (k34.K_below HBc.out HKZ.out)).mono ?_
      rw [same_refl]
      rintro e_ w7 ⟨rfl, hB7⟩
      have HB7 := Lib.hid hB7
      clear hB7
      have HBc := Lib.hid (HBc.out.trans (HB7.out.mono HBc.out.size))
      simp only [Oper.upon]
      refine hK_ _ _ ?_
      clear hK_ K_
      refine tk 28 rfl rfl (by kernel_rfl) (fun _ _ _ h => h) (by rfl) (by intro w_; go_simp; try with_reducible rfl) ?_
      refine tk 29 rfl rfl (by kernel_rfl) (fun _ _ _ h => h) (by rfl) (by intro w_; go_simp; try with_reducible rfl) ?_
      refine wpAny_done (by kernel_rfl) ?_ _
      simp only [List.set_cons_zero, List.set_cons_succ]
      rotate_left
      all_goals
        have HF := Lib.hid (HB3.out.trans (HBc.out.mono HB3.out.size))
        clear HBc HB7 HKA HKB HKY HKZ RA RB RY RZ iy iz hu
        go_wp2_with fail
        go_ret
        exact ⟨rfl, HF.out⟩
  · have e1 : ∀ p, lbest p l l = (0, lask l l) := fun p => by unfold lbest; rw [if_pos h0]
    rw [e1] at HE HM
    exact ends_bad l A c w _ h0 HL HE HM HS2
end Go.Proofs.YtmfpakolfpoamaaGreatDoor.P
/- What a statement reads of values that came in: they lie as the walk reads them (K, C). -/
namespace Go.Proofs.YtmfpakolfpoamaaGreatDoor.P
set_option linter.unusedVariables false
set_option linter.unusedSimpArgs false
open Go.RowKit Go.Proofs.YtmfpakolfpoamaaGreatDoorW.PrintWords Go.Proofs.YtmfpakolfpoamaaGreatDoorW.PrintMore
section
open _root_.Go.Proofs.YtmfpakolfpoamaaGreatDoor.Rows
theorem one_le_bulk {H : Type} (d : DataW H) : 1 ≤ uptoBulk d := by
  cases d with
  | lit l => cases l <;> simp [uptoBulk]
  | nil => simp [uptoBulk]
  | ptr d => simp [uptoBulk]
  | slice elems spare => simp [uptoBulk]
  | agg parts => simp [uptoBulk]
  | iface t d => simp [uptoBulk]
  | map entries => simp [uptoBulk]
  | held h => simp [uptoBulk]
theorem length_le_bulk {H : Type} (l : List (DataW H)) : l.length ≤ uptoBulkAll l := by
  induction l with
  | nil => simp [uptoBulkAll]
  | cons x r ih => have := one_le_bulk x; simp only [uptoBulkAll, List.length_cons]; omega
theorem mem_le_bulk {H : Type} {l : List (DataW H)} {d : DataW H} (h : d ∈ l) : uptoBulk d ≤ uptoBulkAll l := by
  induction l with
  | nil => simp at h
  | cons x r ih =>
    simp only [uptoBulkAll]
    rcases List.mem_cons.1 h with rfl | h
    · omega
    · have := ih h; omega
end
section
variable {H : Type} {enc : TypeId × Value → H} {P : Program} {w : World} {base : Nat} {spare : Nat → Bool} {held : Bool}
/-- A slice that came in, its elements read by d. -/
theorem open_row {α : Type} {d : Kd α} {okv : α → Prop} {t e : TypeId} {fuel : Nat} {cs : List Value} {x : DataW H × List MemPlace} (ht : P.underlying t = some (.slice e)) (hsz : d.sz = P.cellsOf e)
    (ih : ∀ n cs x, n < fuel → DataW.trod enc P w base spare held n e cs = some x → Rows.uptoBulk x.1 ≤ 1048576 → ∃ y : α, d.K w y cs ∧ okv y) (hbulk : Rows.uptoBulk x.1 ≤ 1048576) (h : DataW.trod enc P w base spare held fuel t cs = some x) :
    ∃ (A : Option Addr) (c : Nat) (ys : List α), cs = [.slice A ys.length c] ∧ ys.length ≤ c ∧ ys.length ≤ 1048576 ∧ d.C w A ys.length ys ∧ ∀ y ∈ ys, okv y := by
  rcases DataW.trod_slice ht h with ⟨rfl, _⟩ | ⟨a, len, cap, elems, rest, n, rfl, rfl, rfl, hb, hl, hm, hel0, hel, _, _⟩
  · exact ⟨none, 0, [], rfl, Nat.le_refl _, Nat.zero_le _, Kd.C_nil d w, fun y hy => by simp at hy⟩
  · have each : ∀ i, i < len → ∃ (cs : List Value) (y : α), w.cells? base (a.add (i * P.cellsOf e)) (P.cellsOf e) = some cs ∧ d.K w y cs ∧ okv y := fun i hi => by
      have h1 := hel i hi
      obtain ⟨z, hz⟩ : ∃ z, elems[i]? = some z := ⟨elems[i], List.getElem?_eq_getElem (by omega)⟩
      rw [hz, Option.bind_eq_some_iff] at h1
      obtain ⟨cs, h2, h3⟩ := h1
      obtain ⟨y, hy, hk⟩ := ih n cs z (Nat.lt_succ_self _) h3 (by
        have hm : z.1 ∈ elems.map (·.1) := List.mem_map_of_mem (List.mem_of_getElem? hz)
        have := mem_le_bulk hm
        replace hbulk : Rows.uptoBulk (DataW.slice (elems.map (·.1)) (rest.map (·.1))) ≤ 1048576 := hbulk
        rw [Rows.uptoBulk] at hbulk
        omega)
      exact ⟨cs, y, h2, hy, hk⟩
    have pick : ∀ m, m ≤ len → ∃ ys : List α, ys.length = m ∧ ∀ i y, ys[i]? = some y → (∃ cs, w.cells? base (a.add (i * P.cellsOf e)) (P.cellsOf e) = some cs ∧ d.K w y cs) ∧ okv y := by
      intro m
      induction m with
      | zero => exact fun _ => ⟨[], rfl, fun i y hy => by simp at hy⟩
      | succ m ihm =>
        intro hm
        obtain ⟨ys, hy1, hy2⟩ := ihm (by omega)
        obtain ⟨cs, y, h1, h2, h3⟩ := each m (by omega)
        refine ⟨ys ++ [y], by simp [hy1], fun i z hz => ?_⟩
        rcases Nat.lt_or_ge i m with hi | hi
        · rw [List.getElem?_append_left (by omega)] at hz
          exact hy2 i z hz
        · rw [List.getElem?_append_right (by omega), hy1] at hz
          have : i = m := by
            rcases Nat.lt_or_ge m i with h | h
            · rw [List.getElem?_eq_none (by simp; omega)] at hz; simp at hz
            · omega
          subst this
          simp at hz
          subst hz
          exact ⟨⟨cs, h1, h2⟩, h3⟩
    obtain ⟨ys, hy1, hy2⟩ := pick len (Nat.le_refl _)
    have hll : len ≤ 1048576 := by
      have := length_le_bulk (elems.map (·.1))
      rw [List.length_map, hel0] at this
      replace hbulk : Rows.uptoBulk (DataW.slice (elems.map (·.1)) (rest.map (·.1))) ≤ 1048576 := hbulk
      rw [Rows.uptoBulk] at hbulk
      omega
    refine ⟨some a, cap, ys, by rw [hy1], by omega, by omega, ⟨rfl, by unfold maxLen at hm; omega, fun _ => ⟨a, rfl, fun j p hj => ?_⟩⟩, fun y hy => ?_⟩
    · obtain ⟨⟨cs, h1, h2⟩, _⟩ := hy2 j p hj
      obtain ⟨_, h4, h5⟩ := World.cells?_some h1
      refine ⟨cs, by rw [hsz]; exact h4, h2, fun i u hu => ?_⟩
      have hi : i < P.cellsOf e := by have := (List.getElem?_eq_some_iff.1 hu).1; omega
      have := h5 i hi
      rw [hu] at this
      rw [← this, hsz, Addr.add_add]
    · obtain ⟨i, hi⟩ := List.getElem?_of_mem hy
      exact (hy2 i y hi).2
end
theorem field_at {H : Type} {enc : TypeId × Value → H} {P : Program} {w : World} {base : Nat} {spare : Nat → Bool} {held : Bool} {n : Nat} {cs : List Value} {xs : List (DataW H × List MemPlace)} {fs : Array Field}
    (hf : ∀ (i : Nat) (f : Field), fs[i]? = some f → DataW.trod enc P w base spare held n f.type ((cs.drop f.offset).take (P.cellsOf f.type)) = xs[i]?) (i t off k : Nat) (h : (fs[i]?).map (fun f => (f.type, f.offset)) = some (t, off)) (hk : P.cellsOf t = k) :
    DataW.trod enc P w base spare held n t ((cs.drop off).take k) = xs[i]? := by
  obtain ⟨f, h1, h2⟩ := Option.map_eq_some_iff.1 h
  simp only [Prod.mk.injEq] at h2
  obtain ⟨rfl, rfl⟩ := h2
  subst hk
  exact hf i f h1
section
variable {H : Type} {enc : TypeId × Value → H} {w : World} {base : Nat} {spare : Nat → Bool} {held : Bool}
theorem open_val : ∀ (fuel : Nat) (cs : List Value) (x : DataW H × List MemPlace), DataW.trod enc Tryz.prog w base spare held fuel 34 cs = some x → Rows.uptoBulk x.1 ≤ 1048576 → ∃ y : S34, k34.K w y cs ∧ OkV y := by
  intro fuel
  induction fuel using Nat.strongRecOn with
  | _ fuel ih =>
    intro cs x h hbulk
    obtain ⟨xs, n, rfl, rfl, hlen, hxl, hf⟩ := DataW.trod_struct Tryz.underlying34 h
    replace hbulk : Rows.uptoBulk (DataW.agg (xs.map (·.1))) ≤ 1048576 := hbulk
    rw [Rows.uptoBulk] at hbulk
    have part : ∀ (i : Nat) y, xs[i]? = some y → Rows.uptoBulk y.1 ≤ 1048576 := fun i y hy => by
      have := mem_le_bulk (List.mem_map_of_mem (f := (·.1)) (List.mem_of_getElem? hy))
      omega
    have hsz : Tryz.prog.cellsOf 34 = 7 := by kernel_rfl
    rw [hsz] at hlen
    obtain ⟨c0, c1, c2, c3, c4, c5, c6, rfl⟩ := list7 hlen
    have e3 : Tryz.prog.cellsOf 3 = 1 := by kernel_rfl
    have e24 : Tryz.prog.cellsOf 31 = 3 := by kernel_rfl
    have e9 : Tryz.prog.cellsOf 9 = 1 := by kernel_rfl
    have e25 : Tryz.prog.cellsOf 22 = 1 := by kernel_rfl
    have e26 : Tryz.prog.cellsOf 32 = 1 := by kernel_rfl
    have q0 : DataW.trod enc Tryz.prog w base spare held n 3 [c0] = xs[0]? := field_at hf 0 3 0 1 rfl e3
    have q1 : DataW.trod enc Tryz.prog w base spare held n 31 [c1, c2, c3] = xs[1]? := field_at hf 1 31 1 3 rfl e24
    have q2 : DataW.trod enc Tryz.prog w base spare held n 9 [c4] = xs[2]? := field_at hf 2 9 4 1 rfl e9
    have q3 : DataW.trod enc Tryz.prog w base spare held n 22 [c5] = xs[3]? := field_at hf 3 22 5 1 rfl e25
    have q4 : DataW.trod enc Tryz.prog w base spare held n 32 [c6] = xs[4]? := field_at hf 4 32 6 1 rfl e26
    obtain ⟨y0, g0⟩ : ∃ y, xs[0]? = some y := ⟨xs[0]'(by rw [hxl]; decide), List.getElem?_eq_getElem _⟩
    obtain ⟨y1, g1⟩ : ∃ y, xs[1]? = some y := ⟨xs[1]'(by rw [hxl]; decide), List.getElem?_eq_getElem _⟩
    obtain ⟨y2, g2⟩ : ∃ y, xs[2]? = some y := ⟨xs[2]'(by rw [hxl]; decide), List.getElem?_eq_getElem _⟩
    obtain ⟨y3, g3⟩ : ∃ y, xs[3]? = some y := ⟨xs[3]'(by rw [hxl]; decide), List.getElem?_eq_getElem _⟩
    obtain ⟨y4, g4⟩ : ∃ y, xs[4]? = some y := ⟨xs[4]'(by rw [hxl]; decide), List.getElem?_eq_getElem _⟩
    rw [g0] at q0
    rw [g1] at q1
    rw [g2] at q2
    rw [g3] at q3
    rw [g4] at q4
    obtain ⟨n0, p0, _, w0⟩ := DataW.trod_int Tryz.underlying3 q0
    obtain ⟨s, p2, hy2, _⟩ := DataW.trod_string Tryz.underlying9 q2
    have w2 : s.size ≤ 1073741824 := by
      have := part _ _ g2
      rw [hy2] at this
      replace this : Rows.uptoBulk (DataW.lit (.string s.data.toList) : DataW H) ≤ 1048576 := this
      rw [Rows.uptoBulk, Array.length_toList] at this
      have : s.size = s.data.size := rfl
      omega
    -- the number
    obtain ⟨zs, m, rfl, hy1, _, hzl, hz⟩ := DataW.trod_struct Tryz.underlying31 q1
    have e4 : Tryz.prog.cellsOf 4 = 1 := by kernel_rfl
    have e22 : Tryz.prog.cellsOf 29 = 1 := by kernel_rfl
    have r0 : DataW.trod enc Tryz.prog w base spare held m 4 [c1] = zs[0]? := field_at hz 0 4 0 1 rfl e4
    have r1 : DataW.trod enc Tryz.prog w base spare held m 29 [c2] = zs[1]? := field_at hz 1 29 1 1 rfl e22
    have r2 : DataW.trod enc Tryz.prog w base spare held m 3 [c3] = zs[2]? := field_at hz 2 3 2 1 rfl e3
    obtain ⟨z0, t0⟩ : ∃ y, zs[0]? = some y := ⟨zs[0]'(by rw [hzl]; decide), List.getElem?_eq_getElem _⟩
    obtain ⟨z1, t1⟩ : ∃ y, zs[1]? = some y := ⟨zs[1]'(by rw [hzl]; decide), List.getElem?_eq_getElem _⟩
    obtain ⟨z2, t2⟩ : ∃ y, zs[2]? = some y := ⟨zs[2]'(by rw [hzl]; decide), List.getElem?_eq_getElem _⟩
    rw [t0] at r0
    rw [t1] at r1
    rw [t2] at r2
    have hb1 := part _ _ g1
    rw [hy1] at hb1
    replace hb1 : Rows.uptoBulk (DataW.agg (zs.map (·.1))) ≤ 1048576 := hb1
    rw [Rows.uptoBulk] at hb1
    have hbz : Rows.uptoBulk z1.1 ≤ 1048576 := by
      have := mem_le_bulk (List.mem_map_of_mem (f := (·.1)) (List.mem_of_getElem? t1))
      omega
    obtain ⟨b, b0, _⟩ := DataW.trod_bool Tryz.underlying4 r0
    obtain ⟨ex, b2, _, w3⟩ := DataW.trod_int Tryz.underlying3 r2
    obtain ⟨A1, k1, co, b1, l1, m1, C1, ok1⟩ := open_row (d := Kd.int .u32) (okv := fun n => (Lit.int .u32 n).wf = true) Tryz.underlying29 (by kernel_rfl) (fun n cs x _ hx _ => by
      obtain ⟨v, rfl, _, hv⟩ := DataW.trod_int Tryz.underlying90 hx
      exact ⟨v, rfl, hv⟩) hbz r1
    obtain ⟨A3, k3, li, b3, l3, m3, C3, ok3⟩ := open_row (d := k34) (okv := OkV) Tryz.underlying22 (by rw [hsz]; rfl) (fun n cs x hn hx hb => ih n (by omega) cs x hx hb) (part _ _ g3) q3
    obtain ⟨A4, k4, ke, b4, l4, m4, C4, ok4⟩ := open_row (d := Kd.string) (okv := fun s => s.size ≤ 1073741824) Tryz.underlying32 (by kernel_rfl) (fun n cs x _ hx hb => by
      obtain ⟨v, rfl, rfl, hv⟩ := DataW.trod_string Tryz.underlying9 hx
      replace hb : Rows.uptoBulk (DataW.lit (.string v.data.toList) : DataW H) ≤ 1048576 := hb
      rw [Rows.uptoBulk, Array.length_toList] at hb
      exact ⟨v, rfl, by have : v.size = v.data.size := rfl; omega⟩) (part _ _ g4) q4
    simp only [List.cons.injEq, and_true] at p0 p2 b0 b1 b2 b3 b4
    subst p0 p2 b0 b1 b2 b3 b4
    exact ⟨⟨n0, ⟨b, co, ex⟩, s, li, ke⟩, k34_mk w ⟨n0, ⟨b, co, ex⟩, s, li, ke⟩ l1 C1 l3 C3 l4 C4, OkV.mk _ w0 ok1 w3 w2 ok4 (by simp only; omega) (by simp only; omega) (by simp only; omega) ok3⟩
end
end Go.Proofs.YtmfpakolfpoamaaGreatDoor.P

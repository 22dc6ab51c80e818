import Derived.Test.YthigbklhngihkaaGreatDoorMValueOrderr
import Derived.Test.YthigbklhngihkaaGreatDoorRows
import Derived.ChangeArms
import Derived.ChangeSlices
import Derived.DataReads
import Derived.DataElems
set_option linter.unusedVariables false
set_option linter.unusedSimpArgs false
set_option maxRecDepth 100000
namespace Go.Proofs.YthigbklhngihkaaGreatDoor.P
open Go.RowKit Go.Proofs.YthigbklhngihkaaGreatDoorW.PrintWords Go.Proofs.YthigbklhngihkaaGreatDoorW.PrintMore Go.Proofs.YthigbklhngihkaaGreatDoorW.PrintLast
theorem num5_any (n : Int) (W : World) : Calls Tryz.prog 17 #[.int .i64 n] W fun e w' => e = .returned (.int .i64 n) ∧ w' = W := by
 go_enter Tryz.func17, Tryz.ntmps17
 go_wp2
 go_ret
 exact ⟨rfl, rfl⟩
def kV (n : Int) : V := ⟨n, ⟨false, [], 0⟩, ⟨#[]⟩, [], []⟩
def exK : List ByteArray := [⟨#[98]⟩, ⟨#[97]⟩, ⟨#[98]⟩]
def exL : List V := [kV 1, kV 2, kV 0]
theorem ex_E : objE exK exL = 0 := by decide +kernel
theorem ex_keys : (objV exK exL).f4 = [⟨#[97]⟩, ⟨#[98]⟩] := by decide +kernel
theorem ex_ask : vask2 num0 (txtV ⟨#[]⟩) = 0 := by decide +kernel
theorem ex_cmp : vcmp num0 (txtV ⟨#[]⟩) = -1 := by decide +kernel
theorem kV_K (n : Int) (W : World) : k28.K W (kV n) [.int .i64 n, .bool false, .slice none 0 0, .int .i64 0, .string ⟨#[]⟩, .slice none 0 0, .slice none 0 0] :=
 k28_mk W (kV n) (Nat.zero_le 0) (Kd.C_nil _ _) (Nat.zero_le 0) (Kd.C_nil _ _) (Nat.zero_le 0) (Kd.C_nil _ _)
theorem okV_kV {n : Int} (h : (Lit.int .i64 n).wf = true) : OkV (kV n) :=
 OkV.mk _ h (fun m hm => absurd hm (by unfold kV; simp)) (by show (Lit.int .i64 0).wf = true; rfl) (by show (0 : Nat) ≤ 1073741824; decide) (fun n hn => absurd hn (by unfold kV; simp)) (by unfold kV; simp) (by unfold kV; simp) (by unfold kV; simp) (fun y hy => absurd hy (by unfold kV; simp))
theorem okV_ex : ∀ x ∈ exL, OkV x := fun x hx => by
 unfold exL at hx
 simp only [List.mem_cons, List.mem_nil_iff, or_false] at hx
 rcases hx with rfl | rfl | rfl <;> exact okV_kV rfl
theorem okV_num0 : OkV num0 :=
 OkV.mk _ (by show (Lit.int .i64 3).wf = true; rfl) (fun m hm => absurd hm (by unfold num0; simp)) (by show (Lit.int .i64 0).wf = true; rfl) (by show (0 : Nat) ≤ 1073741824; decide) (fun n hn => absurd hn (by unfold num0; simp)) (by unfold num0; simp) (by unfold num0; simp) (by unfold num0; simp) (fun y hy => absurd hy (by unfold num0; simp))
theorem okV_txt {s : ByteArray} (h : s.size ≤ 1073741824) : OkV (txtV s) :=
 OkV.mk _ (by show (Lit.int .i64 4).wf = true; rfl) (fun m hm => absurd hm (by unfold txtV; simp)) (by show (Lit.int .i64 0).wf = true; rfl) h (fun n hn => absurd hn (by unfold txtV; simp)) (by unfold txtV; simp) (by unfold txtV; simp) (by unfold txtV; simp) (fun y hy => absurd hy (by unfold txtV; simp))
theorem ex_at {W : World} {ad : Addr} {a b : ByteArray} (h : W.cell? (ad.add (0 : Int).toNat) = some (.string (rdOf ⟨#[]⟩ [a, b] (0 : Int)))) : W.cell? ad = some (.string a) := by
 have e : ad.add (0 : Int).toNat = ad := by cases ad; rfl
 rw [e] at h
 exact h
theorem ex_Object (W : World) (hLD : LaidW W) (W2 : World) (hW2 : W2 = (W.alloc (.cells #[.string ⟨#[98]⟩, .string ⟨#[97]⟩, .string ⟨#[98]⟩] 9)).alloc (.cells #[.int .i64 1, .bool false, .slice none 0 0, .int .i64 0, .string ⟨#[]⟩, .slice none 0 0, .slice none 0 0, .int .i64 2, .bool false, .slice none 0 0, .int .i64 0, .string ⟨#[]⟩, .slice none 0 0, .slice none 0 0, .int .i64 0, .bool false, .slice none 0 0, .int .i64 0, .string ⟨#[]⟩, .slice none 0 0, .slice none 0 0] 28)) :
 Calls Tryz.prog 22 #[.slice (some ⟨W.heap.size, 0, none⟩) 3 3, .slice (some ⟨W.heap.size + 1, 0, none⟩) 3 3] W2 (fun e w' => ∃ cs : List Value, e = .returned (.tuple #[.agg cs.toArray, .int .i64 0]) ∧ k28.M w' W2.heap.size (fun _ => True) (objV exK exL) cs ∧ Below W.heap.size W w') := by
 have hB : Below W.heap.size W W2 := by rw [hW2]; exact ((Below.refl _ _).alloc (Nat.le_refl _) _).alloc (by simp) _
 have hA : Kd.string.C W2 (some ⟨W.heap.size, 0, none⟩) exK.length exK := by
  rw [hW2]
  exact Kd.C_alloc (texts_C (w := W) (l := exK) (t := 9) (by decide)) _
 have hL : k28.C W2 (some ⟨W.heap.size + 1, 0, none⟩) exL.length exL := by
  rw [hW2]
  have := many_C (w0 := W) (w := W.alloc (.cells #[.string ⟨#[98]⟩, .string ⟨#[97]⟩, .string ⟨#[98]⟩] 9)) (l := exL) (rows := [[.int .i64 1, .bool false, .slice none 0 0, .int .i64 0, .string ⟨#[]⟩, .slice none 0 0, .slice none 0 0], [.int .i64 2, .bool false, .slice none 0 0, .int .i64 0, .string ⟨#[]⟩, .slice none 0 0, .slice none 0 0], [.int .i64 0, .bool false, .slice none 0 0, .int .i64 0, .string ⟨#[]⟩, .slice none 0 0, .slice none 0 0]]) (t := 28) rfl ((Below.refl _ _).alloc (Nat.le_refl _) _) (fun j x c hx hc => by
   rcases j with _ | _ | _ | j
   · obtain rfl := Option.some.inj hx; obtain rfl := Option.some.inj hc; exact kV_K 1 W
   · obtain rfl := Option.some.inj hx; obtain rfl := Option.some.inj hc; exact kV_K 2 W
   · obtain rfl := Option.some.inj hx; obtain rfl := Option.some.inj hc; exact kV_K 0 W
   · simp at hc) (by decide)
  rw [World.size_alloc] at this
  exact this
 have h := Object_any exK exL (some ⟨W.heap.size, 0, none⟩) 3 (some ⟨W.heap.size + 1, 0, none⟩) 3 W2 (hLD.below hB) hA hL okV_ex (fun k hk => by
  unfold exK at hk
  simp only [List.mem_cons, List.mem_nil_iff, or_false] at hk
  rcases hk with rfl | rfl | rfl <;> decide) (by decide)
 refine h.mono ?_
 rintro e w' ⟨cs, rfl, hM, hb⟩
 exact ⟨cs, by rw [ex_E], hM, hB.trans (hb.mono hB.size)⟩
set_option maxHeartbeats 4000000 in
theorem alive5_any (w : World) (hLD : LaidW w) : Calls Tryz.prog 15 #[] w fun e w' => e = .returned (.bool true) ∧ Below w.heap.size w w' := by
 have HN : Hid (∀ W, Calls Tryz.prog 19 #[.int .i64 0] W fun e w' => ∃ cs : List Value, e = .returned (.agg cs.toArray) ∧ k28.M w' W.heap.size (fun _ => True) num0 cs ∧ Below W.heap.size W w') := Lib.hid NumberP_zero
 have HT : Hid (∀ W, Calls Tryz.prog 27 #[.string ⟨#[]⟩] W fun e w' => ∃ cs : List Value, e = .returned (.agg cs.toArray) ∧ k28.M w' W.heap.size (fun _ => True) (txtV ⟨#[]⟩) cs ∧ Below W.heap.size W w') := Lib.hid (fun W => Text_any ⟨#[]⟩ W)
 have HC : Hid (∀ cs ds W, Below w.heap.size w W → k28.K W num0 cs → k28.K W (txtV ⟨#[]⟩) ds → Calls Tryz.prog 16 #[.agg cs.toArray, .agg ds.toArray] W fun e w' => e = .returned (.tuple #[.int .i64 (-1), .int .i64 0]) ∧ Below W.heap.size W w') := Lib.hid (fun cs ds W hW h1 h2 => by
  have h := VCompare_any num0 (txtV ⟨#[]⟩) cs ds W (hLD.below hW) h1 h2 okV_num0 (okV_txt (by decide))
  rw [ex_cmp, ex_ask] at h
  exact h)
 have HOB := Lib.hid (fun W (hW : Below w.heap.size w W) => ex_Object W (hLD.below hW) _ rfl)
 clear hLD
 go_enter Tryz.func15, Tryz.ntmps15
 go_wp2_with (first
  | (go_at_call 19; (with_reducible refine (HN.out _).mono ?_); rintro e w1 ⟨cs1, rfl, hM1, hB1⟩; have HM1 := Lib.hid hM1; have HB1 := Lib.hid hB1; obtain ⟨v2, v5, v6, rfl, r2, r5, r6⟩ := k28_openM hM1; clear hM1 hB1 r2 r5 r6)
  | (go_at_call 27; (with_reducible refine (HT.out _).mono ?_); rintro e w2 ⟨cs2, rfl, hM2, hB2⟩; have HM2 := Lib.hid hM2; have HB2 := Lib.hid hB2; obtain ⟨u2, u5, u6, rfl, r2, r5, r6⟩ := k28_openM hM2; clear hM2 hB2 r2 r5 r6)
  | (go_at_call 16; (with_reducible refine (HC.out _ _ w2 (HB1.out.trans (HB2.out.mono HB1.out.size)) (k28.K_below HB2.out (k28.K_of_M HM1.out)) (k28.K_of_M HM2.out)).mono ?_); rintro e w3 ⟨rfl, hB3⟩; have HB3 := Lib.hid ((HB1.out.trans (HB2.out.mono HB1.out.size)).trans (hB3.mono (Nat.le_trans HB1.out.size HB2.out.size))); clear hB3)
  | (go_at_call 22; (with_reducible refine (HOB.out w3 HB3.out).mono ?_); rintro e w4 ⟨cs4, rfl, hM4, hB4⟩; have HM4 := Lib.hid hM4; have HB4 := Lib.hid (HB3.out.trans (hB4.mono HB3.out.size)); obtain ⟨z2, z5, z6, rfl, r2, r5, r6⟩ := k28_openM hM4; obtain ⟨E2, s2, rfl⟩ := Kd.R_slice r2; obtain ⟨E5, s5, rfl⟩ := Kd.R_slice r5; obtain ⟨E6, s6, rfl⟩ := Kd.R_slice r6; have hk6 := (Kd.R_reads' r6).2.2; rw [ex_keys] at hk6 ⊢; obtain ⟨ad, rfl, hx⟩ := Kd.at_string hk6 (0 : Int) (by decide) (by decide); have hx := ex_at hx; have hxa := fun (o : Obj) => pw_cell_below ((Below.refl w4.heap.size w4).alloc (Nat.le_refl _) o) hx; clear hM4 hB4 r2 r5 r6 hk6; obtain ⟨hcz, hfz⟩ := bcells (blk_new w4 (.cells #[.int .i64 0, .bool false, .slice none 0 0, .int .i64 0, .string ⟨#[]⟩, .slice none 0 0, .slice none 0 0] 28)) (Below.refl _ _))
  | (go_at_call 17; (with_reducible refine (num5_any _ _).mono ?_); rintro e w5 ⟨rfl, rfl⟩))
 go_ret
 exact ⟨rfl, HB4.out.alloc HB4.out.size _⟩
set_option maxHeartbeats 4000000 in
theorem order5_walk (x : V) (cs : List Value) (y : V) (ds : List Value) (z : V) (es : List Value) (w : World) (hLD : LaidW w) (hKx : k28.K w x cs) (hOx : OkV x) (hKy : k28.K w y ds) (hOy : OkV y) (hKz : k28.K w z es) (hOz : OkV z) :
 Calls Tryz.prog 3 #[.agg cs.toArray, .agg ds.toArray, .agg es.toArray] w fun e w' => e = .returned (.bool true) ∧ Below w.heap.size w w' := by
 have HAL := Lib.hid (fun W (hW : Below w.heap.size w W) => alive5_any W (hLD.below hW))
 have HXY := Lib.hid (fun W (hW : Below w.heap.size w W) => VCompare_any x y cs ds W (hLD.below hW) (k28.K_below hW hKx) (k28.K_below hW hKy) hOx hOy)
 have HYZ := Lib.hid (fun W (hW : Below w.heap.size w W) => VCompare_any y z ds es W (hLD.below hW) (k28.K_below hW hKy) (k28.K_below hW hKz) hOy hOz)
 have HXZ := Lib.hid (fun W (hW : Below w.heap.size w W) => VCompare_any x z cs es W (hLD.below hW) (k28.K_below hW hKx) (k28.K_below hW hKz) hOx hOz)
 have HYX := Lib.hid (fun W (hW : Below w.heap.size w W) => VCompare_any y x ds cs W (hLD.below hW) (k28.K_below hW hKy) (k28.K_below hW hKx) hOy hOx)
 have HSM := Lib.hid (fun W (hW : Below w.heap.size w W) => Same_any x cs y ds W (k28.K_below hW hKx) (k28.K_below hW hKy))
 obtain ⟨A2, c2, A5, c5, A6, c6, rfl, -⟩ := k28_open hKx
 obtain ⟨B2, d2, B5, d5, B6, d6, rfl, -⟩ := k28_open hKy
 obtain ⟨C2, e2, C5, e5, C6, e6, rfl, -⟩ := k28_open hKz
 have HBAD1 : Hid (vask2 x y ≠ 0 → vcmp x y = 0) := Lib.hid vcmp_bad
 have HBAD2 : Hid (vask2 y z ≠ 0 → vcmp y z = 0) := Lib.hid vcmp_bad
 have HSAY : Hid (vask2 x y = 0 → vask2 y z = 0 → vask2 x z = 0 ∧ vask2 y x = 0 ∧ vcmp y x = - vcmp x y ∧ same x y = decide (vcmp x y = 0) ∧ (0 < vcmp x y ∨ 0 < vcmp y z ∨ vcmp x z < 0 ∨ (vcmp x z = 0 ∧ vcmp x y = 0 ∧ vcmp y z = 0))) := Lib.hid order_says
 have HO1 := Lib.hid (vcmp_one x y)
 have HO2 := Lib.hid (vcmp_one y z)
 have HO3 := Lib.hid (vcmp_one x z)
 generalize same x y = sm at *
 generalize vask2 x y = E at *
 generalize vask2 y z = F at *
 generalize vask2 x z = G at *
 generalize vask2 y x = H at *
 generalize vcmp x y = p at *
 generalize vcmp y z = q at *
 generalize vcmp x z = r at *
 generalize vcmp y x = s at *
 obtain ⟨W1, hW1⟩ : ∃ W1, W1 = ((w.alloc (.cells #[.int .i64 x.f0, .bool x.f1.f0, .slice A2 x.f1.f1.length c2, .int .i64 x.f1.f2, .string x.f2, .slice A5 x.f3.length c5, .slice A6 x.f4.length c6] 28)).alloc (.cells #[.int .i64 y.f0, .bool y.f1.f0, .slice B2 y.f1.f1.length d2, .int .i64 y.f1.f2, .string y.f2, .slice B5 y.f3.length d5, .slice B6 y.f4.length d6] 28)).alloc (.cells #[.int .i64 z.f0, .bool z.f1.f0, .slice C2 z.f1.f1.length e2, .int .i64 z.f1.f2, .string z.f2, .slice C5 z.f3.length e5, .slice C6 z.f4.length e6] 28) := ⟨_, rfl⟩
 have hb1 : Below w.heap.size w W1 := by rw [hW1]; exact (((Below.refl _ _).alloc (Nat.le_refl _) _).alloc (by simp) _).alloc (by simp; omega) _
 have hx1 : W1.heap[w.heap.size]? = some (.cells #[.int .i64 x.f0, .bool x.f1.f0, .slice A2 x.f1.f1.length c2, .int .i64 x.f1.f2, .string x.f2, .slice A5 x.f3.length c5, .slice A6 x.f4.length c6] 28 (0, 0)) := by rw [hW1]; exact blk_alloc (blk_alloc (blk_new _ _) _) _
 have hy1 : W1.heap[w.heap.size + 1]? = some (.cells #[.int .i64 y.f0, .bool y.f1.f0, .slice B2 y.f1.f1.length d2, .int .i64 y.f1.f2, .string y.f2, .slice B5 y.f3.length d5, .slice B6 y.f4.length d6] 28 (0, 0)) := by
  rw [hW1]
  have := blk_new (w.alloc (.cells #[.int .i64 x.f0, .bool x.f1.f0, .slice A2 x.f1.f1.length c2, .int .i64 x.f1.f2, .string x.f2, .slice A5 x.f3.length c5, .slice A6 x.f4.length c6] 28)) (.cells #[.int .i64 y.f0, .bool y.f1.f0, .slice B2 y.f1.f1.length d2, .int .i64 y.f1.f2, .string y.f2, .slice B5 y.f3.length d5, .slice B6 y.f4.length d6] 28)
  rw [World.size_alloc] at this
  exact blk_alloc this _
 have hz1 : W1.heap[w.heap.size + 2]? = some (.cells #[.int .i64 z.f0, .bool z.f1.f0, .slice C2 z.f1.f1.length e2, .int .i64 z.f1.f2, .string z.f2, .slice C5 z.f3.length e5, .slice C6 z.f4.length e6] 28 (0, 0)) := by
  rw [hW1]
  have := blk_new ((w.alloc (.cells #[.int .i64 x.f0, .bool x.f1.f0, .slice A2 x.f1.f1.length c2, .int .i64 x.f1.f2, .string x.f2, .slice A5 x.f3.length c5, .slice A6 x.f4.length c6] 28)).alloc (.cells #[.int .i64 y.f0, .bool y.f1.f0, .slice B2 y.f1.f1.length d2, .int .i64 y.f1.f2, .string y.f2, .slice B5 y.f3.length d5, .slice B6 y.f4.length d6] 28)) (.cells #[.int .i64 z.f0, .bool z.f1.f0, .slice C2 z.f1.f1.length e2, .int .i64 z.f1.f2, .string z.f2, .slice C5 z.f3.length e5, .slice C6 z.f4.length e6] 28)
  rw [World.size_alloc, World.size_alloc] at this
  exact this
 have HW1 := Lib.hid hW1
 have HB1 := Lib.hid hb1
 have HX1 := Lib.hid hx1
 have HY1 := Lib.hid hy1
 have HZ1 := Lib.hid hz1
 clear hW1 hb1 hx1 hy1 hz1 hLD hKx hKy hKz hOx hOy hOz
 go_enter Tryz.func3, Tryz.ntmps3
 go_upto_region 1 with (fail)
 rw [← HW1.out]
 clear HW1
 go_upto_region 7 with (first
  | (go_at_call 15; (with_reducible refine (HAL.out _ HB1.out).mono ?_); rintro e w2 ⟨rfl, hB2⟩; have HQ2 := Lib.hid hB2; have HB2 := Lib.hid (HB1.out.trans (hB2.mono HB1.out.size)); clear hB2; obtain ⟨hcx, -⟩ := bcells HX1.out HQ2.out; obtain ⟨hcy, -⟩ := bcells HY1.out HQ2.out; obtain ⟨hcz, -⟩ := bcells HZ1.out HQ2.out)
  | (go_at_call 16; (with_reducible refine (HXY.out _ HB2.out).mono ?_); rintro e w3 ⟨rfl, hB3⟩; have HQ3 := Lib.hid (HQ2.out.trans (hB3.mono HQ2.out.size)); have HB3 := Lib.hid (HB1.out.trans (HQ3.out.mono HB1.out.size)); clear hB3 hcx hcy hcz; obtain ⟨hcx, -⟩ := bcells HX1.out HQ3.out; obtain ⟨hcy, -⟩ := bcells HY1.out HQ3.out; obtain ⟨hcz, -⟩ := bcells HZ1.out HQ3.out)
  | (go_at_call 16; (with_reducible refine (HYZ.out _ HB3.out).mono ?_); rintro e w4 ⟨rfl, hB4⟩; have HQ4 := Lib.hid (HQ3.out.trans (hB4.mono HQ3.out.size)); have HB4 := Lib.hid (HB1.out.trans (HQ4.out.mono HB1.out.size)); clear hB4 hcx hcy hcz; obtain ⟨hcx, -⟩ := bcells HX1.out HQ4.out; obtain ⟨hcy, -⟩ := bcells HY1.out HQ4.out; obtain ⟨hcz, -⟩ := bcells HZ1.out HQ4.out)
  | (go_at_call 16; (with_reducible refine (HXZ.out _ HB4.out).mono ?_); rintro e w5 ⟨rfl, hB5⟩; have HQ5 := Lib.hid (HQ4.out.trans (hB5.mono HQ4.out.size)); have HB5 := Lib.hid (HB1.out.trans (HQ5.out.mono HB1.out.size)); clear hB5 hcx hcy hcz; obtain ⟨hcx, -⟩ := bcells HX1.out HQ5.out; obtain ⟨hcy, -⟩ := bcells HY1.out HQ5.out; obtain ⟨hcz, -⟩ := bcells HZ1.out HQ5.out)
  | (go_at_call 16; (with_reducible refine (HYX.out _ HB5.out).mono ?_); rintro e w6 ⟨rfl, hB6⟩; have HQ6 := Lib.hid (HQ5.out.trans (hB6.mono HQ5.out.size)); have HB6 := Lib.hid (HB1.out.trans (HQ6.out.mono HB1.out.size)); clear hB6 hcx hcy hcz; obtain ⟨hcx, -⟩ := bcells HX1.out HQ6.out; obtain ⟨hcy, -⟩ := bcells HY1.out HQ6.out))
 clear HAL HXY HYZ HXZ HYX HQ2 HQ3 HQ4 HQ5 HQ6 HB2 HB3 HB4 HB5 HX1 HY1 HZ1
 by_cases hE : E = 0
 · by_cases hF : F = 0
   · obtain ⟨rfl, rfl, rfl, rfl, hor⟩ := HSAY.out hE hF
     subst hE hF
     have h1 := HO1.out
     have h2 := HO2.out
     have h3 := HO3.out
     clear HSAY HBAD1 HBAD2 HO1 HO2 HO3
     unfold One at h1 h2 h3
     rcases h1 with rfl | rfl | rfl <;> rcases h2 with rfl | rfl | rfl <;> rcases h3 with rfl | rfl | rfl
     all_goals first | (exfalso; omega) | clear hor
     all_goals go_wp2_with (first
      | (go_at_call 17; (with_reducible refine (num5_any _ _).mono ?_); rintro e w7 ⟨rfl, rfl⟩)
      | (go_at_call 18; (with_reducible refine (HSM.out _ HB6.out).mono ?_); rintro e w8 ⟨rfl, hB8⟩; have HB8 := Lib.hid (HB6.out.trans (hB8.mono HB6.out.size)); clear hB8))
     all_goals go_ret
     all_goals exact ⟨rfl, HB8.out⟩
   · have hq := HBAD2.out hF
     have hEb : (E != 0) = false := by simp [hE]
     have hFb : (F != 0) = true := by simp [hF]
     subst hq hE
     clear HSAY HBAD1 HBAD2 HO1 HO2 HO3 hF
     by_cases hp : p = 0
     · have hpb : (p == 0) = true := by simp [hp]
       clear hp
       go_wp2_with (go_at_call 17; (with_reducible refine (num5_any _ _).mono ?_); rintro e w7 ⟨rfl, rfl⟩)
       go_ret
       exact ⟨rfl, HB6.out⟩
     · have hpb : (p == 0) = false := by simp [hp]
       clear hp
       go_wp2_with (go_at_call 17; (with_reducible refine (num5_any _ _).mono ?_); rintro e w7 ⟨rfl, rfl⟩)
       go_ret
       exact ⟨rfl, HB6.out⟩
 · have hp := HBAD1.out hE
   have hEb : (E != 0) = true := by simp [hE]
   subst hp
   clear HSAY HBAD1 HBAD2 HO1 HO2 HO3 hE
   go_wp2_with (go_at_call 17; (with_reducible refine (num5_any _ _).mono ?_); rintro e w7 ⟨rfl, rfl⟩)
   go_ret
   exact ⟨rfl, HB6.out⟩
end Go.Proofs.YthigbklhngihkaaGreatDoor.P
namespace Go.Proofs.YthigbklhngihkaaGreatDoor.P
open Go.RowKit Go.Proofs.YthigbklhngihkaaGreatDoorW.PrintWords Go.Proofs.YthigbklhngihkaaGreatDoorW.PrintMore
section
open _root_.Go.Proofs.YthigbklhngihkaaGreatDoor.Rows
theorem one_le_bulk {H : Type} (d : DataW H) : 1 ≤ uptoBulk d := by
 cases d with
 | lit l => cases l <;> simp [uptoBulk]
 | nil => simp [uptoBulk]
 | ptr d => simp [uptoBulk]
 | slice elems spare => simp [uptoBulk]
 | agg parts => simp [uptoBulk]
 | iface t d => simp [uptoBulk]
 | map entries => simp [uptoBulk]
 | held h => simp [uptoBulk]
theorem length_le_bulk {H : Type} (l : List (DataW H)) : l.length ≤ uptoBulkAll l := by
 induction l with
 | nil => simp [uptoBulkAll]
 | cons x r ih => have := one_le_bulk x; simp only [uptoBulkAll, List.length_cons]; omega
theorem mem_le_bulk {H : Type} {l : List (DataW H)} {d : DataW H} (h : d ∈ l) : uptoBulk d ≤ uptoBulkAll l := by
 induction l with
 | nil => simp at h
 | cons x r ih =>
  simp only [uptoBulkAll]
  rcases List.mem_cons.1 h with rfl | h
  · omega
  · have := ih h; omega
end
section
variable {H : Type} {enc : TypeId × Value → H} {P : Program} {w : World} {base : Nat} {spare : Nat → Bool} {held : Bool}
theorem open_row {α : Type} {d : Kd α} {okv : α → Prop} {t e : TypeId} {fuel : Nat} {cs : List Value} {x : DataW H × List MemPlace} (ht : P.underlying t = some (.slice e)) (hsz : d.sz = P.cellsOf e)
 (ih : ∀ n cs x, n < fuel → DataW.trod enc P w base spare held n e cs = some x → Rows.uptoBulk x.1 ≤ 1048576 → ∃ y : α, d.K w y cs ∧ okv y) (hbulk : Rows.uptoBulk x.1 ≤ 1048576) (h : DataW.trod enc P w base spare held fuel t cs = some x) :
 ∃ (A : Option Addr) (c : Nat) (ys : List α), cs = [.slice A ys.length c] ∧ ys.length ≤ c ∧ ys.length ≤ 1048576 ∧ d.C w A ys.length ys ∧ ∀ y ∈ ys, okv y := by
 rcases DataW.trod_slice ht h with ⟨rfl, _⟩ | ⟨a, len, cap, elems, rest, n, rfl, rfl, rfl, hb, hl, hm, hel0, hel, _, _⟩
 · exact ⟨none, 0, [], rfl, Nat.le_refl _, Nat.zero_le _, Kd.C_nil d w, fun y hy => by simp at hy⟩
 · have each : ∀ i, i < len → ∃ (cs : List Value) (y : α), w.cells? base (a.add (i * P.cellsOf e)) (P.cellsOf e) = some cs ∧ d.K w y cs ∧ okv y := fun i hi => by
    have h1 := hel i hi
    obtain ⟨z, hz⟩ : ∃ z, elems[i]? = some z := ⟨elems[i], List.getElem?_eq_getElem (by omega)⟩
    rw [hz, Option.bind_eq_some_iff] at h1
    obtain ⟨cs, h2, h3⟩ := h1
    obtain ⟨y, hy, hk⟩ := ih n cs z (Nat.lt_succ_self _) h3 (by
     have hm : z.1 ∈ elems.map (·.1) := List.mem_map_of_mem (List.mem_of_getElem? hz)
     have := mem_le_bulk hm
     replace hbulk : Rows.uptoBulk (DataW.slice (elems.map (·.1)) (rest.map (·.1))) ≤ 1048576 := hbulk
     rw [Rows.uptoBulk] at hbulk
     omega)
    exact ⟨cs, y, h2, hy, hk⟩
   have pick : ∀ m, m ≤ len → ∃ ys : List α, ys.length = m ∧ ∀ i y, ys[i]? = some y → (∃ cs, w.cells? base (a.add (i * P.cellsOf e)) (P.cellsOf e) = some cs ∧ d.K w y cs) ∧ okv y := by
    intro m
    induction m with
    | zero => exact fun _ => ⟨[], rfl, fun i y hy => by simp at hy⟩
    | succ m ihm =>
     intro hm
     obtain ⟨ys, hy1, hy2⟩ := ihm (by omega)
     obtain ⟨cs, y, h1, h2, h3⟩ := each m (by omega)
     refine ⟨ys ++ [y], by simp [hy1], fun i z hz => ?_⟩
     rcases Nat.lt_or_ge i m with hi | hi
     · rw [List.getElem?_append_left (by omega)] at hz
       exact hy2 i z hz
     · rw [List.getElem?_append_right (by omega), hy1] at hz
       have : i = m := by
        rcases Nat.lt_or_ge m i with h | h
        · rw [List.getElem?_eq_none (by simp; omega)] at hz; simp at hz
        · omega
       subst this
       simp at hz
       subst hz
       exact ⟨⟨cs, h1, h2⟩, h3⟩
   obtain ⟨ys, hy1, hy2⟩ := pick len (Nat.le_refl _)
   have hll : len ≤ 1048576 := by
    have := length_le_bulk (elems.map (·.1))
    rw [List.length_map, hel0] at this
    replace hbulk : Rows.uptoBulk (DataW.slice (elems.map (·.1)) (rest.map (·.1))) ≤ 1048576 := hbulk
    rw [Rows.uptoBulk] at hbulk
    omega
   refine ⟨some a, cap, ys, by rw [hy1], by omega, by omega, ⟨rfl, by unfold maxLen at hm; omega, fun _ => ⟨a, rfl, fun j p hj => ?_⟩⟩, fun y hy => ?_⟩
   · obtain ⟨⟨cs, h1, h2⟩, _⟩ := hy2 j p hj
     obtain ⟨_, h4, h5⟩ := World.cells?_some h1
     refine ⟨cs, by rw [hsz]; exact h4, h2, fun i u hu => ?_⟩
     have hi : i < P.cellsOf e := by have := (List.getElem?_eq_some_iff.1 hu).1; omega
     have := h5 i hi
     rw [hu] at this
     rw [← this, hsz, Addr.add_add]
   · obtain ⟨i, hi⟩ := List.getElem?_of_mem hy
     exact (hy2 i y hi).2
end
theorem field_at {H : Type} {enc : TypeId × Value → H} {P : Program} {w : World} {base : Nat} {spare : Nat → Bool} {held : Bool} {n : Nat} {cs : List Value} {xs : List (DataW H × List MemPlace)} {fs : Array Field}
 (hf : ∀ (i : Nat) (f : Field), fs[i]? = some f → DataW.trod enc P w base spare held n f.type ((cs.drop f.offset).take (P.cellsOf f.type)) = xs[i]?) (i t off k : Nat) (h : (fs[i]?).map (fun f => (f.type, f.offset)) = some (t, off)) (hk : P.cellsOf t = k) :
 DataW.trod enc P w base spare held n t ((cs.drop off).take k) = xs[i]? := by
 obtain ⟨f, h1, h2⟩ := Option.map_eq_some_iff.1 h
 simp only [Prod.mk.injEq] at h2
 obtain ⟨rfl, rfl⟩ := h2
 subst hk
 exact hf i f h1
section
variable {H : Type} {enc : TypeId × Value → H} {w : World} {base : Nat} {spare : Nat → Bool} {held : Bool}
theorem open_val : ∀ (fuel : Nat) (cs : List Value) (x : DataW H × List MemPlace), DataW.trod enc Tryz.prog w base spare held fuel 28 cs = some x → Rows.uptoBulk x.1 ≤ 1048576 → ∃ y : S28, k28.K w y cs ∧ OkV y := by
 intro fuel
 induction fuel using Nat.strongRecOn with
 | _ fuel ih =>
  intro cs x h hbulk
  obtain ⟨xs, n, rfl, rfl, hlen, hxl, hf⟩ := DataW.trod_struct Tryz.underlying28 h
  replace hbulk : Rows.uptoBulk (DataW.agg (xs.map (·.1))) ≤ 1048576 := hbulk
  rw [Rows.uptoBulk] at hbulk
  have part : ∀ (i : Nat) y, xs[i]? = some y → Rows.uptoBulk y.1 ≤ 1048576 := fun i y hy => by
   have := mem_le_bulk (List.mem_map_of_mem (f := (·.1)) (List.mem_of_getElem? hy))
   omega
  have hsz : Tryz.prog.cellsOf 28 = 7 := by kernel_rfl
  rw [hsz] at hlen
  obtain ⟨c0, c1, c2, c3, c4, c5, c6, rfl⟩ := list7 hlen
  have e3 : Tryz.prog.cellsOf 3 = 1 := by kernel_rfl
  have e24 : Tryz.prog.cellsOf 24 = 3 := by kernel_rfl
  have e9 : Tryz.prog.cellsOf 9 = 1 := by kernel_rfl
  have e25 : Tryz.prog.cellsOf 25 = 1 := by kernel_rfl
  have e26 : Tryz.prog.cellsOf 26 = 1 := by kernel_rfl
  have q0 : DataW.trod enc Tryz.prog w base spare held n 3 [c0] = xs[0]? := field_at hf 0 3 0 1 rfl e3
  have q1 : DataW.trod enc Tryz.prog w base spare held n 24 [c1, c2, c3] = xs[1]? := field_at hf 1 24 1 3 rfl e24
  have q2 : DataW.trod enc Tryz.prog w base spare held n 9 [c4] = xs[2]? := field_at hf 2 9 4 1 rfl e9
  have q3 : DataW.trod enc Tryz.prog w base spare held n 25 [c5] = xs[3]? := field_at hf 3 25 5 1 rfl e25
  have q4 : DataW.trod enc Tryz.prog w base spare held n 26 [c6] = xs[4]? := field_at hf 4 26 6 1 rfl e26
  obtain ⟨y0, g0⟩ : ∃ y, xs[0]? = some y := ⟨xs[0]'(by rw [hxl]; decide), List.getElem?_eq_getElem _⟩
  obtain ⟨y1, g1⟩ : ∃ y, xs[1]? = some y := ⟨xs[1]'(by rw [hxl]; decide), List.getElem?_eq_getElem _⟩
  obtain ⟨y2, g2⟩ : ∃ y, xs[2]? = some y := ⟨xs[2]'(by rw [hxl]; decide), List.getElem?_eq_getElem _⟩
  obtain ⟨y3, g3⟩ : ∃ y, xs[3]? = some y := ⟨xs[3]'(by rw [hxl]; decide), List.getElem?_eq_getElem _⟩
  obtain ⟨y4, g4⟩ : ∃ y, xs[4]? = some y := ⟨xs[4]'(by rw [hxl]; decide), List.getElem?_eq_getElem _⟩
  rw [g0] at q0
  rw [g1] at q1
  rw [g2] at q2
  rw [g3] at q3
  rw [g4] at q4
  obtain ⟨n0, p0, _, w0⟩ := DataW.trod_int Tryz.underlying3 q0
  obtain ⟨s, p2, hy2, _⟩ := DataW.trod_string Tryz.underlying9 q2
  have w2 : s.size ≤ 1073741824 := by
   have := part _ _ g2
   rw [hy2] at this
   replace this : Rows.uptoBulk (DataW.lit (.string s.data.toList) : DataW H) ≤ 1048576 := this
   rw [Rows.uptoBulk, Array.length_toList] at this
   have : s.size = s.data.size := rfl
   omega
  obtain ⟨zs, m, rfl, hy1, _, hzl, hz⟩ := DataW.trod_struct Tryz.underlying24 q1
  have e4 : Tryz.prog.cellsOf 4 = 1 := by kernel_rfl
  have e22 : Tryz.prog.cellsOf 22 = 1 := by kernel_rfl
  have r0 : DataW.trod enc Tryz.prog w base spare held m 4 [c1] = zs[0]? := field_at hz 0 4 0 1 rfl e4
  have r1 : DataW.trod enc Tryz.prog w base spare held m 22 [c2] = zs[1]? := field_at hz 1 22 1 1 rfl e22
  have r2 : DataW.trod enc Tryz.prog w base spare held m 3 [c3] = zs[2]? := field_at hz 2 3 2 1 rfl e3
  obtain ⟨z0, t0⟩ : ∃ y, zs[0]? = some y := ⟨zs[0]'(by rw [hzl]; decide), List.getElem?_eq_getElem _⟩
  obtain ⟨z1, t1⟩ : ∃ y, zs[1]? = some y := ⟨zs[1]'(by rw [hzl]; decide), List.getElem?_eq_getElem _⟩
  obtain ⟨z2, t2⟩ : ∃ y, zs[2]? = some y := ⟨zs[2]'(by rw [hzl]; decide), List.getElem?_eq_getElem _⟩
  rw [t0] at r0
  rw [t1] at r1
  rw [t2] at r2
  have hb1 := part _ _ g1
  rw [hy1] at hb1
  replace hb1 : Rows.uptoBulk (DataW.agg (zs.map (·.1))) ≤ 1048576 := hb1
  rw [Rows.uptoBulk] at hb1
  have hbz : Rows.uptoBulk z1.1 ≤ 1048576 := by
   have := mem_le_bulk (List.mem_map_of_mem (f := (·.1)) (List.mem_of_getElem? t1))
   omega
  obtain ⟨b, b0, _⟩ := DataW.trod_bool Tryz.underlying4 r0
  obtain ⟨ex, b2, _, w3⟩ := DataW.trod_int Tryz.underlying3 r2
  obtain ⟨A1, k1, co, b1, l1, m1, C1, ok1⟩ := open_row (d := Kd.int .u32) (okv := fun n => (Lit.int .u32 n).wf = true) Tryz.underlying22 (by kernel_rfl) (fun n cs x _ hx _ => by
   obtain ⟨v, rfl, _, hv⟩ := DataW.trod_int Tryz.underlying131 hx
   exact ⟨v, rfl, hv⟩) hbz r1
  obtain ⟨A3, k3, li, b3, l3, m3, C3, ok3⟩ := open_row (d := k28) (okv := OkV) Tryz.underlying25 (by rw [hsz]; rfl) (fun n cs x hn hx hb => ih n (by omega) cs x hx hb) (part _ _ g3) q3
  obtain ⟨A4, k4, ke, b4, l4, m4, C4, ok4⟩ := open_row (d := Kd.string) (okv := fun s => s.size ≤ 1073741824) Tryz.underlying26 (by kernel_rfl) (fun n cs x _ hx hb => by
   obtain ⟨v, rfl, rfl, hv⟩ := DataW.trod_string Tryz.underlying9 hx
   replace hb : Rows.uptoBulk (DataW.lit (.string v.data.toList) : DataW H) ≤ 1048576 := hb
   rw [Rows.uptoBulk, Array.length_toList] at hb
   exact ⟨v, rfl, by have : v.size = v.data.size := rfl; omega⟩) (part _ _ g4) q4
  simp only [List.cons.injEq, and_true] at p0 p2 b0 b1 b2 b3 b4
  subst p0 p2 b0 b1 b2 b3 b4
  exact ⟨⟨n0, ⟨b, co, ex⟩, s, li, ke⟩, k28_mk w ⟨n0, ⟨b, co, ex⟩, s, li, ke⟩ l1 C1 l3 C3 l4 C4, OkV.mk _ w0 ok1 w3 w2 ok4 (by simp only; omega) (by simp only; omega) (by simp only; omega) ok3⟩
end
end Go.Proofs.YthigbklhngihkaaGreatDoor.P

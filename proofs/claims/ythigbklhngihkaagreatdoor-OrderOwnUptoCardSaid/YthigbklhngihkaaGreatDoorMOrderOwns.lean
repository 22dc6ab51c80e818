import Derived.Test.YthigbklhngihkaaGreatDoorMOrderOwnr
set_option linter.unusedVariables false
set_option linter.unusedSimpArgs false
set_option maxRecDepth 100000
namespace Go.Proofs.YthigbklhngihkaaGreatDoor.P
open Go.RowKit Go.Proofs.YthigbklhngihkaaGreatDoorW.PrintWords Go.Proofs.YthigbklhngihkaaGreatDoorW.PrintMore Go.Proofs.YthigbklhngihkaaGreatDoorW.PrintLast
structure SumAt (w W : World) (na nb : Bool) (G : Option Addr) (g : Nat) (H : Option Addr) (h : Nat) (l1 l2 : List Int) (low : Int) : Prop where
 x : W.heap[w.heap.size]? = some (.cells #[.bool na, .slice G l1.length g, .int .i64 low] 144 (0, 0))
 y : W.heap[w.heap.size + 1]? = some (.cells #[.bool nb, .slice H l2.length h, .int .i64 low] 144 (0, 0))
 o : W.heap[w.heap.size + 1 + 1]? = some (.cells #[.bool false, .slice none 0 0, .int .i64 0] 144 (0, 0))
 below : Below w.heap.size w W
 r1 : Kd.R (Kd.int .i64) 3 W w.heap.size (fun _ => True) (.slice G l1.length g) l1
 r2 : Kd.R (Kd.int .i64) 3 W w.heap.size (fun _ => True) (.slice H l2.length h) l2
theorem sum_mid {w W w5 : World} {na nb a1 b1 : Bool} {G H F1 F2 : Option Addr} {g h f1 f2 m1 m2 : Nat} {l1 l2 : List Int} {low x1 x2 : Int}
 (hx : W.heap[w.heap.size]? = some (.cells #[.bool a1, .slice F1 m1 f1, .int .i64 x1] 144 (0, 0)))
 (hy : W.heap[w.heap.size + 1]? = some (.cells #[.bool b1, .slice F2 m2 f2, .int .i64 x2] 144 (0, 0)))
 (ho : W.heap[w.heap.size + 1 + 1]? = some (.cells #[.bool false, .slice none 0 0, .int .i64 0] 144 (0, 0)))
 (hB : Below w.heap.size w W) (hB5 : Below W.heap.size W w5)
 (h1 : Kd.R (Kd.int .i64) 3 w5 W.heap.size (fun _ => True) (.slice G l1.length g) l1) (h2 : Kd.R (Kd.int .i64) 3 w5 W.heap.size (fun _ => True) (.slice H l2.length h) l2) :
 SumAt w (set3 (set3 w5 w.heap.size (.bool na) (.slice G l1.length g) (.int .i64 low)) (w.heap.size + 1) (.bool nb) (.slice H l2.length h) (.int .i64 low)) na nb G g H h l1 l2 low := by
 have kx := blk_below2 hx hB5
 have ky := blk_below2 hy hB5
 have ky1 := (set3_far w5 w.heap.size (.bool na) (.slice G l1.length g) (.int .i64 low) (w.heap.size + 1) (by omega)).trans ky
 obtain ⟨e1, e2⟩ := two_box (g := w.heap.size) (g' := w.heap.size + 1) (by omega) kx ky (.bool na) (.slice G l1.length g) (.int .i64 low) (.bool nb) (.slice H l2.length h) (.int .i64 low)
 refine ⟨e1, e2, ?_, set3_below (set3_below (hB.trans (hB5.mono hB.size)) (Nat.le_refl _) _ _ _) (Nat.le_succ _) _ _ _, R_set3 (R_set3 (Kd.R_lower h1 hB.size) kx (by decide) _ _ _) ky1 (by decide) _ _ _, R_set3 (R_set3 (Kd.R_lower h2 hB.size) kx (by decide) _ _ _) ky1 (by decide) _ _ _⟩
 rw [set3_far _ _ _ _ _ _ (by omega), set3_far _ _ _ _ _ _ (by omega)]
 exact blk_below2 ho hB5
theorem sum_end {w W w8 X9 : World} {na nb : Bool} {G H P : Option Addr} {g h p : Nat} {l1 l2 m : List Int} {low : Int} (hS : SumAt w W na nb G g H h l1 l2 low) (hB : Below W.heap.size W w8)
 (hR : Kd.R (Kd.int .i64) 3 w8 W.heap.size (fun _ => True) (.slice P m.length p) m) (hfar : ∀ j, j ≠ w.heap.size → X9.heap[j]? = w8.heap[j]?) (hb9 : Below w.heap.size w X9) (s : Bool) :
 Below w.heap.size w (set3 X9 (w.heap.size + 1 + 1) (.bool s) (.slice P m.length p) (.int .i64 low)) ∧ Kd.R (Kd.int .i64) 3 (set3 X9 (w.heap.size + 1 + 1) (.bool s) (.slice P m.length p) (.int .i64 low)) w.heap.size (fun _ => True) (.slice P m.length p) m ∧ (set3 X9 (w.heap.size + 1 + 1) (.bool s) (.slice P m.length p) (.int .i64 low)).heap[w.heap.size + 1 + 1]? = some (.cells #[.bool s, .slice P m.length p, .int .i64 low] 144 (0, 0)) := by
 have hs := blk_lt hS.o
 have ho : X9.heap[w.heap.size + 1 + 1]? = some (.cells #[.bool false, .slice none 0 0, .int .i64 0] 144 (0, 0)) := (hfar _ (by omega)).trans (blk_below2 hS.o hB)
 refine ⟨set3_below hb9 (by omega) _ _ _, ?_, set3_row ho _ _ _⟩
 exact Kd.R_mono (Kd.R_lower (Kd.R_move (Kd.R_bound hR) (fun j hj => by
  have := hj.2.1
  rw [set3_far _ _ _ _ _ _ (by omega)]
  exact hfar j (by omega))) (by omega)) (fun _ _ => trivial)
set_option maxHeartbeats 4000000 in
theorem Sum_any (na nb : Bool) (m n : Nat) (e f : Int) (A B : Option Addr) (c d : Nat) (w : World) (hA : Kd.C (Kd.int .i64) w A (decs m).length (decs m)) (hB : Kd.C (Kd.int .i64) w B (decs n).length (decs n)) (hl : (decs m).length ≤ 10000) (hl2 : (decs n).length ≤ 10000) (he : -100000 ≤ e ∧ e ≤ 100000) (hf : -100000 ≤ f ∧ f ≤ 100000) (low : Int) (hlow : low = min e f) :
 Calls Tryz.prog 161 #[.agg #[.bool na, .slice A (decs m).length c, .int .i64 e], .agg #[.bool nb, .slice B (decs n).length d, .int .i64 f]] w fun x w' => ∃ G g, x = .returned (.agg #[.bool (sumB na nb (m * 10 ^ (e - low).toNat) (n * 10 ^ (f - low).toNat)).1, .slice G (decs (sumB na nb (m * 10 ^ (e - low).toNat) (n * 10 ^ (f - low).toNat)).2).length g, .int .i64 low]) ∧ Kd.R (Kd.int .i64) 3 w' w.heap.size (fun _ => True) (.slice G (decs (sumB na nb (m * 10 ^ (e - low).toNat) (n * 10 ^ (f - low).toNat)).2).length g) (decs (sumB na nb (m * 10 ^ (e - low).toNat) (n * 10 ^ (f - low).toNat)).2) ∧ Below w.heap.size w w' := by
 have HAL := Lib.hid (fun W (hW : Below w.heap.size w W) => Align_any na nb m n e f A B c d W (Kd.C_below hA hW) (Kd.C_below hB hW) hl hl2 he hf low hlow)
 have hxl := decs_shift_len m (e - low).toNat
 have hyl := decs_shift_len n (f - low).toNat
 obtain ⟨X, hX⟩ : ∃ X, X = m * 10 ^ (e - low).toNat := ⟨_, rfl⟩
 obtain ⟨Y, hY⟩ : ∃ Y, Y = n * 10 ^ (f - low).toNat := ⟨_, rfl⟩
 rw [← hX] at HAL hxl ⊢
 rw [← hY] at HAL hyl ⊢
 have hxl2 : (decs X).length ≤ 500000 := by omega
 have hyl2 : (decs Y).length ≤ 500000 := by omega
 have HPL : Hid (∀ W A c B d, Kd.C (Kd.int .i64) W A (decs X).length (decs X) → Kd.C (Kd.int .i64) W B (decs Y).length (decs Y) → Calls Tryz.prog 115 #[.slice A (decs X).length c, .slice B (decs Y).length d] W fun e w' => ∃ v : Value, e = .returned v ∧ Kd.R (Kd.int .i64) 3 w' W.heap.size (fun _ => True) v (decs (X + Y)) ∧ Below W.heap.size W w') := Lib.hid (fun W A c B d h1 h2 => Plus_any X Y A B c d W h1 h2 hxl2 hyl2)
 have HOR : Hid (∀ W A c B d, Kd.C (Kd.int .i64) W A (decs X).length (decs X) → Kd.C (Kd.int .i64) W B (decs Y).length (decs Y) → Calls Tryz.prog 201 #[.slice A (decs X).length c, .slice B (decs Y).length d] W fun e w' => e = .returned (.int .i64 (cmpI X Y)) ∧ Below W.heap.size W w') := Lib.hid (fun W A c B d h1 h2 => Order01_any X Y A B c d W h1 h2 (by omega) (by omega))
 have HM1 : Hid (Y ≤ X → ∀ W A c B d, Kd.C (Kd.int .i64) W A (decs X).length (decs X) → Kd.C (Kd.int .i64) W B (decs Y).length (decs Y) → Calls Tryz.prog 202 #[.slice A (decs X).length c, .slice B (decs Y).length d] W fun e w' => ∃ v : Value, e = .returned v ∧ Kd.R (Kd.int .i64) 3 w' W.heap.size (fun _ => True) v (decs (X - Y)) ∧ Below W.heap.size W w') := Lib.hid (fun h W A c B d h1 h2 => Minus_any X Y A B c d W h1 h2 hxl2 h)
 have HM2 : Hid (X ≤ Y → ∀ W A c B d, Kd.C (Kd.int .i64) W A (decs X).length (decs X) → Kd.C (Kd.int .i64) W B (decs Y).length (decs Y) → Calls Tryz.prog 202 #[.slice B (decs Y).length d, .slice A (decs X).length c] W fun e w' => ∃ v : Value, e = .returned v ∧ Kd.R (Kd.int .i64) 3 w' W.heap.size (fun _ => True) v (decs (Y - X)) ∧ Below W.heap.size W w') := Lib.hid (fun h W A c B d h1 h2 => Minus_any Y X B A d c W h2 h1 hyl2 h)
 generalize (decs m).length = lm at *
 generalize (decs n).length = ln at *
 obtain ⟨W3, hW3⟩ : ∃ W3, W3 = ((w.alloc (.cells #[.bool na, .slice A lm c, .int .i64 e] 144)).alloc (.cells #[.bool nb, .slice B ln d, .int .i64 f] 144)).alloc (.cells #[.bool false, .slice none 0 0, .int .i64 0] 144) := ⟨_, rfl⟩
 have hb3 : Below w.heap.size w W3 := by rw [hW3]; exact (((Below.refl _ _).alloc (Nat.le_refl _) _).alloc (by simp) _).alloc (by simp; omega) _
 have h3a : W3.heap[w.heap.size]? = some (.cells #[.bool na, .slice A lm c, .int .i64 e] 144 (0, 0)) := by rw [hW3]; exact blk_alloc (blk_alloc (blk_new _ _) _) _
 have h3b : W3.heap[w.heap.size + 1]? = some (.cells #[.bool nb, .slice B ln d, .int .i64 f] 144 (0, 0)) := by
  rw [hW3]
  have := blk_new (w.alloc (.cells #[.bool na, .slice A lm c, .int .i64 e] 144)) (.cells #[.bool nb, .slice B ln d, .int .i64 f] 144)
  rw [World.size_alloc] at this
  exact blk_alloc this _
 have h3c : W3.heap[w.heap.size + 1 + 1]? = some (.cells #[.bool false, .slice none 0 0, .int .i64 0] 144 (0, 0)) := by
  rw [hW3]
  have := blk_new ((w.alloc (.cells #[.bool na, .slice A lm c, .int .i64 e] 144)).alloc (.cells #[.bool nb, .slice B ln d, .int .i64 f] 144)) (.cells #[.bool false, .slice none 0 0, .int .i64 0] 144)
  rw [World.size_alloc, World.size_alloc] at this
  exact this
 have HB3 := Lib.hid hb3
 have H3A := Lib.hid h3a
 have H3B := Lib.hid h3b
 have H3C := Lib.hid h3c
 have HW3 := Lib.hid hW3
 have HS : Hid (sumB na nb X Y = if na = nb then (na, X + Y) else if Y ≤ X then (na, X - Y) else (nb, Y - X)) := Lib.hid rfl
 obtain ⟨S, hS⟩ : ∃ S, S = sumB na nb X Y := ⟨_, rfl⟩
 rw [← hS] at HS ⊢
 have HCM : Hid (cmpI X Y ≥ 0 ↔ Y ≤ X) := Lib.hid (by unfold cmpI; split <;> (try split) <;> omega)
 clear hb3 h3a h3b h3c hW3 hX hY hA hB hl hl2 he hf hlow hxl hyl hxl2 hyl2 hS
 generalize cmpI X Y = cm at *
 go_enter Tryz.func161, Tryz.ntmps161
 go_upto_region 1 with (fail)
 rw [← HW3.out]
 clear HW3
 obtain ⟨hca, hfa⟩ := bcells H3A.out (Below.refl _ _)
 obtain ⟨hcb, hfb⟩ := bcells H3B.out (Below.refl _ _)
 go_upto_block 0 with (go_at_call 200; (with_reducible refine (HAL.out _ HB3.out).mono ?_); rintro x w5 ⟨G, g, H, h, rfl, hR5, hS5, hB5⟩; obtain ⟨hc5, hf5⟩ := bcells H3A.out hB5; obtain ⟨hd5, he5⟩ := bcells H3B.out hB5; have hmid := sum_mid (na := na) (nb := nb) (low := low) H3A.out H3B.out H3C.out HB3.out hB5 hR5 hS5; have HMID := Lib.hid hmid; clear hmid hR5 hS5 hB5)
 obtain ⟨W, hW⟩ : ∃ W, W = set3 (set3 w5 w.heap.size (.bool na) (.slice G (decs X).length g) (.int .i64 low)) (w.heap.size + 1) (.bool nb) (.slice H (decs Y).length h) (.int .i64 low) := ⟨_, rfl⟩
 rw [← hW] at HMID
 simp only [set3] at hW
 rw [← hW]
 clear hW hca hfa hcb hfb hc5 hf5 hd5 he5 HAL HB3 H3A H3B H3C
 obtain ⟨hca, hfa⟩ := bcells HMID.out.x (Below.refl _ _)
 obtain ⟨hcb, hfb⟩ := bcells HMID.out.y (Below.refl _ _)
 have HC1 : Hid (Kd.C (Kd.int .i64) W G (decs X).length (decs X)) := Lib.hid (Kd.R_reads' HMID.out.r1).2.2
 have HC2 : Hid (Kd.C (Kd.int .i64) W H (decs Y).length (decs Y)) := Lib.hid (Kd.R_reads' HMID.out.r2).2.2
 cases hab : (na == nb) with
 | true =>
  have hR := HS.out
  rw [if_pos (eq_of_beq hab)] at hR
  clear HS HOR HM1 HM2 HCM
  subst hR
  go_wp2_with (go_at_call 115; (with_reducible refine (HPL.out _ _ _ _ _ HC1.out HC2.out).mono ?_); rintro x w8 ⟨v8, rfl, hR8, hB8⟩; obtain ⟨P, p, rfl⟩ := Kd.R_slice hR8; obtain ⟨hx8, hxf8⟩ := bcells (blk_below2 HMID.out.x hB8) (Below.refl _ _); obtain ⟨ho8, hof8⟩ := bcells (blk_below2 HMID.out.o hB8) (Below.refl _ _); have hend := sum_end (X9 := w8.setCell ⟨w.heap.size, 1, none⟩ (.slice P (decs (X + Y)).length p)) HMID.out hB8 hR8 (fun j hj => Below.heap_setCell _ _ _ _ (by simpa using hj)) ((HMID.out.below.trans (hB8.mono HMID.out.below.size)).setCell (p := ⟨w.heap.size, 1, none⟩) (Nat.le_refl _) _) na; have HE := Lib.hid hend; clear hend hR8 hB8)
  obtain ⟨hb9, hc9, hr9⟩ := HE.out
  simp only [set3] at hb9 hc9 hr9
  obtain ⟨W9, hW9⟩ : ∃ W9, W9 = (((w8.setCell ⟨w.heap.size, 1, none⟩ (.slice P (decs (X + Y)).length p)).setCell ⟨w.heap.size + 1 + 1, 0, none⟩ (.bool na)).setCell ⟨w.heap.size + 1 + 1, 1, none⟩ (.slice P (decs (X + Y)).length p)).setCell ⟨w.heap.size + 1 + 1, 2, none⟩ (.int .i64 low) := ⟨_, rfl⟩
  rw [← hW9] at hb9 hc9 hr9 ⊢
  obtain ⟨z0, z1, z2⟩ := cells3 hr9
  refine bodyPost_ret (v := .agg #[.bool na, .slice P (decs (X + Y)).length p, .int .i64 low]) ?_ rfl ⟨P, p, rfl, hc9, hb9⟩
  simp [results, Tryz.f161, go_sem, z0, z1, z2]
 | false =>
  have hR := HS.out
  rw [if_neg (by intro h; rw [h] at hab; simp at hab)] at hR
  clear HS HPL
  by_cases hle : Y ≤ X
  · rw [if_pos hle] at hR
    subst hR
    have hcm := HCM.out.2 hle
    have hcm2 : 0 ≤ cm := hcm
    have HM := Lib.hid (HM1.out hle)
    clear HCM HM1 HM2 hcm hle
    go_wp2_with (first
     | (go_at_call 201; (with_reducible refine (HOR.out _ _ _ _ _ HC1.out HC2.out).mono ?_); rintro x w8 ⟨rfl, hB8⟩; have HB8 := Lib.hid hB8; obtain ⟨hx8, hxf8⟩ := bcells (blk_below2 HMID.out.x hB8) (Below.refl _ _); obtain ⟨hy8, hyf8⟩ := bcells (blk_below2 HMID.out.y hB8) (Below.refl _ _); clear hB8)
     | (go_at_call 202; (with_reducible refine (HM.out _ _ _ _ _ (Kd.C_below HC1.out HB8.out) (Kd.C_below HC2.out HB8.out)).mono ?_); rintro x w9 ⟨v9, rfl, hR9, hB9⟩; obtain ⟨P, p, rfl⟩ := Kd.R_slice hR9; have hB89 := HB8.out.trans (hB9.mono HB8.out.size); obtain ⟨hx9, hxf9⟩ := bcells (blk_below2 HMID.out.x hB89) (Below.refl _ _); obtain ⟨ho9, hof9⟩ := bcells (blk_below2 HMID.out.o hB89) (Below.refl _ _); have hend := sum_end (X9 := w9.setCell ⟨w.heap.size, 1, none⟩ (.slice P (decs (X - Y)).length p)) HMID.out hB89 (Kd.R_lower hR9 HB8.out.size) (fun j hj => Below.heap_setCell _ _ _ _ (by simpa using hj)) ((HMID.out.below.trans (hB89.mono HMID.out.below.size)).setCell (p := ⟨w.heap.size, 1, none⟩) (Nat.le_refl _) _) na; have HE := Lib.hid hend; clear hend hR9 hB9 hB89))
    obtain ⟨hb9, hc9, hr9⟩ := HE.out
    simp only [set3] at hb9 hc9 hr9
    obtain ⟨W9, hW9⟩ : ∃ W9, W9 = (((w9.setCell ⟨w.heap.size, 1, none⟩ (.slice P (decs (X - Y)).length p)).setCell ⟨w.heap.size + 1 + 1, 0, none⟩ (.bool na)).setCell ⟨w.heap.size + 1 + 1, 1, none⟩ (.slice P (decs (X - Y)).length p)).setCell ⟨w.heap.size + 1 + 1, 2, none⟩ (.int .i64 low) := ⟨_, rfl⟩
    rw [← hW9] at hb9 hc9 hr9 ⊢
    obtain ⟨z0, z1, z2⟩ := cells3 hr9
    refine bodyPost_ret (v := .agg #[.bool na, .slice P (decs (X - Y)).length p, .int .i64 low]) ?_ rfl ⟨P, p, rfl, hc9, hb9⟩
    simp [results, Tryz.f161, go_sem, z0, z1, z2]
  · rw [if_neg hle] at hR
    subst hR
    have hcm2 : ¬ 0 ≤ cm := fun h => hle (HCM.out.1 h)
    have HM := Lib.hid (HM2.out (by omega))
    clear HCM HM1 HM2 hle
    go_upto_region 2 with (go_at_call 201; (with_reducible refine (HOR.out _ _ _ _ _ HC1.out HC2.out).mono ?_); rintro x w8 ⟨rfl, hB8⟩; have HB8 := Lib.hid hB8; clear hB8)
    have HW8 : Hid (Below W.heap.size W w8.drew) := Lib.hid (below_drew HB8.out)
    clear HB8 hca hfa hcb hfb
    obtain ⟨hx8, hxf8⟩ := bcells (blk_below2 HMID.out.x HW8.out) (Below.refl _ _)
    obtain ⟨hy8, hyf8⟩ := bcells (blk_below2 HMID.out.y HW8.out) (Below.refl _ _)
    go_region_law (go_simp; go_at_call 202; (with_reducible refine (HM.out _ _ _ _ _ (Kd.C_below HC1.out HW8.out) (Kd.C_below HC2.out HW8.out)).mono ?_); rintro x w9 ⟨v9, rfl, hR9, hB9⟩; obtain ⟨P, p, rfl⟩ := Kd.R_slice hR9; have hB89 := HW8.out.trans (hB9.mono HW8.out.size); obtain ⟨hx9, hxf9⟩ := bcells (blk_below2 HMID.out.x hB89) (Below.refl _ _); obtain ⟨hy9, hyf9⟩ := bcells (blk_below2 HMID.out.y hB89) (Below.refl _ _); obtain ⟨ho9, hof9⟩ := bcells (blk_below2 HMID.out.o hB89) (Below.refl _ _); have hend := sum_end (X9 := (w9.setCell ⟨w.heap.size, 0, none⟩ (.bool nb)).setCell ⟨w.heap.size, 1, none⟩ (.slice P (decs (Y - X)).length p)) HMID.out hB89 (Kd.R_lower hR9 HW8.out.size) (fun j hj => (Below.heap_setCell _ _ _ _ (by simpa using hj)).trans (Below.heap_setCell _ _ _ _ (by simpa using hj))) (((HMID.out.below.trans (hB89.mono HMID.out.below.size)).setCell (p := ⟨w.heap.size, 0, none⟩) (Nat.le_refl _) _).setCell (p := ⟨w.heap.size, 1, none⟩) (Nat.le_refl _) _) nb; have HE := Lib.hid hend; clear hend hR9 hB9 hB89)
    all_goals
     rename_i q_ k_ a_ c_
     refine a_ _ _ ?_
     clear a_
     go_wp2_with fail
     obtain ⟨hb9, hc9, hr9⟩ := HE.out
     simp only [set3] at hb9 hc9 hr9
     obtain ⟨W9, hW9⟩ : ∃ W9, W9 = ((((w9.setCell ⟨w.heap.size, 0, none⟩ (.bool nb)).setCell ⟨w.heap.size, 1, none⟩ (.slice P (decs (Y - X)).length p)).setCell ⟨w.heap.size + 1 + 1, 0, none⟩ (.bool nb)).setCell ⟨w.heap.size + 1 + 1, 1, none⟩ (.slice P (decs (Y - X)).length p)).setCell ⟨w.heap.size + 1 + 1, 2, none⟩ (.int .i64 low) := ⟨_, rfl⟩
     rw [← hW9] at hb9 hc9 hr9 ⊢
     obtain ⟨z0, z1, z2⟩ := cells3 hr9
     refine bodyPost_ret (v := .agg #[.bool nb, .slice P (decs (Y - X)).length p, .int .i64 low]) ?_ rfl ⟨P, p, rfl, hc9, hb9⟩
     simp [results, Tryz.f161, go_sem, z0, z1, z2]
theorem decs_nil_iff (k : Nat) : (decs k).length = 0 ↔ k = 0 := by
 constructor
 · intro h
   by_cases hk : k = 0
   · exact hk
   · rw [decs_pos hk] at h; simp at h
 · intro h
   rw [h, decs_zero]; rfl
theorem dcmp_sum {a b : D} (ha : decOkB a = true) (hb : decOkB b = true) (low : Int) (hlow : low = min a.f2 b.f2) (q : Bool) (hq : q = (!b.f0 && decide ((decs (val b.f1)).length ≠ 0))) (S : Bool × Nat) (hS : S = sumB a.f0 q (val a.f1 * 10 ^ (a.f2 - low).toNat) (val b.f1 * 10 ^ (b.f2 - low).toNat)) :
 dcmp a b = if S.2 = 0 then 0 else if S.1 then -1 else 1 := by
 obtain ⟨a1, a2, a3, a4, a5⟩ := dec_ok ha
 obtain ⟨b1, b2, b3, b4, b5⟩ := dec_ok hb
 have hqm : q = (minusD b).f0 := by
  rw [hq]
  unfold minusD
  have e : decide ((decs (val b.f1)).length ≠ 0) = decide (b.f1.length ≠ 0) := by
   apply decide_eq_decide.2
   rw [ne_eq, ne_eq, decs_nil_iff, canon_nil_iff b1]
  rw [e]
 have h1 := sumB_sg a.f0 q (val a.f1 * 10 ^ (a.f2 - low).toNat) (val b.f1 * 10 ^ (b.f2 - low).toNat)
 rw [← hS, hqm] at h1
 have h2 := minus_sg b b1 low
 have e1 : val a.f1 * 10 ^ (a.f2 - low).toNat = downN a low := rfl
 have e2 : val b.f1 * 10 ^ (b.f2 - low).toNat = downN (minusD b) low := rfl
 rw [e1, e2, h2] at h1
 unfold dcmp
 rw [dval_down (d := a) low (by omega) (by omega), dval_down (d := b) low (by omega) (by omega), cmpI_mul _ _ _ (Nat.pow_pos (by omega))]
 generalize sg a.f0 (downN a low) = X at *
 generalize sg b.f0 (downN b low) = Y at *
 obtain ⟨s, k⟩ := S
 simp only at h1 ⊢
 unfold cmpI
 by_cases h0 : k = 0
 · rw [if_pos h0]
   rw [h0] at h1
   have h4 : sg s 0 = 0 := by unfold sg; split <;> rfl
   rw [h4] at h1
   rw [if_neg (by omega), if_neg (by omega)]
 · rw [if_neg h0]
   unfold sg at h1
   cases s
   · simp only [Bool.false_eq_true, if_false] at h1 ⊢
     rw [if_neg (by omega), if_pos (by omega)]
   · simp only [if_true] at h1 ⊢
     rw [if_pos (by omega)]
set_option maxHeartbeats 4000000 in
theorem Order02_any (a b : D) (A B : Option Addr) (c d : Nat) (w : World) (hA : Kd.C (Kd.int .u32) w A a.f1.length a.f1) (hB : Kd.C (Kd.int .u32) w B b.f1.length b.f1) (ha : decOkB a = true) (hb : decOkB b = true) :
 Calls Tryz.prog 123 #[.agg #[.bool a.f0, .slice A a.f1.length c, .int .i64 a.f2], .agg #[.bool b.f0, .slice B b.f1.length d, .int .i64 b.f2]] w fun e w' => e = .returned (.int .i64 (dcmp a b)) ∧ Below w.heap.size w w' := by
 obtain ⟨a1, a2, a3, a4, a5⟩ := dec_ok ha
 obtain ⟨b1, b2, b3, b4, b5⟩ := dec_ok hb
 obtain ⟨low, hlow⟩ : ∃ low, low = min a.f2 b.f2 := ⟨_, rfl⟩
 obtain ⟨q, hq⟩ : ∃ q, q = (!b.f0 && decide ((decs (val b.f1)).length ≠ 0)) := ⟨_, rfl⟩
 obtain ⟨S, hS⟩ : ∃ S, S = sumB a.f0 q (val a.f1 * 10 ^ (a.f2 - low).toNat) (val b.f1 * 10 ^ (b.f2 - low).toNat) := ⟨_, rfl⟩
 have HR := Lib.hid (dcmp_sum ha hb low hlow q hq S hS)
 have hda := decs_256 (canon_okL a1) a2
 have hdb := decs_256 (canon_okL b1) b2
 have HOA := Lib.hid (fun W (hW : Below w.heap.size w W) => Of_any a A c W (Kd.C_below hA hW) a2 (canon_okL a1))
 have HOB := Lib.hid (fun W (hW : Below w.heap.size w W) => Of_any b B d W (Kd.C_below hB hW) b2 (canon_okL b1))
 have HOP : Hid (∀ W H h, Calls Tryz.prog 163 #[.agg #[.bool b.f0, .slice H (decs (val b.f1)).length h, .int .i64 b.f2]] W fun e w' => e = .returned (.agg #[.bool q, .slice H (decs (val b.f1)).length h, .int .i64 b.f2]) ∧ Below W.heap.size W w') := Lib.hid (fun W H h => by rw [hq]; exact opposite_any _ _ _ _ _ _)
 have HSM : Hid (∀ W G g H h, Kd.C (Kd.int .i64) W G (decs (val a.f1)).length (decs (val a.f1)) → Kd.C (Kd.int .i64) W H (decs (val b.f1)).length (decs (val b.f1)) → Calls Tryz.prog 161 #[.agg #[.bool a.f0, .slice G (decs (val a.f1)).length g, .int .i64 a.f2], .agg #[.bool q, .slice H (decs (val b.f1)).length h, .int .i64 b.f2]] W fun x w' => ∃ P p, x = .returned (.agg #[.bool S.1, .slice P (decs S.2).length p, .int .i64 low]) ∧ Below W.heap.size W w') := Lib.hid (fun W G g H h h1 h2 => (Sum_any a.f0 q _ _ a.f2 b.f2 G H g h W h1 h2 (by omega) (by omega) (by omega) (by omega) low hlow).mono fun x w' ⟨P, p, e, _, e2⟩ => ⟨P, p, by rw [hS]; exact e, e2⟩)
 have hk := decs_nil_iff S.2
 clear hS hlow hq hda hdb a1 a2 a3 a4 a5 b1 b2 b3 b4 b5 hA hB ha hb
 generalize dcmp a b = r at *
 generalize a.f1.length = na at *
 generalize b.f1.length = nb at *
 generalize a.f0 = sa at *
 generalize b.f0 = sb at *
 generalize a.f2 = xa at *
 generalize b.f2 = xb at *
 generalize decs (val a.f1) = da at *
 generalize decs (val b.f1) = db at *
 generalize (decs S.2).length = ls at *
 obtain ⟨s, k⟩ := S
 simp only at HR HSM hk
 obtain ⟨W2, hW2⟩ : ∃ W2, W2 = (w.alloc (.cells #[.bool sa, .slice A na c, .int .i64 xa] 24)).alloc (.cells #[.bool sb, .slice B nb d, .int .i64 xb] 24) := ⟨_, rfl⟩
 have hb2 : Below w.heap.size w W2 := by rw [hW2]; exact ((Below.refl _ _).alloc (Nat.le_refl _) _).alloc (by simp) _
 have hx2 : W2.heap[w.heap.size]? = some (.cells #[.bool sa, .slice A na c, .int .i64 xa] 24 (0, 0)) := by rw [hW2]; exact blk_alloc (blk_new _ _) _
 have hy2 : W2.heap[w.heap.size + 1]? = some (.cells #[.bool sb, .slice B nb d, .int .i64 xb] 24 (0, 0)) := by rw [hW2]; have := blk_new (w.alloc (.cells #[.bool sa, .slice A na c, .int .i64 xa] 24)) (.cells #[.bool sb, .slice B nb d, .int .i64 xb] 24); rwa [World.size_alloc] at this
 have HW2 := Lib.hid hW2
 have HB2 := Lib.hid (below_drew hb2)
 have HX2 := Lib.hid (blk_drew hx2)
 have HY2 := Lib.hid (blk_drew hy2)
 have HB2A := Lib.hid (below_drew (hb2.alloc hb2.size (.cells #[.bool false, .slice none 0 0, .int .i64 0] 144)))
 have HX2A := Lib.hid (blk_drew (blk_alloc hx2 (.cells #[.bool false, .slice none 0 0, .int .i64 0] 144)))
 have HY2A := Lib.hid (blk_drew (blk_alloc hy2 (.cells #[.bool false, .slice none 0 0, .int .i64 0] 144)))
 have HN2A := Lib.hid (blk_drew (blk_new W2 (.cells #[.bool false, .slice none 0 0, .int .i64 0] 144)))
 clear hb2 hx2 hy2 hW2
 go_enter Tryz.func123, Tryz.ntmps123
 go_upto_region 1 with (fail)
 rw [← HW2.out]
 clear HW2
 obtain ⟨hx, hxf⟩ := bcells HX2.out (Below.refl _ _)
 obtain ⟨hy, hyf⟩ := bcells HY2.out (Below.refl _ _)
 obtain ⟨hxo, hxof⟩ := bcells HX2A.out (Below.refl _ _)
 obtain ⟨hyo, hyof⟩ := bcells HY2A.out (Below.refl _ _)
 go_region_law (first
  | (go_simp; go_at_call 162; (with_reducible refine (HOA.out _ (by first | exact HB2.out | exact HB2A.out)).mono ?_); rintro e_ w5 ⟨G5, g5, rfl, hR5, hB5⟩; have HB5 : Hid (Below w.heap.size w w5) := Lib.hid (by first | exact HB2.out.trans (hB5.mono HB2.out.size) | exact HB2A.out.trans (hB5.mono HB2A.out.size)); have HY5 : Hid (w5.heap[w.heap.size + 1]? = _) := Lib.hid (by first | exact blk_below2 HY2.out hB5 | exact blk_below2 HY2A.out hB5); obtain ⟨hy5, hyf5⟩ := bcells HY5.out (Below.refl _ _); have hyo5 := fun o => (bcells (blk_alloc HY5.out o) (Below.refl _ _)).1; have HRA := Lib.hid (Kd.R_reads' hR5).2.2; (first | (have HN5 := Lib.hid (blk_below2 HN2A.out hB5)) | skip); clear hR5 hB5)
  | (go_simp; go_at_call 162; (with_reducible refine (HOB.out _ (by first | exact HB5.out | exact HB5.out.alloc HB5.out.size _)).mono ?_); rintro e_ w6 ⟨G6, g6, rfl, hR6, hB6⟩; have HB6 : Hid (Below w.heap.size w w6) := Lib.hid (by first | exact HB5.out.trans (hB6.mono HB5.out.size) | exact (HB5.out.alloc HB5.out.size _).trans (hB6.mono (HB5.out.alloc HB5.out.size _).size)); have HRA6 : Hid (Kd.C (Kd.int .i64) w6 _ _ _) := Lib.hid (by first | exact Kd.C_below HRA.out hB6 | exact Kd.C_below (Kd.C_below HRA.out (below_alloc (Below.refl _ _) _)) hB6); have HRB := Lib.hid (Kd.R_reads' hR6).2.2; (first | (have HN6 := Lib.hid (blk_below2 HN5.out hB6)) | (have HN6 := Lib.hid (blk_below2 (blk_new w5 _) hB6)) | skip); clear hR6 hB6)
  | (go_simp; go_at_call 163; (with_reducible refine (HOP.out _ _ _).mono ?_); rintro e_ w7 ⟨rfl, hB7⟩; have HRA7 : Hid (Kd.C (Kd.int .i64) w7 _ _ _) := Lib.hid (by first | exact Kd.C_below HRA6.out hB7 | exact Kd.C_below (Kd.C_below HRA6.out (below_alloc (Below.refl _ _) _)) hB7); have HRB7 : Hid (Kd.C (Kd.int .i64) w7 _ _ _) := Lib.hid (by first | exact Kd.C_below HRB.out hB7 | exact Kd.C_below (Kd.C_below HRB.out (below_alloc (Below.refl _ _) _)) hB7); have HB7 : Hid (Below w.heap.size w w7) := Lib.hid (by first | exact HB6.out.trans (hB7.mono HB6.out.size) | exact (HB6.out.alloc HB6.out.size _).trans (hB7.mono (HB6.out.alloc HB6.out.size _).size)); (first | (have HN7 := Lib.hid (blk_below2 HN6.out hB7)) | (have HN7 := Lib.hid (blk_below2 (blk_new w6 _) hB7)) | skip); clear hB7)
  | (go_simp; go_at_call 161; go_loud ((with_reducible refine (HSM.out _ _ _ _ _ (by first | exact HRA7.out | exact Kd.C_below HRA7.out (below_alloc (Below.refl _ _) _)) (by first | exact HRB7.out | exact Kd.C_below HRB7.out (below_alloc (Below.refl _ _) _))).mono ?_); rintro e_ w8 ⟨P, p, rfl, hB8⟩; have HB8 : Hid (Below w.heap.size w w8) := Lib.hid (by first | exact HB7.out.trans (hB8.mono HB7.out.size) | exact (HB7.out.alloc HB7.out.size _).trans (hB8.mono (HB7.out.alloc HB7.out.size _).size)); (first | (have HN8 := Lib.hid (blk_below2 HN7.out hB8)) | (have HN8 := Lib.hid (blk_below2 (blk_new w7 _) hB8)) | skip); (first | (have hq8 := bcells HN8.out (Below.refl _ _); have hn8 := hq8.1; have hnf8 := hq8.2; clear hq8) | skip))))
 all_goals
  rename_i q_ k_ a_
  refine a_ _ _ ?_
  clear a_ hx hxf hy hyf hxo hxof hyo hyof
  first
   | (obtain ⟨X, hX⟩ : ∃ X, X = w8.alloc (.cells #[.bool s, .slice P ls p, .int .i64 low] 144) := ⟨_, rfl⟩; have hX2 := hX; rw [← hX]; have HF := Lib.hid (show Below w.heap.size w X by rw [hX]; exact HB8.out.alloc HB8.out.size _); have hrow : X.heap[w8.heap.size]? = some (.cells #[.bool s, .slice P ls p, .int .i64 low] 144 (0, 0)) := by rw [hX]; exact blk_new _ _)
   | (obtain ⟨X, hX⟩ : ∃ X, X = set3 w8 w7.heap.size (.bool s) (.slice P ls p) (.int .i64 low) := ⟨_, rfl⟩; have hX2 := hX; simp only [set3] at hX2; rw [← hX2]; have HF := Lib.hid (show Below w.heap.size w X by rw [hX]; exact set3_below HB8.out HB7.out.size _ _ _); have hrow : X.heap[w7.heap.size]? = some (.cells #[.bool s, .slice P ls p, .int .i64 low] 144 (0, 0)) := by rw [hX]; exact set3_row HN8.out _ _ _)
   | (obtain ⟨X, hX⟩ : ∃ X, X = set3 w8 w6.heap.size (.bool s) (.slice P ls p) (.int .i64 low) := ⟨_, rfl⟩; have hX2 := hX; simp only [set3] at hX2; rw [← hX2]; have HF := Lib.hid (show Below w.heap.size w X by rw [hX]; exact set3_below HB8.out HB6.out.size _ _ _); have hrow : X.heap[w6.heap.size]? = some (.cells #[.bool s, .slice P ls p, .int .i64 low] 144 (0, 0)) := by rw [hX]; exact set3_row HN8.out _ _ _)
   | (obtain ⟨X, hX⟩ : ∃ X, X = set3 w8 w5.heap.size (.bool s) (.slice P ls p) (.int .i64 low) := ⟨_, rfl⟩; have hX2 := hX; simp only [set3] at hX2; rw [← hX2]; have HF := Lib.hid (show Below w.heap.size w X by rw [hX]; exact set3_below HB8.out HB5.out.size _ _ _); have hrow : X.heap[w5.heap.size]? = some (.cells #[.bool s, .slice P ls p, .int .i64 low] 144 (0, 0)) := by rw [hX]; exact set3_row HN8.out _ _ _)
   | (obtain ⟨X, hX⟩ : ∃ X, X = set3 w8 W2.heap.size (.bool s) (.slice P ls p) (.int .i64 low) := ⟨_, rfl⟩; have hX2 := hX; simp only [set3] at hX2; rw [← hX2]; have HF := Lib.hid (show Below w.heap.size w X by rw [hX]; exact set3_below HB8.out HB2.out.size _ _ _); have hrow : X.heap[W2.heap.size]? = some (.cells #[.bool s, .slice P ls p, .int .i64 low] 144 (0, 0)) := by rw [hX]; exact set3_row HN8.out _ _ _)
  obtain ⟨y0, y1, y2⟩ := cells3 hrow
  clear hX hX2 hrow
  by_cases h0 : k = 0
  · have hl0 : ls = 0 := hk.2 h0
    have hr := HR.out
    rw [if_pos h0] at hr
    subst hl0
    have HRR := Lib.hid hr
    clear hr hk h0
    go_wp2_with fail
    go_ret
    exact ⟨by rw [HRR.out]; rfl, HF.out⟩
  · have hl0 : ((ls : Int) == 0) = false := by rw [beq_eq_false_iff_ne]; intro e; exact h0 (hk.1 (by omega))
    have hr := HR.out
    rw [if_neg h0] at hr
    cases s with
    | true =>
     have HRR := Lib.hid hr
     clear hr hk h0
     go_wp2_with fail
     go_ret
     exact ⟨by rw [HRR.out]; rfl, HF.out⟩
    | false =>
     have HRR := Lib.hid hr
     clear hr hk h0
     go_wp2_with fail
     go_ret
     exact ⟨by rw [HRR.out]; rfl, HF.out⟩
theorem vord_low {x y : V} (h : x.f0 < y.f0) : vord x y = -1 := by
 rw [vord_eq, cmpI_less h, if_pos (.inl (by decide))]; rfl
theorem vord_high {x y : V} (h : y.f0 < x.f0) : vord x y = 1 := by
 rw [vord_eq, cmpI_more h, if_pos (.inl (by decide))]; rfl
theorem vord_num {x y : V} (h : x.f0 = y.f0) (h3 : x.f0 = 3) : vord x y = dcmp x.f1 y.f1 := by
 rw [vord_eq, if_neg]
 rw [h, cmpI_same]
 rw [← h]
 rintro (h' | h')
 · exact h' rfl
 · exact h' h3
theorem vord_rest {x y : V} (h : x.f0 = y.f0) (h3 : x.f0 ≠ 3) : vord x y = if strC x.f2 y.f2 ≠ 0 then strC x.f2 y.f2 else if lexC strC x.f4 y.f4 ≠ 0 then lexC strC x.f4 y.f4 else lexC vord x.f3 y.f3 := by
 rw [vord_eq, if_pos (.inr h3), h, cmpI_same]
 generalize strC x.f2 y.f2 = a
 generalize lexC strC x.f4 y.f4 = b
 generalize lexC vord x.f3 y.f3 = c
 simp only [orL]
 by_cases ha : a = 0 <;> by_cases hb : b = 0 <;> by_cases hc : c = 0 <;> simp [ha, hb, hc]
theorem strC_lt {a b : ByteArray} (h : Op.bytesLess a.toList b.toList = true) : strC a b = -1 := by unfold strC; rw [if_pos h]
theorem strC_gt {a b : ByteArray} (h1 : Op.bytesLess a.toList b.toList = false) (h2 : (a.toList == b.toList) = false) : strC a b = 1 := by unfold strC; rw [if_neg (by rw [h1]; decide), if_neg (by rw [h2]; decide)]
theorem strC_zero {a b : ByteArray} (h1 : Op.bytesLess a.toList b.toList = false) (h2 : (a.toList == b.toList) = true) : strC a b = 0 := by unfold strC; rw [if_neg (by rw [h1]; decide), if_pos h2]
set_option maxHeartbeats 4000000 in
theorem Order05_any : ∀ (x : V) (cs : List Value) (y : V) (ds : List Value) (w : World), k28.K w x cs → k28.K w y ds → NumOk x → NumOk y →
 Calls Tryz.prog 82 #[.agg cs.toArray, .agg ds.toArray] w fun e w' => e = .returned (.int .i64 (vord x y)) ∧ Below w.heap.size w w' := by
 refine V.ind fun x ih => ?_
 intro cs y ds w hKx hKy hNx hNy
 obtain ⟨A2, c2, A5, c5, A6, c6, rfl, l2, g2, l5, g5, l6, g6⟩ := k28_open hKx
 obtain ⟨B2, d2, B5, d5, B6, d6, rfl, m2, r2, m5, r5, m6, r6⟩ := k28_open hKy
 have HX2 := Lib.hid g2
 have HX5 := Lib.hid g5
 have HX6 := Lib.hid g6
 have HY2 := Lib.hid r2
 have HY5 := Lib.hid r5
 have HY6 := Lib.hid r6
 have hl5 := g5.2.1
 have hl6 := g6.2.1
 have hm5 := r5.2.1
 have hm6 := r6.2.1
 have HNX := Lib.hid hNx
 have HNY := Lib.hid hNy
 clear hKx hKy g2 g5 g6 r2 r5 r6 l2 l5 l6 m2 m5 m6 hNx hNy
 have IH := Lib.hid ih
 clear ih
 obtain ⟨W2, hW2⟩ : ∃ W2, W2 = (w.alloc (.cells #[.int .i64 x.f0, .bool x.f1.f0, .slice A2 x.f1.f1.length c2, .int .i64 x.f1.f2, .string x.f2, .slice A5 x.f3.length c5, .slice A6 x.f4.length c6] 28)).alloc (.cells #[.int .i64 y.f0, .bool y.f1.f0, .slice B2 y.f1.f1.length d2, .int .i64 y.f1.f2, .string y.f2, .slice B5 y.f3.length d5, .slice B6 y.f4.length d6] 28) := ⟨_, rfl⟩
 have hb2 : Below w.heap.size w W2 := by rw [hW2]; exact ((Below.refl _ _).alloc (Nat.le_refl _) _).alloc (by simp) _
 have hx2 : W2.heap[w.heap.size]? = some (.cells #[.int .i64 x.f0, .bool x.f1.f0, .slice A2 x.f1.f1.length c2, .int .i64 x.f1.f2, .string x.f2, .slice A5 x.f3.length c5, .slice A6 x.f4.length c6] 28 (0, 0)) := by rw [hW2]; exact blk_alloc (blk_new _ _) _
 have hy2 : W2.heap[w.heap.size + 1]? = some (.cells #[.int .i64 y.f0, .bool y.f1.f0, .slice B2 y.f1.f1.length d2, .int .i64 y.f1.f2, .string y.f2, .slice B5 y.f3.length d5, .slice B6 y.f4.length d6] 28 (0, 0)) := by
  rw [hW2]
  have := blk_new (w.alloc (.cells #[.int .i64 x.f0, .bool x.f1.f0, .slice A2 x.f1.f1.length c2, .int .i64 x.f1.f2, .string x.f2, .slice A5 x.f3.length c5, .slice A6 x.f4.length c6] 28)) (.cells #[.int .i64 y.f0, .bool y.f1.f0, .slice B2 y.f1.f1.length d2, .int .i64 y.f1.f2, .string y.f2, .slice B5 y.f3.length d5, .slice B6 y.f4.length d6] 28)
  rwa [World.size_alloc] at this
 have HW2 := Lib.hid hW2
 have HB2 := Lib.hid hb2
 have G := Lib.hid (And.intro hx2 hy2)
 obtain ⟨hcl0, hfz0⟩ := bcells hx2 (Below.refl _ _)
 obtain ⟨hcl1, hfz1⟩ := bcells hy2 (Below.refl _ _)
 clear hW2 hb2 hx2 hy2
 rcases Int.lt_trichotomy x.f0 y.f0 with h | h | h
 · have HR := Lib.hid (vord_low h)
   go_enter Tryz.func82, Tryz.ntmps82
   go_upto_block 0 with (fail)
   rw [← HW2.out]
   go_wp2_with fail
   go_ret
   exact ⟨by rw [HR.out]; rfl, HB2.out⟩
 rotate_left
 · have HR := Lib.hid (vord_high h)
   have h' : ¬ x.f0 < y.f0 := by omega
   go_enter Tryz.func82, Tryz.ntmps82
   go_upto_block 0 with (fail)
   rw [← HW2.out]
   go_wp2_with fail
   go_ret
   exact ⟨by rw [HR.out]; rfl, HB2.out⟩
 · have h1 : ¬ x.f0 < y.f0 := by omega
   have h2 : ¬ y.f0 < x.f0 := by omega
   by_cases h3 : x.f0 = 3
   · have HR := Lib.hid (vord_num h h3)
     have HO := Lib.hid (Order02_any x.f1 y.f1 A2 B2 c2 d2 W2 (Kd.C_below HX2.out HB2.out) (Kd.C_below HY2.out HB2.out) (HNX.out.num h3) (HNY.out.num (by rw [← h]; exact h3)))
     have h3b : (x.f0 == 3) = true := by simp [h3]
     clear h h3
     go_enter Tryz.func82, Tryz.ntmps82
     go_upto_block 0 with (fail)
     rw [← HW2.out]
     go_wp2_with (go_at_call 123; (with_reducible refine (HO.out).mono ?_); rintro e w5 ⟨rfl, hB5⟩; have HB5 := Lib.hid hB5; clear hB5)
     go_ret
     exact ⟨by rw [HR.out]; rfl, HB2.out.trans (HB5.out.mono HB2.out.size)⟩
   · have HV := Lib.hid (vord_rest h h3)
     have h3b : (x.f0 == 3) = false := by simp [h3]
     clear h h3
     cases t1 : Op.bytesLess x.f2.toList y.f2.toList with
     | true =>
      have HR : Hid (vord x y = -1) := Lib.hid (by rw [HV.out, strC_lt t1]; rfl)
      go_enter Tryz.func82, Tryz.ntmps82
      go_upto_block 0 with (fail)
      rw [← HW2.out]
      go_wp2_with fail
      go_ret
      exact ⟨by rw [HR.out]; rfl, HB2.out⟩
     | false =>
      cases t2 : (x.f2.toList == y.f2.toList) with
      | false =>
       have HR : Hid (vord x y = 1) := Lib.hid (by rw [HV.out, strC_gt t1 t2]; rfl)
       go_enter Tryz.func82, Tryz.ntmps82
       go_upto_block 0 with (fail)
       rw [← HW2.out]
       go_wp2_with fail
       go_ret
       exact ⟨by rw [HR.out]; rfl, HB2.out⟩
      | true =>
       have HV2 : Hid (vord x y = if lexC strC x.f4 y.f4 ≠ 0 then lexC strC x.f4 y.f4 else lexC vord x.f3 y.f3) := Lib.hid (by rw [HV.out, strC_zero t1 t2]; exact if_neg (fun h => h rfl))
       clear HV
       obtain ⟨n, hn⟩ : ∃ n, n = x.f4.length := ⟨_, rfl⟩
       obtain ⟨m, hm⟩ : ∃ m, m = y.f4.length := ⟨_, rfl⟩
       have HN := Lib.hid hn
       have HM := Lib.hid hm
       rw [← hn] at hl6 hcl0 G HW2
       rw [← hm] at hm6 hcl1 G HW2
       have HX6' : Hid (Kd.string.C w A6 n x.f4) := Lib.hid (by rw [hn]; exact HX6.out)
       have HY6' : Hid (Kd.string.C w B6 m y.f4) := Lib.hid (by rw [hm]; exact HY6.out)
       have HK : Hid (lexC strC x.f4 y.f4 ≠ 0 → vord x y = lexC strC x.f4 y.f4) := Lib.hid (fun h => by rw [HV2.out, if_pos h])
       have HKZ : Hid (lexC strC x.f4 y.f4 = 0 → vord x y = lexC vord x.f3 y.f3) := Lib.hid (fun h => by rw [HV2.out, if_neg (by simpa using h)])
       have HE : Hid (n ≤ m → (∀ i, i < n → strC (x.f4.getD i ByteArray.empty) (y.f4.getD i ByteArray.empty) = 0) → lexC strC x.f4 y.f4 = if n < m then -1 else 0) := Lib.hid (fun h1 h2 => by rw [hn, hm]; exact lexC_end strC ByteArray.empty _ _ (by rw [← hn, ← hm]; exact h1) (by rw [← hn]; exact h2))
       have HLO : Hid (m < n → (∀ i, i < m → strC (x.f4.getD i ByteArray.empty) (y.f4.getD i ByteArray.empty) = 0) → lexC strC x.f4 y.f4 = 1) := Lib.hid (fun h1 h2 => lexC_long strC ByteArray.empty _ _ (by rw [← hn, ← hm]; exact h1) (by rw [← hm]; exact h2))
       have HAT : Hid (∀ k, k < n → k < m → (∀ i, i < k → strC (x.f4.getD i ByteArray.empty) (y.f4.getD i ByteArray.empty) = 0) → strC (x.f4.getD k ByteArray.empty) (y.f4.getD k ByteArray.empty) ≠ 0 → lexC strC x.f4 y.f4 = strC (x.f4.getD k ByteArray.empty) (y.f4.getD k ByteArray.empty)) := Lib.hid (fun k h1 h2 h3 h4 => lexC_at strC ByteArray.empty k _ _ (by rw [← hn]; exact h1) (by rw [← hm]; exact h2) h3 h4)
       clear hn hm HX6 HY6 HV2
       go_enter Tryz.func82, Tryz.ntmps82
       go_upto_block 0 with (fail)
       rw [← HN.out, ← HM.out, ← HW2.out]
       clear HW2
       go_wp2_with fail
       clear t1 t2 h1 h2 h3b
       go_loopw [5] (fun vi wr => ∃ k : Nat, k ≤ n ∧ k ≤ m ∧ vi = .int .i64 k ∧ Hid (∀ i, i < k → strC (x.f4.getD i ByteArray.empty) (y.f4.getD i ByteArray.empty) = 0) ∧ Below W2.heap.size W2 wr) (fun vi _ => n - (intOf vi).toNat)
       case atStart => exact ⟨0, Nat.zero_le _, Nat.zero_le _, rfl, Lib.hid (fun i h => absurd h (by omega)), Below.refl _ _⟩
       case round =>
        obtain ⟨k, hk, hk2, rfl, hu, hB⟩ := hrel
        have HB := Lib.hid hB
        have hBW := Lib.hid (HB2.out.trans (hB.mono HB2.out.size))
        clear hcl0 hfz0 hcl1 hfz1
        obtain ⟨hcl0, hfz0⟩ := bcells G.out.1 hB
        obtain ⟨hcl1, hfz1⟩ := bcells G.out.2 hB
        clear hB
        have hk0 : (0 : Int) ≤ (k : Int) := by omega
        by_cases e1 : k = n
        · by_cases e2 : k = m
          · have HZ : Hid (lexC strC x.f4 y.f4 = 0) := Lib.hid (by rw [HE.out (by omega) (by rw [← e1]; exact hu.out), if_neg (by omega)])
            have HVV := Lib.hid (HKZ.out HZ.out)
            have g1 : ¬ (k : Int) < (n : Int) := by omega
            have g2 : ¬ (k : Int) < (m : Int) := by omega
            have g1b : decide (k < n) = false := by simp; omega
            have g2b : decide (k < m) = false := by simp; omega
            clear hu e1 e2 HK HKZ HE HLO HAT HZ
            have HE3 : Hid (x.f3.length ≤ y.f3.length → (∀ i, i < x.f3.length → vord (x.f3.getD i z28) (y.f3.getD i z28) = 0) → lexC vord x.f3 y.f3 = if x.f3.length < y.f3.length then -1 else 0) := Lib.hid (fun h1 h2 => lexC_end vord z28 _ _ h1 h2)
            have HLO3 : Hid (y.f3.length < x.f3.length → (∀ i, i < y.f3.length → vord (x.f3.getD i z28) (y.f3.getD i z28) = 0) → lexC vord x.f3 y.f3 = 1) := Lib.hid (fun h1 h2 => lexC_long vord z28 _ _ h1 h2)
            have HAT3 : Hid (∀ k, k < x.f3.length → k < y.f3.length → (∀ i, i < k → vord (x.f3.getD i z28) (y.f3.getD i z28) = 0) → vord (x.f3.getD k z28) (y.f3.getD k z28) ≠ 0 → lexC vord x.f3 y.f3 = vord (x.f3.getD k z28) (y.f3.getD k z28)) := Lib.hid (fun k h1 h2 h3 h4 => lexC_at vord z28 k _ _ h1 h2 h3 h4)
            go_wp2_with fail
            clear hcl0 hfz0 hcl1 hfz1 g1 g2 g1b g2b
            go_loopw [6] (fun vi wr2 => ∃ k : Nat, k ≤ x.f3.length ∧ k ≤ y.f3.length ∧ vi = .int .i64 k ∧ Hid (∀ i, i < k → vord (x.f3.getD i z28) (y.f3.getD i z28) = 0) ∧ Below W2.heap.size W2 wr2) (fun vi _ => x.f3.length - (intOf vi).toNat)
            case atStart => exact ⟨0, Nat.zero_le _, Nat.zero_le _, rfl, Lib.hid (fun i h => absurd h (by omega)), HB.out⟩
            case round =>
             clear hBW HB hk hk2 hk0
             obtain ⟨k, hk, hk2, rfl, hu, hB⟩ := hrel
             have HB := Lib.hid hB
             have hBW := Lib.hid (HB2.out.trans (hB.mono HB2.out.size))
             obtain ⟨hcl0, hfz0⟩ := bcells G.out.1 hB
             obtain ⟨hcl1, hfz1⟩ := bcells G.out.2 hB
             clear hB
             have hk0 : (0 : Int) ≤ (k : Int) := by omega
             by_cases e1 : k = x.f3.length
             · by_cases e2 : k = y.f3.length
               · have HR : Hid (vord x y = 0) := Lib.hid (by rw [HVV.out, HE3.out (by omega) (by rw [← e1]; exact hu.out), if_neg (by omega)])
                 have g1 : ¬ (k : Int) < (x.f3.length : Int) := by omega
                 have g2 : ¬ (k : Int) < (y.f3.length : Int) := by omega
                 have g1b : decide (k < x.f3.length) = false := by simp; omega
                 have g2b : decide (k < y.f3.length) = false := by simp; omega
                 clear hu e1 e2
                 go_wp2_with fail
                 go_ret
                 exact ⟨by rw [HR.out]; rfl, hBW.out⟩
               · have HR : Hid (vord x y = -1) := Lib.hid (by rw [HVV.out, HE3.out (by omega) (by rw [← e1]; exact hu.out), if_pos (by omega)])
                 have g1 : ¬ (k : Int) < (x.f3.length : Int) := by omega
                 have g2 : (k : Int) < (y.f3.length : Int) := by omega
                 have g1b : decide (k < x.f3.length) = false := by simp; omega
                 have g2b : decide (k < y.f3.length) = true := by simp; omega
                 have g3 : ((k : Int) == (x.f3.length : Int)) = true := by simp; omega
                 clear hu e1 e2
                 go_wp2_with fail
                 go_ret
                 exact ⟨by rw [HR.out]; rfl, hBW.out⟩
             · have g1 : (k : Int) < (x.f3.length : Int) := by omega
               have g1b : decide (k < x.f3.length) = true := by simp; omega
               have g3 : ((k : Int) == (x.f3.length : Int)) = false := by rw [beq_eq_false_iff_ne]; omega
               by_cases e2 : k = y.f3.length
               · have HR : Hid (vord x y = 1) := Lib.hid (by rw [HVV.out, HLO3.out (by omega) (by rw [← e2]; exact hu.out)])
                 have g4 : ((k : Int) == (y.f3.length : Int)) = true := by simp; omega
                 clear hu e1 e2
                 go_wp2_with fail
                 go_ret
                 exact ⟨by rw [HR.out]; rfl, hBW.out⟩
               · have g4 : ((k : Int) == (y.f3.length : Int)) = false := by rw [beq_eq_false_iff_ne]; omega
                 have g2 : (k : Int) < (y.f3.length : Int) := by omega
                 have hlt : k < x.f3.length := by omega
                 have hlt2 : k < y.f3.length := by omega
                 obtain ⟨ad, a0, a1, a2, a3, a4, a5, a6, rfl, hKa, p0, p1, p2, p3, p4, p5, p6⟩ := at_V HX5.out hBW.out k hlt
                 obtain ⟨bd, b0, b1, b2, b3, b4, b5, b6, rfl, hKb, q0, q1, q2, q3, q4, q5, q6⟩ := at_V HY5.out hBW.out k hlt2
                 have hmem : rd_T28 x.f3 (k : Int) ∈ x.f3 := by unfold rd_T28; simp [hlt]
                 have hmem2 : rd_T28 y.f3 (k : Int) ∈ y.f3 := by unfold rd_T28; simp [hlt2]
                 have HCC := Lib.hid (fun W (hW : Below w.heap.size w W) => IH.out _ hmem [a0, a1, a2, a3, a4, a5, a6] _ [b0, b1, b2, b3, b4, b5, b6] W (k28.K_below hW hKa) (k28.K_below hW hKb) (HNX.out.kids _ hmem) (HNY.out.kids _ hmem2))
                 have hxk : x.f3.getD k z28 = rd_T28 x.f3 (k : Int) := by unfold rd_T28; rw [Int.toNat_natCast]
                 have hyk : y.f3.getD k z28 = rd_T28 y.f3 (k : Int) := by unfold rd_T28; rw [Int.toNat_natCast]
                 have hw : wrap64 ((k : Int) + 1) = ((k + 1 : Nat) : Int) := by unfold wrap64; omega
                 have HW := Lib.hid hw
                 have HDF : Hid (vord (rd_T28 x.f3 (k : Int)) (rd_T28 y.f3 (k : Int)) ≠ 0 → vord x y = vord (rd_T28 x.f3 (k : Int)) (rd_T28 y.f3 (k : Int))) := Lib.hid (fun h => by rw [HVV.out, HAT3.out k hlt hlt2 hu.out (by rw [hxk, hyk]; exact h), hxk, hyk])
                 have HEQ : Hid (vord (rd_T28 x.f3 (k : Int)) (rd_T28 y.f3 (k : Int)) = 0 → ∀ i, i < k + 1 → vord (x.f3.getD i z28) (y.f3.getD i z28) = 0) := Lib.hid (fun h i hi => by
                  rcases Nat.lt_or_ge i k with h' | h'
                  · exact hu.out i h'
                  · obtain rfl : i = k := by omega
                    rw [hxk, hyk]; exact h)
                 clear hKa hKb hmem hmem2 hxk hyk hw hu e1 e2
                 generalize vord (rd_T28 x.f3 (k : Int)) (rd_T28 y.f3 (k : Int)) = r at *
                 go_upto_region 29 with (fail)
                 go_still_tail 10, (by kernel_rfl)
                 change wpList _ _ _ _ _ (wr.drewN 1)
                 have HBD : Hid (Below w.heap.size w (wr.drewN 1)) := Lib.hid (pw_below_drewN hBW.out _)
                 have HBE : Hid (Below W2.heap.size W2 (wr.drewN 1)) := Lib.hid (pw_below_drewN HB.out _)
                 have hszd := HBD.out.size
                 have hszd1 := HBE.out.size
                 generalize wr.drewN 1 = wd at HBD HBE hszd hszd1 ⊢
                 by_cases hr0 : r = 0
                 · have hr1 : (r != 0) = false := by simp [hr0]
                   have HU := Lib.hid (HEQ.out hr0)
                   clear hr0
                   go_wp2_with (go_at_call 82; (with_reducible refine (HCC.out _ HBD.out).mono ?_); rintro e w5 ⟨rfl, hB5⟩; have HB6 := Lib.hid (HBE.out.trans (hB5.mono hszd1)); clear hB5)
                   go_roundw
                   case rel => exact ⟨k + 1, by omega, by omega, by go_num, HU, HB6.out⟩
                   case measure => simp [intOf]; omega
                 · have hr1 : (r != 0) = true := by simp [hr0]
                   have HR := Lib.hid (HDF.out hr0)
                   clear hr0
                   go_wp2_with (go_at_call 82; (with_reducible refine (HCC.out _ HBD.out).mono ?_); rintro e w5 ⟨rfl, hB5⟩; have HB5 := Lib.hid (HBD.out.trans (hB5.mono hszd)); clear hB5)
                   go_ret
                   exact ⟨by rw [HR.out]; rfl, HB5.out⟩
          · have HZ : Hid (lexC strC x.f4 y.f4 = -1) := Lib.hid (by rw [HE.out (by omega) (by rw [← e1]; exact hu.out), if_pos (by omega)])
            have HR : Hid (vord x y = -1) := Lib.hid (by rw [HK.out (by rw [HZ.out]; decide), HZ.out])
            have g1 : ¬ (k : Int) < (n : Int) := by omega
            have g2 : (k : Int) < (m : Int) := by omega
            have g1b : decide (k < n) = false := by simp; omega
            have g2b : decide (k < m) = true := by simp; omega
            have g3 : ((k : Int) == (n : Int)) = true := by simp; omega
            clear hu e1 e2
            go_wp2_with fail
            go_ret
            exact ⟨by rw [HR.out]; rfl, hBW.out⟩
        · have g1 : (k : Int) < (n : Int) := by omega
          have g1b : decide (k < n) = true := by simp; omega
          have g3 : ((k : Int) == (n : Int)) = false := by rw [beq_eq_false_iff_ne]; omega
          by_cases e2 : k = m
          · have HZ : Hid (lexC strC x.f4 y.f4 = 1) := Lib.hid (HLO.out (by omega) (by rw [← e2]; exact hu.out))
            have HR : Hid (vord x y = 1) := Lib.hid (by rw [HK.out (by rw [HZ.out]; decide), HZ.out])
            have g4 : ((k : Int) == (m : Int)) = true := by simp; omega
            clear hu e1 e2
            go_wp2_with fail
            go_ret
            exact ⟨by rw [HR.out]; rfl, hBW.out⟩
          · have g4 : ((k : Int) == (m : Int)) = false := by rw [beq_eq_false_iff_ne]; omega
            have g2 : (k : Int) < (m : Int) := by omega
            obtain ⟨ad, rfl, hx⟩ := Kd.at_string (Kd.C_below HX6'.out hBW.out) (k : Int) (by omega) (by omega)
            obtain ⟨bd, rfl, hy⟩ := Kd.at_string (Kd.C_below HY6'.out hBW.out) (k : Int) (by omega) (by omega)
            rw [Int.toNat_natCast] at hx hy
            have ee1 : rdOf ByteArray.empty x.f4 (k : Int) = x.f4.getD k ByteArray.empty := by unfold rdOf; rw [Int.toNat_natCast]
            have ee2 : rdOf ByteArray.empty y.f4 (k : Int) = y.f4.getD k ByteArray.empty := by unfold rdOf; rw [Int.toNat_natCast]
            rw [ee1] at hx
            rw [ee2] at hy
            have HW : Hid (wrap64 ((k : Int) + 1) = ((k + 1 : Nat) : Int)) := Lib.hid (by unfold wrap64; omega)
            have HDF : Hid (strC (x.f4.getD k ByteArray.empty) (y.f4.getD k ByteArray.empty) ≠ 0 → vord x y = strC (x.f4.getD k ByteArray.empty) (y.f4.getD k ByteArray.empty)) := Lib.hid (fun h => by
             have h2 := HAT.out k (by omega) (by omega) hu.out h
             rw [HK.out (by rw [h2]; exact h), h2])
            have HEQ : Hid (strC (x.f4.getD k ByteArray.empty) (y.f4.getD k ByteArray.empty) = 0 → ∀ i, i < k + 1 → strC (x.f4.getD i ByteArray.empty) (y.f4.getD i ByteArray.empty) = 0) := Lib.hid (fun h i hi => by
             rcases Nat.lt_or_ge i k with h' | h'
             · exact hu.out i h'
             · obtain rfl : i = k := by omega
               exact h)
            clear ee1 ee2 hu e1 e2
            have hkn : k < n := by omega
            have hkm : k < m := by omega
            generalize x.f4.getD k ByteArray.empty = xa at *
            generalize y.f4.getD k ByteArray.empty = xb at *
            cases t1 : Op.bytesLess xa.toList xb.toList with
            | true =>
             have HR : Hid (vord x y = -1) := Lib.hid (by rw [HDF.out (by rw [strC_lt t1]; decide), strC_lt t1])
             go_wp2_with fail
             go_quiet (fail)
             go_wp2_with fail
             go_ret
             exact ⟨by rw [HR.out]; rfl, pw_below_drewN hBW.out _⟩
            | false =>
             cases t2 : (xa.toList == xb.toList) with
             | false =>
              have HR : Hid (vord x y = 1) := Lib.hid (by rw [HDF.out (by rw [strC_gt t1 t2]; decide), strC_gt t1 t2])
              go_wp2_with fail
              go_quiet (fail)
              go_wp2_with fail
              go_quiet (fail)
              go_wp2_with fail
              go_ret
              exact ⟨by rw [HR.out]; rfl, by first | exact pw_below_drewN (pw_below_drewN hBW.out _) _ | exact pw_below_drewN hBW.out _⟩
             | true =>
              have HU := Lib.hid (HEQ.out (strC_zero t1 t2))
              go_wp2_with fail
              go_quiet (fail)
              go_wp2_with fail
              go_quiet (fail)
              go_wp2_with fail
              go_roundw
              case rel => exact ⟨k + 1, by omega, by omega, by go_num, HU, by first | exact pw_below_drewN (pw_below_drewN HB.out _) _ | exact pw_below_drewN HB.out _⟩
              case measure => simp [intOf]; omega
end Go.Proofs.YthigbklhngihkaaGreatDoor.P

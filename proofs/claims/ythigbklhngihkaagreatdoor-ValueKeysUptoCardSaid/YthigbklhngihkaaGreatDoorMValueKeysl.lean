import Derived.Test.YthigbklhngihkaaGreatDoorMValueKeysk
set_option linter.unusedVariables false
set_option linter.unusedSimpArgs false
set_option maxRecDepth 100000
namespace Go.Proofs.YthigbklhngihkaaGreatDoor.P
open Go.RowKit Go.Proofs.YthigbklhngihkaaGreatDoorW.PrintWords Go.Proofs.YthigbklhngihkaaGreatDoorW.PrintMore Go.Proofs.YthigbklhngihkaaGreatDoorW.PrintLast
def sg (n : Bool) (x : Nat) : Int := if n then -(x : Int) else x
def dvalD (a : D) : Int := sg a.f0 (val a.f1 * 10 ^ (a.f2 + 1000).toNat)
theorem sg_mul (n : Bool) (x c : Nat) : sg n (x * c) = sg n x * (c : Int) := by
 unfold sg
 split <;> simp [Int.neg_mul]
theorem cmpI_mul (x y : Int) (c : Nat) (h : 0 < c) : cmpI (x * (c : Int)) (y * (c : Int)) = cmpI x y := by
 have hc : (0 : Int) < c := by omega
 unfold cmpI
 by_cases h1 : x < y
 · rw [if_pos h1, if_pos (Int.mul_lt_mul_of_pos_right h1 hc)]
 · rw [if_neg h1, if_neg (fun h' => h1 (Int.lt_of_mul_lt_mul_right h' (by omega)))]
   by_cases h2 : y < x
   · rw [if_pos h2, if_pos (Int.mul_lt_mul_of_pos_right h2 hc)]
   · rw [if_neg h2, if_neg (fun h' => h2 (Int.lt_of_mul_lt_mul_right h' (by omega)))]
def minusD (d : D) : D := ⟨!d.f0 && decide (d.f1.length ≠ 0), d.f1, d.f2⟩
theorem down_le (v n a b c : Nat) (h : v < 10 ^ a) (hn : n ≤ b) (hc : a + b + 1 ≤ c) : v * 10 ^ n + v * 10 ^ n ≤ 10 ^ c := by
 have h1 : v * 10 ^ n ≤ 10 ^ (a + b) := by
  rw [Nat.pow_add]
  exact Nat.mul_le_mul (by omega) (Nat.pow_le_pow_right (by omega) hn)
 have h2 : 10 ^ (a + b + 1) ≤ 10 ^ c := Nat.pow_le_pow_right (by omega) hc
 rw [Nat.pow_succ] at h2
 omega
theorem dec_ok {d : D} (h : decOkB d = true) : canon d.f1 ∧ d.f1.length ≤ 256 ∧ -1000 ≤ d.f2 ∧ d.f2 ≤ 1000 ∧ (d.f1.length ≠ 0 → val d.f1 < decTop) := by
 unfold decOkB at h
 simp only [Bool.and_eq_true, decide_eq_true_eq] at h
 obtain ⟨⟨h1, h2⟩, h3⟩ := h
 by_cases h0 : d.f1.length = 0
 · rw [if_pos h0] at h3
   simp only [Bool.and_eq_true, beq_iff_eq] at h3
   exact ⟨h2, by omega, by omega, by omega, fun h => absurd h0 h⟩
 · rw [if_neg h0] at h3
   simp only [Bool.and_eq_true, decide_eq_true_eq] at h3
   exact ⟨h2, by omega, by omega, by omega, fun _ => h3.1.1.2⟩
theorem downN_fits {d : D} (h : decOkB d = true) (x : Int) (hx : -1000 ≤ x) (hle : x ≤ d.f2) : downN d x + downN d x ≤ top := by
 obtain ⟨h1, h2, h3, h4, h5⟩ := dec_ok h
 unfold downN
 by_cases h0 : d.f1.length = 0
 · rw [(canon_nil_iff h1).1 h0]; simp
 · unfold top
   refine down_le _ _ decDig 2000 expo (h5 h0) (by omega) (by decide)
theorem dval_down {d : D} (x : Int) (hx : -1000 ≤ x) (hle : x ≤ d.f2) : dvalD d = sg d.f0 (downN d x) * ((10 ^ (x + 1000).toNat : Nat) : Int) := by
 unfold dvalD downN
 rw [← sg_mul, Nat.mul_assoc, ← Nat.pow_add, show (d.f2 - x).toNat + (x + 1000).toNat = (d.f2 + 1000).toNat by omega]
theorem plus_sg (a b : D) (low : Int) (hlow : low = min a.f2 b.f2) : sg (plusD a b).f0 (val (plusD a b).f1) = sg a.f0 (downN a low) + sg b.f0 (downN b low) ∧ canon (plusD a b).f1 := by
 unfold plusD
 simp only [← hlow]
 generalize downN a low = X
 generalize downN b low = Y
 by_cases h : a.f0 = b.f0
 · rw [if_pos h]
   refine ⟨?_, canon_limbs _⟩
   simp only [val_limbs, ← h]
   unfold sg
   split <;> push_cast <;> omega
 · rw [if_neg h]
   by_cases hlt : X < Y
   · rw [if_pos hlt]
     refine ⟨?_, canon_limbs _⟩
     simp only [val_limbs]
     unfold sg
     cases ha : a.f0 <;> cases hb : b.f0 <;> simp [ha, hb] at h ⊢ <;> omega
   · rw [if_neg hlt]
     refine ⟨?_, canon_limbs _⟩
     simp only [val_limbs]
     unfold sg
     cases ha : a.f0 <;> cases hb : b.f0 <;> simp [ha, hb] at h ⊢ <;> omega
theorem minus_sg (d : D) (h : canon d.f1) (x : Int) : sg (minusD d).f0 (downN (minusD d) x) = - sg d.f0 (downN d x) := by
 unfold minusD downN sg
 simp only
 by_cases h0 : d.f1.length = 0
 · rw [(canon_nil_iff h).1 h0]; simp
 · have hd : decide (d.f1.length ≠ 0) = true := by simp [h0]
   rw [hd]
   cases d.f0 <;> simp
def dcmp (a b : D) : Int := cmpI (dvalD a) (dvalD b)
theorem dcmp_plus (a b : D) (ha : decOkB a = true) (hb : decOkB b = true) : dcmp a b = if (plusD a (minusD b)).f1.length = 0 then 0 else if (plusD a (minusD b)).f0 then -1 else 1 := by
 obtain ⟨a1, a2, a3, a4, a5⟩ := dec_ok ha
 obtain ⟨b1, b2, b3, b4, b5⟩ := dec_ok hb
 obtain ⟨low, hlow⟩ : ∃ low, low = min a.f2 b.f2 := ⟨_, rfl⟩
 have h1 := plus_sg a (minusD b) low hlow
 rw [minus_sg b b1] at h1
 unfold dcmp
 rw [dval_down (d := a) low (by omega) (by omega), dval_down (d := b) low (by omega) (by omega), cmpI_mul _ _ _ (Nat.pow_pos (by omega))]
 generalize sg a.f0 (downN a low) = X at *
 generalize sg b.f0 (downN b low) = Y at *
 obtain ⟨h1, h2⟩ := h1
 have h3 := canon_nil_iff h2
 generalize plusD a (minusD b) = p at *
 unfold cmpI
 by_cases h0 : p.f1.length = 0
 · rw [if_pos h0]
   have := h3.1 h0
   rw [this] at h1
   have h4 : sg p.f0 0 = 0 := by unfold sg; split <;> rfl
   rw [h4] at h1
   rw [if_neg (by omega), if_neg (by omega)]
 · rw [if_neg h0]
   have hv : val p.f1 ≠ 0 := fun e => h0 (h3.2 e)
   unfold sg at h1
   cases hp : p.f0
   · rw [hp] at h1
     simp only [Bool.false_eq_true, if_false] at h1 ⊢
     rw [if_neg (by omega), if_pos (by omega)]
   · rw [hp] at h1
     simp only [if_true] at h1 ⊢
     rw [if_pos (by omega)]
theorem row_decs {W : World} {g : Nat} {a b : D} {A B : Option Addr} {c d : Nat} (h : W.heap[g]? = some (.cells #[.bool a.f0, .slice A a.f1.length c, .int .i64 a.f2, .bool b.f0, .slice B b.f1.length d, .int .i64 b.f2] 24 (0, 0))) (ha : k24.K W a [.bool a.f0, .slice A a.f1.length c, .int .i64 a.f2]) (hb : k24.K W b [.bool b.f0, .slice B b.f1.length d, .int .i64 b.f2]) :
 k24.C W (some ⟨g, 0, none⟩) 2 [a, b] := by
 refine ⟨rfl, by decide, fun _ => ⟨_, rfl, fun j p hj => ?_⟩⟩
 have hc := blk_cell h
 rcases j with _ | _ | j
 · simp only [List.getElem?_cons_zero, Option.some.injEq] at hj
   subst hj
   refine ⟨_, rfl, ha, fun i u hu => ?_⟩
   have hi : i < 3 := by have := (List.getElem?_eq_some_iff.1 hu).1; simpa using this
   rw [add_plain]
   show W.cell? ⟨g, 0 * 3 + i, none⟩ = some u
   rw [show 0 * 3 + i = i by omega, hc, ← hu]
   rcases i with _ | _ | _ | i
   · rfl
   · rfl
   · rfl
   · omega
 · simp only [List.getElem?_cons_succ, List.getElem?_cons_zero, Option.some.injEq] at hj
   subst hj
   refine ⟨_, rfl, hb, fun i u hu => ?_⟩
   have hi : i < 3 := by have := (List.getElem?_eq_some_iff.1 hu).1; simpa using this
   rw [add_plain]
   show W.cell? ⟨g, 1 * 3 + i, none⟩ = some u
   rw [show 1 * 3 + i = 3 + i by omega, hc, ← hu]
   rcases i with _ | _ | _ | i
   · rfl
   · rfl
   · rfl
   · omega
 · simp at hj
theorem dsOk_two {a b : D} (ha : decOkB a = true) (hb : decOkB b = true) : dsOk [a, b] = true := by
 unfold dsOk dchk
 simp [ha, hb]
theorem zero_any (b0 : Bool) (A : Option Addr) (n c : Nat) (x : Int) (W : World) : Calls Tryz.prog 146 #[.agg #[.bool b0, .slice A n c, .int .i64 x]] W fun e w' => e = .returned (.bool ((n : Int) == 0)) ∧ Below W.heap.size W w' := by
 go_enter Tryz.func146, Tryz.ntmps146
 go_wp2
 go_ret
 exact ⟨rfl, (Below.refl _ _).alloc (Nat.le_refl _) _⟩
set_option maxHeartbeats 1000000 in
theorem Compare_any (a b : D) (A : Option Addr) (c : Nat) (B : Option Addr) (d : Nat) (w : World) (hc : a.f1.length ≤ c) (hA : Kd.C (Kd.int .u32) w A a.f1.length a.f1) (hd : b.f1.length ≤ d) (hB : Kd.C (Kd.int .u32) w B b.f1.length b.f1) (hOa : OkD a) (hOb : OkD b) (ha : decOkB a = true) (hb : decOkB b = true) :
 Calls Tryz.prog 103 #[.agg #[.bool a.f0, .slice A a.f1.length c, .int .i64 a.f2], .agg #[.bool b.f0, .slice B b.f1.length d, .int .i64 b.f2]] w fun e w' => e = .returned (.tuple #[.int .i64 (dcmp a b), .int .i64 0]) ∧ Below w.heap.size w w' := by
 rw [dcmp_plus a b ha hb]
 obtain ⟨r, hr⟩ : ∃ r : Int, r = if (plusD a (minusD b)).f1.length = 0 then 0 else if (plusD a (minusD b)).f0 then -1 else 1 := ⟨_, rfl⟩
 rw [← hr]
 have HR := Lib.hid hr
 clear hr
 have hpl : ∀ W, Below w.heap.size w W → Calls Tryz.prog 144 #[.agg #[.bool a.f0, .slice A a.f1.length c, .int .i64 a.f2], .agg #[.bool (!b.f0 && decide (b.f1.length ≠ 0)), .slice B b.f1.length d, .int .i64 b.f2]] W fun e w' => ∃ E ee, e = .returned (.agg #[.bool (plusD a (minusD b)).f0, .slice E (plusD a (minusD b)).f1.length ee, .int .i64 (plusD a (minusD b)).f2]) ∧ (plusD a (minusD b)).f1.length ≤ ee ∧ Kd.C (Kd.int .u32) w' E (plusD a (minusD b)).f1.length (plusD a (minusD b)).f1 ∧ Below W.heap.size W w' := fun W hW => by
  obtain ⟨a1, a2, a3, a4, a5⟩ := dec_ok ha
  obtain ⟨b1, b2, b3, b4, b5⟩ := dec_ok hb
  have h1 := downN_fits ha (min a.f2 b.f2) (by omega) (by omega)
  have h2 := downN_fits hb (min a.f2 b.f2) (by omega) (by omega)
  have h3 : downN (minusD b) (min a.f2 b.f2) = downN b (min a.f2 b.f2) := rfl
  exact plus_any a (minusD b) A c B d W hc (Kd.C_below hA hW) hd (Kd.C_below hB hW) a1 b1 a2 b2 (min a.f2 b.f2) rfl (fun _ => by show a.f2 - min a.f2 b.f2 ≤ 2400; omega) (fun _ => by show b.f2 - min a.f2 b.f2 ≤ 2400; omega) ⟨by omega, by omega, by show -9000000 ≤ b.f2; omega, by show b.f2 ≤ 9000000; omega⟩ (by rw [h3]; omega)
 have hmi := fun W => minus_any b B d W
 obtain ⟨nb, hnb⟩ : ∃ nb, nb = (!b.f0 && decide (b.f1.length ≠ 0)) := ⟨_, rfl⟩
 rw [← hnb] at hpl
 simp only [← hnb] at hmi
 have HMI := Lib.hid hmi
 clear hnb hmi
 have HPL := Lib.hid hpl
 have HDS := Lib.hid (dsOk_two ha hb)
 have HA := Lib.hid hA
 have HB := Lib.hid hB
 have HOa := Lib.hid hOa
 have HOb := Lib.hid hOb
 have HC := Lib.hid hc
 have HD := Lib.hid hd
 clear hpl ha hb hA hB hOa hOb
 generalize plusD a (minusD b) = p at *
 obtain ⟨W2, hW2⟩ : ∃ W2, W2 = (w.alloc (.cells #[.bool a.f0, .slice A a.f1.length c, .int .i64 a.f2] 24)).alloc (.cells #[.bool b.f0, .slice B b.f1.length d, .int .i64 b.f2] 24) := ⟨_, rfl⟩
 have hz : W2.heap.size = w.heap.size + 2 := by rw [hW2]; simp
 have hA2 : Below w.heap.size w W2 := by rw [hW2]; exact ((Below.refl _ _).alloc (Nat.le_refl _) _).alloc (by simp) _
 have hx : W2.heap[w.heap.size]? = some (.cells #[.bool a.f0, .slice A a.f1.length c, .int .i64 a.f2] 24 (0, 0)) := by rw [hW2]; exact blk_alloc (blk_new _ _) _
 have hy : W2.heap[w.heap.size + 1]? = some (.cells #[.bool b.f0, .slice B b.f1.length d, .int .i64 b.f2] 24 (0, 0)) := by
  rw [hW2]
  have := blk_new (w.alloc (.cells #[.bool a.f0, .slice A a.f1.length c, .int .i64 a.f2] 24)) (.cells #[.bool b.f0, .slice B b.f1.length d, .int .i64 b.f2] 24)
  rw [World.size_alloc] at this
  exact this
 have hask : Calls Tryz.prog 143 #[.slice (some ⟨w.heap.size + 1 + 1, 0, none⟩) 2 2] (W2.alloc (.cells #[.bool a.f0, .slice A a.f1.length c, .int .i64 a.f2, .bool b.f0, .slice B b.f1.length d, .int .i64 b.f2] 24)) fun e w' => e = .returned (.int .i64 0) ∧ Below (W2.alloc (.cells #[.bool a.f0, .slice A a.f1.length c, .int .i64 a.f2, .bool b.f0, .slice B b.f1.length d, .int .i64 b.f2] 24)).heap.size (W2.alloc (.cells #[.bool a.f0, .slice A a.f1.length c, .int .i64 a.f2, .bool b.f0, .slice B b.f1.length d, .int .i64 b.f2] 24)) w' := by
  have hbW : Below w.heap.size w (W2.alloc (.cells #[.bool a.f0, .slice A a.f1.length c, .int .i64 a.f2, .bool b.f0, .slice B b.f1.length d, .int .i64 b.f2] 24)) := hA2.alloc hA2.size _
  have h := ask_any (some ⟨w.heap.size + 1 + 1, 0, none⟩) 2 [a, b] (W2.alloc (.cells #[.bool a.f0, .slice A a.f1.length c, .int .i64 a.f2, .bool b.f0, .slice B b.f1.length d, .int .i64 b.f2] 24)) (row_decs (by have := blk_new W2 (.cells #[.bool a.f0, .slice A a.f1.length c, .int .i64 a.f2, .bool b.f0, .slice B b.f1.length d, .int .i64 b.f2] 24); rw [hz] at this; exact this) (k24_mk _ a hc (Kd.C_below HA.out hbW)) (k24_mk _ b hd (Kd.C_below HB.out hbW))) (fun x hx => by
   rcases List.mem_cons.1 hx with rfl | hx
   · exact HOa.out
   · rw [List.mem_singleton.1 hx]; exact HOb.out) (by show 2 ≤ 4611686018427387904; decide)
  rw [HDS.out] at h
  exact h
 have hzr : (W2.alloc (.cells #[.bool a.f0, .slice A a.f1.length c, .int .i64 a.f2, .bool b.f0, .slice B b.f1.length d, .int .i64 b.f2] 24)).heap.size = w.heap.size + 3 := by simp [hz]
 rw [hzr, hW2] at hask
 have HASK := Lib.hid hask
 have HZ := Lib.hid hz
 have HA2 := Lib.hid hA2
 have HX := Lib.hid hx
 have HY := Lib.hid hy
 have HW2 := Lib.hid hW2
 clear hz hA2 hx hy hW2 hask hzr
 go_enter Tryz.func103, Tryz.ntmps103
 go_upto_region 4 with (first | (go_at_call 143; go_loud (with_reducible refine HASK.out.mono ?_); rintro e w3 ⟨rfl, hB3⟩; rw [← HW2.out] at hB3; have hB23 := ((Below.refl W2.heap.size W2).alloc (Nat.le_refl _) _).trans (hB3.mono (by rw [HZ.out]; omega)); obtain ⟨hx3, hxf3⟩ := bcells HX.out hB23; obtain ⟨hy3, hyf3⟩ := bcells HY.out hB23))
 have HA3 := Lib.hid (HA2.out.trans (hB23.mono HA2.out.size))
 have HX3 := Lib.hid (blk_below3 HX.out hB23)
 have HY3 := Lib.hid (blk_below3 HY.out hB23)
 obtain ⟨hx4, hxf4⟩ := bcells HX3.out (Below.refl _ _)
 obtain ⟨hy4, hyf4⟩ := bcells HY3.out (Below.refl _ _)
 have hxa := fun o => (bcells (blk_alloc HX3.out o) (Below.refl _ _)).1
 have hya := fun o => (bcells (blk_alloc HY3.out o) (Below.refl _ _)).1
 have hs3 : w.heap.size + 2 ≤ w3.heap.size := by have := hB23.size; rw [HZ.out] at this; exact this
 clear hx3 hxf3 hy3 hyf3 hB3 hB23 HX HY HA2 HASK HW2
 go_region_law (first
  | (go_simp; go_at_call 145; (with_reducible refine (HMI.out _).mono ?_); rintro e w5 ⟨rfl, hB5⟩; have hs5 : w.heap.size + 2 ≤ w5.heap.size := (by have := hB5.size; first | (rw [World.size_drew] at this; omega) | (rw [World.size_drew, World.size_alloc] at this; omega)); have HA5 : Hid (Below w.heap.size w w5) := Lib.hid (by first | exact (below_drew HA3.out).trans (hB5.mono (by rw [World.size_drew]; omega)) | exact (below_drew (HA3.out.alloc (by omega) _)).trans (hB5.mono (by rw [World.size_drew, World.size_alloc]; omega))); obtain ⟨hx5, hxf5⟩ := (show (∀ i, w5.cell? ⟨w.heap.size, i, none⟩ = #[.bool a.f0, .slice A a.f1.length c, .int .i64 a.f2][i]?) ∧ (∀ i, w5.frozen? ⟨w.heap.size, i, none⟩ = false) from by first | exact bcells (blk_drew HX3.out) hB5 | exact bcells (blk_drew (blk_alloc HX3.out _)) hB5); have hxa5 := fun o => (bcells (show (w5.alloc o).heap[w.heap.size]? = some (.cells #[.bool a.f0, .slice A a.f1.length c, .int .i64 a.f2] 24 (0, 0)) from by first | exact blk_alloc (blk_below3 (blk_drew HX3.out) hB5) o | exact blk_alloc (blk_below3 (blk_drew (blk_alloc HX3.out _)) hB5) o) (Below.refl _ _)).1; (first | (have hz5 := Lib.hid (blk_below3 (blk_drew (blk_new w3 (.cells #[.bool false, .slice none 0 0, .int .i64 0] 137 (0, 0)))) hB5)) | skip))
  | (go_simp; go_at_call 144; (with_reducible refine (HPL.out _ (by first | exact HA5.out | exact HA5.out.alloc (by omega) _)).mono ?_); rintro e w6 ⟨E, ee, rfl, hk6, hC6, hB6⟩; (first | (have hz6 := Lib.hid (blk_below3 (blk_new w5 (.cells #[.bool false, .slice none 0 0, .int .i64 0] 137 (0, 0))) hB6); obtain ⟨hzc, hzf⟩ := bcells hz6.out (Below.refl _ _)) | (have hz6 := Lib.hid (blk_below3 hz5.out hB6); obtain ⟨hzc, hzf⟩ := bcells hz6.out (Below.refl _ _)) | skip)))
 all_goals
  have HB6 : Hid (Below w.heap.size w w6) := Lib.hid (by first | exact HA5.out.trans (hB6.mono (by omega)) | exact (HA5.out.alloc (by omega) _).trans (hB6.mono (by simp; omega)))
  have hs6 : w.heap.size + 2 ≤ w6.heap.size := by have := hB6.size; first | omega | (rw [World.size_alloc] at this; omega)
  rename_i q_ k_ a_
  refine a_ _ _ ?_
  clear a_ hx4 hxf4 hy4 hyf4 hxa hya hx5 hxf5 hxa5
  first
   | (have hz7 : Hid (w6.heap[w5.heap.size]? = some (.cells #[.bool false, .slice none 0 0, .int .i64 0] 137 (0, 0))) := (by with_reducible exact hz6); obtain ⟨Z, g7, hg7, hZ, hbz, hBz⟩ : ∃ Z g7, g7 = w5.heap.size ∧ Z = (((w6.setCell ⟨w5.heap.size, 0, none⟩ (.bool p.f0)).setCell ⟨w5.heap.size, 1, none⟩ (.slice E p.f1.length ee)).setCell ⟨w5.heap.size, 2, none⟩ (.int .i64 p.f2)) ∧ Z.heap[g7]? = some (.cells #[.bool p.f0, .slice E p.f1.length ee, .int .i64 p.f2] 137 (0, 0)) ∧ Below w.heap.size w Z := ⟨_, _, rfl, rfl, box3_out hz7.out _ _ _, ((HB6.out.setCell (p := ⟨w5.heap.size, 0, none⟩) HA5.out.size _).setCell (p := ⟨w5.heap.size, 1, none⟩) HA5.out.size _).setCell (p := ⟨w5.heap.size, 2, none⟩) HA5.out.size _⟩; rw [← hZ, ← hg7])
   | (have hz7 : Hid (w6.heap[w3.heap.size]? = some (.cells #[.bool false, .slice none 0 0, .int .i64 0] 137 (0, 0))) := (by with_reducible exact hz6); obtain ⟨Z, g7, hg7, hZ, hbz, hBz⟩ : ∃ Z g7, g7 = w3.heap.size ∧ Z = (((w6.setCell ⟨w3.heap.size, 0, none⟩ (.bool p.f0)).setCell ⟨w3.heap.size, 1, none⟩ (.slice E p.f1.length ee)).setCell ⟨w3.heap.size, 2, none⟩ (.int .i64 p.f2)) ∧ Z.heap[g7]? = some (.cells #[.bool p.f0, .slice E p.f1.length ee, .int .i64 p.f2] 137 (0, 0)) ∧ Below w.heap.size w Z := ⟨_, _, rfl, rfl, box3_out hz7.out _ _ _, ((HB6.out.setCell (p := ⟨w3.heap.size, 0, none⟩) HA3.out.size _).setCell (p := ⟨w3.heap.size, 1, none⟩) HA3.out.size _).setCell (p := ⟨w3.heap.size, 2, none⟩) HA3.out.size _⟩; rw [← hZ, ← hg7])
   | (obtain ⟨Z, g7, hg7, hZ, hbz, hBz⟩ : ∃ Z g7, g7 = w6.heap.size ∧ Z = w6.alloc (.cells #[.bool p.f0, .slice E p.f1.length ee, .int .i64 p.f2] 137) ∧ Z.heap[g7]? = some (.cells #[.bool p.f0, .slice E p.f1.length ee, .int .i64 p.f2] 137 (0, 0)) ∧ Below w.heap.size w Z := ⟨_, _, rfl, rfl, blk_new _ _, HB6.out.alloc HB6.out.size _⟩; rw [← hZ, ← hg7])
  clear hZ hg7
  obtain ⟨hz0, hzf0⟩ := bcells hbz (Below.refl _ _)
  have HBZ := Lib.hid hBz
  have HBX := Lib.hid hbz
  have hsz := hBz.size
  clear hbz hBz hB6 hB5
  cases hzero : ((p.f1.length : Int) == 0) with
  | true =>
   have h0 : p.f1.length = 0 := by have := eq_of_beq hzero; omega
   have hr := HR.out
   rw [if_pos h0] at hr
   clear HR h0
   subst hr
   go_wp2_with (first | (go_at_call 146; (with_reducible refine (zero_any p.f0 E p.f1.length ee p.f2 _).mono ?_); rw [hzero]; rintro e w7 ⟨rfl, hB7⟩))
   go_ret2
   exact ⟨rfl, HBZ.out.trans (hB7.mono hsz)⟩
  | false =>
   have h0 : p.f1.length ≠ 0 := by intro h; rw [h] at hzero; simp at hzero
   have hr := HR.out
   rw [if_neg h0] at hr
   clear HR h0
   cases hp : p.f0 with
   | true =>
    rw [hp] at hr
    simp only [if_true] at hr
    subst hr
    rw [hp] at hz0 HBX
    go_wp2_with (first | (go_at_call 146; (with_reducible refine (zero_any _ E p.f1.length ee p.f2 _).mono ?_); rw [hzero]; rintro e w7 ⟨rfl, hB7⟩; obtain ⟨hz7, hzf7⟩ := bcells HBX.out hB7))
    go_ret2
    exact ⟨rfl, HBZ.out.trans (hB7.mono hsz)⟩
   | false =>
    rw [hp] at hr
    simp only [Bool.false_eq_true, if_false] at hr
    subst hr
    rw [hp] at hz0 HBX
    go_wp2_with (first | (go_at_call 146; (with_reducible refine (zero_any _ E p.f1.length ee p.f2 _).mono ?_); rw [hzero]; rintro e w7 ⟨rfl, hB7⟩; obtain ⟨hz7, hzf7⟩ := bcells HBX.out hB7))
    go_ret2
    exact ⟨rfl, HBZ.out.trans (hB7.mono hsz)⟩
theorem wrap64_up (t : Nat) (h : t ≤ 4611686018427387904) : wrap64 ((t : Int) + 1) = ((t + 1 : Nat) : Int) := by unfold wrap64; omega
def strC (a b : ByteArray) : Int := if Op.bytesLess a.toList b.toList = true then -1 else if (a.toList == b.toList) = true then 0 else 1
def lexC {α : Type} (f : α → α → Int) : List α → List α → Int
 | [], [] => 0
 | [], _ :: _ => -1
 | _ :: _, [] => 1
 | x :: l, y :: r => if f x y = 0 then lexC f l r else f x y
theorem lexC_drop {α : Type} (f : α → α → Int) (z : α) : ∀ (k : Nat) (l r : List α), k ≤ l.length → k ≤ r.length → (∀ i, i < k → f (l.getD i z) (r.getD i z) = 0) → lexC f l r = lexC f (l.drop k) (r.drop k)
 | 0, l, r, _, _, _ => by simp
 | k + 1, [], r, h, _, _ => by simp at h
 | k + 1, x :: l, [], _, h, _ => by simp at h
 | k + 1, x :: l, y :: r, h1, h2, h => by
  have h0 := h 0 (by omega)
  simp at h0
  rw [lexC, if_pos h0, List.drop_succ_cons, List.drop_succ_cons]
  refine lexC_drop f z k l r (by simpa using h1) (by simpa using h2) (fun i hi => ?_)
  have := h (i + 1) (by omega)
  simpa using this
theorem lexC_at {α : Type} (f : α → α → Int) (z : α) (k : Nat) (l r : List α) (h1 : k < l.length) (h2 : k < r.length) (h : ∀ i, i < k → f (l.getD i z) (r.getD i z) = 0) (hn : f (l.getD k z) (r.getD k z) ≠ 0) : lexC f l r = f (l.getD k z) (r.getD k z) := by
 rw [lexC_drop f z k l r (by omega) (by omega) h, List.drop_eq_getElem_cons h1, List.drop_eq_getElem_cons h2]
 simp only [List.getD_eq_getElem?_getD, List.getElem?_eq_getElem h1, List.getElem?_eq_getElem h2, Option.getD_some] at hn ⊢
 rw [lexC, if_neg hn]
theorem lexC_long {α : Type} (f : α → α → Int) (z : α) (l r : List α) (h1 : r.length < l.length) (h : ∀ i, i < r.length → f (l.getD i z) (r.getD i z) = 0) : lexC f l r = 1 := by
 rw [lexC_drop f z r.length l r (by omega) (Nat.le_refl _) h, List.drop_eq_getElem_cons h1, List.drop_length, lexC]
theorem lexC_end {α : Type} (f : α → α → Int) (z : α) (l r : List α) (h1 : l.length ≤ r.length) (h : ∀ i, i < l.length → f (l.getD i z) (r.getD i z) = 0) : lexC f l r = if l.length < r.length then -1 else 0 := by
 rw [lexC_drop f z l.length l r (Nat.le_refl _) h1 h, List.drop_length]
 by_cases hlt : l.length < r.length
 · rw [if_pos hlt, List.drop_eq_getElem_cons hlt, lexC]
 · rw [if_neg hlt, List.drop_eq_nil_of_le (by omega), lexC]
set_option maxHeartbeats 1000000 in
theorem CompareStr_any (a b : ByteArray) (w : World) : Calls Tryz.prog 100 #[.string a, .string b] w fun e w' => e = .returned (.int .i64 (strC a b)) ∧ w = w' := by
 have hnan : ∀ (x : ByteArray) (W : World), Calls Tryz.prog 142 #[.string x] W fun e w' => e = .returned (.bool false) ∧ W = w' := by
  intro x W
  have hx : (x.toList == x.toList) = true := by simp
  go_enter Tryz.func142, Tryz.ntmps142
  go_wp2
  go_ret
  exact ⟨by simp, rfl⟩
 have HN := Lib.hid hnan
 clear hnan
 cases h1 : Op.bytesLess a.toList b.toList with
 | true =>
  have hr : Hid (strC a b = -1) := Lib.hid (by unfold strC; rw [if_pos h1])
  rw [hr.out]
  go_enter Tryz.func100, Tryz.ntmps100
  go_wp2_with (first | (go_at_call 142; (with_reducible refine (HN.out _ _).mono ?_); rintro e w' ⟨rfl, rfl⟩))
  go_ret
  exact ⟨rfl, rfl⟩
 | false =>
  cases h2 : (a.toList == b.toList) with
  | true =>
   have hr : Hid (strC a b = 0) := Lib.hid (by unfold strC; rw [if_neg (by rw [h1]; simp), if_pos h2])
   rw [hr.out]
   go_enter Tryz.func100, Tryz.ntmps100
   go_wp2_with (first | (go_at_call 142; (with_reducible refine (HN.out _ _).mono ?_); rintro e w' ⟨rfl, rfl⟩))
   go_ret
   exact ⟨rfl, rfl⟩
  | false =>
   have hr : Hid (strC a b = 1) := Lib.hid (by unfold strC; rw [if_neg (by rw [h1]; simp), if_neg (by rw [h2]; simp)])
   rw [hr.out]
   go_enter Tryz.func100, Tryz.ntmps100
   go_wp2_with (first | (go_at_call 142; (with_reducible refine (HN.out _ _).mono ?_); rintro e w' ⟨rfl, rfl⟩))
   go_ret
   exact ⟨rfl, rfl⟩
set_option maxHeartbeats 1000000 in
theorem or_int (A : Option Addr) (c : Nat) (l : List Int) (w : World) (hC : Kd.C (Kd.int .i64) w A l.length l) :
 Calls Tryz.prog 99 #[.slice A l.length c] w fun e w' => e = .returned (.int .i64 (orL l)) ∧ w = w' := by
 have HC := Lib.hid hC
 have hlen := hC.2.1
 clear hC
 go_enter Tryz.func99, Tryz.ntmps99
 go_wp2
 go_loopw [8] (fun vi wr => ∃ k : Nat, k ≤ l.length ∧ vi = .int .i64 k ∧ Hid (∀ i, i < k → rd l (i : Int) = 0) ∧ wr = w) (fun vi _ => l.length - (intOf vi).toNat)
 case atStart => exact ⟨0, Nat.zero_le _, rfl, Lib.hid (fun i hi => by omega), rfl⟩
 case round =>
  obtain ⟨k, hk, rfl, hz, hw⟩ := hrel
  obtain rfl := hw.symm
  clear hw
  by_cases hlt : k < l.length
  · obtain ⟨ad, rfl, hx⟩ := Kd.at_int HC.out (k : Int) (by omega) (by omega)
    rw [Int.toNat_natCast] at hx
    have hw : wrap64 ((k : Int) + 1) = ((k + 1 : Nat) : Int) := by unfold wrap64; omega
    by_cases h0 : rd l (k : Int) = 0
    · have hn : (rd l (k : Int) != 0) = false := by simp [h0]
      have H0 := Lib.hid h0
      clear h0
      go_wp2
      go_roundw
      case rel => exact ⟨k + 1, by omega, by go_num, Lib.hid (fun i hi => by rcases Nat.lt_or_ge i k with h | h; exact hz.out i h; rw [show i = k by omega]; exact H0.out), trivial⟩
      case measure => simp [intOf]; omega
    · have hn : (rd l (k : Int) != 0) = true := by simp [h0]
      have hr : Hid (orL l = rd l (k : Int)) := Lib.hid (by
       rw [← orL_skip l k hz.out, List.drop_eq_getElem_cons hlt, orL]
       have e : l[k] = rd l (k : Int) := by simp [rd, hlt]
       rw [e, if_neg h0])
      clear h0
      go_wp2
      go_ret
      exact ⟨by rw [hr.out]; rfl, rfl⟩
  · obtain rfl : k = l.length := by omega
    have hr : Hid (orL l = 0) := Lib.hid (by rw [← orL_skip l _ hz.out, List.drop_length]; rfl)
    go_wp2
    go_ret
    exact ⟨by rw [hr.out]; rfl, rfl⟩
set_option maxHeartbeats 1000000 in
theorem CompareKeys_any (l r : List ByteArray) (A : Option Addr) (c : Nat) (B : Option Addr) (d : Nat) (w : World) (hA : Kd.string.C w A l.length l) (hB : Kd.string.C w B r.length r) (hl : l.length ≤ 1073741824) :
 Calls Tryz.prog 101 #[.slice A l.length c, .slice B r.length d] w fun e w' => e = .returned (.int .i64 (lexC strC l r)) ∧ w = w' := by
 have HA := Lib.hid hA
 have HB := Lib.hid hB
 have hlen := hB.2.1
 clear hA hB
 go_enter Tryz.func101, Tryz.ntmps101
 go_wp2
 go_loopw [11] (fun vi wr => ∃ k : Nat, k ≤ l.length ∧ k ≤ r.length ∧ vi = .int .i64 k ∧ Hid (∀ i, i < k → strC (l.getD i ByteArray.empty) (r.getD i ByteArray.empty) = 0) ∧ wr = w) (fun vi _ => l.length - (intOf vi).toNat)
 case atStart => exact ⟨0, Nat.zero_le _, Nat.zero_le _, rfl, Lib.hid (fun i hi => by omega), rfl⟩
 case round =>
  obtain ⟨k, hk, hk2, rfl, hz, hw⟩ := hrel
  obtain rfl := hw.symm
  clear hw
  by_cases hlt : k < l.length
  · obtain ⟨ad, rfl, hx⟩ := Kd.at_string HA.out (k : Int) (by omega) (by omega)
    rw [Int.toNat_natCast] at hx
    have e1 : rdOf ByteArray.empty l (k : Int) = l.getD k ByteArray.empty := by unfold rdOf; rw [Int.toNat_natCast]
    rw [e1] at hx
    clear e1
    by_cases hlt2 : k < r.length
    · obtain ⟨bd, rfl, hy⟩ := Kd.at_string HB.out (k : Int) (by omega) (by omega)
      rw [Int.toNat_natCast] at hy
      have e2 : rdOf ByteArray.empty r (k : Int) = r.getD k ByteArray.empty := by unfold rdOf; rw [Int.toNat_natCast]
      rw [e2] at hy
      clear e2
      have g1 : ¬ (r.length : Int) ≤ (k : Int) := by omega
      have HZ : Hid (strC (l.getD k ByteArray.empty) (r.getD k ByteArray.empty) ≠ 0 → lexC strC l r = strC (l.getD k ByteArray.empty) (r.getD k ByteArray.empty)) := Lib.hid (fun h => lexC_at strC _ k l r hlt hlt2 hz.out h)
      have HZ2 : Hid (strC (l.getD k ByteArray.empty) (r.getD k ByteArray.empty) = 0 → ∀ i, i < k + 1 → strC (l.getD i ByteArray.empty) (r.getD i ByteArray.empty) = 0) := Lib.hid (fun h i hi => by
       rcases Nat.lt_or_ge i k with h' | h'
       · exact hz.out i h'
       · rw [show i = k by omega]; exact h)
      have HC := Lib.hid (CompareStr_any (l.getD k ByteArray.empty) (r.getD k ByteArray.empty))
      generalize hcv : strC (l.getD k ByteArray.empty) (r.getD k ByteArray.empty) = cv at *
      generalize l.getD k ByteArray.empty = x at *
      generalize r.getD k ByteArray.empty = y at *
      clear hcv hz
      have hki : (k : Int) < (l.length : Int) := by omega
      have hki2 : (k : Int) < (r.length : Int) := by omega
      have HK1 : Hid (k + 1 ≤ l.length ∧ k + 1 ≤ r.length) := Lib.hid ⟨hlt, hlt2⟩
      have hw := wrap64_up k (by omega)
      by_cases h0 : cv = 0
      · have hn : (cv != 0) = false := by simp [h0]
        have HZ3 := Lib.hid (HZ2.out h0)
        clear HZ HZ2 h0
        go_wp2_with (first | (go_at_call 100; (with_reducible refine (HC.out _).mono ?_); rintro e w' ⟨rfl, rfl⟩))
        go_roundw
        case rel => exact ⟨k + 1, HK1.out.1, HK1.out.2, by first | exact congrArg (Value.int .i64) hw | rfl, HZ3, trivial⟩
        case measure => first | (rw [hw]; show l.length - (k + 1) < l.length - k; clear hw; omega) | (show l.length - (k + 1) < l.length - k; clear hw; omega)
      · have hn : (cv != 0) = true := by simp [h0]
        have hr := Lib.hid (HZ.out h0)
        clear HZ HZ2 h0 hw
        go_wp2_with (first | (go_at_call 100; (with_reducible refine (HC.out _).mono ?_); rintro e w' ⟨rfl, rfl⟩))
        go_ret
        exact ⟨by rw [hr.out]; rfl, rfl⟩
    · obtain rfl : k = r.length := by omega
      have hr : Hid (lexC strC l r = 1) := Lib.hid (lexC_long strC _ l r hlt hz.out)
      have g1 : (r.length : Int) ≤ (r.length : Int) := by omega
      have hki : (r.length : Int) < (l.length : Int) := by omega
      clear hz
      go_wp2
      go_ret
      exact ⟨by rw [hr.out]; rfl, rfl⟩
  · obtain rfl : k = l.length := by omega
    have hr : Hid (lexC strC l r = if l.length < r.length then -1 else 0) := Lib.hid (lexC_end strC _ l r hk2 hz.out)
    clear hz
    by_cases hlr : l.length < r.length
    · have hlr2 : (l.length : Int) < (r.length : Int) := by omega
      rw [if_pos hlr] at hr
      clear hlr
      go_wp2
      go_ret
      exact ⟨by rw [hr.out]; rfl, rfl⟩
    · have hlr2 : ¬ (l.length : Int) < (r.length : Int) := by omega
      rw [if_neg hlr] at hr
      clear hlr
      go_wp2
      go_ret
      exact ⟨by rw [hr.out]; rfl, rfl⟩
mutual
def vord : V → V → Int
 | ⟨k, n, t, l, ks⟩, b => if cmpI k b.f0 ≠ 0 ∨ k ≠ 3 then orL [cmpI k b.f0, strC t b.f2, lexC strC ks b.f4, vords l b.f3] else dcmp n b.f1
def vords : List V → List V → Int
 | [], [] => 0
 | [], _ :: _ => -1
 | _ :: _, [] => 1
 | x :: l, y :: r => if vord x y = 0 then vords l r else vord x y
end
theorem vords_lex : ∀ (l r : List V), vords l r = lexC vord l r
 | [], [] => by rw [vords, lexC]
 | [], _ :: _ => by rw [vords, lexC]
 | _ :: _, [] => by rw [vords, lexC]
 | x :: l, y :: r => by rw [vords, lexC, vords_lex l r]
theorem vord_eq (a b : V) : vord a b = if cmpI a.f0 b.f0 ≠ 0 ∨ a.f0 ≠ 3 then orL [cmpI a.f0 b.f0, strC a.f2 b.f2, lexC strC a.f4 b.f4, lexC vord a.f3 b.f3] else dcmp a.f1 b.f1 := by
 cases a; rw [vord, vords_lex]
inductive NumOk : V → Prop
 | mk (x : V) (h : x.f0 = 3 → decOkB x.f1 = true) (hk : ∀ y ∈ x.f3, NumOk y) : NumOk x
theorem NumOk.kids {x : V} (h : NumOk x) : ∀ y ∈ x.f3, NumOk y := by cases h; assumption
theorem NumOk.num {x : V} (h : NumOk x) : x.f0 = 3 → decOkB x.f1 = true := by cases h; assumption
set_option maxHeartbeats 1000000 in
theorem CompareFunc_in (l r : List V) (A : Option Addr) (c : Nat) (B : Option Addr) (d : Nat) (w : World) (hA : k28.C w A l.length l) (hB : k28.C w B r.length r) (hl : l.length ≤ 1073741824)
 (ih : ∀ x ∈ l, ∀ y ∈ r, ∀ cs ds W, k28.K W x cs → k28.K W y ds → Calls Tryz.prog 63 #[.agg cs.toArray, .agg ds.toArray] W fun e w' => e = .returned (.int .i64 (vord x y)) ∧ Below W.heap.size W w') :
 Calls Tryz.prog 102 #[.slice A l.length c, .slice B r.length d, .func (.func 63) #[] #[]] w fun e w' => e = .returned (.int .i64 (lexC vord l r)) ∧ Below w.heap.size w w' := by
 have HA := Lib.hid hA
 have HB := Lib.hid hB
 have HI := Lib.hid ih
 have hlen := hB.2.1
 clear hA hB ih
 go_enter Tryz.func102, Tryz.ntmps102
 go_wp2
 go_loopw [13] (fun vi wr => ∃ k : Nat, k ≤ l.length ∧ k ≤ r.length ∧ vi = .int .i64 k ∧ Hid (∀ i, i < k → vord (l.getD i z28) (r.getD i z28) = 0) ∧ Below w.heap.size w wr) (fun vi _ => l.length - (intOf vi).toNat)
 case atStart => exact ⟨0, Nat.zero_le _, Nat.zero_le _, rfl, Lib.hid (fun i hi => by omega), Below.refl _ _⟩
 case round =>
  obtain ⟨k, hk, hk2, rfl, hz, hBw⟩ := hrel
  have HBW := Lib.hid hBw
  have hsz := hBw.size
  clear hBw
  by_cases hlt : k < l.length
  · obtain ⟨ad, a0, a1, a2, a3, a4, a5, a6, rfl, hKa, p0, p1, p2, p3, p4, p5, p6⟩ := at_V HA.out HBW.out k hlt
    have e1 : rd_T28 l (k : Int) = l.getD k z28 := by unfold rd_T28; rw [Int.toNat_natCast]
    rw [e1] at hKa
    clear e1
    have hki : (k : Int) < (l.length : Int) := by omega
    by_cases hlt2 : k < r.length
    · obtain ⟨bd, b0, b1, b2, b3, b4, b5, b6, rfl, hKb, q0, q1, q2, q3, q4, q5, q6⟩ := at_V HB.out HBW.out k hlt2
      have e2 : rd_T28 r (k : Int) = r.getD k z28 := by unfold rd_T28; rw [Int.toNat_natCast]
      rw [e2] at hKb
      clear e2
      have hmx : l.getD k z28 ∈ l := by rw [List.getD_eq_getElem?_getD, List.getElem?_eq_getElem hlt]; exact List.getElem_mem hlt
      have hmy : r.getD k z28 ∈ r := by rw [List.getD_eq_getElem?_getD, List.getElem?_eq_getElem hlt2]; exact List.getElem_mem hlt2
      have HC := Lib.hid (fun W (hW : Below w.heap.size w W) => HI.out _ hmx _ hmy _ _ W (k28.K_below hW hKa) (k28.K_below hW hKb))
      have HZ : Hid (vord (l.getD k z28) (r.getD k z28) ≠ 0 → lexC vord l r = vord (l.getD k z28) (r.getD k z28)) := Lib.hid (fun h => lexC_at vord _ k l r hlt hlt2 hz.out h)
      have HZ2 : Hid (vord (l.getD k z28) (r.getD k z28) = 0 → ∀ i, i < k + 1 → vord (l.getD i z28) (r.getD i z28) = 0) := Lib.hid (fun h i hi => by
       rcases Nat.lt_or_ge i k with h' | h'
       · exact hz.out i h'
       · rw [show i = k by omega]; exact h)
      clear hmx hmy hz
      generalize l.getD k z28 = x at *
      generalize r.getD k z28 = y at *
      generalize hcv : vord x y = cv at *
      clear hcv
      obtain ⟨A2, c2, A5, c5, A6, c6, e, _⟩ := k28_open hKa
      simp only [List.cons.injEq, and_true] at e
      obtain ⟨rfl, rfl, rfl, rfl, rfl, rfl, rfl⟩ := e
      obtain ⟨B2, d2, B5, d5, B6, d6, e, _⟩ := k28_open hKb
      simp only [List.cons.injEq, and_true] at e
      obtain ⟨rfl, rfl, rfl, rfl, rfl, rfl, rfl⟩ := e
      have Q0 := fun o => pw_cell_below ((Below.refl wr.heap.size wr).alloc (Nat.le_refl _) o) q0
      have Q1 := fun o => pw_cell_below ((Below.refl wr.heap.size wr).alloc (Nat.le_refl _) o) q1
      have Q2 := fun o => pw_cell_below ((Below.refl wr.heap.size wr).alloc (Nat.le_refl _) o) q2
      have Q3 := fun o => pw_cell_below ((Below.refl wr.heap.size wr).alloc (Nat.le_refl _) o) q3
      have Q4 := fun o => pw_cell_below ((Below.refl wr.heap.size wr).alloc (Nat.le_refl _) o) q4
      have Q5 := fun o => pw_cell_below ((Below.refl wr.heap.size wr).alloc (Nat.le_refl _) o) q5
      have Q6 := fun o => pw_cell_below ((Below.refl wr.heap.size wr).alloc (Nat.le_refl _) o) q6
      clear q0 q1 q2 q3 q4 q5 q6
      have g1 : ¬ (r.length : Int) ≤ (k : Int) := by omega
      have hki2 : (k : Int) < (r.length : Int) := by omega
      have HK1 : Hid (k + 1 ≤ l.length ∧ k + 1 ≤ r.length) := Lib.hid ⟨hlt, hlt2⟩
      have HB2 : Hid (∀ o1 o2, Below w.heap.size w ((wr.alloc o1).alloc o2)) := Lib.hid (fun o1 o2 => (HBW.out.alloc hsz o1).alloc (by simp; omega) o2)
      have HSZ : Hid (∀ o1 o2, w.heap.size ≤ ((wr.alloc o1).alloc o2).heap.size) := Lib.hid (fun o1 o2 => by simp; omega)
      have HKB : Hid (k ≤ 4611686018427387904) := Lib.hid (by omega)
      clear hKa hKb
      by_cases h0 : cv = 0
      · have hn : (cv != 0) = false := by simp [h0]
        have HZ3 := Lib.hid (HZ2.out h0)
        clear HZ HZ2 h0
        go_wp2_with (first | (go_at_call 63; (with_reducible refine (HC.out _ (HB2.out _ _)).mono ?_); rintro e w2 ⟨rfl, hB2⟩; have HB3 := Lib.hid ((HB2.out _ _).trans (hB2.mono (HSZ.out _ _))); clear hB2))
        go_roundw
        case rel => exact ⟨k + 1, HK1.out.1, HK1.out.2, by first | exact congrArg (Value.int .i64) (wrap64_up k HKB.out) | rfl, HZ3, HB3.out⟩
        case measure => first | (rw [wrap64_up k HKB.out]; show l.length - (k + 1) < l.length - k; omega) | (show l.length - (k + 1) < l.length - k; omega)
      · have hn : (cv != 0) = true := by simp [h0]
        have hr := Lib.hid (HZ.out h0)
        clear HZ HZ2 h0
        go_wp2_with (first | (go_at_call 63; (with_reducible refine (HC.out _ (HB2.out _ _)).mono ?_); rintro e w2 ⟨rfl, hB2⟩; have HB3 := Lib.hid ((HB2.out _ _).trans (hB2.mono (HSZ.out _ _))); clear hB2))
        go_ret
        exact ⟨by rw [hr.out]; rfl, HB3.out⟩
    · obtain rfl : k = r.length := by omega
      have hr : Hid (lexC vord l r = 1) := Lib.hid (lexC_long vord _ l r hlt hz.out)
      have g1 : (r.length : Int) ≤ (r.length : Int) := by omega
      obtain ⟨A2, c2, A5, c5, A6, c6, e, _⟩ := k28_open hKa
      simp only [List.cons.injEq, and_true] at e
      obtain ⟨rfl, rfl, rfl, rfl, rfl, rfl, rfl⟩ := e
      clear hz hKa
      go_wp2
      go_ret
      exact ⟨by rw [hr.out]; rfl, HBW.out.alloc hsz _⟩
  · obtain rfl : k = l.length := by omega
    have hr : Hid (lexC vord l r = if l.length < r.length then -1 else 0) := Lib.hid (lexC_end vord _ l r hk2 hz.out)
    clear hz
    by_cases hlr : l.length < r.length
    · have hlr2 : (l.length : Int) < (r.length : Int) := by omega
      rw [if_pos hlr] at hr
      clear hlr
      go_wp2
      go_ret
      exact ⟨by rw [hr.out]; rfl, HBW.out⟩
    · have hlr2 : ¬ (l.length : Int) < (r.length : Int) := by omega
      rw [if_neg hlr] at hr
      clear hlr
      go_wp2
      go_ret
      exact ⟨by rw [hr.out]; rfl, HBW.out⟩
theorem four_C (W : World) (a b c d : Int) : Kd.C (Kd.int .i64) (W.alloc (.cells #[.int .i64 a, .int .i64 b, .int .i64 c, .int .i64 d] 3)) (some ⟨W.heap.size, 0, none⟩) 4 [a, b, c, d] := by
 have hb := blk_new W (.cells #[.int .i64 a, .int .i64 b, .int .i64 c, .int .i64 d] 3)
 refine ⟨rfl, by decide, fun _ => ⟨_, rfl, fun j p hj => ⟨[.int .i64 p], rfl, rfl, fun i u hu => ?_⟩⟩⟩
 have hi : i = 0 := by
  rcases Nat.eq_zero_or_pos i with h | h
  · exact h
  · rw [List.getElem?_eq_none (by simp; omega)] at hu; cases hu
 subst hi
 simp only [List.getElem?_cons_zero, Option.some.injEq] at hu
 subst hu
 rw [add_plain]
 show (W.alloc _).cell? ⟨W.heap.size, j * 1 + 0, none⟩ = _
 rw [Nat.mul_one, Nat.add_zero, blk_cell hb]
 rcases j with _ | _ | _ | _ | j
 · simp at hj; subst hj; rfl
 · simp at hj; subst hj; rfl
 · simp at hj; subst hj; rfl
 · simp at hj; subst hj; rfl
 · simp at hj
theorem or_four (W : World) (a b c d : Int) : Calls Tryz.prog 99 #[.slice (some ⟨W.heap.size, 0, none⟩) 4 4] (W.alloc (.cells #[.int .i64 a, .int .i64 b, .int .i64 c, .int .i64 d] 3)) fun e w' => e = .returned (.int .i64 (orL [a, b, c, d])) ∧ W.alloc (.cells #[.int .i64 a, .int .i64 b, .int .i64 c, .int .i64 d] 3) = w' :=
 or_int _ 4 [a, b, c, d] _ (four_C W a b c d)
set_option maxHeartbeats 1000000 in
theorem Order_any : ∀ (x y : V) (cs ds : List Value) (w : World), k28.K w x cs → k28.K w y ds → OkV x → OkV y → NumOk x → NumOk y →
 Calls Tryz.prog 63 #[.agg cs.toArray, .agg ds.toArray] w fun e w' => e = .returned (.int .i64 (vord x y)) ∧ Below w.heap.size w w' := by
 refine V.ind fun x ih => ?_
 intro y cs ds w hK hL hOx hOy hNx hNy
 obtain ⟨A2, c2, A5, c5, A6, c6, rfl, l2, g2, l5, g5, l6, g6⟩ := k28_open hK
 obtain ⟨B2, d2, B5, d5, B6, d6, rfl, m2, h2, m5, h5, m6, h6⟩ := k28_open hL
 have hcf : ∀ W, Below w.heap.size w W → Calls Tryz.prog 102 #[.slice A5 x.f3.length c5, .slice B5 y.f3.length d5, .func (.func 63) #[] #[]] W fun e w' => e = .returned (.int .i64 (lexC vord x.f3 y.f3)) ∧ Below W.heap.size W w' := fun W hW =>
  CompareFunc_in x.f3 y.f3 A5 c5 B5 d5 W (Kd.C_below g5 hW) (Kd.C_below h5 hW) hOx.len3 (fun a ha b hb cs ds W' h1 h2 => ih a ha b cs ds W' h1 h2 (hOx.kids a ha) (hOy.kids b hb) (hNx.kids a ha) (hNy.kids b hb))
 have hck : ∀ W, Below w.heap.size w W → Calls Tryz.prog 101 #[.slice A6 x.f4.length c6, .slice B6 y.f4.length d6] W fun e w' => e = .returned (.int .i64 (lexC strC x.f4 y.f4)) ∧ W = w' := fun W hW =>
  CompareKeys_any x.f4 y.f4 A6 c6 B6 d6 W (Kd.C_below g6 hW) (Kd.C_below h6 hW) hOx.len4
 have hdc : x.f0 = 3 → y.f0 = 3 → ∀ W, Below w.heap.size w W → Calls Tryz.prog 103 #[.agg #[.bool x.f1.f0, .slice A2 x.f1.f1.length c2, .int .i64 x.f1.f2], .agg #[.bool y.f1.f0, .slice B2 y.f1.f1.length d2, .int .i64 y.f1.f2]] W fun e w' => e = .returned (.tuple #[.int .i64 (dcmp x.f1 y.f1), .int .i64 0]) ∧ Below W.heap.size W w' := fun h3 h4 W hW =>
  Compare_any x.f1 y.f1 A2 c2 B2 d2 W l2 (Kd.C_below g2 hW) m2 (Kd.C_below h2 hW) hOx.dec hOy.dec (hNx.num h3) (hNy.num h4)
 have HCF := Lib.hid hcf
 have HCK := Lib.hid hck
 have HDC := Lib.hid hdc
 obtain ⟨r, hr⟩ : ∃ r : Int, r = vord x y := ⟨_, rfl⟩
 rw [← hr]
 rw [vord_eq] at hr
 have HR := Lib.hid hr
 clear hcf hck hdc hr ih hK hL hOx hOy hNx hNy g2 g5 g6 h2 h5 h6
 obtain ⟨cv, hcv⟩ : ∃ cv, cv = cmpI x.f0 y.f0 := ⟨_, rfl⟩
 rw [← hcv] at HR
 have HCV := Lib.hid hcv
 clear hcv
 have HCI : Hid (∀ W, Calls Tryz.prog 98 #[.int .i64 x.f0, .int .i64 y.f0] W fun e w' => e = .returned (.int .i64 cv) ∧ w' = W) := Lib.hid (fun W => by rw [HCV.out]; exact cmp_int x.f0 y.f0 W)
 obtain ⟨W2, hW2⟩ : ∃ W2, W2 = (w.alloc (.cells #[.int .i64 x.f0, .bool x.f1.f0, .slice A2 x.f1.f1.length c2, .int .i64 x.f1.f2, .string x.f2, .slice A5 x.f3.length c5, .slice A6 x.f4.length c6] 28)).alloc (.cells #[.int .i64 y.f0, .bool y.f1.f0, .slice B2 y.f1.f1.length d2, .int .i64 y.f1.f2, .string y.f2, .slice B5 y.f3.length d5, .slice B6 y.f4.length d6] 28) := ⟨_, rfl⟩
 have hz : W2.heap.size = w.heap.size + 2 := by rw [hW2]; simp
 have hA2 : Below w.heap.size w W2 := by rw [hW2]; exact ((Below.refl _ _).alloc (Nat.le_refl _) _).alloc (by simp) _
 have hx : W2.heap[w.heap.size]? = some (.cells #[.int .i64 x.f0, .bool x.f1.f0, .slice A2 x.f1.f1.length c2, .int .i64 x.f1.f2, .string x.f2, .slice A5 x.f3.length c5, .slice A6 x.f4.length c6] 28 (0, 0)) := by rw [hW2]; exact blk_alloc (blk_new _ _) _
 have hy : W2.heap[w.heap.size + 1]? = some (.cells #[.int .i64 y.f0, .bool y.f1.f0, .slice B2 y.f1.f1.length d2, .int .i64 y.f1.f2, .string y.f2, .slice B5 y.f3.length d5, .slice B6 y.f4.length d6] 28 (0, 0)) := by
  rw [hW2]
  have := blk_new (w.alloc (.cells #[.int .i64 x.f0, .bool x.f1.f0, .slice A2 x.f1.f1.length c2, .int .i64 x.f1.f2, .string x.f2, .slice A5 x.f3.length c5, .slice A6 x.f4.length c6] 28)) (.cells #[.int .i64 y.f0, .bool y.f1.f0, .slice B2 y.f1.f1.length d2, .int .i64 y.f1.f2, .string y.f2, .slice B5 y.f3.length d5, .slice B6 y.f4.length d6] 28)
  rw [World.size_alloc] at this
  exact this
 have HZ := Lib.hid hz
 have HA2 := Lib.hid hA2
 have HX := Lib.hid hx
 have HY := Lib.hid hy
 have HW2 := Lib.hid hW2
 clear hz hA2 hx hy hW2
 by_cases hc : cv ≠ 0
 · have hr := HR.out
   rw [if_pos (.inl hc)] at hr
   have HR2 := Lib.hid hr
   have hg : (cv != 0) = true := by simp [hc]
   clear HR hr hc HDC
   go_enter Tryz.func63, Tryz.ntmps63
   go_upto_region 3 with (first | (go_at_call 98; (with_reducible refine (HCI.out _).mono ?_); rintro e w3 ⟨rfl, rfl⟩))
   rw [← HW2.out]
   clear HW2 HCI HCV
   have HAd := Lib.hid (below_drew HA2.out)
   obtain ⟨hx, hxf⟩ := bcells (blk_drew HX.out) (Below.refl _ _)
   obtain ⟨hy, hyf⟩ := bcells (blk_drew HY.out) (Below.refl _ _)
   have hsz := HA2.out.size
   rw [← World.size_drew] at hsz
   clear HA2 HZ
   go_region_held3 (fun w' => w'.cell? ⟨w.heap.size, 4, none⟩ = some (.string x.f2) ∧ w'.cell? ⟨w.heap.size, 5, none⟩ = some (.slice A5 x.f3.length c5) ∧ w'.cell? ⟨w.heap.size, 6, none⟩ = some (.slice A6 x.f4.length c6) ∧ w'.cell? ⟨w.heap.size + 1, 4, none⟩ = some (.string y.f2) ∧ w'.cell? ⟨w.heap.size + 1, 5, none⟩ = some (.slice B5 y.f3.length d5) ∧ w'.cell? ⟨w.heap.size + 1, 6, none⟩ = some (.slice B6 y.f4.length d6)) (go_keep) (first
    | (go_at_call 100; (with_reducible refine (CompareStr_any _ _ _).mono ?_); rintro e w4 ⟨rfl, rfl⟩)
    | (go_at_call 101; (with_reducible refine (HCK.out _ HAd.out).mono ?_); rintro e w4 ⟨rfl, rfl⟩)
    | (go_at_call 102; (with_reducible refine (HCF.out _ HAd.out).mono ?_); rintro e w5 ⟨rfl, hB5⟩; obtain ⟨hx5, hxf5⟩ := bcells (blk_drew HX.out) hB5; obtain ⟨hy5, hyf5⟩ := bcells (blk_drew HY.out) hB5)
    | (go_at_call 99; (with_reducible refine (or_four _ _ _ _ _).mono ?_); rintro e w6 ⟨rfl, rfl⟩))
   rename_i q_ k_ a_ s_
   refine a_ _ _ ?_
   clear a_ s_
   have hs5 := hB5.size
   have HB5 := Lib.hid ((HAd.out.trans (hB5.mono hsz)).alloc (Nat.le_trans hsz hs5) (.cells #[.int .i64 cv, .int .i64 (strC x.f2 y.f2), .int .i64 (lexC strC x.f4 y.f4), .int .i64 (lexC vord x.f3 y.f3)] 3))
   clear hB5
   go_wp2
   go_ret
   exact ⟨by rw [HR2.out]; rfl, HB5.out⟩
 · obtain rfl : cv = 0 := by omega
   by_cases h3 : x.f0 ≠ 3
   · have hr := HR.out
     rw [if_pos (.inr h3)] at hr
     have HR2 := Lib.hid hr
     have hg : (x.f0 != 3) = true := by simp [h3]
     clear HR hr h3 HDC hc
     go_enter Tryz.func63, Tryz.ntmps63
     go_upto_region 3 with (first | (go_at_call 98; (with_reducible refine (HCI.out _).mono ?_); rintro e w3 ⟨rfl, rfl⟩))
     rw [← HW2.out]
     clear HW2 HCI HCV
     have HAd := Lib.hid (below_drew HA2.out)
     obtain ⟨hx, hxf⟩ := bcells (blk_drew HX.out) (Below.refl _ _)
     obtain ⟨hy, hyf⟩ := bcells (blk_drew HY.out) (Below.refl _ _)
     have hsz := HA2.out.size
     rw [← World.size_drew] at hsz
     clear HA2 HZ
     go_region_held3 (fun w' => w'.cell? ⟨w.heap.size, 4, none⟩ = some (.string x.f2) ∧ w'.cell? ⟨w.heap.size, 5, none⟩ = some (.slice A5 x.f3.length c5) ∧ w'.cell? ⟨w.heap.size, 6, none⟩ = some (.slice A6 x.f4.length c6) ∧ w'.cell? ⟨w.heap.size + 1, 4, none⟩ = some (.string y.f2) ∧ w'.cell? ⟨w.heap.size + 1, 5, none⟩ = some (.slice B5 y.f3.length d5) ∧ w'.cell? ⟨w.heap.size + 1, 6, none⟩ = some (.slice B6 y.f4.length d6)) (go_keep) (first
      | (go_at_call 100; (with_reducible refine (CompareStr_any _ _ _).mono ?_); rintro e w4 ⟨rfl, rfl⟩)
      | (go_at_call 101; (with_reducible refine (HCK.out _ HAd.out).mono ?_); rintro e w4 ⟨rfl, rfl⟩)
      | (go_at_call 102; (with_reducible refine (HCF.out _ HAd.out).mono ?_); rintro e w5 ⟨rfl, hB5⟩; obtain ⟨hx5, hxf5⟩ := bcells (blk_drew HX.out) hB5; obtain ⟨hy5, hyf5⟩ := bcells (blk_drew HY.out) hB5)
      | (go_at_call 99; (with_reducible refine (or_four _ _ _ _ _).mono ?_); rintro e w6 ⟨rfl, rfl⟩))
     rename_i q_ k_ a_ s_
     refine a_ _ _ ?_
     clear a_ s_
     have hs5 := hB5.size
     have HB5 := Lib.hid ((HAd.out.trans (hB5.mono hsz)).alloc (Nat.le_trans hsz hs5) (.cells #[.int .i64 0, .int .i64 (strC x.f2 y.f2), .int .i64 (lexC strC x.f4 y.f4), .int .i64 (lexC vord x.f3 y.f3)] 3))
     clear hB5
     go_wp2
     go_ret
     exact ⟨by rw [HR2.out]; rfl, HB5.out⟩
   · have h3' : x.f0 = 3 := by omega
     have hr := HR.out
     rw [if_neg (by intro h; rcases h with h | h; exact h rfl; exact h h3')] at hr
     have HR2 := Lib.hid hr
     have hy3 : y.f0 = 3 := by rw [← cmpI_zero HCV.out.symm]; exact h3'
     have HD2 := Lib.hid (HDC.out h3' hy3)
     have hg : (x.f0 != 3) = false := by simp [h3']
     clear HR hr h3 HDC hc HCF HCK h3' hy3
     have hbI := fun W (hW : Below W2.heap.size W2 W) => HA2.out.trans (hW.mono HA2.out.size)
     rw [HW2.out] at hbI HX HY
     go_enter Tryz.func63, Tryz.ntmps63
     go_wp2_with (first
      | (go_at_call 98; (with_reducible refine (HCI.out _).mono ?_); rintro e w3 ⟨rfl, rfl⟩)
      | (go_at_call 103; (with_reducible refine (HD2.out _ (hbI _ (Below.refl _ _))).mono ?_); rintro e w4 ⟨rfl, hB4⟩; have HB4 := Lib.hid (hbI _ hB4); clear hB4))
     go_ret
     exact ⟨by rw [HR2.out]; rfl, HB4.out⟩
structure Tr (p q r : Int) : Prop where
 le : p ≤ 0 → q ≤ 0 → r ≤ 0
 lt1 : p < 0 → q ≤ 0 → r < 0
 lt2 : p ≤ 0 → q < 0 → r < 0
 eq : p = 0 → q = 0 → r = 0
theorem Tr.next {p q r p' q' r' : Int} (h : Tr p q r) (k : Tr p' q' r') : Tr (if p = 0 then p' else p) (if q = 0 then q' else q) (if r = 0 then r' else r) := by
 obtain ⟨a1, a2, a3, a4⟩ := h
 obtain ⟨b1, b2, b3, b4⟩ := k
 by_cases hp : p = 0 <;> by_cases hq : q = 0
 · have hr := a4 hp hq
   simp only [hp, hq, hr, if_true]
   exact ⟨b1, b2, b3, b4⟩
 · simp only [hp, if_true, if_neg hq]
   by_cases hr : r = 0
   · refine ⟨fun h1 h2 => ?_, fun h1 h2 => ?_, fun h1 h2 => ?_, fun h1 h2 => absurd h2 hq⟩ <;> (have := a3 (by omega) (by omega); omega)
   · simp only [if_neg hr]
     refine ⟨fun h1 h2 => ?_, fun h1 h2 => ?_, fun h1 h2 => ?_, fun h1 h2 => absurd h2 hq⟩ <;> (have := a3 (by omega) (by omega); omega)
 · simp only [hq, if_true, if_neg hp]
   by_cases hr : r = 0
   · refine ⟨fun h1 h2 => ?_, fun h1 h2 => ?_, fun h1 h2 => ?_, fun h1 h2 => absurd h1 hp⟩ <;> (have := a2 (by omega) (by omega); omega)
   · simp only [if_neg hr]
     refine ⟨fun h1 h2 => ?_, fun h1 h2 => ?_, fun h1 h2 => ?_, fun h1 h2 => absurd h1 hp⟩ <;> (have := a2 (by omega) (by omega); omega)
 · simp only [if_neg hp, if_neg hq]
   by_cases hr : r = 0
   · refine ⟨fun h1 h2 => ?_, fun h1 h2 => ?_, fun h1 h2 => ?_, fun h1 h2 => absurd h1 hp⟩ <;> (have := a2 (by omega) (by omega); omega)
   · simp only [if_neg hr]
     exact ⟨a1, a2, a3, a4⟩
theorem cmpI_tr (x y z : Int) : Tr (cmpI x y) (cmpI y z) (cmpI x z) := by
 have h : ∀ a b : Int, (a < b ∧ cmpI a b = -1) ∨ (b < a ∧ cmpI a b = 1) ∨ (a = b ∧ cmpI a b = 0) := fun a b => by unfold cmpI; split <;> (try split) <;> omega
 have h1 := h x y
 have h2 := h y z
 have h3 := h x z
 constructor <;> intro h4 h5 <;> omega
theorem cmpI_anti (x y : Int) : cmpI y x = - cmpI x y := by
 unfold cmpI
 split <;> (try split) <;> (try split) <;> (try split) <;> omega
theorem bless_irr : ∀ l : List UInt8, Op.bytesLess l l = false
 | [] => rfl
 | a :: l => by simp [Op.bytesLess, bless_irr l]
theorem bless_cases : ∀ a b : List UInt8, Op.bytesLess a b = true ∨ a = b ∨ Op.bytesLess b a = true
 | [], [] => .inr (.inl rfl)
 | [], _ :: _ => .inl (by simp [Op.bytesLess])
 | _ :: _, [] => .inr (.inr (by simp [Op.bytesLess]))
 | a :: x, b :: y => by
  rcases Nat.lt_trichotomy a.toNat b.toNat with h | h | h
  · exact .inl (by simp [Op.bytesLess, UInt8.lt_iff_toNat_lt, h])
  · have e : a = b := UInt8.toNat_inj.1 h
    subst e
    rcases bless_cases x y with h | h | h
    · exact .inl (by simp [Op.bytesLess, h])
    · exact .inr (.inl (by rw [h]))
    · exact .inr (.inr (by simp [Op.bytesLess, h]))
  · exact .inr (.inr (by simp [Op.bytesLess, UInt8.lt_iff_toNat_lt, h]))
theorem bless_trans : ∀ a b c : List UInt8, Op.bytesLess a b = true → Op.bytesLess b c = true → Op.bytesLess a c = true
 | [], [], _, h, _ => by simp [Op.bytesLess] at h
 | _, _, [], _, h => by simp [Op.bytesLess] at h
 | _ :: _, [], _, h, _ => by simp [Op.bytesLess] at h
 | [], _ :: _, _ :: _, _, _ => by simp [Op.bytesLess]
 | a :: x, b :: y, c :: z, h1, h2 => by
  simp only [Op.bytesLess, Bool.or_eq_true, Bool.and_eq_true, decide_eq_true_eq, beq_iff_eq, UInt8.lt_iff_toNat_lt] at h1 h2 ⊢
  rcases h1 with h1 | ⟨rfl, h1⟩
  · rcases h2 with h2 | ⟨rfl, h2⟩
    · exact .inl (by omega)
    · exact .inl h1
  · rcases h2 with h2 | ⟨rfl, h2⟩
    · exact .inl h2
    · exact .inr ⟨rfl, bless_trans x y z h1 h2⟩
theorem strC_cases (a b : ByteArray) : (Op.bytesLess a.toList b.toList = true ∧ strC a b = -1) ∨ (Op.bytesLess b.toList a.toList = true ∧ strC a b = 1) ∨ (a.toList = b.toList ∧ strC a b = 0) := by
 unfold strC
 by_cases h : Op.bytesLess a.toList b.toList = true
 · exact .inl ⟨h, if_pos h⟩
 · rw [if_neg h]
   by_cases h2 : a.toList = b.toList
   · exact .inr (.inr ⟨h2, by simp [h2]⟩)
   · refine .inr (.inl ⟨?_, by simp [h2]⟩)
     rcases bless_cases a.toList b.toList with h3 | h3 | h3
     · exact absurd h3 h
     · exact absurd h3 h2
     · exact h3
theorem bless_asymm {a b : List UInt8} (h : Op.bytesLess a b = true) : Op.bytesLess b a = false := by
 cases h2 : Op.bytesLess b a with
 | false => rfl
 | true => have := bless_trans _ _ _ h h2; rw [bless_irr] at this; cases this
theorem strC_anti (a b : ByteArray) : strC b a = - strC a b := by
 rcases strC_cases a b with ⟨h, e⟩ | ⟨h, e⟩ | ⟨h, e⟩ <;> rcases strC_cases b a with ⟨h', e'⟩ | ⟨h', e'⟩ | ⟨h', e'⟩ <;> rw [e, e']
 all_goals first
  | rfl
  | (have := bless_asymm h; rw [h'] at this; cases this)
  | (rw [h'] at h; rw [bless_irr] at h; cases h)
  | (rw [h] at h'; rw [bless_irr] at h'; cases h')
theorem strC_tr (a b c : ByteArray) : Tr (strC a b) (strC b c) (strC a c) := by
 have key : ∀ {x y : ByteArray}, strC x y = -1 ↔ Op.bytesLess x.toList y.toList = true := fun {x y} => by
  rcases strC_cases x y with ⟨h, e⟩ | ⟨h, e⟩ | ⟨h, e⟩
  · simp [h, e]
  · rw [e, bless_asymm h]; simp
  · rw [e, h, bless_irr]; simp
 have key0 : ∀ {x y : ByteArray}, strC x y = 0 ↔ x.toList = y.toList := fun {x y} => by
  rcases strC_cases x y with ⟨h, e⟩ | ⟨h, e⟩ | ⟨h, e⟩
  · rw [e]; constructor
    · intro h; cases h
    · intro h'; rw [h', bless_irr] at h; cases h
  · rw [e]; constructor
    · intro h; cases h
    · intro h'; rw [h', bless_irr] at h; cases h
  · simp [h, e]
 have r1 : strC a b = -1 ∨ strC a b = 1 ∨ strC a b = 0 := by rcases strC_cases a b with ⟨_, e⟩ | ⟨_, e⟩ | ⟨_, e⟩ <;> simp [e]
 have r2 : strC b c = -1 ∨ strC b c = 1 ∨ strC b c = 0 := by rcases strC_cases b c with ⟨_, e⟩ | ⟨_, e⟩ | ⟨_, e⟩ <;> simp [e]
 have l1 : strC a b = -1 → strC b c = -1 → strC a c = -1 := fun h1 h2 => key.2 (bless_trans _ _ _ (key.1 h1) (key.1 h2))
 have l2 : strC a b = -1 → strC b c = 0 → strC a c = -1 := fun h1 h2 => key.2 (by rw [← key0.1 h2]; exact key.1 h1)
 have l3 : strC a b = 0 → strC b c = -1 → strC a c = -1 := fun h1 h2 => key.2 (by rw [key0.1 h1]; exact key.1 h2)
 have l4 : strC a b = 0 → strC b c = 0 → strC a c = 0 := fun h1 h2 => key0.2 ((key0.1 h1).trans (key0.1 h2))
 rcases r1 with h1 | h1 | h1 <;> rcases r2 with h2 | h2 | h2 <;> constructor <;> intro h3 h4 <;> first
  | omega
  | (rw [l1 h1 h2]; decide)
  | (rw [l2 h1 h2]; decide)
  | (rw [l3 h1 h2]; decide)
  | (rw [l4 h1 h2]; decide)
  | exact l4 h1 h2
theorem lexC_anti {α : Type} (f : α → α → Int) : ∀ (l r : List α), (∀ x ∈ l, ∀ y, f y x = - f x y) → lexC f r l = - lexC f l r
 | [], [], _ => by simp [lexC]
 | [], _ :: _, _ => by simp [lexC]
 | _ :: _, [], _ => by simp [lexC]
 | x :: l, y :: r, h => by
  have h1 := h x List.mem_cons_self y
  have h2 := lexC_anti f l r (fun z hz => h z (List.mem_cons_of_mem _ hz))
  rw [lexC, lexC, h1, h2]
  by_cases h0 : f x y = 0
  · rw [if_pos h0, if_pos (by omega)]
  · rw [if_neg h0, if_neg (by omega)]
theorem lexC_tr {α : Type} (f : α → α → Int) : ∀ (l r s : List α), (∀ x ∈ l, ∀ y z, Tr (f x y) (f y z) (f x z)) → Tr (lexC f l r) (lexC f r s) (lexC f l s)
 | [], [], [], _ => by simp only [lexC]; constructor <;> intros <;> omega
 | [], [], _ :: _, _ => by simp only [lexC]; constructor <;> intros <;> omega
 | [], _ :: _, [], _ => by simp only [lexC]; constructor <;> intros <;> omega
 | [], _ :: _, _ :: _, _ => by simp only [lexC]; constructor <;> intros <;> omega
 | _ :: _, [], [], _ => by simp only [lexC]; constructor <;> intros <;> omega
 | _ :: _, [], _ :: _, _ => by simp only [lexC]; constructor <;> intros <;> omega
 | _ :: _, _ :: _, [], _ => by simp only [lexC]; constructor <;> intros <;> omega
 | x :: l, y :: r, z :: s, h => by
  simp only [lexC]
  exact Tr.next (h x List.mem_cons_self y z) (lexC_tr f l r s (fun w hw => h w (List.mem_cons_of_mem _ hw)))
theorem or4_tr {a b c d a' b' c' d' a2 b2 c2 d2 : Int} (ha : Tr a a' a2) (hb : Tr b b' b2) (hc : Tr c c' c2) (hd : Tr d d' d2) : Tr (orL [a, b, c, d]) (orL [a', b', c', d']) (orL [a2, b2, c2, d2]) := by
 have h0 : Tr (0 : Int) 0 0 := by constructor <;> intros <;> omega
 simp only [orL]
 exact Tr.next ha (Tr.next hb (Tr.next hc (Tr.next hd h0)))
theorem or4_anti (a b c d : Int) : orL [-a, -b, -c, -d] = - orL [a, b, c, d] := by
 simp only [orL]
 split <;> (try split) <;> (try split) <;> (try split) <;> (try split) <;> (try split) <;> (try split) <;> (try split) <;> omega
theorem vord_anti : ∀ a b : V, vord b a = - vord a b := by
 refine V.ind fun a ih => ?_
 intro b
 rw [vord_eq, vord_eq, cmpI_anti a.f0 b.f0, strC_anti a.f2 b.f2, lexC_anti strC a.f4 b.f4 (fun x _ y => strC_anti x y), lexC_anti vord a.f3 b.f3 (fun x hx y => ih x hx y)]
 by_cases h : cmpI a.f0 b.f0 ≠ 0 ∨ a.f0 ≠ 3
 · rw [if_pos h, if_pos (by
    rcases h with h | h
    · exact .inl (by omega)
    · by_cases h0 : cmpI a.f0 b.f0 = 0
      · have := cmpI_zero h0
        exact .inr (by omega)
      · exact .inl (by omega)), or4_anti]
 · have h0 : cmpI a.f0 b.f0 = 0 := by omega
   have := cmpI_zero h0
   rw [if_neg h, if_neg (by omega)]
   unfold dcmp
   exact cmpI_anti _ _
theorem vord_tr : ∀ a b c : V, Tr (vord a b) (vord b c) (vord a c) := by
 refine V.ind fun a ih => ?_
 intro b c
 have h1 := cmpI_tr a.f0 b.f0 c.f0
 have h4 := or4_tr h1 (strC_tr a.f2 b.f2 c.f2) (lexC_tr strC a.f4 b.f4 c.f4 (fun x _ y z => strC_tr x y z)) (lexC_tr vord a.f3 b.f3 c.f3 (fun x hx y z => ih x hx y z))
 have hd : Tr (dcmp a.f1 b.f1) (dcmp b.f1 c.f1) (dcmp a.f1 c.f1) := cmpI_tr _ _ _
 have ob : ∀ x y z : Int, ∀ w : Int, w ≠ 0 → orL [w, x, y, z] = w := fun x y z w hw => by simp [orL, hw]
 by_cases k1 : cmpI a.f0 b.f0 = 0
 · have e1 := cmpI_zero k1
   by_cases k2 : cmpI b.f0 c.f0 = 0
   · have e2 := cmpI_zero k2
     rw [vord_eq a b, vord_eq b c, vord_eq a c]
     by_cases k3 : a.f0 = 3
     · rw [if_neg (by omega), if_neg (by omega), if_neg (by have := h1.eq k1 k2; omega)]
       exact hd
     · rw [if_pos (.inr k3), if_pos (.inr (by omega)), if_pos (.inr k3)]
       exact h4
   · have k3 : cmpI a.f0 c.f0 ≠ 0 := by rw [e1]; exact k2
     rw [vord_eq b c, vord_eq a c, if_pos (.inl k2), if_pos (.inl k3), ob _ _ _ _ k2, ob _ _ _ _ k3, e1]
     constructor <;> intros <;> omega
 · by_cases k2 : cmpI b.f0 c.f0 = 0
   · have e2 := cmpI_zero k2
     have k3 : cmpI a.f0 c.f0 ≠ 0 := by rw [← e2]; exact k1
     rw [vord_eq a b, vord_eq a c, if_pos (.inl k1), if_pos (.inl k3), ob _ _ _ _ k1, ob _ _ _ _ k3, ← e2]
     constructor <;> intros <;> omega
   · rw [vord_eq a b, vord_eq b c, vord_eq a c, if_pos (.inl k1), if_pos (.inl k2), ob _ _ _ _ k1, ob _ _ _ _ k2]
     by_cases k3 : cmpI a.f0 c.f0 = 0
     · constructor
       · intro h5 h6; have := h1.lt1 (by omega) h6; omega
       · intro h5 h6; have := h1.lt1 h5 h6; omega
       · intro h5 h6; have := h1.lt2 h5 h6; omega
       · intro h5 h6; exact absurd h5 k1
     · rw [if_pos (.inl k3), ob _ _ _ _ k3]
       exact h1
noncomputable def same {α : Type} (a b : α) : Bool := @decide (a = b) (Classical.propDecidable _)
theorem same_iff {α : Type} {a b : α} : same a b = true ↔ a = b := by unfold same; simp
theorem same_refl {α : Type} (a : α) : same a a = true := same_iff.2 rfl
theorem same_ne {α : Type} {a b : α} (h : a ≠ b) : same a b = false := by
 cases hs : same a b with
 | false => rfl
 | true => exact absurd (same_iff.1 hs) h
theorem ext_getD {α : Type} (z : α) {l r : List α} (h : l.length = r.length) (k : ∀ i, i < l.length → l.getD i z = r.getD i z) : l = r := by
 apply List.ext_getElem h
 intro i h1 h2
 have := k i h1
 rw [List.getD_eq_getElem?_getD, List.getD_eq_getElem?_getD, List.getElem?_eq_getElem h1, List.getElem?_eq_getElem h2] at this
 exact this
set_option maxHeartbeats 1000000 in
theorem dsame_any (a b : D) (A : Option Addr) (c : Nat) (B : Option Addr) (e : Nat) (w : World) (ha : Kd.C (Kd.int .u32) w A a.f1.length a.f1) (hb : Kd.C (Kd.int .u32) w B b.f1.length b.f1) :
 Calls Tryz.prog 64 #[.agg #[.bool a.f0, .slice A a.f1.length c, .int .i64 a.f2], .agg #[.bool b.f0, .slice B b.f1.length e, .int .i64 b.f2]] w fun x w' => x = .returned (.bool (same a b)) ∧ Below w.heap.size w w' := by
 have HA := Lib.hid ha
 have HB' := Lib.hid hb
 have hlen := ha.2.1
 clear ha hb
 cases h0 : (a.f0 == b.f0) with
 | false =>
  have h0b : (a.f0 != b.f0) = true := by simp [bne, h0]
  have hn : a ≠ b := by intro h; rw [h] at h0; simp at h0
  rw [same_ne hn]
  clear hn
  go_enter Tryz.func64, Tryz.ntmps64
  go_wp2
  go_ret
  exact ⟨rfl, ((Below.refl _ _).alloc (Nat.le_refl _) _).alloc (by simp) _⟩
 | true =>
  have h0b : (a.f0 != b.f0) = false := by simp [bne, h0]
  cases h2 : (a.f2 == b.f2) with
  | false =>
   have h2b : (a.f2 != b.f2) = true := by simp [bne, h2]
   have hn : a ≠ b := by intro h; rw [h] at h2; simp at h2
   rw [same_ne hn]
   clear hn
   go_enter Tryz.func64, Tryz.ntmps64
   go_wp2
   go_ret
   exact ⟨rfl, ((Below.refl _ _).alloc (Nat.le_refl _) _).alloc (by simp) _⟩
  | true =>
   have h2b : (a.f2 != b.f2) = false := by simp [bne, h2]
   cases h1 : ((a.f1.length : Int) == (b.f1.length : Int)) with
   | false =>
    have h1b : ((a.f1.length : Int) != (b.f1.length : Int)) = true := by simp [bne, h1]
    have hn : a ≠ b := by intro h; rw [h] at h1; simp at h1
    rw [same_ne hn]
    clear hn
    go_enter Tryz.func64, Tryz.ntmps64
    go_wp2
    go_ret
    exact ⟨rfl, ((Below.refl _ _).alloc (Nat.le_refl _) _).alloc (by simp) _⟩
   | true =>
    have h1b : ((a.f1.length : Int) != (b.f1.length : Int)) = false := by simp [bne, h1]
    have hq : a.f1.length = b.f1.length := by have := eq_of_beq h1; omega
    have HE : Hid (a.f0 = b.f0 ∧ a.f2 = b.f2 ∧ a.f1.length = b.f1.length) := Lib.hid ⟨eq_of_beq h0, eq_of_beq h2, hq⟩
    have HL : Hid (a.f1.length ≤ b.f1.length) := Lib.hid (by omega)
    clear hq
    go_enter Tryz.func64, Tryz.ntmps64
    go_wp2
    have hB0 : Below w.heap.size w ((w.alloc (Obj.cells #[Value.bool a.f0, Value.slice A a.f1.length c, Value.int IntKind.i64 a.f2] 24 (0, 0))).alloc (Obj.cells #[Value.bool b.f0, Value.slice B b.f1.length e, Value.int IntKind.i64 b.f2] 24 (0, 0))) := ((Below.refl _ _).alloc (Nat.le_refl _) _).alloc (by simp) _
    have g1 := blk_new (w.alloc (Obj.cells #[Value.bool a.f0, Value.slice A a.f1.length c, Value.int IntKind.i64 a.f2] 24 (0, 0))) (Obj.cells #[Value.bool b.f0, Value.slice B b.f1.length e, Value.int IntKind.i64 b.f2] 24 (0, 0))
    have g0 := (blk_new w (Obj.cells #[Value.bool a.f0, Value.slice A a.f1.length c, Value.int IntKind.i64 a.f2] 24 (0, 0)))
    replace g0 := (((Below.refl _ (w.alloc (Obj.cells #[Value.bool a.f0, Value.slice A a.f1.length c, Value.int IntKind.i64 a.f2] 24 (0, 0)))).alloc (Nat.le_refl _) (Obj.cells #[Value.bool b.f0, Value.slice B b.f1.length e, Value.int IntKind.i64 b.f2] 24 (0, 0))).block _ (blk_lt g0)).trans g0
    rw [show (w.alloc (Obj.cells #[Value.bool a.f0, Value.slice A a.f1.length c, Value.int IntKind.i64 a.f2] 24 (0, 0))).heap.size = w.heap.size + 1 by simp] at g1
    generalize (w.alloc (Obj.cells #[Value.bool a.f0, Value.slice A a.f1.length c, Value.int IntKind.i64 a.f2] 24 (0, 0))).alloc (Obj.cells #[Value.bool b.f0, Value.slice B b.f1.length e, Value.int IntKind.i64 b.f2] 24 (0, 0)) = w0 at hB0 g0 g1 ⊢
    have G := Lib.hid (And.intro g0 g1)
    have HB0 := Lib.hid hB0
    have HLE : Hid (w.heap.size ≤ w0.heap.size) := Lib.hid hB0.size
    clear g0 g1 hB0
    go_loopw [5] (fun vi wr => ∃ k : Nat, k ≤ a.f1.length ∧ vi = .int .i64 k ∧ Hid (∀ i, i < k → a.f1.getD i 0 = b.f1.getD i 0) ∧ Below w0.heap.size w0 wr) (fun vi _ => a.f1.length - (intOf vi).toNat)
    case atStart => exact ⟨0, Nat.zero_le _, rfl, Lib.hid (fun i h => absurd h (by omega)), Below.refl _ _⟩
    case round =>
     obtain ⟨k, hk, rfl, hu, hB⟩ := hrel
     have HB := Lib.hid hB
     have hBW := Lib.hid (HB0.out.trans (hB.mono HLE.out))
     obtain ⟨hcl0, hfz0⟩ := bcells G.out.1 hB
     obtain ⟨hcl1, hfz1⟩ := bcells G.out.2 hB
     clear hB
     by_cases hlt : k < a.f1.length
     · obtain ⟨ad, rfl, hx⟩ := Kd.at_int (Kd.C_below HA.out hBW.out) (k : Int) (by omega) (by omega)
       obtain ⟨bd, rfl, hy⟩ := Kd.at_int (Kd.C_below HB'.out hBW.out) (k : Int) (by omega) (by have := HL.out; omega)
       rw [Int.toNat_natCast] at hx hy
       have e1 : rd a.f1 (k : Int) = a.f1.getD k 0 := by unfold rd; rw [Int.toNat_natCast]
       have e2 : rd b.f1 (k : Int) = b.f1.getD k 0 := by unfold rd; rw [Int.toNat_natCast]
       rw [e1] at hx
       rw [e2] at hy
       clear e1 e2
       obtain ⟨xa, ha⟩ : ∃ xa, xa = a.f1.getD k 0 := ⟨_, rfl⟩
       obtain ⟨xb, hb⟩ : ∃ xb, xb = b.f1.getD k 0 := ⟨_, rfl⟩
       rw [← ha] at hx
       rw [← hb] at hy
       have hw : wrap64 ((k : Int) + 1) = ((k + 1 : Nat) : Int) := by unfold wrap64; omega
       have hlt2 : (k : Int) < (b.f1.length : Int) := by have := HL.out; omega
       have hlt1 : (k : Int) < (a.f1.length : Int) := by omega
       cases hab : (xa == xb) with
       | false =>
        have habn : (xa != xb) = true := by simp [bne, hab]
        have hr : Hid (same a b = false) := Lib.hid (same_ne (by intro h; rw [ha, hb, h] at hab; simp at hab))
        clear ha hb hu
        go_wp2
        go_quiet (fail)
        go_wp2
        go_ret
        exact ⟨by rw [hr.out]; rfl, pw_below_drewN hBW.out _⟩
       | true =>
        have habn : (xa != xb) = false := by simp [bne, hab]
        have hu' : Hid (∀ i, i < k + 1 → a.f1.getD i 0 = b.f1.getD i 0) := Lib.hid (fun i hi => by
         rcases Nat.lt_or_ge i k with h | h
         · exact hu.out i h
         · obtain rfl : i = k := by omega
           rw [← ha, ← hb]; exact eq_of_beq hab)
        clear ha hb hu
        go_wp2
        go_quiet (fail)
        go_wp2
        go_roundw
        case rel => exact ⟨k + 1, by omega, by go_num, hu', pw_below_drewN HB.out _⟩
        case measure => simp [intOf]; omega
     · obtain rfl : k = a.f1.length := by omega
       have hr : Hid (same a b = true) := Lib.hid (same_iff.2 (by
        obtain ⟨q0, q2, q1⟩ := HE.out
        have := ext_getD 0 q1 hu.out
        cases a; cases b; simp only [S24.mk.injEq]; exact ⟨q0, this, q2⟩))
       clear hu
       go_wp2
       go_ret
       exact ⟨by rw [hr.out]; rfl, hBW.out⟩
theorem toL_inj2 {a b : ByteArray} : a.toList = b.toList ↔ a = b := by
 refine ⟨fun h => ?_, fun h => by rw [h]⟩
 rw [ByteArray.toList_eq, ByteArray.toList_eq] at h
 exact ByteArray.ext (Array.toList_inj.1 h)
end Go.Proofs.YthigbklhngihkaaGreatDoor.P

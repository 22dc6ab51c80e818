import Derived.Test.YthigbklhngihkaaGreatDoorMValueKindso
import Derived.Shelf.SlIter.Nil
import Derived.Shelf.SortM.Plain
import Derived.Shelf.SortM.SortNone
import Derived.Ground.GgzProg
import Derived.Ground.SlgmProg
import Derived.Maps.OwnSet
import Derived.Sort.KeysCollected
import Derived.Sort.Walk0
import Derived.Maps.OwnIn
set_option linter.unusedVariables false
set_option linter.unusedSimpArgs false
set_option maxRecDepth 100000
namespace Go.Proofs.YthigbklhngihkaaGreatDoor.P
open Go.RowKit Go.Proofs.YthigbklhngihkaaGreatDoorW.PrintWords Go.Proofs.YthigbklhngihkaaGreatDoorW.PrintMore Go.Proofs.YthigbklhngihkaaGreatDoorW.PrintLast
def vask2 (a b : V) : Int := orL [vchk a, vchk b]
def vcmp (a b : V) : Int := if vask2 a b = 0 then vord a b else 0
theorem vask2_zero {a b : V} (h : vask2 a b = 0) : vchk a = 0 ∧ vchk b = 0 := by
 have := orL_none h
 exact ⟨this _ List.mem_cons_self, this _ (List.mem_cons_of_mem _ List.mem_cons_self)⟩
theorem vask2_mk {a b : V} (ha : vchk a = 0) (hb : vchk b = 0) : vask2 a b = 0 := by unfold vask2; rw [ha, hb]; rfl
theorem vcmp_bad {a b : V} (h : vask2 a b ≠ 0) : vcmp a b = 0 := if_neg h
theorem vcmp_ok {a b : V} (ha : vchk a = 0) (hb : vchk b = 0) : vcmp a b = vord a b := if_pos (vask2_mk ha hb)
def One (x : Int) : Prop := x = -1 ∨ x = 0 ∨ x = 1
theorem strip_val : ∀ m : Nat, (strip m).1 * 10 ^ (strip m).2 = m := fun m => by
 induction m using Nat.strongRecOn with
 | _ m ih =>
  by_cases h0 : m = 0
  · subst h0; rw [strip, dif_neg (by simp)]; rfl
  · by_cases h : m % 10 = 0
    · rw [strip_ten h0 h]
      have := ih (m / 10) (by omega)
      show (strip (m / 10)).1 * 10 ^ ((strip (m / 10)).2 + 1) = m
      rw [Nat.pow_succ, ← Nat.mul_assoc, this]
      omega
    · rw [strip_end h]; simp
theorem strip_mod : ∀ m : Nat, m ≠ 0 → (strip m).1 % 10 ≠ 0 := fun m => by
 induction m using Nat.strongRecOn with
 | _ m ih =>
  intro h0
  by_cases h : m % 10 = 0
  · rw [strip_ten h0 h]
    exact ih (m / 10) (by omega) (by omega)
  · rw [strip_end h]; exact h
theorem strip_le (m : Nat) : (strip m).1 ≤ m := by
 have := strip_val m
 have hp : 1 ≤ 10 ^ (strip m).2 := Nat.pow_pos (by decide)
 calc (strip m).1 = (strip m).1 * 1 := (Nat.mul_one _).symm
  _ ≤ (strip m).1 * 10 ^ (strip m).2 := Nat.mul_le_mul_left _ hp
  _ = m := this
def intZ (n : Int) : D := (madeD (decide (n < 0)) n.natAbs 0).1
def numZ (n : Int) : V := ⟨3, intZ n, ⟨#[]⟩, [], []⟩
theorem intZ_zero : intZ 0 = ⟨false, [], 0⟩ := by unfold intZ madeD; simp
theorem intZ_form {n : Int} (h0 : n ≠ 0) (h : n.natAbs ≤ 9223372036854775808) : madeD (decide (n < 0)) n.natAbs 0 = (⟨decide (n < 0), limbs (strip n.natAbs).1, ((strip n.natAbs).2 : Int)⟩, 0) := by
 have h1 := strip_le n.natAbs
 have h2 : (decs (strip n.natAbs).1).length ≤ 20 := decs_len (Nat.lt_of_le_of_lt (Nat.le_trans h1 h) (by decide))
 have h3 : (strip n.natAbs).2 ≤ 20 := Nat.le_trans (strip_len _) (decs_len (Nat.lt_of_le_of_lt h (by decide)))
 unfold madeD
 rw [if_neg (by omega), if_neg (by omega), if_neg (by omega)]
 simp
theorem decOk_intZ {n : Int} (h : n.natAbs ≤ 9223372036854775808) : decOkB (intZ n) = true := by
 by_cases h0 : n = 0
 · subst h0; rw [intZ_zero]; decide +kernel
 · have h1 := strip_le n.natAbs
   have h3 : (strip n.natAbs).2 ≤ 20 := Nat.le_trans (strip_len _) (decs_len (Nat.lt_of_le_of_lt h (by decide)))
   have h4 := strip_mod n.natAbs (by omega)
   unfold intZ
   rw [intZ_form h0 h]
   generalize strip n.natAbs = s at *
   obtain ⟨m, z⟩ := s
   simp only at h1 h3 h4
   have hl : (limbs m).length ≤ 2 := canon_len (canon_limbs m) (by rw [val_limbs]; omega)
   have hl0 : (limbs m).length ≠ 0 := by
    rw [limbs_pos (by omega)]; simp
   have htop : m < decTop := Nat.lt_of_lt_of_le (Nat.lt_of_le_of_lt (Nat.le_trans h1 h) (show 9223372036854775808 < 10 ^ 19 by decide)) (show 10 ^ 19 ≤ 10 ^ decDig from Nat.pow_le_pow_right (by decide) (by decide))
   unfold decOkB
   simp only [if_neg hl0, val_limbs, Bool.and_eq_true, decide_eq_true_eq]
   exact ⟨⟨by omega, canon_limbs m⟩, ⟨⟨h4, htop⟩, by omega⟩, by omega⟩
def dTh : Nat := 1000
theorem dval_nil (e : Int) : dvalD ⟨false, [], e⟩ = 0 := by
 unfold dvalD
 generalize (10 : Nat) ^ (_ : Int).toNat = q
 show sg false (0 * q) = 0
 rw [Nat.zero_mul]
 rfl
theorem dval_intZ {n : Int} (h : n.natAbs ≤ 9223372036854775808) : dvalD (intZ n) = n * ((10 ^ dTh : Nat) : Int) := by
 by_cases h0 : n = 0
 · subst h0; rw [intZ_zero, dval_nil, Int.zero_mul]
 · have h3 := strip_val n.natAbs
   unfold intZ
   rw [intZ_form h0 h]
   generalize strip n.natAbs = s at *
   obtain ⟨m, z⟩ := s
   simp only at h3
   unfold dvalD
   simp only [val_limbs]
   rw [show ((z : Int) + 1000).toNat = z + dTh by unfold dTh; omega, Nat.pow_add, ← Nat.mul_assoc, h3, sg_mul]
   congr 1
   unfold sg
   split
   · rename_i hc
     have := of_decide_eq_true hc
     omega
   · rename_i hc
     have : ¬ n < 0 := by simpa using hc
     omega
theorem dcmp_intZ {n m : Int} (h : n.natAbs ≤ 9223372036854775808) (k : m.natAbs ≤ 9223372036854775808) : dcmp (intZ n) (intZ m) = cmpI n m := by
 unfold dcmp
 rw [dval_intZ h, dval_intZ k]
 exact cmpI_mul n m _ (Nat.pow_pos (by decide))
def txtV (s : ByteArray) : V := ⟨4, ⟨false, [], 0⟩, s, [], []⟩
theorem Text_any (s : ByteArray) (w : World) :
 Calls Tryz.prog 27 #[.string s] w fun e w' => ∃ cs : List Value, e = .returned (.agg cs.toArray) ∧ k28.M w' w.heap.size (fun _ => True) (txtV s) cs ∧ Below w.heap.size w w' := by
 have hm : ∀ W, k28.M W w.heap.size (fun _ => True) (txtV s) [.int .i64 4, .bool false, .slice none 0 0, .int .i64 0, .string s, .slice none 0 0, .slice none 0 0] := fun W => k28_mkM W w.heap.size (fun _ => True) (txtV s) (Kd.R_nil _ _ _ _ _) (Kd.R_nil _ _ _ _ _) (Kd.R_nil _ _ _ _ _)
 have HM := Lib.hid hm
 clear hm
 obtain ⟨hc0, hf0⟩ := bcells (blk_new w (.cells #[.int .i64 0, .bool false, .slice none 0 0, .int .i64 0, .string ⟨#[]⟩, .slice none 0 0, .slice none 0 0] 28)) (Below.refl _ _)
 go_enter Tryz.func27, Tryz.ntmps27
 go_wp2
 have hrc := blk_cell (blk_new w (.cells #[.int .i64 4, .bool false, .slice none 0 0, .int .i64 0, .string s, .slice none 0 0, .slice none 0 0] 28))
 refine bodyPost_ret (v := .agg #[.int .i64 4, .bool false, .slice none 0 0, .int .i64 0, .string s, .slice none 0 0, .slice none 0 0]) ?_ rfl ⟨_, rfl, HM.out _, (Below.refl _ _).alloc (Nat.le_refl _) _⟩
 simp [results, Tryz.f27, go_sem, hrc]
set_option maxHeartbeats 4000000 in
theorem VCompare_any (x y : V) (cs ds : List Value) (w : World) (hLD : LaidW w) (hK : k28.K w x cs) (hL : k28.K w y ds) (hOx : OkV x) (hOy : OkV y) :
 Calls Tryz.prog 16 #[.agg cs.toArray, .agg ds.toArray] w fun e w' => e = .returned (.tuple #[.int .i64 (vcmp x y), .int .i64 (vask2 x y)]) ∧ Below w.heap.size w w' := by
 have HKX := Lib.hid hK
 have HKY := Lib.hid hL
 obtain ⟨A2, c2, A5, c5, A6, c6, rfl, l2, g2, l5, g5, l6, g6⟩ := k28_open hK
 obtain ⟨B2, d2, B5, d5, B6, d6, rfl, m2, h2, m5, h5, m6, h6⟩ := k28_open hL
 clear l2 g2 l5 g5 l6 g6 hK m2 h2 m5 h5 m6 h6 hL
 have HCX := Lib.hid (fun W (hW : Below w.heap.size w W) => Check_any x _ W (hLD.below hW) (k28.K_below hW HKX.out) hOx)
 have HCY := Lib.hid (fun W (hW : Below w.heap.size w W) => Check_any y _ W (hLD.below hW) (k28.K_below hW HKY.out) hOy)
 have HOR : Hid (vask2 x y = orL [vchk x, vchk y]) := Lib.hid rfl
 have HVC : Hid (vask2 x y ≠ 0 → vcmp x y = 0) := Lib.hid vcmp_bad
 have HVD : Hid (vask2 x y = 0 → vcmp x y = vord x y) := Lib.hid (fun h => if_pos h)
 have HNO : Hid (vask2 x y = 0 → NumOk x ∧ NumOk y) := Lib.hid (fun h => ⟨numOk_of_vchk (vask2_zero h).1, numOk_of_vchk (vask2_zero h).2⟩)
 obtain ⟨W1, hW1⟩ : ∃ W1, W1 = (w.alloc (.cells #[.int .i64 x.f0, .bool x.f1.f0, .slice A2 x.f1.f1.length c2, .int .i64 x.f1.f2, .string x.f2, .slice A5 x.f3.length c5, .slice A6 x.f4.length c6] 28)).alloc (.cells #[.int .i64 y.f0, .bool y.f1.f0, .slice B2 y.f1.f1.length d2, .int .i64 y.f1.f2, .string y.f2, .slice B5 y.f3.length d5, .slice B6 y.f4.length d6] 28) := ⟨_, rfl⟩
 have hb1 : Below w.heap.size w W1 := by rw [hW1]; exact ((Below.refl _ _).alloc (Nat.le_refl _) _).alloc (by simp) _
 have hx1 : W1.heap[w.heap.size]? = some (.cells #[.int .i64 x.f0, .bool x.f1.f0, .slice A2 x.f1.f1.length c2, .int .i64 x.f1.f2, .string x.f2, .slice A5 x.f3.length c5, .slice A6 x.f4.length c6] 28 (0, 0)) := by rw [hW1]; exact blk_alloc (blk_new _ _) _
 have hy1 : W1.heap[w.heap.size + 1]? = some (.cells #[.int .i64 y.f0, .bool y.f1.f0, .slice B2 y.f1.f1.length d2, .int .i64 y.f1.f2, .string y.f2, .slice B5 y.f3.length d5, .slice B6 y.f4.length d6] 28 (0, 0)) := by
  rw [hW1]
  have := blk_new (w.alloc (.cells #[.int .i64 x.f0, .bool x.f1.f0, .slice A2 x.f1.f1.length c2, .int .i64 x.f1.f2, .string x.f2, .slice A5 x.f3.length c5, .slice A6 x.f4.length c6] 28)) (.cells #[.int .i64 y.f0, .bool y.f1.f0, .slice B2 y.f1.f1.length d2, .int .i64 y.f1.f2, .string y.f2, .slice B5 y.f3.length d5, .slice B6 y.f4.length d6] 28)
  rw [World.size_alloc] at this
  exact this
 have HW1 := Lib.hid hW1
 have HB1 := Lib.hid (below_drew hb1)
 have HX1 := Lib.hid (blk_drew hx1)
 have HY1 := Lib.hid (blk_drew hy1)
 have HOO : Hid (vask2 x y = 0 → ∀ W, Below w.heap.size w W → Calls Tryz.prog 63 #[.agg #[.int .i64 x.f0, .bool x.f1.f0, .slice A2 x.f1.f1.length c2, .int .i64 x.f1.f2, .string x.f2, .slice A5 x.f3.length c5, .slice A6 x.f4.length c6], .agg #[.int .i64 y.f0, .bool y.f1.f0, .slice B2 y.f1.f1.length d2, .int .i64 y.f1.f2, .string y.f2, .slice B5 y.f3.length d5, .slice B6 y.f4.length d6]] W fun e w' => e = .returned (.int .i64 (vord x y)) ∧ Below W.heap.size W w') := Lib.hid (fun h W hW => Order_any x y _ _ W (k28.K_below hW HKX.out) (k28.K_below hW HKY.out) hOx hOy (HNO.out h).1 (HNO.out h).2)
 generalize vask2 x y = r at *
 generalize vcmp x y = vc at *
 generalize vord x y = vo at *
 generalize vchk x = x1 at *
 generalize vchk y = x2 at *
 clear hW1 hb1 hx1 hy1 hLD hOx hOy HNO HKX HKY
 go_enter Tryz.func16, Tryz.ntmps16
 go_upto_region 1 with (fail)
 rw [← HW1.out]
 clear HW1
 obtain ⟨hcx, hfx⟩ := bcells HX1.out (Below.refl _ _)
 obtain ⟨hcy, hfy⟩ := bcells HY1.out (Below.refl _ _)
 go_region_law (first
  | (go_simp; go_at_call 62; (with_reducible refine (HCX.out _ HB1.out).mono ?_); rintro e_ w5 ⟨rfl, hB5⟩; obtain ⟨hx5, hxf5⟩ := bcells HX1.out hB5; obtain ⟨hy5, hyf5⟩ := bcells HY1.out hB5; have HX5 := Lib.hid (blk_below2 HX1.out hB5); have HY5 := Lib.hid (blk_below2 HY1.out hB5); have HB5 := Lib.hid (HB1.out.trans (hB5.mono HB1.out.size)); clear hB5)
  | (go_simp; go_at_call 62; (with_reducible refine (HCY.out _ HB5.out).mono ?_); rintro e_ w6 ⟨rfl, hB6⟩; have HX6 := Lib.hid (blk_below2 HX5.out hB6); have HY6 := Lib.hid (blk_below2 HY5.out hB6); have HB6 := Lib.hid (HB5.out.trans (hB6.mono HB5.out.size)); clear hB6)
  | (go_simp; go_at_call 61; (with_reducible refine (or_err2 _ _ _ _).mono ?_); rintro e_ w7 ⟨rfl, rfl⟩; rw [← HOR.out]))
 all_goals
  rename_i q_ k_ a_
  refine a_ _ _ ?_
  clear a_ hcx hfx hcy hfy hx5 hxf5 hy5 hyf5
  obtain ⟨W8, hW8⟩ : ∃ W8, W8 = w6.alloc (.cells #[.int .i64 x1, .int .i64 x2] 30) := ⟨_, rfl⟩
  have hx8 := blk_alloc HX6.out (.cells #[.int .i64 x1, .int .i64 x2] 30)
  have hy8 := blk_alloc HY6.out (.cells #[.int .i64 x1, .int .i64 x2] 30)
  rw [← hW8] at hx8 hy8 ⊢
  have HX8 := Lib.hid hx8
  have HY8 := Lib.hid hy8
  have HB8 : Hid (Below w.heap.size w W8) := Lib.hid (by rw [hW8]; exact HB6.out.alloc HB6.out.size _)
  clear hx8 hy8 hW8 HX6 HY6 HB6 HX5 HY5 HB5
  by_cases h0 : r = 0
  · have hr : (r != 0) = false := by simp [h0]
    have HO2 := Lib.hid (HOO.out h0 W8 HB8.out)
    have HV := Lib.hid (HVD.out h0)
    have H0 := Lib.hid h0
    clear h0 HOO
    obtain ⟨hcx, hfx⟩ := bcells HX8.out (Below.refl _ _)
    obtain ⟨hcy, hfy⟩ := bcells HY8.out (Below.refl _ _)
    go_wp2_with (go_at_call 63; (with_reducible refine (HO2.out).mono ?_); rintro e_ w9 ⟨rfl, hB9⟩; have HB9 := Lib.hid (HB8.out.trans (hB9.mono HB8.out.size)); clear hB9)
    go_ret2
    exact ⟨by rw [HV.out, H0.out]; rfl, HB9.out⟩
  · have hr : (r != 0) = true := by simp [h0]
    have HV := Lib.hid (HVC.out h0)
    clear h0 HOO
    go_wp2_with fail
    go_ret2
    exact ⟨by rw [HV.out]; rfl, HB8.out⟩
theorem into_box {W : World} {g base : Nat} {x : V} {c0 : Array Value} {a0 a1 a2 a3 a4 a5 a6 : Value} (hM : k28.M W base (fun _ => True) x [a0, a1, a2, a3, a4, a5, a6]) (hg : g < base) (hx : W.heap[g]? = some (.cells c0 28 (0, 0))) (hc : c0.size = 7) {X : World}
 (hX : X = ((((((W.setCell ⟨g, 0, none⟩ a0).setCell ⟨g, 1, none⟩ a1).setCell ⟨g, 2, none⟩ a2).setCell ⟨g, 3, none⟩ a3).setCell ⟨g, 4, none⟩ a4).setCell ⟨g, 5, none⟩ a5).setCell ⟨g, 6, none⟩ a6) :
 X.heap[g]? = some (.cells #[a0, a1, a2, a3, a4, a5, a6] 28 (0, 0)) ∧ k28.M X base (fun _ => True) x [a0, a1, a2, a3, a4, a5, a6] ∧ ∀ B, B ≤ g → Below B W X := by
 obtain ⟨z0, z1, z2, z3, z4, z5, z6, hz⟩ := list7 (l := c0.toList) (by rw [Array.length_toList]; exact hc)
 obtain rfl : c0 = #[z0, z1, z2, z3, z4, z5, z6] := Array.toList_inj.1 hz
 have h7 := blk_set (blk_set (blk_set (blk_set (blk_set (blk_set (blk_set hx 0 a0) 1 a1) 2 a2) 3 a3) 4 a4) 5 a5) 6 a6
 refine ⟨by rw [hX, h7]; rfl, ?_, fun B hB => ?_⟩
 · have hb := k28.M_bound hM
   refine k28.M_mono (fun _ _ => trivial) (k28.M_move (fun k hk => ?_) hb)
   have hne : k ≠ g := by have := hk.2.1; omega
   rw [hX]
   iterate 7 rw [Below.heap_setCell _ _ _ _ (by simpa using hne)]
 · rw [hX]
   iterate 7 refine Below.setCell ?_ (by simpa using hB) _
   exact Below.refl _ _
def zeroV : V := ⟨0, ⟨false, [], 0⟩, ⟨#[]⟩, [], []⟩
theorem zero_M (W : World) (base : Nat) : k28.M W base (fun _ => True) zeroV [.int .i64 0, .bool false, .slice none 0 0, .int .i64 0, .string ⟨#[]⟩, .slice none 0 0, .slice none 0 0] :=
 k28_mkM W base (fun _ => True) zeroV (Kd.R_nil _ _ _ _ _) (Kd.R_nil _ _ _ _ _) (Kd.R_nil _ _ _ _ _)
theorem natFrom_any (n : Nat) (w : World) (h : n < 18446744073709551616) : Calls Tryz.prog 105 #[.int .u64 n] w fun e w' => ∃ v : Value, e = .returned v ∧ Kd.R (Kd.int .u32) 131 w' w.heap.size (fun _ => True) v (limbs n) ∧ Below w.heap.size w w' := by
 obtain ⟨a, ha⟩ : ∃ a : Int, a = ((n % 4294967296 : Nat) : Int) := ⟨_, rfl⟩
 obtain ⟨b, hb⟩ : ∃ b : Int, b = ((n / 4294967296 : Nat) : Int) := ⟨_, rfl⟩
 have ho : (w.alloc (.cells #[.int .u32 a, .int .u32 b] 131)).ownsRow w.heap.size 131 1 (.slice (some ⟨w.heap.size, 0, none⟩) 2 2) 2 (nums .u32 [a, b]) := own_lit w w.heap.size 131 .u32 [a, b] (Nat.le_refl _) (by simp)
 have hR : Kd.R (Kd.int .u32) 131 (w.alloc (.cells #[.int .u32 a, .int .u32 b] 131)) w.heap.size (fun _ => True) (.slice (some ⟨w.heap.size, 0, none⟩) ([a, b] : List Int).length 2) [a, b] := Kd.R_of_own (enc := Value.int .u32) ho (fun _ _ => trivial)
 have HOK : okL [a, b] := fun x hx => by
  simp only [List.mem_cons, List.mem_nil_iff, or_false] at hx
  rcases hx with rfl | rfl <;> omega
 have hv : val [a, b] = n := by
  simp only [val]
  omega
 obtain ⟨t1, t2⟩ := limbs_take HOK
 have h2 := trimV_R hR HOK t1 t2
 rw [hv] at h2
 have HR := Lib.hid h2
 have HT := Lib.hid (trim_det (some ⟨w.heap.size, 0, none⟩) 2 [a, b] _ (Kd.R_reads' hR).2.2 (Nat.le_refl _) HOK (by simp))
 have e1 : (n : Int) % 4294967296 = a := by omega
 have e2 : (n : Int) / 4294967296 = b := by omega
 have e3 : b % 4294967296 = b := by omega
 have e4 : (n : Int) < 18446744073709551616 := by omega
 clear ho hR HOK hv t1 t2 h2 ha hb h
 go_enter Tryz.func105, Tryz.ntmps105
 go_wp2_with fail
 refine HT.out.mono ?_
 rintro e w1 ⟨rfl, rfl⟩
 go_wp2
 go_ret
 exact ⟨_, rfl, HR.out, (Below.refl _ _).alloc (Nat.le_refl _) _⟩
theorem nzero_any (b : Bool) (A : Option Addr) (n c : Nat) (x : Int) (w : World) : Calls Tryz.prog 146 #[.agg #[.bool b, .slice A n c, .int .i64 x]] w fun e w' => e = .returned (.bool ((n : Int) == 0)) ∧ Below w.heap.size w w' := by
 go_enter Tryz.func146, Tryz.ntmps146
 go_wp2
 go_ret
 exact ⟨rfl, (Below.refl _ _).alloc (Nat.le_refl _) _⟩
theorem settle_zero (b : Bool) (A : Option Addr) (c : Nat) (x : Int) (w : World) : Calls Tryz.prog 104 #[.agg #[.bool b, .slice A 0 c, .int .i64 x]] w fun e w' => e = .returned (.tuple #[.agg #[.bool false, .slice none 0 0, .int .i64 0], .int .i64 0]) ∧ Below w.heap.size w w' := by
 have HZ := Lib.hid (nzero_any b A 0 c x)
 obtain ⟨W1, hW1⟩ : ∃ W1, W1 = (w.alloc (.cells #[.bool b, .slice A 0 c, .int .i64 x] 137)).alloc (.cells #[.bool false, .slice none 0 0, .int .i64 0] 24) := ⟨_, rfl⟩
 have hb1 : Below w.heap.size w W1 := by rw [hW1]; exact ((Below.refl _ _).alloc (Nat.le_refl _) _).alloc (by simp) _
 have hx1 : W1.heap[w.heap.size]? = some (.cells #[.bool b, .slice A 0 c, .int .i64 x] 137 (0, 0)) := by rw [hW1]; exact blk_alloc (blk_new _ _) _
 have hy1 : W1.heap[w.heap.size + 1]? = some (.cells #[.bool false, .slice none 0 0, .int .i64 0] 24 (0, 0)) := by
  rw [hW1]
  have := blk_new (w.alloc (.cells #[.bool b, .slice A 0 c, .int .i64 x] 137)) (.cells #[.bool false, .slice none 0 0, .int .i64 0] 24)
  rw [World.size_alloc] at this
  exact this
 have HW1 := Lib.hid hW1
 have HB1 := Lib.hid hb1
 have HX1 := Lib.hid hx1
 have HY1 := Lib.hid hy1
 clear hW1 hb1 hx1 hy1
 go_enter Tryz.func104, Tryz.ntmps104
 go_upto_region 1 with (fail)
 rw [← HW1.out]
 obtain ⟨hcx, hfx⟩ := bcells HX1.out (Below.refl _ _)
 go_wp2_with (go_at_call 146; (with_reducible refine (HZ.out _).mono ?_); rintro e w2 ⟨rfl, hB2⟩; have HB2 := Lib.hid (HB1.out.trans (hB2.mono HB1.out.size)); obtain ⟨hcy, hfy⟩ := bcells HY1.out hB2; have HY2 := Lib.hid (blk_below2 HY1.out hB2); clear hB2)
 obtain ⟨X, hX⟩ : ∃ X, X = ((w2.setCell ⟨w.heap.size + 1, 0, none⟩ (.bool false)).setCell ⟨w.heap.size + 1, 1, none⟩ (.slice none 0 0)).setCell ⟨w.heap.size + 1, 2, none⟩ (.int .i64 0) := ⟨_, rfl⟩
 obtain ⟨y0, y1, y2⟩ := cells3 (by rw [hX]; exact box3_out HY2.out (.bool false) (.slice none 0 0) (.int .i64 0) : X.heap[w.heap.size + 1]? = some (.cells #[.bool false, .slice none 0 0, .int .i64 0] 24 (0, 0)))
 have HXB : Hid (Below w.heap.size w X) := Lib.hid (by rw [hX]; exact ((HB2.out.setCell (p := ⟨w.heap.size + 1, 0, none⟩) (by simp) _).setCell (p := ⟨w.heap.size + 1, 1, none⟩) (by simp) _).setCell (p := ⟨w.heap.size + 1, 2, none⟩) (by simp) _)
 rw [← hX]
 clear hX hcy hfy hcx hfx
 exact bodyPost_ret (v := .tuple #[.agg #[.bool false, .slice none 0 0, .int .i64 0], .int .i64 0]) (by simp [results, Tryz.f104, go_sem, y0, y1, y2]) rfl ⟨rfl, HXB.out⟩
set_option maxHeartbeats 1000000 in
theorem Int_zero (w : World) : Calls Tryz.prog 65 #[.int .i64 0] w fun e w' => e = .returned (.agg #[.bool false, .slice none 0 0, .int .i64 0]) ∧ Below w.heap.size w w' := by
 obtain ⟨W1, hW1⟩ : ∃ W1, W1 = w.alloc (.cells #[.bool false, .slice none 0 0, .int .i64 0] 24) := ⟨_, rfl⟩
 have hb1 : Below w.heap.size w W1 := by rw [hW1]; exact (Below.refl _ _).alloc (Nat.le_refl _) _
 have hx1 : W1.heap[w.heap.size]? = some (.cells #[.bool false, .slice none 0 0, .int .i64 0] 24 (0, 0)) := by rw [hW1]; exact blk_new _ _
 have HF : Hid (Calls Tryz.prog 105 #[.int .u64 0] W1 fun e w' => ∃ v : Value, e = .returned v ∧ Kd.R (Kd.int .u32) 131 w' W1.heap.size (fun _ => True) v [] ∧ Below W1.heap.size W1 w') := Lib.hid (by have := natFrom_any 0 W1 (by decide); rw [limbs_zero] at this; exact this)
 have HW1 := Lib.hid hW1
 have HB1 := Lib.hid hb1
 have HX1 := Lib.hid hx1
 clear hW1 hb1 hx1
 go_enter Tryz.func65, Tryz.ntmps65
 go_upto_region 1 with (fail)
 rw [← HW1.out]
 go_wp2_with (first
  | (go_at_call 105; (with_reducible refine (HF.out).mono ?_); rintro e w2 ⟨v2, rfl, hR2, hB2⟩; obtain ⟨G2, c2, rfl⟩ := Kd.R_slice hR2; have HB2 := Lib.hid hB2; clear hR2 hB2)
  | (go_at_call 104; (with_reducible refine (settle_zero _ G2 c2 _ _).mono ?_); rintro e w5 ⟨rfl, hB5⟩; have HX5 := Lib.hid (blk_below2 (blk_below2 HX1.out HB2.out) hB5); have HB5 := Lib.hid ((HB1.out.trans (HB2.out.mono HB1.out.size)).trans (hB5.mono (Nat.le_trans HB1.out.size HB2.out.size))); clear hB5; obtain ⟨hcz, hfz⟩ := bcells (blk_new w5 (.cells #[.bool false, .slice none 0 0, .int .i64 0] 24)) (Below.refl _ _); have hoa1 := fun (o : Obj) => (bcells (blk_alloc HX5.out o) (Below.refl _ _)).1; have hoa2 := fun (o : Obj) => (bcells (blk_alloc HX5.out o) (Below.refl _ _)).2))
 obtain ⟨W6, hW6⟩ : ∃ W6, W6 = w5.alloc (.cells #[.bool false, .slice none 0 0, .int .i64 0] 24) := ⟨_, rfl⟩
 have hx6 : W6.heap[w.heap.size]? = some (.cells #[.bool false, .slice none 0 0, .int .i64 0] 24 (0, 0)) := by rw [hW6]; exact blk_alloc HX5.out _
 have hb6 : Below w.heap.size w W6 := by rw [hW6]; exact HB5.out.alloc HB5.out.size _
 obtain ⟨X, hX⟩ : ∃ X, X = ((W6.setCell ⟨w.heap.size, 0, none⟩ (.bool false)).setCell ⟨w.heap.size, 1, none⟩ (.slice none 0 0)).setCell ⟨w.heap.size, 2, none⟩ (.int .i64 0) := ⟨_, rfl⟩
 obtain ⟨y0, y1, y2⟩ := cells3 (by rw [hX]; exact box3_out hx6 (.bool false) (.slice none 0 0) (.int .i64 0) : X.heap[w.heap.size]? = some (.cells #[.bool false, .slice none 0 0, .int .i64 0] 24 (0, 0)))
 have HXB : Hid (Below w.heap.size w X) := Lib.hid (by rw [hX]; exact ((hb6.setCell (p := ⟨w.heap.size, 0, none⟩) (by simp) _).setCell (p := ⟨w.heap.size, 1, none⟩) (by simp) _).setCell (p := ⟨w.heap.size, 2, none⟩) (by simp) _)
 rw [hW6] at hX
 rw [← hX]
 clear hX hcz hfz hoa1 hoa2 hW6 hx6 hb6
 exact bodyPost_ret (v := .agg #[.bool false, .slice none 0 0, .int .i64 0]) (by simp [results, Tryz.f65, go_sem, y0, y1, y2]) rfl ⟨rfl, HXB.out⟩
def num0 : V := ⟨3, ⟨false, [], 0⟩, ⟨#[]⟩, [], []⟩
theorem NumberP_zero (w : World) : Calls Tryz.prog 19 #[.int .i64 0] w fun e w' => ∃ cs : List Value, e = .returned (.agg cs.toArray) ∧ k28.M w' w.heap.size (fun _ => True) num0 cs ∧ Below w.heap.size w w' := by
 obtain ⟨W1, hW1⟩ : ∃ W1, W1 = w.alloc (.cells #[.int .i64 0, .bool false, .slice none 0 0, .int .i64 0, .string ⟨#[]⟩, .slice none 0 0, .slice none 0 0] 28) := ⟨_, rfl⟩
 have hb1 : Below w.heap.size w W1 := by rw [hW1]; exact (Below.refl _ _).alloc (Nat.le_refl _) _
 have hx1 : W1.heap[w.heap.size]? = some (.cells #[.int .i64 0, .bool false, .slice none 0 0, .int .i64 0, .string ⟨#[]⟩, .slice none 0 0, .slice none 0 0] 28 (0, 0)) := by rw [hW1]; exact blk_new _ _
 have HF := Lib.hid (Int_zero W1)
 have HW1 := Lib.hid hW1
 have HB1 := Lib.hid hb1
 have HX1 := Lib.hid hx1
 clear hW1 hb1 hx1
 go_enter Tryz.func19, Tryz.ntmps19
 go_upto_region 1 with (fail)
 rw [← HW1.out]
 go_wp2_with (go_at_call 65; (with_reducible refine (HF.out).mono ?_); rintro e w2 ⟨rfl, hB2⟩; have HB2 := Lib.hid (HB1.out.trans (hB2.mono HB1.out.size)); have HX2 := Lib.hid (blk_below2 HX1.out hB2); obtain ⟨hcz, hfz⟩ := bcells HX1.out hB2; clear hB2)
 obtain ⟨X, hX⟩ : ∃ X, X = ((((((w2.setCell ⟨w.heap.size, 0, none⟩ (.int .i64 3)).setCell ⟨w.heap.size, 1, none⟩ (.bool false)).setCell ⟨w.heap.size, 2, none⟩ (.slice none 0 0)).setCell ⟨w.heap.size, 3, none⟩ (.int .i64 0)).setCell ⟨w.heap.size, 4, none⟩ (.string ⟨#[]⟩)).setCell ⟨w.heap.size, 5, none⟩ (.slice none 0 0)).setCell ⟨w.heap.size, 6, none⟩ (.slice none 0 0) := ⟨_, rfl⟩
 obtain ⟨hfx, hm, hbw⟩ := into_box (base := w.heap.size + 1) (x := num0) (k28_mkM w2 (w.heap.size + 1) (fun _ => True) num0 (Kd.R_nil _ _ _ _ _) (Kd.R_nil _ _ _ _ _) (Kd.R_nil _ _ _ _ _)) (Nat.lt_succ_self _) HX2.out rfl hX
 rw [← hX]
 have HBW := Lib.hid (HB2.out.trans (hbw _ (Nat.le_refl _)))
 have HM := Lib.hid (k28.M_lower (Nat.le_succ _) hm)
 clear hX hcz hfz hm hbw
 have hrc := blk_cell hfx
 refine bodyPost_ret (v := .agg #[.int .i64 3, .bool false, .slice none 0 0, .int .i64 0, .string ⟨#[]⟩, .slice none 0 0, .slice none 0 0]) ?_ rfl ⟨_, rfl, HM.out, HBW.out⟩
 simp [results, Tryz.f19, go_sem, hrc, num0]
def wholeE (x : V) (e : Int) : Int := orL [e, vchk x]
def wholeV (x : V) (e : Int) : V := if wholeE x e = 0 then x else zeroV
def WholePost (x : V) (e : Int) (w : World) (r : Ending) (w' : World) : Prop := ∃ cs : List Value, r = .returned (.tuple #[.agg cs.toArray, .int .i64 (wholeE x e)]) ∧ k28.M w' w.heap.size (fun _ => True) (wholeV x e) cs ∧ Below w.heap.size w w'
set_option maxHeartbeats 4000000 in
theorem Whole_any (x : V) (cs : List Value) (e : Int) (w : World) (hLD : LaidW w) (hK : k28.K w x cs) (hO : OkV x) :
 Calls Tryz.prog 69 #[.agg cs.toArray, .int .i64 e] w (WholePost x e w) := by
 have HKX := Lib.hid hK
 obtain ⟨A2, c2, A5, c5, A6, c6, rfl, l2, g2, l5, g5, l6, g6⟩ := k28_open hK
 clear l2 g2 l5 g5 l6 g6 hK
 have HCX := Lib.hid (fun W (hW : Below w.heap.size w W) => Check_any x _ W (hLD.below hW) (k28.K_below hW HKX.out) hO)
 have HCL := Lib.hid (fun W (hW : Below w.heap.size w W) => Clone_any x _ W (k28.K_below hW HKX.out) hO)
 have HOR : Hid (wholeE x e = orL [e, vchk x]) := Lib.hid rfl
 have HV0 : Hid (wholeE x e = 0 → wholeV x e = x) := Lib.hid (fun h => if_pos h)
 have HV1 : Hid (wholeE x e ≠ 0 → wholeV x e = zeroV) := Lib.hid (fun h => if_neg h)
 obtain ⟨W1, hW1⟩ : ∃ W1, W1 = (w.alloc (.cells #[.int .i64 x.f0, .bool x.f1.f0, .slice A2 x.f1.f1.length c2, .int .i64 x.f1.f2, .string x.f2, .slice A5 x.f3.length c5, .slice A6 x.f4.length c6] 28)).alloc (.cells #[.int .i64 0, .bool false, .slice none 0 0, .int .i64 0, .string ⟨#[]⟩, .slice none 0 0, .slice none 0 0] 28) := ⟨_, rfl⟩
 have hb1 : Below w.heap.size w W1 := by rw [hW1]; exact ((Below.refl _ _).alloc (Nat.le_refl _) _).alloc (by simp) _
 have hx1 : W1.heap[w.heap.size]? = some (.cells #[.int .i64 x.f0, .bool x.f1.f0, .slice A2 x.f1.f1.length c2, .int .i64 x.f1.f2, .string x.f2, .slice A5 x.f3.length c5, .slice A6 x.f4.length c6] 28 (0, 0)) := by rw [hW1]; exact blk_alloc (blk_new _ _) _
 have hy1 : W1.heap[w.heap.size + 1]? = some (.cells #[.int .i64 0, .bool false, .slice none 0 0, .int .i64 0, .string ⟨#[]⟩, .slice none 0 0, .slice none 0 0] 28 (0, 0)) := by
  rw [hW1]
  have := blk_new (w.alloc (.cells #[.int .i64 x.f0, .bool x.f1.f0, .slice A2 x.f1.f1.length c2, .int .i64 x.f1.f2, .string x.f2, .slice A5 x.f3.length c5, .slice A6 x.f4.length c6] 28)) (.cells #[.int .i64 0, .bool false, .slice none 0 0, .int .i64 0, .string ⟨#[]⟩, .slice none 0 0, .slice none 0 0] 28)
  rw [World.size_alloc] at this
  exact this
 have hs1 : W1.heap.size = w.heap.size + 2 := by rw [hW1]; simp
 have HS1 := Lib.hid hs1
 have HW1 := Lib.hid hW1
 have HB1 := Lib.hid hb1
 have HX1 := Lib.hid hx1
 have HY1 := Lib.hid hy1
 have HPP : Hid (∀ cs W, k28.M W w.heap.size (fun _ => True) (wholeV x e) cs → Below w.heap.size w W → WholePost x e w (.returned (.tuple #[.agg cs.toArray, .int .i64 (wholeE x e)])) W) := Lib.hid (fun cs W h1 h2 => ⟨cs, rfl, h1, h2⟩)
 generalize hP : WholePost x e w = P at *
 generalize wholeE x e = r at *
 generalize wholeV x e = vv at *
 generalize vchk x = x1 at *
 clear hW1 hb1 hx1 hy1 hLD hO HKX hs1 hP
 by_cases h0 : r = 0
 · have hr : (r != 0) = false := by simp [h0]
   have HV := Lib.hid (HV0.out h0)
   have H0 := Lib.hid h0
   clear h0
   go_enter Tryz.func69, Tryz.ntmps69
   go_upto_region 1 with (fail)
   rw [← HW1.out]
   clear HW1
   obtain ⟨hcx, hfxx⟩ := bcells HX1.out (Below.refl _ _)
   go_wp2_with (first
    | (go_at_call 62; (with_reducible refine (HCX.out _ HB1.out).mono ?_); rintro e_ w5 ⟨rfl, hB5⟩; have HX5 := Lib.hid (blk_below2 HX1.out hB5); have HY5 := Lib.hid (blk_below2 HY1.out hB5); have HB5 := Lib.hid (HB1.out.trans (hB5.mono HB1.out.size)); clear hB5; have hox1 := fun (o : Obj) => (bcells (blk_alloc HX5.out o) (Below.refl _ _)).1; have hox2 := fun (o : Obj) => (bcells (blk_alloc HX5.out o) (Below.refl _ _)).2)
    | (go_at_call 61; (with_reducible refine (or_err2 _ _ _ _).mono ?_); rintro e_ w7 ⟨rfl, rfl⟩; rw [← HOR.out])
    | (go_at_call 66; (with_reducible refine (HCL.out _ (HB5.out.alloc HB5.out.size _)).mono ?_); rintro e_ w8 ⟨cs8, rfl, hM8, hB8⟩; have HM8 := Lib.hid hM8; obtain ⟨v2, v5, v6, rfl, r2, r5, r6⟩ := k28_openM hM8; obtain ⟨E2, s2, rfl⟩ := Kd.R_slice r2; obtain ⟨E5, s5, rfl⟩ := Kd.R_slice r5; obtain ⟨E6, s6, rfl⟩ := Kd.R_slice r6; have HY8 := Lib.hid (blk_below2 (blk_alloc HY5.out _) hB8); obtain ⟨hc8, hf8⟩ := bcells HY8.out (Below.refl _ _); have HB8 := Lib.hid ((HB5.out.alloc HB5.out.size (.cells #[.int .i64 e, .int .i64 x1] 30)).trans (hB8.mono (by rw [World.size_alloc]; have := HB5.out.size; omega))); clear hM8 r2 r5 r6 hB8))
   obtain ⟨X, hX⟩ : ∃ X, X = ((((((w8.setCell ⟨w.heap.size + 1, 0, none⟩ (.int .i64 x.f0)).setCell ⟨w.heap.size + 1, 1, none⟩ (.bool x.f1.f0)).setCell ⟨w.heap.size + 1, 2, none⟩ (.slice E2 x.f1.f1.length s2)).setCell ⟨w.heap.size + 1, 3, none⟩ (.int .i64 x.f1.f2)).setCell ⟨w.heap.size + 1, 4, none⟩ (.string x.f2)).setCell ⟨w.heap.size + 1, 5, none⟩ (.slice E5 x.f3.length s5)).setCell ⟨w.heap.size + 1, 6, none⟩ (.slice E6 x.f4.length s6) := ⟨_, rfl⟩
   have hgw : w.heap.size + 1 < (w5.alloc (.cells #[.int .i64 e, .int .i64 x1] 30)).heap.size := by rw [World.size_alloc]; have := blk_lt HY5.out; omega
   obtain ⟨hfx, hm, hbw⟩ := into_box HM8.out hgw HY8.out rfl hX
   rw [← hX]
   have hfin := HPP.out _ X (by rw [HV.out]; exact k28.M_lower (by omega) hm) (HB8.out.trans (hbw _ (by omega)))
   rw [H0.out] at hfin
   have HFIN := Lib.hid hfin
   clear hX hm hbw hc8 hf8 hcx hfxx hox1 hox2 hgw hfin
   have hrc := blk_cell hfx
   refine bodyPost_ret (v := .tuple #[.agg #[.int .i64 x.f0, .bool x.f1.f0, .slice E2 x.f1.f1.length s2, .int .i64 x.f1.f2, .string x.f2, .slice E5 x.f3.length s5, .slice E6 x.f4.length s6], .int .i64 0]) ?_ rfl HFIN.out
   simp [results, Tryz.f69, go_sem, hrc]
 · have hr : (r != 0) = true := by simp [h0]
   have HV := Lib.hid (HV1.out h0)
   clear h0
   go_enter Tryz.func69, Tryz.ntmps69
   go_upto_region 1 with (fail)
   rw [← HW1.out]
   clear HW1
   obtain ⟨hcx, hfxx⟩ := bcells HX1.out (Below.refl _ _)
   go_wp2_with (first
    | (go_at_call 62; (with_reducible refine (HCX.out _ HB1.out).mono ?_); rintro e_ w5 ⟨rfl, hB5⟩; have HY5 := Lib.hid (blk_below2 HY1.out hB5); have HB5 := Lib.hid (HB1.out.trans (hB5.mono HB1.out.size)); clear hB5; have hoy1 := fun (o : Obj) => (bcells (blk_alloc HY5.out o) (Below.refl _ _)).1; have hoy2 := fun (o : Obj) => (bcells (blk_alloc HY5.out o) (Below.refl _ _)).2)
    | (go_at_call 61; (with_reducible refine (or_err2 _ _ _ _).mono ?_); rintro e_ w7 ⟨rfl, rfl⟩; rw [← HOR.out]))
   obtain ⟨W6, hW6⟩ : ∃ W6, W6 = w5.alloc (.cells #[.int .i64 e, .int .i64 x1] 30) := ⟨_, rfl⟩
   have hy6 : W6.heap[w.heap.size + 1]? = some (.cells #[.int .i64 0, .bool false, .slice none 0 0, .int .i64 0, .string ⟨#[]⟩, .slice none 0 0, .slice none 0 0] 28 (0, 0)) := by rw [hW6]; exact blk_alloc HY5.out _
   have hb6 : Below w.heap.size w W6 := by rw [hW6]; exact HB5.out.alloc HB5.out.size _
   obtain ⟨X, hX⟩ : ∃ X, X = ((((((W6.setCell ⟨w.heap.size + 1, 0, none⟩ (.int .i64 0)).setCell ⟨w.heap.size + 1, 1, none⟩ (.bool false)).setCell ⟨w.heap.size + 1, 2, none⟩ (.slice none 0 0)).setCell ⟨w.heap.size + 1, 3, none⟩ (.int .i64 0)).setCell ⟨w.heap.size + 1, 4, none⟩ (.string ⟨#[]⟩)).setCell ⟨w.heap.size + 1, 5, none⟩ (.slice none 0 0)).setCell ⟨w.heap.size + 1, 6, none⟩ (.slice none 0 0) := ⟨_, rfl⟩
   obtain ⟨hfx, hm, hbw⟩ := into_box (zero_M W6 (w.heap.size + 2)) (by omega) hy6 rfl hX
   rw [hW6] at hX
   rw [← hX]
   have HFIN := Lib.hid (HPP.out _ X (by rw [HV.out]; exact k28.M_lower (by omega) hm) (hb6.trans (hbw _ (by omega))))
   clear hX hm hbw hcx hfxx hoy1 hoy2 hW6 hy6 hb6
   have hrc := blk_cell hfx
   refine bodyPost_ret (v := .tuple #[.agg #[.int .i64 0, .bool false, .slice none 0 0, .int .i64 0, .string ⟨#[]⟩, .slice none 0 0, .slice none 0 0], .int .i64 r]) ?_ rfl HFIN.out
   simp [results, Tryz.f69, go_sem, hrc]
def sless (a b : ByteArray) : Bool := Op.bytesLess a.toList b.toList
theorem sless_irr (a : ByteArray) : sless a a = false := bless_irr _
theorem sless_trans {a b c : ByteArray} (h : sless a b = true) (k : sless b c = true) : sless a c = true := bless_trans _ _ _ h k
theorem sless_cases (a b : ByteArray) : sless a b = true ∨ a = b ∨ sless b a = true := by
 rcases bless_cases a.toList b.toList with h | h | h
 · exact .inl h
 · exact .inr (.inl (toL_inj2.1 h))
 · exact .inr (.inr h)
theorem sless_ne {a b : ByteArray} (h : sless a b = true) : a ≠ b := fun e => by subst e; rw [sless_irr] at h; cases h
section
variable {α : Type}
def lkp (k : ByteArray) : List (ByteArray × α) → Option α
 | [] => none
 | p :: r => if p.1 = k then some p.2 else lkp k r
def RisesP (l : List (ByteArray × α)) : Prop := l.Pairwise fun p q => sless p.1 q.1 = true
theorem lkp_none {k : ByteArray} : ∀ {l : List (ByteArray × α)}, (∀ p ∈ l, p.1 ≠ k) → lkp k l = none
 | [], _ => rfl
 | p :: r, h => by
  unfold lkp
  rw [if_neg (h p List.mem_cons_self)]
  exact lkp_none fun q hq => h q (List.mem_cons_of_mem _ hq)
theorem rising_ext : ∀ {l r : List (ByteArray × α)}, RisesP l → RisesP r → (∀ k, lkp k l = lkp k r) → l = r
 | [], [], _, _, _ => rfl
 | [], q :: r, _, _, h => by have := h q.1; simp [lkp] at this
 | p :: l, [], _, _, h => by have := h p.1; simp [lkp] at this
 | p :: l, q :: r, hl, hr, h => by
  have hl2 := List.pairwise_cons.1 hl
  have hr2 := List.pairwise_cons.1 hr
  have e1 : p.1 = q.1 := by
   rcases sless_cases p.1 q.1 with hc | hc | hc
   · exfalso
     have := h p.1
     have h0 : lkp p.1 (q :: r) = none := lkp_none fun z hz => by
      rcases List.mem_cons.1 hz with rfl | hz
      · exact fun e => sless_ne hc e.symm
      · exact fun e => sless_ne (sless_trans hc (hr2.1 z hz)) e.symm
     rw [h0] at this
     simp [lkp] at this
   · exact hc
   · exfalso
     have := h q.1
     have h0 : lkp q.1 (p :: l) = none := lkp_none fun z hz => by
      rcases List.mem_cons.1 hz with rfl | hz
      · exact fun e => sless_ne hc e.symm
      · exact fun e => sless_ne (sless_trans hc (hl2.1 z hz)) e.symm
     rw [h0] at this
     simp [lkp] at this
  have e2 : p.2 = q.2 := by
   have := h p.1
   unfold lkp at this
   rw [if_pos rfl, if_pos e1.symm] at this
   exact Option.some.inj this
  have e3 : l = r := by
   refine rising_ext hl2.2 hr2.2 fun k => ?_
   by_cases hk : p.1 = k
   · subst hk
     rw [lkp_none fun z hz => fun e => sless_ne (hl2.1 z hz) e.symm, lkp_none fun z hz => fun e => sless_ne (hr2.1 z hz) (e1.symm.trans e.symm)]
   · have := h k
     unfold lkp at this
     rwa [if_neg hk, if_neg (fun e => hk (e1.trans e))] at this
  rw [e3]
  exact congrArg (· :: r) (Prod.ext e1 e2)
def withP (k : ByteArray) (x : α) : List (ByteArray × α) → List (ByteArray × α)
 | [] => [(k, x)]
 | p :: r => if sless p.1 k = true then p :: withP k x r else (k, x) :: (p :: r).filter fun q => decide (q.1 ≠ k)
theorem mem_withP {k : ByteArray} {x : α} {q : ByteArray × α} : ∀ {l : List (ByteArray × α)}, q ∈ withP k x l → q = (k, x) ∨ q ∈ l
 | [], h => by simp [withP] at h; exact .inl h
 | p :: r, h => by
  unfold withP at h
  by_cases hp : sless p.1 k = true
  · rw [if_pos hp] at h
    rcases List.mem_cons.1 h with rfl | h
    · exact .inr List.mem_cons_self
    · rcases mem_withP h with h | h
      · exact .inl h
      · exact .inr (List.mem_cons_of_mem _ h)
  · rw [if_neg hp] at h
    rcases List.mem_cons.1 h with h | h
    · exact .inl h
    · exact .inr (List.mem_filter.1 h).1
theorem withP_rises {k : ByteArray} {x : α} : ∀ {l : List (ByteArray × α)}, RisesP l → RisesP (withP k x l)
 | [], _ => by unfold withP RisesP; simp
 | p :: r, h => by
  have h2 := List.pairwise_cons.1 h
  unfold withP
  by_cases hp : sless p.1 k = true
  · rw [if_pos hp]
    refine List.pairwise_cons.2 ⟨fun q hq => ?_, withP_rises h2.2⟩
    rcases mem_withP hq with rfl | hq
    · exact hp
    · exact h2.1 q hq
  · rw [if_neg hp]
    refine List.pairwise_cons.2 ⟨fun q hq => ?_, h.filter _⟩
    obtain ⟨hq, hne⟩ := List.mem_filter.1 hq
    have hne2 : q.1 ≠ k := of_decide_eq_true hne
    have hkp : sless k p.1 = true ∨ p.1 = k := by
     rcases sless_cases p.1 k with h | h | h
     · exact absurd h hp
     · exact .inr h
     · exact .inl h
    show sless k q.1 = true
    rcases List.mem_cons.1 hq with rfl | hq
    · exact hkp.resolve_right hne2
    · rcases hkp with h | h
      · exact sless_trans h (h2.1 q hq)
      · exact h ▸ h2.1 q hq
theorem lkp_filter {k j : ByteArray} : ∀ {l : List (ByteArray × α)}, j ≠ k → lkp j (l.filter fun q => decide (q.1 ≠ k)) = lkp j l
 | [], _ => rfl
 | p :: r, h => by
  by_cases hp : p.1 = k
  · rw [List.filter_cons_of_neg (by simp [hp]), lkp_filter h]
    show _ = lkp j (p :: r)
    unfold lkp
    rw [if_neg (fun e => h (e.symm.trans hp)), ← lkp.eq_def]
  · rw [List.filter_cons_of_pos (by simp [hp])]
    unfold lkp
    rw [lkp_filter h]
theorem lkp_withP {k : ByteArray} {x : α} (j : ByteArray) : ∀ {l : List (ByteArray × α)}, lkp j (withP k x l) = if k = j then some x else lkp j l
 | [] => by unfold withP; simp [lkp]
 | p :: r => by
  unfold withP
  by_cases hp : sless p.1 k = true
  · rw [if_pos hp]
    show (if p.1 = j then some p.2 else lkp j (withP k x r)) = if k = j then some x else if p.1 = j then some p.2 else lkp j r
    rw [lkp_withP j]
    by_cases h1 : p.1 = j
    · rw [if_pos h1, if_pos h1, if_neg (fun e => sless_ne hp (h1.trans e.symm))]
    · rw [if_neg h1, if_neg h1]
  · rw [if_neg hp]
    show (if k = j then some x else lkp j ((p :: r).filter fun q => decide (q.1 ≠ k))) = _
    by_cases h1 : k = j
    · rw [if_pos h1, if_pos h1]
    · rw [if_neg h1, if_neg h1, lkp_filter (fun e => h1 e.symm)]
def wstep (k : ByteArray) (x : α) (s : Bool × List (ByteArray × α)) (p : ByteArray × α) : Bool × List (ByteArray × α) :=
 (s.1 || !sless p.1 k, (if !s.1 && !sless p.1 k then s.2 ++ [(k, x)] else s.2) ++ (if p.1 = k then [] else [p]))
def wUp (k : ByteArray) (x : α) (l : List (ByteArray × α)) (i : Nat) : Bool × List (ByteArray × α) := (l.take i).foldl (wstep k x) (false, [])
theorem withP_len (k : ByteArray) (x : α) : ∀ l : List (ByteArray × α), (withP k x l).length ≤ l.length + 1
 | [] => by simp [withP]
 | p :: r => by
  unfold withP
  by_cases hp : sless p.1 k = true
  · rw [if_pos hp]
    have := withP_len k x r
    simp only [List.length_cons]
    omega
  · rw [if_neg hp]
    have := List.length_filter_le (fun q : ByteArray × α => decide (q.1 ≠ k)) (p :: r)
    simp only [List.length_cons] at *
    omega
def objUp (l : List (ByteArray × α)) (i : Nat) : List (ByteArray × α) := (l.take i).foldl (fun o p => withP p.1 p.2 o) []
theorem objUp_succ (l : List (ByteArray × α)) (i : Nat) (h : i < l.length) : objUp l (i + 1) = withP (l[i]).1 (l[i]).2 (objUp l i) := by
 unfold objUp
 rw [List.take_succ_eq_append_getElem h, List.foldl_append]
 rfl
theorem objUp_rises (l : List (ByteArray × α)) (i : Nat) : i ≤ l.length → RisesP (objUp l i) := by
 induction i with
 | zero => intro _; unfold objUp RisesP; simp
 | succ i ih => intro h; rw [objUp_succ l i (by omega)]; exact withP_rises (ih (by omega))
theorem objUp_len (l : List (ByteArray × α)) (i : Nat) : i ≤ l.length → (objUp l i).length ≤ i := by
 induction i with
 | zero => intro _; unfold objUp; simp
 | succ i ih =>
  intro h
  rw [objUp_succ l i (by omega)]
  have := withP_len (l[i]).1 (l[i]).2 (objUp l i)
  have := ih (by omega)
  omega
def lastUp (l : List (ByteArray × α)) (j : ByteArray) : Nat → Option α
 | 0 => none
 | i + 1 => match l[i]? with
  | some p => if p.1 = j then some p.2 else lastUp l j i
  | none => lastUp l j i
theorem lastUp_succ (l : List (ByteArray × α)) (j : ByteArray) (i : Nat) (h : i < l.length) : lastUp l j (i + 1) = if (l[i]).1 = j then some (l[i]).2 else lastUp l j i := by
 show (match l[i]? with | some p => if p.1 = j then some p.2 else lastUp l j i | none => lastUp l j i) = _
 rw [List.getElem?_eq_getElem h]
theorem lkp_objUp (l : List (ByteArray × α)) (j : ByteArray) (i : Nat) : i ≤ l.length → lkp j (objUp l i) = lastUp l j i := by
 induction i with
 | zero => intro _; unfold objUp lastUp; simp [lkp]
 | succ i ih =>
  intro h
  rw [objUp_succ l i (by omega), lkp_withP, ih (by omega)]
  rw [lastUp_succ l j i (by omega)]
theorem objUp_mem (l : List (ByteArray × α)) (i : Nat) : i ≤ l.length → ∀ p ∈ objUp l i, p ∈ l := by
 induction i with
 | zero => intro _ p hp; unfold objUp at hp; simp at hp
 | succ i ih =>
  intro h p hp
  rw [objUp_succ l i (by omega)] at hp
  rcases mem_withP hp with rfl | hp
  · exact List.getElem_mem _
  · exact ih (by omega) p hp
theorem obj_of_keys (l : List (ByteArray × α)) (ks : List ByteArray) (xs : List α) (hn : ks.length = xs.length) (hr : ks.Pairwise fun a b => sless a b = true)
 (hm : ∀ j, j ∈ ks ↔ ∃ p ∈ l, p.1 = j) (hx : ∀ i (h : i < ks.length) (h2 : i < xs.length), lastUp l ks[i] l.length = some xs[i]) : ks.zip xs = objUp l l.length := by
 have hz : (ks.zip xs).map Prod.fst = ks := List.map_fst_zip (by omega)
 refine rising_ext ?_ (objUp_rises l _ (Nat.le_refl _)) fun j => ?_
 · have := hz ▸ hr
   rwa [List.pairwise_map] at this
 · rw [lkp_objUp l j _ (Nat.le_refl _)]
   by_cases hj : j ∈ ks
   · obtain ⟨i, hi, rfl⟩ := List.mem_iff_getElem.1 hj
     rw [hx i hi (by omega)]
     have go : ∀ (l : List (ByteArray × α)) (n : Nat) (h : n < l.length), RisesP l → lkp (l[n]).1 l = some (l[n]).2 := by
      intro l
      induction l with
      | nil => intro n h; simp at h
      | cons p r ih =>
       intro n h hR
       have h2 := List.pairwise_cons.1 hR
       cases n with
       | zero => simp [lkp]
       | succ n =>
        simp only [List.getElem_cons_succ]
        unfold lkp
        rw [if_neg (sless_ne (h2.1 _ (List.getElem_mem _)))]
        exact ih n _ h2.2
     have hzl : i < (ks.zip xs).length := by rw [List.length_zip]; omega
     have := go (ks.zip xs) i hzl (by have := hz ▸ hr; rwa [List.pairwise_map] at this)
     rw [List.getElem_zip] at this
     exact this
   · have h0 : lkp j (ks.zip xs) = none := lkp_none fun p hp e => hj (by rw [← hz]; exact List.mem_map.2 ⟨p, hp, e⟩)
     rw [h0]
     have hall : ∀ p ∈ l, p.1 ≠ j := fun p hp e => hj ((hm j).2 ⟨p, hp, e⟩)
     have go : ∀ n, none = lastUp l j n := by
      intro n
      induction n with
      | zero => rfl
      | succ n ih =>
       unfold lastUp
       cases hg : l[n]? with
       | none => exact ih
       | some p =>
        show none = if p.1 = j then _ else _
        rw [if_neg (hall p (List.mem_of_getElem? hg))]
        exact ih
     exact go _
end
end Go.Proofs.YthigbklhngihkaaGreatDoor.P
namespace Go.Proofs
open Go.RowKit Go.Maps Go.Sort Go.Shelf
def Tryz.keys68_ren : Go.Shelf.Ren := ⟨fun | 7 => 68 | 10 => 111 | n => n, fun | 23 => 87 | 26 => 9 | 3 => 28 | 28 => 90 | 0 => 0 | 27 => 89 | 33 => 141 | 4 => 4 | n => n, fun | n => n⟩
theorem Tryz.keys68 : Go.Proofs.SlLaysZ.n7 Tryz.prog Tryz.keys68_ren := {
 mixed := by kernel_rfl
 f7 := ⟨Tryz.f68.name, by decide, Tryz.func68.trans (congrArg some (by kernel_rfl))⟩
 f10 := ⟨Tryz.f111.name, by decide, Tryz.func111.trans (congrArg some (by kernel_rfl))⟩
 t0 := Tryz.underlying0
 a0 := Tryz.isAgg0
 z0 := Tryz.sizeOf0
 v0 := Tryz.zeroValue0
 t4 := Tryz.underlying4
 a4 := Tryz.isAgg4
 z4 := Tryz.sizeOf4
 v4 := Tryz.zeroValue4
 t23 := Tryz.underlying87
 a23 := Tryz.isAgg87
 z23 := Tryz.sizeOf87
 v23 := Tryz.zeroValue87
 t26 := Tryz.underlying9
 a26 := Tryz.isAgg9
 z26 := Tryz.sizeOf9
 v26 := Tryz.zeroValue9
 t27 := Tryz.underlying89
 a27 := Tryz.isAgg89
 z27 := Tryz.sizeOf89
 v27 := Tryz.zeroValue89
 t28 := Tryz.underlying90
 a28 := Tryz.isAgg90
 z28 := Tryz.sizeOf90
 v28 := Tryz.zeroValue90
 t33 := Tryz.underlying141
 a33 := Tryz.isAgg141
 z33 := Tryz.sizeOf141
 v33 := Tryz.zeroValue141 }
def Tryz.sorted67_ren : Go.Shelf.Ren := ⟨fun | 6 => 67 | 8 => 109 | 9 => 110 | 11 => 150 | 13 => 152 | 12 => 151 | 23 => 193 | 24 => 194 | 14 => 184 | 15 => 185 | 16 => 186 | 17 => 187 | 18 => 188 | 19 => 189 | 20 => 190 | 21 => 191 | 22 => 192 | 25 => 239 | 26 => 240 | 27 => 241 | 28 => 242 | 29 => 243 | 30 => 142 | 31 => 278 | n => n, fun | 26 => 9 | 28 => 90 | 24 => 26 | 0 => 0 | 3 => 3 | 37 => 172 | 48 => 131 | 50 => 132 | 4 => 4 | 40 => 206 | 39 => 205 | 45 => 95 | 5 => 5 | 9 => 9 | 51 => 261 | 55 => 265 | 57 => 296 | 58 => 67 | 33 => 141 | n => n, fun | n => n⟩
theorem Tryz.sorted67 : Go.Proofs.SlLaysZ.n6 Tryz.prog Tryz.sorted67_ren := {
 mixed := by kernel_rfl
 f6 := ⟨Tryz.f67.name, by decide, Tryz.func67.trans (congrArg some (by kernel_rfl))⟩
 f8 := ⟨Tryz.f109.name, by decide, Tryz.func109.trans (congrArg some (by kernel_rfl))⟩
 f11 := ⟨Tryz.f150.name, by decide, Tryz.func150.trans (congrArg some (by kernel_rfl))⟩
 t0 := Tryz.underlying0
 a0 := Tryz.isAgg0
 z0 := Tryz.sizeOf0
 v0 := Tryz.zeroValue0
 t24 := Tryz.underlying26
 a24 := Tryz.isAgg26
 z24 := Tryz.sizeOf26
 v24 := Tryz.zeroValue26
 t26 := Tryz.underlying9
 a26 := Tryz.isAgg9
 z26 := Tryz.sizeOf9
 v26 := Tryz.zeroValue9
 t28 := Tryz.underlying90
 a28 := Tryz.isAgg90
 z28 := Tryz.sizeOf90
 v28 := Tryz.zeroValue90
 i26 := by kernel_rfl }
def Tryz.sort110_ren : Go.Shelf.Ren := ⟨fun | 6 => 110 | 8 => 152 | 9 => 151 | 19 => 193 | 20 => 194 | 21 => 184 | 22 => 185 | 23 => 186 | 24 => 187 | 25 => 188 | 26 => 189 | 27 => 190 | 28 => 191 | 29 => 192 | 36 => 239 | 31 => 240 | 32 => 241 | 37 => 242 | 38 => 243 | 39 => 142 | 41 => 278 | n => n, fun | 27 => 26 | 29 => 9 | 3 => 3 | 32 => 172 | 26 => 26 | 0 => 0 | 44 => 131 | 46 => 132 | 4 => 4 | 36 => 206 | 35 => 205 | 41 => 95 | 5 => 5 | 9 => 9 | 53 => 261 | 57 => 265 | 63 => 296 | 64 => 67 | n => n, fun | n => n⟩
theorem Tryz.sort110 : Go.Proofs.SlLaysM.n6 Tryz.prog Tryz.sort110_ren := {
 mixed := by kernel_rfl
 f6 := ⟨Tryz.f110.name, by decide, Tryz.func110.trans (congrArg some (by kernel_rfl))⟩
 f8 := Tryz.func152.trans (congrArg some (by kernel_rfl))
 f9 := ⟨Tryz.f151.name, by decide, Tryz.func151.trans (congrArg some (by kernel_rfl))⟩
 f19 := Tryz.func193.trans (congrArg some (by kernel_rfl))
 f20 := Tryz.func194.trans (congrArg some (by kernel_rfl))
 f21 := ⟨Tryz.f184.name, by decide, Tryz.func184.trans (congrArg some (by kernel_rfl))⟩
 f22 := ⟨Tryz.f185.name, by decide, Tryz.func185.trans (congrArg some (by kernel_rfl))⟩
 f23 := ⟨Tryz.f186.name, by decide, Tryz.func186.trans (congrArg some (by kernel_rfl))⟩
 f24 := ⟨Tryz.f187.name, by decide, Tryz.func187.trans (congrArg some (by kernel_rfl))⟩
 f25 := ⟨Tryz.f188.name, by decide, Tryz.func188.trans (congrArg some (by kernel_rfl))⟩
 f26 := ⟨Tryz.f189.name, by decide, Tryz.func189.trans (congrArg some (by kernel_rfl))⟩
 f27 := ⟨Tryz.f190.name, by decide, Tryz.func190.trans (congrArg some (by kernel_rfl))⟩
 f28 := ⟨Tryz.f191.name, by decide, Tryz.func191.trans (congrArg some (by kernel_rfl))⟩
 f29 := ⟨Tryz.f192.name, by decide, Tryz.func192.trans (congrArg some (by kernel_rfl))⟩
 f31 := Tryz.func240.trans (congrArg some (by kernel_rfl))
 f32 := Tryz.func241.trans (congrArg some (by kernel_rfl))
 f36 := ⟨Tryz.f239.name, by decide, Tryz.func239.trans (congrArg some (by kernel_rfl))⟩
 f37 := ⟨Tryz.f242.name, by decide, Tryz.func242.trans (congrArg some (by kernel_rfl))⟩
 f38 := ⟨Tryz.f243.name, by decide, Tryz.func243.trans (congrArg some (by kernel_rfl))⟩
 f39 := ⟨Tryz.f142.name, by decide, Tryz.func142.trans (congrArg some (by kernel_rfl))⟩
 f41 := ⟨Tryz.f278.name, by decide, Tryz.func278.trans (congrArg some (by kernel_rfl))⟩
 t0 := Tryz.underlying0
 a0 := Tryz.isAgg0
 z0 := Tryz.sizeOf0
 v0 := Tryz.zeroValue0
 t3 := Tryz.underlying3
 a3 := Tryz.isAgg3
 z3 := Tryz.sizeOf3
 v3 := Tryz.zeroValue3
 t4 := Tryz.underlying4
 a4 := Tryz.isAgg4
 z4 := Tryz.sizeOf4
 v4 := Tryz.zeroValue4
 t5 := Tryz.underlying5
 a5 := Tryz.isAgg5
 z5 := Tryz.sizeOf5
 v5 := Tryz.zeroValue5
 t9 := Tryz.underlying9
 a9 := Tryz.isAgg9
 z9 := Tryz.sizeOf9
 v9 := Tryz.zeroValue9
 t26 := Tryz.underlying26
 a26 := Tryz.isAgg26
 z26 := Tryz.sizeOf26
 v26 := Tryz.zeroValue26
 t27 := Tryz.underlying26
 a27 := Tryz.isAgg26
 z27 := Tryz.sizeOf26
 v27 := Tryz.zeroValue26
 t29 := Tryz.underlying9
 a29 := Tryz.isAgg9
 z29 := Tryz.sizeOf9
 v29 := Tryz.zeroValue9
 t32 := Tryz.underlying172
 a32 := Tryz.isAgg172
 z32 := Tryz.sizeOf172
 v32 := Tryz.zeroValue172
 t35 := Tryz.underlying205
 a35 := Tryz.isAgg205
 z35 := Tryz.sizeOf205
 v35 := Tryz.zeroValue205
 t36 := Tryz.underlying206
 a36 := Tryz.isAgg206
 z36 := Tryz.sizeOf206
 v36 := Tryz.zeroValue206
 t41 := Tryz.underlying95
 a41 := Tryz.isAgg95
 z41 := Tryz.sizeOf95
 v41 := Tryz.zeroValue95
 t44 := Tryz.underlying131
 a44 := Tryz.isAgg131
 z44 := Tryz.sizeOf131
 v44 := Tryz.zeroValue131
 t46 := Tryz.underlying132
 a46 := Tryz.isAgg132
 z46 := Tryz.sizeOf132
 v46 := Tryz.zeroValue132
 t53 := Tryz.underlying261
 a53 := Tryz.isAgg261
 z53 := Tryz.sizeOf261
 v53 := Tryz.zeroValue261
 t57 := Tryz.underlying265
 a57 := Tryz.isAgg265
 z57 := Tryz.sizeOf265
 v57 := Tryz.zeroValue265
 t63 := Tryz.underlying296
 a63 := Tryz.isAgg296
 z63 := Tryz.sizeOf296
 v63 := Tryz.zeroValue296
 t64 := Tryz.underlying67
 a64 := Tryz.isAgg67
 z64 := Tryz.sizeOf67
 v64 := Tryz.zeroValue67 }
theorem Tryz.sorts67 (m : Nat) : AnyZ.SortsIn Tryz.prog Tryz.sorted67_ren Fence.wide m :=
 ⟨fun blk off cap ss W hH hblk hsz => callsIn_wide.2 (AnyM.slices_Sort_string Tryz.sort110 blk off cap ss W hH hblk hsz),
  fun p cap W => callsIn_wide.2 (AnyM.slices_Sort_string_none Tryz.sort110 p cap W)⟩
theorem Tryz.maps_Keys_68 (mb : Option Nat) (W : World) : CallsIn Fence.wide 5 Tryz.prog 68 #[.map mb] W fun e w' => e = .returned (.func (.func 111) #[] #[.pointer (some ⟨W.heap.size, 0, none⟩)]) ∧ w' = W.alloc (.cells #[.map mb] 87) :=
 AnyZ.keys_in Tryz.keys68 Fence.wide 5 trivial rfl mb W
set_option maxHeartbeats 1000000 in
theorem Tryz.slices_Sorted_keys_67_68 {H : Type} (b nn : Nat) (D0 : DataW H) (R : Value → Option (DataW H × List MemPlace)) (w : World) (hown : w.ownsMap Tryz.prog 9 R b nn D0) (hmax : Maps.size D0 ≤ maxLen) (hbytes : Maps.size D0 * 16 ≤ 140737488355328) :
 CallsIn Fence.wide 5 Tryz.prog 67 #[.func (.func 111) #[] #[.pointer (some ⟨w.heap.size, 0, none⟩)]] (w.alloc (.cells #[.map (some b)] 87)) fun e w' => ∃ (v : Value) (ss : List (List UInt8)), e = .returned v ∧ ss.Perm (strKeys D0) ∧
  w'.ownsRow (w.alloc (.cells #[.map (some b)] 87)).heap.size 9 1 v ss.length ((ss.mergeSort (fun x y => decide (x ≤ y))).map encStr) ∧ (v = .slice none 0 0 ↔ ss = []) ∧ Below (w.alloc (.cells #[.map (some b)] 87)).heap.size (w.alloc (.cells #[.map (some b)] 87)) w' := by
 have hbl := hown.lt
 have hseq : SeqGives Fence.wide 2 Tryz.prog 111 #[.pointer (some ⟨w.heap.size, 0, none⟩)] encStr (fun ss => ss.Perm (strKeys D0)) (Maps.size D0) (w.alloc (.cells #[.map (some b)] 87)) :=
  AnyZ.keys_gives (ρ := Tryz.keys68_ren) { Tryz.keys68 with } Fence.wide _ trivial rfl (by omega) w.heap.size b nn D0 _ (by simp) (by simp) (by
   obtain ⟨es, clock, hb, Ft, hs, hD⟩ := hown
   exact ⟨es, clock, (Below.heap_alloc _ _ b hbl).trans hb, Ft, hs, hD⟩)
 exact AnyZ.sorted_in Tryz.sorted67 Fence.wide 5 trivial trivial trivial trivial rfl (by omega) (Tryz.sorts67 _) (enters_of Tryz.func110 (by kernel_rfl) rfl) 111 #[.pointer (some ⟨w.heap.size, 0, none⟩)] trivial (enters_of Tryz.func111 (by kernel_rfl) rfl) _ _ hmax hbytes _ hseq
end Go.Proofs
namespace Go.Proofs.YthigbklhngihkaaGreatDoor.P
open Go.RowKit Go.Maps Go.Sort Go.Proofs.YthigbklhngihkaaGreatDoorW.PrintWords Go.Proofs.YthigbklhngihkaaGreatDoorW.PrintMore Go.Proofs.YthigbklhngihkaaGreatDoorW.PrintLast
def keyL (k : ByteArray) : Lit := .string k.data.toList
theorem keyL_inj {a b : ByteArray} (h : keyL a = keyL b) : a = b := by
 unfold keyL at h
 injection h with h
 exact ByteArray.ext (Array.toList_inj.1 h)
theorem keyL_is (a : ByteArray) : WideAt.IsKeyLit (keyL a) := by unfold keyL; simp [WideAt.IsKeyLit]
def rawR (v : Value) : Option (DataW Value × List MemPlace) := some (.held v, [])
def mapUp (l : List (ByteArray × Value)) (i : Nat) : DataW Value := (l.take i).foldl (fun D p => D.put (keyL p.1) (.held p.2)) (.map [])
theorem mapUp_succ (l : List (ByteArray × Value)) (i : Nat) (h : i < l.length) : mapUp l (i + 1) = (mapUp l i).put (keyL (l[i]).1) (.held (l[i]).2) := by
 unfold mapUp
 rw [List.take_succ_eq_append_getElem h, List.foldl_append]
 rfl
theorem mapUp_isMap (l : List (ByteArray × Value)) (i : Nat) : i ≤ l.length → IsMap (mapUp l i) := by
 induction i with
 | zero => intro _; exact ⟨[], by unfold mapUp; simp⟩
 | succ i ih => intro h; rw [mapUp_succ l i (by omega)]; exact (ih (by omega)).put _ _
theorem mapUp_at (l : List (ByteArray × Value)) (j : ByteArray) (z : Value) (i : Nat) : i ≤ l.length → (mapUp l i).atKey (keyL j) (.held z) = .held ((lastUp l j i).getD z) := by
 induction i with
 | zero => intro _; unfold mapUp lastUp; simp [DataW.atKey]
 | succ i ih =>
  intro h
  rw [mapUp_succ l i (by omega), lastUp_succ l j i (by omega)]
  by_cases hk : (l[i]).1 = j
  · rw [if_pos hk, ← hk, atKey_put_same (mapUp_isMap l i (by omega)) (keyL_is _)]
    rfl
  · rw [if_neg hk, atKey_put_other (fun e => hk (keyL_inj e).symm)]
    exact ih (by omega)
theorem mapUp_has (l : List (ByteArray × Value)) (j : ByteArray) (i : Nat) : i ≤ l.length → has (mapUp l i) (keyL j) = (lastUp l j i).isSome := by
 induction i with
 | zero => intro _; unfold mapUp lastUp; simp [has]
 | succ i ih =>
  intro h
  rw [mapUp_succ l i (by omega), lastUp_succ l j i (by omega)]
  by_cases hk : (l[i]).1 = j
  · rw [if_pos hk, ← hk, has_put_same (mapUp_isMap l i (by omega)) (keyL_is _)]
    rfl
  · rw [if_neg hk, has_put_other (fun e => hk (keyL_inj e).symm)]
    exact ih (by omega)
theorem lastUp_isSome {α : Type} (l : List (ByteArray × α)) (j : ByteArray) (i : Nat) : i ≤ l.length → ((lastUp l j i).isSome = true ↔ ∃ p ∈ l.take i, p.1 = j) := by
 induction i with
 | zero => intro _; unfold lastUp; simp
 | succ i ih =>
  intro h
  rw [lastUp_succ l j i (by omega), List.take_succ_eq_append_getElem (by omega)]
  by_cases hk : (l[i]).1 = j
  · rw [if_pos hk]
    simp only [Option.isSome_some, true_iff]
    exact ⟨_, List.mem_append_right _ (List.mem_singleton.2 rfl), hk⟩
  · rw [if_neg hk, ih (by omega)]
    constructor
    · rintro ⟨p, hp, e⟩
      exact ⟨p, List.mem_append_left _ hp, e⟩
    · rintro ⟨p, hp, e⟩
      rcases List.mem_append.1 hp with hp | hp
      · exact ⟨p, hp, e⟩
      · rw [List.mem_singleton.1 hp] at e
        exact absurd e hk
def strB (x : List UInt8) : ByteArray := ⟨x.toArray⟩
theorem strB_data (x : List UInt8) : (strB x).data.toList = x := rfl
theorem keyL_strB (x : List UInt8) : keyL (strB x) = .string x := rfl
theorem sless_lt {a b : ByteArray} : sless a b = true ↔ a.data.toList < b.data.toList := by
 unfold sless
 rw [ByteArray.toList_eq, ByteArray.toList_eq, bytesLess_eq]
 simp
theorem keys_sorted {w : World} {b n : Nat} {l : List (ByteArray × Value)} (h : w.ownsMap Tryz.prog 9 rawR b n (mapUp l l.length)) {ss : List (List UInt8)} (hp : ss.Perm (strKeys (mapUp l l.length))) :
 ((ss.mergeSort (fun x y => decide (x ≤ y))).map strB).Pairwise (fun a b => sless a b = true) ∧ (∀ j, j ∈ (ss.mergeSort (fun x y => decide (x ≤ y))).map strB ↔ ∃ p ∈ l, p.1 = j) := by
 have K := string_keyed Tryz.underlying9
 obtain ⟨es, hD, hpw, _⟩ := h.entries K
 obtain ⟨es', hD', hko⟩ := h.keysOf
 obtain rfl : es = es' := by rw [hD] at hD'; simpa using hD'
 have hk : ∀ p ∈ es, ∃ x, p.1 = .string x := fun p hp => by
  obtain ⟨v, hv⟩ := hko p hp
  obtain ⟨x, _, hx, _⟩ := Maps.keyOf_str Tryz.underlying9 hv
  exact ⟨x, hx⟩
 have hnd : (strKeys (mapUp l l.length)).Nodup := by
  rw [hD]
  show (es.map fun p => strOf p.1).Nodup
  refine List.pairwise_map.2 (hpw.imp_of_mem fun {p q} hp' hq' hne e => hne ?_)
  obtain ⟨a, ha⟩ := hk p hp'
  obtain ⟨b, hb⟩ := hk q hq'
  rw [ha, hb] at e ⊢
  exact congrArg _ e
 have hmem : ∀ x, x ∈ strKeys (mapUp l l.length) ↔ has (mapUp l l.length) (.string x) = true := fun x => by
  rw [hD, has_eq, List.any_eq_true]
  show x ∈ es.map (fun p => strOf p.1) ↔ _
  rw [List.mem_map]
  constructor
  · rintro ⟨p, hp', rfl⟩
    obtain ⟨a, ha⟩ := hk p hp'
    exact ⟨p, hp', by rw [ha]; simp [Lit.sameKey, strOf]⟩
  · rintro ⟨p, hp', hs⟩
    obtain ⟨a, ha⟩ := hk p hp'
    rw [ha] at hs
    exact ⟨p, hp', by rw [ha]; simpa [Lit.sameKey, strOf] using hs⟩
 have hsp := List.mergeSort_perm ss (fun x y => decide (x ≤ y))
 have tr : ∀ a b c : List UInt8, decide (a ≤ b) = true → decide (b ≤ c) = true → decide (a ≤ c) = true := fun a b c h1 h2 => by simp only [decide_eq_true_eq] at *; exact List.le_trans h1 h2
 have tot : ∀ a b : List UInt8, (decide (a ≤ b) || decide (b ≤ a)) = true := fun a b => by simp only [Bool.or_eq_true, decide_eq_true_eq]; exact List.le_total a b
 have hs := List.pairwise_mergeSort tr tot ss
 have hn2 : (ss.mergeSort (fun x y => decide (x ≤ y))).Nodup := (hsp.trans hp).nodup_iff.2 hnd
 refine ⟨List.pairwise_map.2 ((hs.and hn2).imp fun {a b} hab => ?_), fun j => ?_⟩
 · rw [sless_lt, strB_data, strB_data]
   have h1 : a ≤ b := of_decide_eq_true hab.1
   rcases List.le_iff_lt_or_eq.1 h1 with h2 | h2
   · exact h2
   · exact absurd h2 hab.2
 · rw [List.mem_map]
   have e : (∃ p ∈ l, p.1 = j) ↔ has (mapUp l l.length) (keyL j) = true := by
    rw [mapUp_has l j _ (Nat.le_refl _), lastUp_isSome l j _ (Nat.le_refl _), List.take_length]
   rw [e]
   constructor
   · rintro ⟨x, hx, rfl⟩
     rw [keyL_strB]
     exact (hmem x).1 ((hsp.trans hp).mem_iff.1 hx)
   · intro hh
     exact ⟨j.data.toList, (hsp.trans hp).mem_iff.2 ((hmem _).2 hh), rfl⟩
def kvs (ks : List ByteArray) (l : List V) : List (ByteArray × V) := objUp (ks.zip l) (ks.zip l).length
def objRaw (ks : List ByteArray) (l : List V) : V := ⟨6, ⟨false, [], 0⟩, ⟨#[]⟩, (kvs ks l).map Prod.snd, (kvs ks l).map Prod.fst⟩
def objE (ks : List ByteArray) (l : List V) : Int := if ks.length = l.length then vchk (objRaw ks l) else 3
def objV (ks : List ByteArray) (l : List V) : V := if objE ks l = 0 then objRaw ks l else zeroV
theorem okV_obj {ks : List ByteArray} {l : List V} (hO : ∀ x ∈ l, OkV x) (hk : ∀ k ∈ ks, k.size ≤ 1073741824) (hn : ks.length ≤ 1073741824) : OkV (objRaw ks l) := by
 have hmem := objUp_mem (ks.zip l) _ (Nat.le_refl _)
 have hlen := objUp_len (ks.zip l) _ (Nat.le_refl _)
 have hz : (ks.zip l).length ≤ ks.length := by rw [List.length_zip]; omega
 refine OkV.mk _ (by show (Lit.int .i64 6).wf = true; rfl) (fun n hn => absurd hn (by unfold objRaw; simp)) (by show (Lit.int .i64 0).wf = true; rfl) (by show (0 : Nat) ≤ 1073741824; decide) (fun k hk2 => ?_) (by unfold objRaw; simp) (by unfold objRaw kvs; simp only [List.length_map]; omega) (by unfold objRaw kvs; simp only [List.length_map]; omega) (fun y hy => ?_)
 · obtain ⟨p, hp, rfl⟩ := List.mem_map.1 hk2
   exact hk _ (List.of_mem_zip (hmem p hp)).1
 · obtain ⟨p, hp, rfl⟩ := List.mem_map.1 hy
   exact hO _ (List.of_mem_zip (hmem p hp)).2
theorem last_two {α β : Type} (ks : List ByteArray) (xs : List α) (ys : List β) (h1 : xs.length = ks.length) (h2 : ys.length = ks.length) (j : ByteArray) (i : Nat) : i ≤ ks.length →
 (lastUp (ks.zip xs) j i = none ∧ lastUp (ks.zip ys) j i = none) ∨ ∃ (t : Nat) (x : α) (y : β), xs[t]? = some x ∧ ys[t]? = some y ∧ lastUp (ks.zip xs) j i = some x ∧ lastUp (ks.zip ys) j i = some y := by
 induction i with
 | zero => intro _; exact .inl ⟨rfl, rfl⟩
 | succ i ih =>
  intro h
  have z1 : i < (ks.zip xs).length := by rw [List.length_zip]; omega
  have z2 : i < (ks.zip ys).length := by rw [List.length_zip]; omega
  rw [lastUp_succ _ j i z1, lastUp_succ _ j i z2, List.getElem_zip, List.getElem_zip]
  by_cases hk : ks[i] = j
  · rw [if_pos hk, if_pos hk]
    exact .inr ⟨i, xs[i]'(by omega), ys[i]'(by omega), List.getElem?_eq_getElem (by omega), List.getElem?_eq_getElem (by omega), rfl, rfl⟩
  · rw [if_neg hk, if_neg hk]
    exact ih (by omega)
theorem zip_key {α : Type} {ks : List ByteArray} {xs : List α} (h : xs.length = ks.length) {j : ByteArray} : (∃ p ∈ ks.zip xs, p.1 = j) ↔ j ∈ ks := by
 have e : (ks.zip xs).map Prod.fst = ks := List.map_fst_zip (by omega)
 constructor
 · rintro ⟨p, hp, rfl⟩
   exact (List.of_mem_zip hp).1
 · intro hj
   rw [← e] at hj
   obtain ⟨p, hp, rfl⟩ := List.mem_map.1 hj
   exact ⟨p, hp, rfl⟩
def aggs (rows : List (List Value)) : List Value := rows.map fun c => .agg c.toArray
def rowOf (ks : List ByteArray) (rows : List (List Value)) (j : ByteArray) : List Value := (lastUp (ks.zip rows) j ks.length).getD []
def valOf (ks : List ByteArray) (l : List V) (j : ByteArray) : V := (lastUp (ks.zip l) j ks.length).getD zeroV
theorem last_map {α β : Type} (f : α → β) (ks : List ByteArray) (xs : List α) (j : ByteArray) (i : Nat) (h1 : xs.length = ks.length) : i ≤ ks.length → lastUp (ks.zip (xs.map f)) j i = (lastUp (ks.zip xs) j i).map f := by
 induction i with
 | zero => intro _; rfl
 | succ i ih =>
  intro h
  have z1 : i < (ks.zip xs).length := by rw [List.length_zip]; omega
  have z2 : i < (ks.zip (xs.map f)).length := by rw [List.length_zip, List.length_map]; omega
  rw [lastUp_succ _ j i z1, lastUp_succ _ j i z2, List.getElem_zip, List.getElem_zip, List.getElem_map]
  by_cases hk : ks[i] = j
  · rw [if_pos hk, if_pos hk]; rfl
  · rw [if_neg hk, if_neg hk]
    exact ih (by omega)
theorem key_row {w : World} {ks : List ByteArray} {l : List V} {rows : List (List Value)} (h1 : l.length = ks.length) (h2 : rows.length = ks.length) (hK : ∀ (j : Nat) (x : V) (c : List Value), l[j]? = some x → rows[j]? = some c → k28.K w x c) {j : ByteArray} (hj : ∃ p ∈ ks.zip l, p.1 = j) :
 k28.K w (valOf ks l j) (rowOf ks rows j) ∧ lastUp (ks.zip l) j ks.length = some (valOf ks l j) ∧ lastUp (ks.zip (aggs rows)) j ks.length = some (.agg (rowOf ks rows j).toArray) := by
 have hz : (ks.zip l).length = ks.length := by rw [List.length_zip]; omega
 have hs : (lastUp (ks.zip l) j ks.length).isSome = true := by
  have := (lastUp_isSome (ks.zip l) j _ (Nat.le_refl _)).2 (by rw [List.take_length]; exact hj)
  rwa [hz] at this
 unfold aggs
 rw [last_map _ ks rows j _ h2 (Nat.le_refl _)]
 unfold valOf rowOf
 rcases last_two ks l rows h1 h2 j ks.length (Nat.le_refl _) with ⟨e, _⟩ | ⟨t, x, c, q1, q2, q3, q4⟩
 · rw [e] at hs; cases hs
 · rw [q3, q4]
   exact ⟨hK t x c q1 q2, rfl, rfl⟩
theorem raw_to_V {W : World} {A : Option Addr} {n : Nat} {rows : List (List Value)} {l : List V} (h : (Kd.raw 7).C W A n rows) (hl : l.length = rows.length) (hK : ∀ (j : Nat) (x : V) (c : List Value), l[j]? = some x → rows[j]? = some c → k28.K W x c) : k28.C W A n l := by
 refine ⟨hl.trans h.1, h.2.1, fun hn => ?_⟩
 obtain ⟨ad, e, hc⟩ := h.2.2 hn
 refine ⟨ad, e, fun j p hj => ?_⟩
 have hjl : j < rows.length := by have := (List.getElem?_eq_some_iff.1 hj).1; omega
 obtain ⟨c, hlen, hk, hcell⟩ := hc j rows[j] (List.getElem?_eq_getElem hjl)
 exact ⟨c, hlen, hK j p c hj ((List.getElem?_eq_getElem hjl).trans (congrArg some hk.1.symm)), hcell⟩
theorem at_raw {w0 w : World} {A : Option Addr} {n : Nat} {rows : List (List Value)} (h : (Kd.raw 7).C w0 A n rows) (hb : Below w0.heap.size w0 w) (k : Nat) (hk : k < n) : ∃ ad a0 a1 a2 a3 a4 a5 a6, A = some ad ∧ rows.getD k [] = [a0, a1, a2, a3, a4, a5, a6] ∧
 w.cell? (ad.add (k * 7)) = some a0 ∧ w.cell? ⟨(ad.add (k * 7)).block, (ad.add (k * 7)).off + 1, none⟩ = some a1 ∧ w.cell? ⟨(ad.add (k * 7)).block, (ad.add (k * 7)).off + 2, none⟩ = some a2 ∧ w.cell? ⟨(ad.add (k * 7)).block, (ad.add (k * 7)).off + 3, none⟩ = some a3 ∧ w.cell? ⟨(ad.add (k * 7)).block, (ad.add (k * 7)).off + 4, none⟩ = some a4 ∧ w.cell? ⟨(ad.add (k * 7)).block, (ad.add (k * 7)).off + 5, none⟩ = some a5 ∧ w.cell? ⟨(ad.add (k * 7)).block, (ad.add (k * 7)).off + 6, none⟩ = some a6 := by
 obtain ⟨ad, c, e, hl, hK, hc0⟩ := Kd.C_get h ([] : List Value) (k : Int) (by omega) (by omega)
 rw [Int.toNat_natCast] at hK hc0
 obtain ⟨a0, a1, a2, a3, a4, a5, a6, rfl⟩ := list7 (show c.length = 7 from hl)
 have hc : ∀ j u, [a0, a1, a2, a3, a4, a5, a6][j]? = some u → w0.cell? (ad.add (k * 7 + j)) = some u := hc0
 exact ⟨ad, a0, a1, a2, a3, a4, a5, a6, e, hK.1.symm, pw_cell_below hb (hc 0 _ rfl), pw_cell_below hb (by rw [← add_field _ _ 1 (by omega)]; exact hc 1 _ rfl), pw_cell_below hb (by rw [← add_field _ _ 2 (by omega)]; exact hc 2 _ rfl), pw_cell_below hb (by rw [← add_field _ _ 3 (by omega)]; exact hc 3 _ rfl), pw_cell_below hb (by rw [← add_field _ _ 4 (by omega)]; exact hc 4 _ rfl), pw_cell_below hb (by rw [← add_field _ _ 5 (by omega)]; exact hc 5 _ rfl), pw_cell_below hb (by rw [← add_field _ _ 6 (by omega)]; exact hc 6 _ rfl)⟩
structure ObjMid (w4 wr : World) (g : Nat) (K6 v : Value) (rows : List (List Value)) : Prop where
 box : wr.heap[g]? = some (.cells #[.int .i64 6, .bool false, .slice none 0 0, .int .i64 0, .string ⟨#[]⟩, v, K6] 28 (0, 0))
 row : (Kd.raw 7).R 28 wr (g + 1) (fun _ => True) v rows
 bel : Below g w4 wr
theorem ObjMid.step {w4 wr w7 : World} {g : Nat} {K6 v v1 : Value} {rows : List (List Value)} {c : List Value} (h : ObjMid w4 wr g K6 v rows) (hR : (Kd.raw 7).R 28 w7 (g + 1) (fun _ => True) v1 (rows ++ [c])) (hB : Below (g + 1) wr w7) : ObjMid w4 (w7.setCell ⟨g, 5, none⟩ v1) g K6 v1 (rows ++ [c]) := by
 refine ⟨?_, ?_, ?_⟩
 · have := blk_set ((hB.block g (by omega)).trans h.box) 5 v1
   rw [this]
   rfl
 · exact Kd.R_mono (Kd.R_move (Kd.R_bound hR) (fun j hj => Below.heap_setCell _ _ _ _ (by have := hj.2.1; simp; omega))) (fun _ _ => trivial)
 · exact (h.bel.trans (hB.mono (by omega))).setCell (p := ⟨g, 5, none⟩) (by simp) _
theorem owns_below {W W' : World} {b n : Nat} {D : DataW Value} (h : W.ownsMap Tryz.prog 9 rawR b n D) {B : Nat} (hb : Below B W W') (hB : b < B) : W'.ownsMap Tryz.prog 9 rawR b n D := by
 obtain ⟨es, clock, h1, h2, h3, h4⟩ := h
 exact ⟨es, clock, (hb.block b hB).trans h1, h2, h3, h4⟩
theorem map_look {W : World} {b n : Nat} {kr : List (ByteArray × Value)} {s : ByteArray} {v : Value} (h : W.ownsMap Tryz.prog 9 rawR b n (mapUp kr kr.length)) (hs : s.size ≤ maxLen) (hl : lastUp kr s kr.length = some v) : (Instr.lookup 87 (.map (some b)) (.string s) false).run Tryz.prog W = .ok v W := by
 obtain ⟨u, ps, hrun, hu⟩ := h.lookup (string_keyed Tryz.underlying9) Tryz.underlying87 (z := .agg #[.int .i64 0, .bool false, .slice none 0 0, .int .i64 0, .string ⟨#[]⟩, .slice none 0 0, .slice none 0 0]) (by rw [Tryz.zeroValue28]) (zd := .held (.agg #[.int .i64 0, .bool false, .slice none 0 0, .int .i64 0, .string ⟨#[]⟩, .slice none 0 0, .slice none 0 0])) (zp := []) rfl (WideMaps.keyOf_string_mk Tryz.underlying9 hs)
 have e : (mapUp kr kr.length).atKey (Lit.string s.data.toList) (.held (.agg #[.int .i64 0, .bool false, .slice none 0 0, .int .i64 0, .string ⟨#[]⟩, .slice none 0 0, .slice none 0 0])) = _ := mapUp_at kr s _ _ (Nat.le_refl _)
 rw [e, hl] at hu
 have h1 : (.held u : DataW Value) = .held v := congrArg Prod.fst (Option.some.inj hu)
 rw [hrun, DataW.held.inj h1]
def skeys (ss : List (List UInt8)) : List ByteArray := (ss.mergeSort (fun x y => decide (x ≤ y))).map strB
theorem skeys_len (ss : List (List UInt8)) : (skeys ss).length = ss.length := by unfold skeys; rw [List.length_map, (List.mergeSort_perm ss _).length_eq]
theorem sorted_R {W : World} {base : Nat} {v : Value} {ss : List (List UInt8)} (h : W.ownsRow base 9 1 v ss.length ((ss.mergeSort (fun x y => decide (x ≤ y))).map encStr)) : Kd.R Kd.string 9 W base (fun _ => True) v (skeys ss) := by
 refine Kd.R_of_own (enc := Value.string) ?_ (fun _ _ => trivial)
 rw [skeys_len]
 have : encs Value.string (skeys ss) = (ss.mergeSort (fun x y => decide (x ≤ y))).map encStr := by
  unfold encs skeys
  rw [List.map_map]
  rfl
 rw [this]
 exact h
end Go.Proofs.YthigbklhngihkaaGreatDoor.P

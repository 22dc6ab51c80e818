/- Texts of this claim, one behind the other. -/
import Derived.Test.YtdgebcgcabhjoaaDoorMa
import Derived.OwnWalkIn
import Derived.Laws.Small
import Derived.OwnWalk
import Derived.Laws.OwnMore
import Derived.StillTail
-- Written by a program for this claim. Not trusted: Lean checks it.
namespace Go.Proofs.YtdgebcgcabhjoaaDoor.P
open Go.RowKit Go.Proofs.YtdgebcgcabhjoaaDoorW.PrintWords Go.Proofs.YtdgebcgcabhjoaaDoorW.PrintLast Go.Proofs.YtdgebcgcabhjoaaDoorW.PrintMore
attribute [local go_sem] max2_int min2_int max_two min_two max_three min_three max_four min_four   -- for this text's walks alone
set_option linter.unusedVariables false
set_option linter.unusedSimpArgs false

-- NOT PRINTED: function 68 (nat_num_uint32_68)

/-! ### bits_Div32: function 73 -/
def bits_Div32.f (a0 : Int) (a1 : Int) (a2 : Int) : Option (Int × Int) := if a2 = 0 then (if (IntKind.u64.wrap (a2)) = 0 then (none) else (some ((IntKind.u64.wrap (Int.tdiv (Go.bits .or .u64 (IntKind.u64.wrap ((IntKind.u64.wrap (a0)) * 4294967296)) (IntKind.u64.wrap (a1))) (IntKind.u64.wrap (a2)))) % 4294967296, (Int.tmod (Go.bits .or .u64 (IntKind.u64.wrap ((IntKind.u64.wrap (a0)) * 4294967296)) (IntKind.u64.wrap (a1))) (IntKind.u64.wrap (a2))) % 4294967296))) else (if a2 ≤ a0 then (none) else (if (IntKind.u64.wrap (a2)) = 0 then (none) else (some ((IntKind.u64.wrap (Int.tdiv (Go.bits .or .u64 (IntKind.u64.wrap ((IntKind.u64.wrap (a0)) * 4294967296)) (IntKind.u64.wrap (a1))) (IntKind.u64.wrap (a2)))) % 4294967296, (Int.tmod (Go.bits .or .u64 (IntKind.u64.wrap ((IntKind.u64.wrap (a0)) * 4294967296)) (IntKind.u64.wrap (a1))) (IntKind.u64.wrap (a2))) % 4294967296))))
set_option maxHeartbeats 8000000 in
set_option maxRecDepth 100000 in
theorem bits_Div32.calls (a0 : Int) (a1 : Int) (a2 : Int) (r1 : Int) (r2 : Int) (w : World) (h : bits_Div32.f a0 a1 a2 = some (r1, r2)) :
    Calls Tryd.prog 73 #[.int .u32 a0, .int .u32 a1, .int .u32 a2] w fun e w' => e = .returned (.tuple #[.int .u32 r1, .int .u32 r2]) ∧ Drawn0 w w' := by
  have H : (if a2 = 0 then (if (IntKind.u64.wrap (a2)) = 0 then (none) else (some ((IntKind.u64.wrap (Int.tdiv (Go.bits .or .u64 (IntKind.u64.wrap ((IntKind.u64.wrap (a0)) * 4294967296)) (IntKind.u64.wrap (a1))) (IntKind.u64.wrap (a2)))) % 4294967296, (Int.tmod (Go.bits .or .u64 (IntKind.u64.wrap ((IntKind.u64.wrap (a0)) * 4294967296)) (IntKind.u64.wrap (a1))) (IntKind.u64.wrap (a2))) % 4294967296))) else (if a2 ≤ a0 then (none) else (if (IntKind.u64.wrap (a2)) = 0 then (none) else (some ((IntKind.u64.wrap (Int.tdiv (Go.bits .or .u64 (IntKind.u64.wrap ((IntKind.u64.wrap (a0)) * 4294967296)) (IntKind.u64.wrap (a1))) (IntKind.u64.wrap (a2)))) % 4294967296, (Int.tmod (Go.bits .or .u64 (IntKind.u64.wrap ((IntKind.u64.wrap (a0)) * 4294967296)) (IntKind.u64.wrap (a1))) (IntKind.u64.wrap (a2))) % 4294967296))))) = some (r1, r2) := h
  clear h
  by_cases c4 : a2 = 0
  · rw [if_pos c4] at H
    have c4b0 : (a2 == 0) = true := beq_iff_eq.mpr c4
    have c4b1 : (a2 != 0) = false := bne_eq_false_iff_eq.mpr c4
    clear c4
    by_cases c5 : (IntKind.u64.wrap (a2)) = 0
    · rw [if_pos c5] at H
      exact absurd H (by simp)
    · rw [if_neg c5] at H
      have c5b0 : ((IntKind.u64.wrap (a2)) == 0) = false := beq_eq_false_iff_ne.mpr c5
      have c5b1 : ((IntKind.u64.wrap (a2)) != 0) = true := bne_iff_ne.mpr c5
      simp only [Option.some.injEq, Prod.mk.injEq] at H
      obtain ⟨rfl, rfl⟩ := H
      go_enter Tryd.func73, Tryd.ntmps73
      go_wp2
      repeat (go_quiet (fail); try go_wp2)
      go_ret2
      exact ⟨by first | rfl | (simp; done) | (simp [*]; done), by repeat (first | exact Drawn0.refl _ | apply Drawn0.step)⟩
  · rw [if_neg c4] at H
    have c4b0 : (a2 == 0) = false := beq_eq_false_iff_ne.mpr c4
    have c4b1 : (a2 != 0) = true := bne_iff_ne.mpr c4
    by_cases c6 : a2 ≤ a0
    · rw [if_pos c6] at H
      exact absurd H (by simp)
    · rw [if_neg c6] at H
      have c6b0 : decide (a2 ≤ a0) = false := decide_eq_false c6
      clear c6
      by_cases c7 : (IntKind.u64.wrap (a2)) = 0
      · rw [if_pos c7] at H
        exact absurd H (by simp)
      · rw [if_neg c7] at H
        have c7b0 : ((IntKind.u64.wrap (a2)) == 0) = false := beq_eq_false_iff_ne.mpr c7
        have c7b1 : ((IntKind.u64.wrap (a2)) != 0) = true := bne_iff_ne.mpr c7
        simp only [Option.some.injEq, Prod.mk.injEq] at H
        obtain ⟨rfl, rfl⟩ := H
        go_enter Tryd.func73, Tryd.ntmps73
        go_wp2
        repeat (go_quiet (fail); try go_wp2)
        go_ret2
        exact ⟨by first | rfl | (simp; done) | (simp [*]; done), by repeat (first | exact Drawn0.refl _ | apply Drawn0.step)⟩

end Go.Proofs.YtdgebcgcabhjoaaDoor.P
/- nat's small: contract. -/
namespace Go.Proofs.YtdgebcgcabhjoaaDoor.P
set_option linter.unusedVariables false
set_option linter.unusedSimpArgs false
open Go.RowKit Go.Shelf Go.Proofs.YtdgebcgcabhjoaaDoorW.PrintWords Go.Proofs.YtdgebcgcabhjoaaDoorW.PrintMore Go.Proofs.YtdgebcgcabhjoaaDoorW.PrintLast
attribute [local go_sem] Oper.semAt_some
/-- One step of a division by one limb. -/
def smStep (a : List Int) (y : Int) (s : List Int × Int) (i : Nat) : List Int × Int := (s.1.set i ((s.2 * 4294967296 + a.getD i 0) / y), (s.2 * 4294967296 + a.getD i 0) % y)
def smF (a : List Int) (y : Int) (l : List Nat) : List Int × Int := l.foldl (smStep a y) (List.replicate a.length 0, 0)
theorem smF_snoc (a : List Int) (y : Int) (l : List Nat) (i : Nat) : smF a y (l ++ [i]) = smStep a y (smF a y l) i := by simp [smF]
theorem u64_w {x : Int} (h0 : 0 ≤ x) (h1 : x < 18446744073709551616) : IntKind.u64.wrap x = x := by rw [wrap_u64]; omega
theorem or64 {h l : Int} (h0 : 0 ≤ h) (h1 : h < 4294967296) (l0 : 0 ≤ l) (l1 : l < 4294967296) : bits .or .u64 (h * 4294967296) l = h * 4294967296 + l := by
  obtain ⟨hn, rfl⟩ : ∃ k : Nat, h = k := ⟨h.toNat, by omega⟩
  obtain ⟨ln, rfl⟩ : ∃ k : Nat, l = k := ⟨l.toNat, by omega⟩
  have e : ((hn : Int) * 4294967296) = ((hn * 4294967296 : Nat) : Int) := by rw [Int.natCast_mul]; rfl
  rw [e, u64_or_nat _ _ (by omega) (by omega), nat_join 32 _ _ (by omega) (by omega), Int.natCast_add]
theorem div32_eq {h l y : Int} (h0 : 0 ≤ h) (h1 : h < y) (hy : y < 4294967296) (l0 : 0 ≤ l) (l1 : l < 4294967296) : bits_Div32.f h l y = some ((h * 4294967296 + l) / y, (h * 4294967296 + l) % y) := by
  have e1 : IntKind.u64.wrap h = h := u64_w h0 (by omega)
  have e2 : IntKind.u64.wrap l = l := u64_w l0 (by omega)
  have e3 : IntKind.u64.wrap y = y := u64_w (by omega) (by omega)
  have e4 : IntKind.u64.wrap (h * 4294967296) = h * 4294967296 := u64_w (by omega) (by omega)
  have hx : 0 ≤ h * 4294967296 + l := by omega
  have hq0 : 0 ≤ (h * 4294967296 + l) / y := Int.ediv_nonneg hx (by omega)
  have hq1 : (h * 4294967296 + l) / y < 4294967296 := Int.ediv_lt_of_lt_mul (by omega) (by
    have := Int.mul_le_mul_of_nonneg_right (show h + 1 ≤ y by omega) (show (0 : Int) ≤ 4294967296 by omega)
    rw [Int.mul_comm 4294967296 y]
    omega)
  have hr0 := Int.emod_nonneg (h * 4294967296 + l) (show y ≠ 0 by omega)
  have hr1 := Int.emod_lt_of_pos (h * 4294967296 + l) (show 0 < y by omega)
  unfold bits_Div32.f
  rw [if_neg (by omega), if_neg (by omega), e1, e2, e3, e4, if_neg (by omega), or64 h0 (by omega) l0 l1, tdiv_eq_if, if_pos hx, tmod_eq_if, if_pos hx, u64_w hq0 (by omega)]
  rw [Int.emod_eq_of_lt hq0 hq1, Int.emod_eq_of_lt hr0 (by omega)]
theorem smF_ok {a : List Int} (ha : okL a) {y : Int} (h0 : 0 < y) (h1 : y < 4294967296) : ∀ (l : List Nat), okL (smF a y l).1 ∧ 0 ≤ (smF a y l).2 ∧ (smF a y l).2 < y := by
  intro l
  have key : ∀ (l : List Nat) (s : List Int × Int), (okL s.1 ∧ 0 ≤ s.2 ∧ s.2 < y) → (okL (l.foldl (smStep a y) s).1 ∧ 0 ≤ (l.foldl (smStep a y) s).2 ∧ (l.foldl (smStep a y) s).2 < y) := by
    intro l
    induction l with
    | nil => intro s h; exact h
    | cons i l ih =>
      intro s h
      refine ih _ ?_
      obtain ⟨h2, h3, h4⟩ := h
      have hb := okL_getD ha i
      have hx : 0 ≤ s.2 * 4294967296 + a.getD i 0 := by omega
      unfold smStep
      refine ⟨fun z hz => ?_, Int.emod_nonneg _ (by omega), Int.emod_lt_of_pos _ h0⟩
      rcases List.mem_or_eq_of_mem_set hz with hz | rfl
      · exact h2 z hz
      · refine ⟨Int.ediv_nonneg hx (by omega), Int.ediv_lt_of_lt_mul h0 ?_⟩
        have := Int.mul_le_mul_of_nonneg_right (show s.2 + 1 ≤ y by omega) (show (0 : Int) ≤ 4294967296 by omega)
        rw [Int.mul_comm 4294967296 y]
        omega
  exact key l _ ⟨fun z hz => by rw [List.eq_of_mem_replicate hz]; omega, Int.le_refl _, h0⟩
theorem smF_len (a : List Int) (y : Int) (l : List Nat) : (smF a y l).1.length = a.length := by
  have key : ∀ (l : List Nat) (s : List Int × Int), (l.foldl (smStep a y) s).1.length = s.1.length := by
    intro l
    induction l with
    | nil => intro s; rfl
    | cons i l ih => intro s; rw [List.foldl_cons, ih, smStep, List.length_set]
  rw [smF, key, List.length_replicate]
theorem sm_fold {a : List Int} (ha : okL a) {y : Int} (h0 : 0 < y) : ∀ (m : Nat) (s : List Int × Int), m ≤ a.length → s.1.length = a.length → okL s.1 → 0 ≤ s.2 → s.2 < y → y < 4294967296 →
    ((down m).foldl (smStep a y) s).1.drop m = s.1.drop m ∧ val (((down m).foldl (smStep a y) s).1.take m) * y.toNat + ((down m).foldl (smStep a y) s).2.toNat = s.2.toNat * 4294967296 ^ m + val (a.take m)
  | 0, s, _, _, _, _, _, _ => by simp [down, val]
  | m + 1, s, hm, hs, hok, hr0, hr1, hy => by
    have hb := okL_getD ha m
    have hx : 0 ≤ s.2 * 4294967296 + a.getD m 0 := by omega
    have hq0 : 0 ≤ (s.2 * 4294967296 + a.getD m 0) / y := Int.ediv_nonneg hx (by omega)
    have hq1 : (s.2 * 4294967296 + a.getD m 0) / y < 4294967296 := Int.ediv_lt_of_lt_mul h0 (by
      have := Int.mul_le_mul_of_nonneg_right (show s.2 + 1 ≤ y by omega) (show (0 : Int) ≤ 4294967296 by omega)
      rw [Int.mul_comm 4294967296 y]
      omega)
    have hg0 := Int.emod_nonneg (s.2 * 4294967296 + a.getD m 0) (show y ≠ 0 by omega)
    have hg1 := Int.emod_lt_of_pos (s.2 * 4294967296 + a.getD m 0) h0
    have hqr := Int.mul_ediv_add_emod (s.2 * 4294967296 + a.getD m 0) y
    have hok1 : okL (smStep a y s m).1 := fun z hz => by
      rcases List.mem_or_eq_of_mem_set hz with hz | rfl
      · exact hok z hz
      · exact ⟨hq0, hq1⟩
    obtain ⟨i1, i2⟩ := sm_fold ha h0 m (smStep a y s m) (by omega) (by rw [smStep, List.length_set, hs]) hok1 hg0 hg1 hy
    rw [down, List.foldl_cons]
    generalize (down m).foldl (smStep a y) (smStep a y s m) = f at *
    have hq : f.1.getD m 0 = (s.2 * 4294967296 + a.getD m 0) / y := by
      have h1 := congrArg (fun l => l.getD 0 0) i1
      simp only [List.getD_eq_getElem?_getD, List.getElem?_drop, Nat.add_zero] at h1
      rw [List.getD_eq_getElem?_getD, h1, smStep]
      simp [List.getElem?_set_self (show m < s.1.length by omega)]
    refine ⟨?_, ?_⟩
    · have h1 := congrArg (List.drop 1) i1
      rw [List.drop_drop, List.drop_drop] at h1
      rw [h1, smStep]
      exact List.drop_set_of_lt (by omega)
    · rw [val_take_step, val_take_step a, hq, Nat.pow_succ, Nat.add_mul]
      generalize hQ : ((s.2 * 4294967296 + a.getD m 0) / y).toNat = Q at *
      have hgr : (smStep a y s m).2 = (s.2 * 4294967296 + a.getD m 0) % y := rfl
      rw [hgr] at i2
      have e : Q * y.toNat + ((s.2 * 4294967296 + a.getD m 0) % y).toNat = s.2.toNat * 4294967296 + (a.getD m 0).toNat := by
        obtain ⟨yn, rfl⟩ : ∃ k : Nat, y = k := ⟨y.toNat, by omega⟩
        have hQ2 : (Q : Int) = (s.2 * 4294967296 + a.getD m 0) / (yn : Int) := by omega
        rw [← hQ2] at hqr
        have : ((yn * Q : Nat) : Int) = (yn : Int) * (Q : Int) := Int.natCast_mul _ _
        rw [Int.toNat_natCast, Nat.mul_comm Q yn]
        omega
      have e2 := congrArg (4294967296 ^ m * ·) e
      simp only [Nat.mul_add] at e2
      rw [show 4294967296 ^ m * Q * y.toNat = 4294967296 ^ m * (Q * y.toNat) from Nat.mul_assoc _ _ _]
      rw [show s.2.toNat * (4294967296 ^ m * 4294967296) = 4294967296 ^ m * (s.2.toNat * 4294967296) by rw [← Nat.mul_assoc, Nat.mul_comm s.2.toNat, Nat.mul_assoc]]
      rw [show ((s.2 * 4294967296 + a.getD m 0) % y).toNat * 4294967296 ^ m = 4294967296 ^ m * ((s.2 * 4294967296 + a.getD m 0) % y).toNat from Nat.mul_comm _ _] at i2
      omega
theorem sm_val {a : List Int} (ha : okL a) {y : Int} (h0 : 0 < y) (h1 : y < 4294967296) : val (smF a y (down a.length)).1 = val a / y.toNat ∧ (smF a y (down a.length)).2 = ((val a % y.toNat : Nat) : Int) := by
  have hf := (sm_fold ha h0 a.length (List.replicate a.length 0, 0) (Nat.le_refl _) (by simp) (fun z hz => by rw [List.eq_of_mem_replicate hz]; omega) (Int.le_refl _) h0 h1).2
  have hl := smF_len a y (down a.length)
  obtain ⟨g1, g2, g3⟩ := smF_ok ha h0 h1 (down a.length)
  have e : (down a.length).foldl (smStep a y) (List.replicate a.length 0, 0) = smF a y (down a.length) := rfl
  rw [e, List.take_of_length_le (by omega), List.take_of_length_le (Nat.le_refl _)] at hf
  simp only [Int.toNat_zero, Nat.zero_mul, Nat.zero_add] at hf
  generalize smF a y (down a.length) = f at *
  have hy : 0 < y.toNat := by omega
  rw [← hf]
  refine ⟨?_, ?_⟩
  · rw [Nat.mul_comm, Nat.mul_add_div hy, Nat.div_eq_of_lt (by omega)]; omega
  · rw [Nat.mul_comm, Nat.mul_add_mod, Nat.mod_eq_of_lt (by omega)]; omega
theorem made_zero (n : Nat) : (madeCells (Value.int IntKind.u32 0).cells (n * 1)).toList = (List.replicate n (0 : Int)).map (Value.int .u32) := by
  apply List.ext_getElem
  · simp [madeCells]
  · intro i h1 h2
    simp [madeCells, Value.cells, Nat.mod_one]
theorem quiet_of_drawn {F : Fence} {n : Nat} {P : Program} {f : FuncId} {args : Array Value} {w : World} {k : Nat} {v : Value} (h : CallsIn F n P f args (w.drewN k) fun e w' => e = .returned v ∧ Drawn0 (w.drewN k) w') : CallsIn F n P f args (w.drewN k) fun e w'' => e = .returned v ∧ ∃ m, w'' = w.drewN m :=
  h.mono fun e w' ⟨h1, m, h2⟩ => ⟨h1, k + m, by rw [h2]; simp⟩
def nat_num_small.f (l0 : List Int) (a1 : Int) : Option (List Int × Int) := if okL l0 ∧ l0.length ≤ 1073741824 ∧ 0 < a1 ∧ a1 < 4294967296 then some (limbs (val l0 / a1.toNat), ((val l0 % a1.toNat : Nat) : Int)) else none
set_option maxRecDepth 100000 in
set_option maxHeartbeats 4000000 in
theorem small_in (n : Nat) (hn : 6 ≤ n) (A : Option Addr) (ca : Nat) (a : List Int) (y : Int) (w : World) (hCa : Kd.C (Kd.int .u32) w A a.length a) (hca : a.length ≤ ca) (hab : okL a) (hz : a.length ≤ 1073741824) (hy0 : 0 < y) (hy1 : y < 4294967296) :
    CallsIn Fence.wide n Tryd.prog 61 #[.slice A a.length ca, .int .u32 y] w fun e W' => ∃ v, e = .returned (.tuple #[v, .int .u32 (smF a y (down a.length)).2]) ∧ Kd.R (Kd.int .u32) 63 W' w.heap.size (fun _ => True) v (limbs (val (smF a y (down a.length)).1)) ∧ Below w.heap.size w W' := by
  have h1 : 1 ≤ n := by omega
  obtain ⟨i0, hi, hz0, hz1, hz2⟩ := info_parts infoU
  have HCa := Lib.hid hCa
  have HAB := Lib.hid hab
  clear hCa hab
  have hA := addr_of_C HCa.out
  refine callsIn_of_wp_marks Tryd.func61 rfl trivial ?_ rfl
  simp only [Tryd.ntmps61, List.size_toArray, List.length_cons, List.length_nil, Nat.reduceAdd, Nat.reduceSub, Array.replicate_succ, Array.replicate_zero, List.push_toArray, List.append_toArray, List.nil_append, List.cons_append]
  obtain ⟨w3, hrun, hown, hgrow⟩ := run_make_full (P := Tryd.prog) ((w.alloc (.cells #[.slice A a.length ca] 97)).alloc (.cells #[.int .u32 y] 63)) w.heap.size 97 63 i0 (.int .u32 0) 1 Tryd.underlying97 hi hz0 hz1 .i64 .i64 a.length (by rw [hz2]; omega) (by unfold maxLen; omega) (by simp; omega)
  simp only [World.size_alloc] at hrun hown
  have b1 := ((Boxed.new w 97 (.slice A a.length ca)).alloc (.cells #[.int .u32 y] 63)).kept hgrow (by simp)
  have b2 := (Boxed.new (w.alloc (.cells #[.slice A a.length ca] 97)) 63 (.int .u32 y)).kept hgrow (by simp)
  simp only [World.size_alloc] at b2
  have hB3 : Below w.heap.size w w3 := (((Below.refl _ w).alloc (Nat.le_refl _) _).alloc (by simp) _).grown hgrow (by simp; omega) (fun k e => by cases e)
  have hs3 : w.heap.size + 2 ≤ w3.heap.size := by have := hgrow.size; simp at this; omega
  have b1c := ((b1.alloc (.cells #[.slice (some ⟨w.heap.size + 1 + 1, 0, none⟩) a.length a.length] 97)).alloc (.cells #[.int .u32 0] 63)).cell
  have B1 := Lib.hid b1
  have B2 := Lib.hid b2
  have HB3 := Lib.hid hB3
  have HO := Lib.hid hown
  clear hgrow hown b1 b2 hB3
  gi_wp2_with (refine ⟨trivial, ?_⟩; gi_at_call 68; refine (backward_in (n - 1) _ _ _ _).mono ?_; rintro e w' ⟨rfl, rfl⟩)
  clear b1c hrun
  have bO := ((Boxed.new w3 97 (.slice (some ⟨w.heap.size + 1 + 1, 0, none⟩) a.length a.length)).alloc (.cells #[.int .u32 0] 63)).alloc (.cells #[.slice A a.length ca] 97)
  have bR := (Boxed.new (w3.alloc (.cells #[.slice (some ⟨w.heap.size + 1 + 1, 0, none⟩) a.length a.length] 97)) 63 (.int .u32 0)).alloc (.cells #[.slice A a.length ca] 97)
  have bS := Boxed.new ((w3.alloc (.cells #[.slice (some ⟨w.heap.size + 1 + 1, 0, none⟩) a.length a.length] 97)).alloc (.cells #[.int .u32 0] 63)) 97 (.slice A a.length ca)
  have b1 := ((B1.out.alloc (.cells #[.slice (some ⟨w.heap.size + 1 + 1, 0, none⟩) a.length a.length] 97)).alloc (.cells #[.int .u32 0] 63)).alloc (.cells #[.slice A a.length ca] 97)
  have b2 := ((B2.out.alloc (.cells #[.slice (some ⟨w.heap.size + 1 + 1, 0, none⟩) a.length a.length] 97)).alloc (.cells #[.int .u32 0] 63)).alloc (.cells #[.slice A a.length ca] 97)
  have ho := ((HO.out.alloc (.cells #[.slice (some ⟨w.heap.size + 1 + 1, 0, none⟩) a.length a.length] 97)).alloc (.cells #[.int .u32 0] 63)).alloc (.cells #[.slice A a.length ca] 97)
  have hB := ((HB3.out.alloc (by omega) (.cells #[.slice (some ⟨w.heap.size + 1 + 1, 0, none⟩) a.length a.length] 97)).alloc (by simp; omega) (.cells #[.int .u32 0] 63)).alloc (by simp; omega) (.cells #[.slice A a.length ca] 97)
  simp only [World.size_alloc] at bR bS
  obtain ⟨W0, hW0⟩ : ∃ W0, W0 = ((w3.alloc (.cells #[.slice (some ⟨w.heap.size + 1 + 1, 0, none⟩) a.length a.length] 97)).alloc (.cells #[.int .u32 0] 63)).alloc (.cells #[.slice A a.length ca] 97) := ⟨_, rfl⟩
  have hzz : W0.heap.size = w3.heap.size + 3 := by rw [hW0]; simp
  rw [← hW0] at bO bR bS b1 b2 ho hB ⊢
  have hr : Readable A a.length W0 := readable_of_C (Kd.C_below HCa.out hB)
  have HZ := Lib.hid hzz
  have HB0 := Lib.hid hB
  have BS := Lib.hid bS
  have HGL : Hid (w.heap.size + 1 + 1 < w3.heap.size) := Lib.hid (by
    rcases HO.out.2 with ⟨h, _⟩ | ⟨g, cap, cur, h, _, hgb, _⟩
    · cases h
    · injection h with h1; injection h1 with h1; injection h1 with h1
      subst h1
      exact (Array.getElem?_eq_some_iff.1 hgb).1)
  clear hW0 hzz hB
  have hmk : (madeCells (Value.int IntKind.u32 0).cells (a.length * 1)).toList = ((smF a y []).1).map (Value.int .u32) := made_zero a.length
  rw [hmk] at ho
  refine wpIn_rangeFunc_ownG rfl h1 (gf := 77) (lb := #[.pointer (some ⟨w3.heap.size + 1 + 1, 0, none⟩)]) rfl trivial (enters_of Tryd.func77 (by kernel_rfl) rfl)
    (backward_stops (n - 1) (by omega) (w3.heap.size + 1 + 1) w.heap.size A a.length ca (by omega) W0 BS.out.cell hA hr) kpB_t (kpB_b HB0.out.size (by have := HZ.out; omega) hr) (Below.refl _ _) (fun _ => rfl)
    (fun (pre : List (BIt a.length)) W => ((((∃ v, Boxed W w3.heap.size 97 v ∧ W.ownsRow w.heap.size 63 1 v a.length ((smF a y (plc pre)).1.map (Value.int .u32)) ∧ v = .slice (some ⟨w.heap.size + 1 + 1, 0, none⟩) a.length a.length) ∧ Boxed W (w3.heap.size + 1) 63 (.int .u32 (smF a y (plc pre)).2)) ∧ Boxed W w.heap.size 97 (.slice A a.length ca)) ∧ Boxed W (w.heap.size + 1) 63 (.int .u32 y)) ∧ Below w.heap.size w W)
    (fun _ _ _ => False)
    (OwnFrom.and (OwnFrom.and (OwnFrom.and (OwnFrom.and (Own.from (holdsRow_own w.heap.size w3.heap.size 97 63 1 (fun pre => a.length) (fun pre => (smF a y (plc pre)).1.map (Value.int .u32)) (fun _ v => v = .slice (some ⟨w.heap.size + 1 + 1, 0, none⟩) a.length a.length)) _) (Own.from (boxed_own _ _ (fun pre => .int .u32 (smF a y (plc pre)).2)) _)) (Own.from (boxed_own _ _ _) _)) (Own.from (boxed_own _ _ _) _)) (ownFrom_below (Nat.le_refl _) (by have := HB0.out.size; exact this)))
    (fun _ _ _ _ _ hs _ _ => hs)
    ⟨⟨⟨⟨⟨_, bO, ho, rfl⟩, bR⟩, b1⟩, b2⟩, HB0.out⟩
    (fun x => { tmps := #[.slice A a.length ca, .int .u32 y, .pointer (some ⟨w.heap.size, 0, none⟩), .pointer (some ⟨w.heap.size + 1, 0, none⟩), .slice none 0 0, .int .u32 0, .pointer (some ⟨w3.heap.size, 0, none⟩), .pointer (some ⟨w3.heap.size + 1, 0, none⟩), .int .i64 x.1.1, .slice A a.length ca, .int .i64 a.length, .slice (some ⟨w.heap.size + 1 + 1, 0, none⟩) a.length a.length, .slice A a.length ca, .func (.func 77) #[] #[.pointer (some ⟨w3.heap.size + 1 + 1, 0, none⟩)], .int .i64 x.1.1, .int .u32 x.1.2, undef, undef, undef, undef, undef, undef, undef, undef, undef, undef, undef, undef, undef, undef, undef, undef], defers := [] }) ?assign ?body ?done ?stop
  case assign =>
    intro l x W K hK
    gi_wp2
    exact hK
  case body =>
    rintro l pre x W ⟨⟨⟨⟨⟨v, hv, hrow, rfl⟩, hbr⟩, hba⟩, hby⟩, hB⟩ hlt
    have hxl := x.2
    have hc1 := hv.cell
    have hc2 := hbr.cell
    have hc3 := hba.cell
    have hc4 := hby.cell
    obtain ⟨ada, rfl, hxa⟩ := Kd.at_int (Kd.C_below HCa.out hB) (x.1.1 : Int) (by omega) (by omega)
    rw [Int.toNat_natCast, rd_nat] at hxa
    have hd : 1 ≤ n - 1 - 1 := by omega
    have hmx : Tryd.prog.follows .mixedOrders = true := by kernel_rfl
    have hst := smF_ok HAB.out hy0 hy1 (plc pre)
    have hdv := div32_eq hst.2.1 hst.2.2 hy1 (okL_getD HAB.out x.1.1).1 (okL_getD HAB.out x.1.1).2
    have HST := Lib.hid hst
    have HDV := Lib.hid hdv
    have HSN := Lib.hid (smF_snoc a y (plc pre) x.1.1)
    clear hst hdv
    unfold smStep at HSN
    obtain ⟨xa, hxa'⟩ : ∃ v, a.getD x.1.1 0 = v := ⟨_, rfl⟩
    obtain ⟨rr, hrr⟩ : ∃ v, (smF a y (plc pre)).2 = v := ⟨_, rfl⟩
    rw [hxa'] at hxa HDV HSN
    rw [hrr] at hbr hc2 HDV HSN
    have hcell : W.cell? ⟨w.heap.size + 1 + 1, x.1.1, none⟩ = some (.int .u32 ((smF a y (plc pre)).1.getD x.1.1 0)) := by
      rw [hrow.cellAt x.1.1 (by omega), List.getElem?_map, List.getD_eq_getElem?_getD, List.getElem?_eq_getElem (show x.1.1 < (smF a y (plc pre)).1.length by rw [smF_len]; exact hxl)]
      rfl
    have hfrz := hrow.frozenAt x.1.1
    have hfr := hbr.frozen
    have HFIN : Hid (∀ nq : Nat, KeepsFrom W0.heap.size W (((W.drewN nq).setCell ⟨w.heap.size + 1 + 1, x.1.1, none⟩ (.int .u32 ((rr * 4294967296 + xa) / y))).setCell ⟨w3.heap.size + 1, 0, none⟩ (.int .u32 ((rr * 4294967296 + xa) % y))) ∧ KpB w.heap.size (w3.heap.size + 1 + 1) (some ada) a.length W (((W.drewN nq).setCell ⟨w.heap.size + 1 + 1, x.1.1, none⟩ (.int .u32 ((rr * 4294967296 + xa) / y))).setCell ⟨w3.heap.size + 1, 0, none⟩ (.int .u32 ((rr * 4294967296 + xa) % y))) ∧
        ((((∃ v, Boxed (((W.drewN nq).setCell ⟨w.heap.size + 1 + 1, x.1.1, none⟩ (.int .u32 ((rr * 4294967296 + xa) / y))).setCell ⟨w3.heap.size + 1, 0, none⟩ (.int .u32 ((rr * 4294967296 + xa) % y))) w3.heap.size 97 v ∧ (((W.drewN nq).setCell ⟨w.heap.size + 1 + 1, x.1.1, none⟩ (.int .u32 ((rr * 4294967296 + xa) / y))).setCell ⟨w3.heap.size + 1, 0, none⟩ (.int .u32 ((rr * 4294967296 + xa) % y))).ownsRow w.heap.size 63 1 v a.length ((smF a y (plc (pre ++ [x]))).1.map (Value.int .u32)) ∧ v = .slice (some ⟨w.heap.size + 1 + 1, 0, none⟩) a.length a.length) ∧ Boxed (((W.drewN nq).setCell ⟨w.heap.size + 1 + 1, x.1.1, none⟩ (.int .u32 ((rr * 4294967296 + xa) / y))).setCell ⟨w3.heap.size + 1, 0, none⟩ (.int .u32 ((rr * 4294967296 + xa) % y))) (w3.heap.size + 1) 63 (.int .u32 (smF a y (plc (pre ++ [x]))).2)) ∧ Boxed (((W.drewN nq).setCell ⟨w.heap.size + 1 + 1, x.1.1, none⟩ (.int .u32 ((rr * 4294967296 + xa) / y))).setCell ⟨w3.heap.size + 1, 0, none⟩ (.int .u32 ((rr * 4294967296 + xa) % y))) w.heap.size 97 (.slice (some ada) a.length ca)) ∧ Boxed (((W.drewN nq).setCell ⟨w.heap.size + 1 + 1, x.1.1, none⟩ (.int .u32 ((rr * 4294967296 + xa) / y))).setCell ⟨w3.heap.size + 1, 0, none⟩ (.int .u32 ((rr * 4294967296 + xa) % y))) (w.heap.size + 1) 63 (.int .u32 y)) ∧
        Below w.heap.size w (((W.drewN nq).setCell ⟨w.heap.size + 1 + 1, x.1.1, none⟩ (.int .u32 ((rr * 4294967296 + xa) / y))).setCell ⟨w3.heap.size + 1, 0, none⟩ (.int .u32 ((rr * 4294967296 + xa) % y)))) := Lib.hid (by
      intro nq
      have hgl := HGL.out
      have hB3 := HB3.out.size
      have hv1 : Boxed (W.drewN nq) w3.heap.size 97 (.slice (some ⟨w.heap.size + 1 + 1, 0, none⟩) a.length a.length) := hv
      have hr1 : Boxed (W.drewN nq) (w3.heap.size + 1) 63 (.int .u32 rr) := hbr
      have ha1 : Boxed (W.drewN nq) w.heap.size 97 (.slice (some ada) a.length ca) := hba
      have hby1 : Boxed (W.drewN nq) (w.heap.size + 1) 63 (.int .u32 y) := hby
      have ho1 : (W.drewN nq).ownsRow w.heap.size 63 1 (.slice (some ⟨w.heap.size + 1 + 1, 0, none⟩) a.length a.length) a.length ((smF a y (plc pre)).1.map (Value.int .u32)) := pw_own_drewN hrow nq
      obtain ⟨ho2, hg2⟩ := ho1.stored x.1.1 (.int .u32 ((rr * 4294967296 + xa) / y))
      have hv2 := hv1.kept hg2 (by intro e; injection e with e; omega)
      have hr2 := hr1.kept hg2 (by intro e; injection e with e; omega)
      have ha2 := ha1.kept hg2 (by intro e; injection e with e; omega)
      have hy2 := hby1.kept hg2 (by intro e; injection e with e; omega)
      have hbel : Below w.heap.size W (((W.drewN nq).setCell ⟨w.heap.size + 1 + 1, x.1.1, none⟩ (.int .u32 ((rr * 4294967296 + xa) / y))).setCell ⟨w3.heap.size + 1, 0, none⟩ (.int .u32 ((rr * 4294967296 + xa) % y))) := ((pw_below_drewN (Below.refl _ _) nq).setCell (by simp <;> omega) _).setCell (by simp <;> omega) _
      refine ⟨(((show KeepsOthers W (W.drewN nq) from ⟨Nat.le_refl _, fun _ _ h _ => h⟩).trans (KeepsOthers.setCell _ _ _)).trans (KeepsOthers.setCell _ _ _)).from _, ⟨hbel, ?_, fun _ => readable_of_C (Kd.C_below HCa.out (hB.trans hbel))⟩, ⟨⟨⟨⟨_, hv2.other (by omega) _, ?_, rfl⟩, ?_⟩, ha2.other (by omega) _⟩, hy2.other (by omega) _⟩, hB.trans hbel⟩
      · exact (World.cell?_setCell_other _ _ _ _ (by simp)).trans ((World.cell?_setCell_other _ _ _ _ (by simp <;> omega)).trans rfl)
      · have := own_setCell ho2 (p := ⟨w3.heap.size + 1, 0, none⟩) (by simp [Value.ownBlock]; omega) (.int .u32 ((rr * 4294967296 + xa) % y))
        rw [plc_snoc, HSN.out]
        simpa [List.map_set] using this
      · rw [plc_snoc, HSN.out]
        exact hr2.set _)
    gi_wp2
    refine region_two_round 11 (by assumption) (by kernel_rfl) ?_
    simp only [List.toList_toArray, List.take_succ_cons, List.take_zero]
    repeat (gi_big_quiet_step (fail))
    refine BigFrame.wpQuietIn_want (fun _ _ _ _ => trivial) rfl ?_
    intro K hK
    gi_big_quiet_op
    gi_big_quiet_call (first | (gi_at_call 73; exact quiet_of_drawn (CallsIn.inRound l (callsIn_wide.2 (bits_Div32.calls _ _ _ _ _ _ HDV.out)))))
    repeat (gi_big_quiet_step (fail))
    refine wpQuietIn_nil ⟨?_, ?_⟩
    · rintro w' ⟨nq, rfl⟩
      refine wpAnyIn_ready (rs := [11, 12]) (by kernel_rfl) (by decide) (BigFrame.allReadyIn_want rfl rfl (fun K hK => ?_) (BigFrame.allReadyIn_want rfl rfl (fun K hK => ?_) AllReadyIn.nil))
      · gi_wp2
        refine wpAnyIn_ready (rs := [12]) (by kernel_rfl) (by decide) (BigFrame.allReadyIn_want rfl rfl (fun K hK => ?_) AllReadyIn.nil)
        gi_wp2
        refine wpAnyIn_ready (rs := [13]) (by kernel_rfl) (by decide) (BigFrame.allReadyIn_want rfl rfl (fun K hK => ?_) AllReadyIn.nil)
        gi_wp2
        refine wpAnyIn_ready (rs := [14]) (by kernel_rfl) (by decide) (BigFrame.allReadyIn_want rfl rfl (fun K hK => ?_) AllReadyIn.nil)
        gi_wp2
        refine wpAnyIn_done (by kernel_rfl) ?_ _
        gi_wp2
        exact HFIN.out nq
      · gi_wp2
        refine wpAnyIn_ready (rs := [11, 13]) (by kernel_rfl) (by decide) (BigFrame.allReadyIn_want rfl rfl (fun K hK => ?_) (BigFrame.allReadyIn_want rfl rfl (fun K hK => ?_) AllReadyIn.nil))
        · gi_wp2
          refine wpAnyIn_ready (rs := [13]) (by kernel_rfl) (by decide) (BigFrame.allReadyIn_want rfl rfl (fun K hK => ?_) AllReadyIn.nil)
          gi_wp2
          refine wpAnyIn_ready (rs := [14]) (by kernel_rfl) (by decide) (BigFrame.allReadyIn_want rfl rfl (fun K hK => ?_) AllReadyIn.nil)
          gi_wp2
          refine wpAnyIn_done (by kernel_rfl) ?_ _
          gi_wp2
          exact HFIN.out nq
        · gi_wp2
          refine wpAnyIn_ready (rs := [11]) (by kernel_rfl) (by decide) (BigFrame.allReadyIn_want rfl rfl (fun K hK => ?_) AllReadyIn.nil)
          gi_wp2
          refine wpAnyIn_ready (rs := [14]) (by kernel_rfl) (by decide) (BigFrame.allReadyIn_want rfl rfl (fun K hK => ?_) AllReadyIn.nil)
          gi_wp2
          refine wpAnyIn_done (by kernel_rfl) ?_ _
          gi_wp2
          exact HFIN.out nq
    · refine qop_want rfl (fun _ _ _ _ => trivial) rfl (fun K hK => ?_)
      refine ⟨.int .u32 ((rr * 4294967296 + xa) % y), fun w1 _ => ⟨rfl, rfl⟩, hK _ ?_⟩
      rintro w' ⟨nq, rfl⟩
      refine wpAnyIn_ready (rs := [12]) (by kernel_rfl) (by decide) (BigFrame.allReadyIn_want rfl rfl (fun K hK => ?_) AllReadyIn.nil)
      gi_wp2
      refine wpAnyIn_ready (rs := [13]) (by kernel_rfl) (by decide) (BigFrame.allReadyIn_want rfl rfl (fun K hK => ?_) AllReadyIn.nil)
      gi_wp2
      refine wpAnyIn_ready (rs := [14]) (by kernel_rfl) (by decide) (BigFrame.allReadyIn_want rfl rfl (fun K hK => ?_) AllReadyIn.nil)
      gi_wp2
      refine wpAnyIn_done (by kernel_rfl) ?_ _
      gi_wp2
      exact HFIN.out nq
  case done =>
    rintro D ys W hD hys ⟨⟨⟨⟨⟨v, hv, hrow, rfl⟩, hbr⟩, hba⟩, hby⟩, hB⟩ hK
    have hc1 := hv.cell
    have hc2 := hbr.cell
    have hmx : Tryd.prog.follows .mixedOrders = true := by kernel_rfl
    have HRW := Lib.hid hrow
    have HK := Lib.hid hK
    have HB := Lib.hid hB
    have hdn : plc ys = down a.length := hys
    have hlen := smF_len a y (down a.length)
    have hok := smF_ok HAB.out hy0 hy1 (down a.length)
    have hR : Kd.R (Kd.int .u32) 63 W w.heap.size (fun _ => True) (.slice (some ⟨w.heap.size + 1 + 1, 0, none⟩) (smF a y (down a.length)).1.length a.length) (smF a y (down a.length)).1 := Kd.R_of_own (enc := Value.int .u32) (by rw [hlen, ← hdn]; exact hrow) (fun _ _ => trivial)
    have hlt := limbs_take hok.1
    have HOK := Lib.hid hok.1
    have HLT := Lib.hid hlt
    have HLEN := Lib.hid hlen
    have HDN := Lib.hid hdn
    have HT : Hid (∀ k, Calls Tryd.prog 60 #[.slice (some ⟨w.heap.size + 1 + 1, 0, none⟩) a.length a.length] (W.drewN k) fun e w' => e = .returned (trimV (some ⟨w.heap.size + 1 + 1, 0, none⟩) a.length (smF a y (down a.length)).1) ∧ w' = W.drewN k) := Lib.hid (fun k => by
      have := trim_det (some ⟨w.heap.size + 1 + 1, 0, none⟩) a.length (smF a y (down a.length)).1 (W.drewN k) (Kd.C_drewN (Kd.R_reads' hR).2.2 k) (by omega) hok.1 (by omega)
      rw [hlen] at this
      exact this)
    have hrr : Hid ((smF a y (plc ys)).2 = (smF a y (down a.length)).2) := Lib.hid (by rw [hdn])
    clear hR hrow hB hK hok hlt
    gi_wp2
    refine region_quiet_round (by kernel_rfl) (by assumption) (by kernel_rfl) ?_
    repeat (gi_big_quiet_step (fail))
    refine BigFrame.wpQuietIn_want (fun _ _ _ _ => trivial) rfl ?_
    intro K hK
    gi_big_quiet_op
    gi_big_quiet_call (first | (gi_at_call 60; exact CallsIn.quiet_of_same (callsIn_wide.2 (HT.out _))))
    repeat (gi_big_quiet_step (fail))
    refine wpQuietIn_nil ?_
    rintro w' ⟨nq, rfl⟩
    gi_wp2
    refine ⟨by simp, .inl ⟨_, _, rfl, run_takeDeferred (show (W.drewN nq).heap[D]? = _ from HK.out), ?_⟩⟩
    have hof := ownsRow_putObj (pw_own_drewN HRW.out nq) (.deferred none) (show (W.drewN nq).heap[D]? = _ from HK.out) rfl
    rw [HDN.out] at hof
    refine ⟨_, results_tmp2 rfl _ _ _, _, rfl, trimV_R (Kd.R_of_own (enc := Value.int .u32) ?_ (fun _ _ => trivial)) HOK.out HLT.out.1 HLT.out.2, (pw_below_drewN HB.out nq).trans (belowK_b (w := w) (Nat.le_refl _) _ D _ _ (by have := HB0.out.size; omega) (show (W.drewN nq).heap[D]? = _ from HK.out) rfl rfl)⟩
    rw [HLEN.out]
    exact hof
  case stop =>
    rintro D c pre W _ _ h _
    exact h.elim
theorem nat_num_small.calls (A0 : Option Addr) (c0 : Nat) (l0 : List Int) (a1 : Int) (r1 : List Int) (r2 : Int) (w : World) (hr0 : Kd.C (Kd.int .u32) w A0 l0.length l0) (hc0 : l0.length ≤ c0) (h : nat_num_small.f l0 a1 = some (r1, r2)) :
    Calls Tryd.prog 61 #[.slice A0 l0.length c0, .int .u32 a1] w fun e w' => ∃ v0_ : Value, e = .returned (.tuple #[v0_, .int .u32 r2]) ∧ Kd.R (Kd.int .u32) 63 w' w.heap.size (fun _ => True) v0_ r1 ∧ Below w.heap.size w w' := by
  unfold nat_num_small.f at h
  by_cases hc : okL l0 ∧ l0.length ≤ 1073741824 ∧ 0 < a1 ∧ a1 < 4294967296
  case neg => rw [if_neg hc] at h; cases h
  rw [if_pos hc] at h
  simp only [Option.some.injEq, Prod.mk.injEq] at h
  obtain ⟨rfl, rfl⟩ := h
  obtain ⟨h1, h2, h3, h4⟩ := hc
  have hv := sm_val h1 h3 h4
  have := callsIn_wide.1 (small_in 6 (Nat.le_refl _) A0 c0 l0 a1 w hr0 hc0 h1 h2 h3 h4)
  rw [hv.1, hv.2] at this
  exact this
end Go.Proofs.YtdgebcgcabhjoaaDoor.P
-- Written by a program for this claim. Not trusted: Lean checks it.
namespace Go.Proofs.YtdgebcgcabhjoaaDoor.P
open Go.RowKit Go.Proofs.YtdgebcgcabhjoaaDoorW.PrintWords Go.Proofs.YtdgebcgcabhjoaaDoorW.PrintLast Go.Proofs.YtdgebcgcabhjoaaDoorW.PrintMore
attribute [local go_sem] max2_int min2_int max_two min_two max_three min_three max_four min_four   -- for this text's walks alone
set_option linter.unusedVariables false
set_option linter.unusedSimpArgs false

/-! ### nat_guess: function 69 -/
mutual
def nat_guess.l0 : Nat → Int → Int → Int → Int → Int → Option (Int)
  | 0, _, _, _, _, _ => none
  | k + 1, x2, x3, x4, x12, x13 => if (x12 / 4294967296) > 0 then (nat_guess.j1 k x2 x3 x4 x12 x13 true) else (nat_guess.j1 k x2 x3 x4 x12 x13 (decide ((IntKind.u64.wrap (x12 * (IntKind.u64.wrap (x4)))) > (Go.bits .or .u64 (IntKind.u64.wrap (x13 * 4294967296)) (IntKind.u64.wrap (x2))))))
def nat_guess.j1 : Nat → Int → Int → Int → Int → Int → Bool → Option (Int)
  | 0, _, _, _, _, _, _ => none
  | k + 1, x2, x3, x4, x12, x13, x42 => if x42 = true then (if ((IntKind.u64.wrap (x13 + (IntKind.u64.wrap (x3)))) / 4294967296) > 0 then (some (IntKind.u64.wrap (x12 - 1))) else (nat_guess.l0 k x2 x3 x4 (IntKind.u64.wrap (x12 - 1)) (IntKind.u64.wrap (x13 + (IntKind.u64.wrap (x3)))))) else (some x12)
end
def nat_guess.f (k : Nat) (a0 : Int) (a1 : Int) (a2 : Int) (a3 : Int) (a4 : Int) : Option (Int) := if (IntKind.u64.wrap (a3)) = 0 then (none) else (nat_guess.l0 k a2 a3 a4 (IntKind.u64.wrap (Int.tdiv (Go.bits .or .u64 (IntKind.u64.wrap ((IntKind.u64.wrap (a0)) * 4294967296)) (IntKind.u64.wrap (a1))) (IntKind.u64.wrap (a3)))) (Int.tmod (Go.bits .or .u64 (IntKind.u64.wrap ((IntKind.u64.wrap (a0)) * 4294967296)) (IntKind.u64.wrap (a1))) (IntKind.u64.wrap (a3))))
theorem nat_guess.mono_l : ∀ k, (∀ y0 y1 y2 y3 y4, LeO (nat_guess.l0 k y0 y1 y2 y3 y4) (nat_guess.l0 (k + 1) y0 y1 y2 y3 y4)) ∧ (∀ y0 y1 y2 y3 y4 y5, LeO (nat_guess.j1 k y0 y1 y2 y3 y4 y5) (nat_guess.j1 (k + 1) y0 y1 y2 y3 y4 y5))
  | 0 => ⟨fun _ _ _ _ _ r h => by simp [nat_guess.l0] at h, fun _ _ _ _ _ _ r h => by simp [nat_guess.j1] at h⟩
  | k + 1 => by
    obtain ⟨ih0, ih1⟩ := nat_guess.mono_l k
    refine ⟨?_, ?_⟩
    · intro y0 y1 y2 y3 y4
      unfold nat_guess.l0
      repeat' first
      | (with_reducible exact ih0 _ _ _ _ _)
      | (with_reducible exact ih1 _ _ _ _ _ _)
      | (with_reducible exact LeO.refl _)
      | (with_reducible exact LeO.none _)
      | (with_reducible refine LeO.ite ?_ ?_)
      | (with_reducible refine LeO.bind ?_ (fun _ => ?_))
      | exact ih0 _ _ _ _ _
      | exact ih1 _ _ _ _ _ _
      | exact LeO.none _
      | refine LeO.ite ?_ ?_
      | refine LeO.bind ?_ (fun _ => ?_)
    · intro y0 y1 y2 y3 y4 y5
      unfold nat_guess.j1
      repeat' first
      | (with_reducible exact ih0 _ _ _ _ _)
      | (with_reducible exact ih1 _ _ _ _ _ _)
      | (with_reducible exact LeO.refl _)
      | (with_reducible exact LeO.none _)
      | (with_reducible refine LeO.ite ?_ ?_)
      | (with_reducible refine LeO.bind ?_ (fun _ => ?_))
      | exact ih0 _ _ _ _ _
      | exact ih1 _ _ _ _ _ _
      | exact LeO.none _
      | refine LeO.ite ?_ ?_
      | refine LeO.bind ?_ (fun _ => ?_)
theorem nat_guess.mono : ∀ a0 a1 a2 a3 a4 k, LeO (nat_guess.f k a0 a1 a2 a3 a4) (nat_guess.f (k + 1) a0 a1 a2 a3 a4) := by
  intro a0 a1 a2 a3 a4 k
  obtain ⟨ih0, ih1⟩ := nat_guess.mono_l k
  unfold nat_guess.f
  repeat' first
      | (with_reducible exact ih0 _ _ _ _ _)
      | (with_reducible exact ih1 _ _ _ _ _ _)
      | (with_reducible exact LeO.refl _)
      | (with_reducible exact LeO.none _)
      | (with_reducible refine LeO.ite ?_ ?_)
      | (with_reducible refine LeO.bind ?_ (fun _ => ?_))
      | exact ih0 _ _ _ _ _
      | exact ih1 _ _ _ _ _ _
      | exact LeO.none _
      | refine LeO.ite ?_ ?_
      | refine LeO.bind ?_ (fun _ => ?_)
set_option maxHeartbeats 8000000 in
set_option maxRecDepth 100000 in
theorem nat_guess.calls (k : Nat) (a0 : Int) (a1 : Int) (a2 : Int) (a3 : Int) (a4 : Int) (r : Int) (w : World) (h : nat_guess.f k a0 a1 a2 a3 a4 = some r) :
    Calls Tryd.prog 69 #[.int .u32 a0, .int .u32 a1, .int .u32 a2, .int .u32 a3, .int .u32 a4] w fun e w' => e = .returned (.int .u64 r) ∧ Drawn0 w w' := by
  have H : (if (IntKind.u64.wrap (a3)) = 0 then (none) else (nat_guess.l0 k a2 a3 a4 (IntKind.u64.wrap (Int.tdiv (Go.bits .or .u64 (IntKind.u64.wrap ((IntKind.u64.wrap (a0)) * 4294967296)) (IntKind.u64.wrap (a1))) (IntKind.u64.wrap (a3)))) (Int.tmod (Go.bits .or .u64 (IntKind.u64.wrap ((IntKind.u64.wrap (a0)) * 4294967296)) (IntKind.u64.wrap (a1))) (IntKind.u64.wrap (a3))))) = some r := h
  clear h
  by_cases c6 : (IntKind.u64.wrap (a3)) = 0
  · rw [if_pos c6] at H
    exact absurd H (by simp)
  · rw [if_neg c6] at H
    have c6b0 : ((IntKind.u64.wrap (a3)) == 0) = false := beq_eq_false_iff_ne.mpr c6
    have c6b1 : ((IntKind.u64.wrap (a3)) != 0) = true := bne_iff_ne.mpr c6
    have H' := Aside0.mk H
    clear H
    go_enter Tryd.func69, Tryd.ntmps69
    go_wp2
    repeat (go_quiet (fail); try go_wp2)
    go_loopg [12, 13] k (fun kq v12 v13 w' => ∃ (x12_1 : Int) (x13_1 : Int), v12 = .int .u64 x12_1 ∧ v13 = .int .u64 x13_1 ∧ Aside0 (nat_guess.l0 kq a2 a3 a4 x12_1 x13_1 = some r) ∧ Aside0 (kq ≤ k) ∧ Drawn0 w w')
    case atStart => exact ⟨(IntKind.u64.wrap (Int.tdiv (Go.bits .or .u64 (IntKind.u64.wrap ((IntKind.u64.wrap (a0)) * 4294967296)) (IntKind.u64.wrap (a1))) (IntKind.u64.wrap (a3)))), (Int.tmod (Go.bits .or .u64 (IntKind.u64.wrap ((IntKind.u64.wrap (a0)) * 4294967296)) (IntKind.u64.wrap (a1))) (IntKind.u64.wrap (a3))), (by first | rfl | (simp; done) | (simp [*]; done)), (by first | rfl | (simp; done) | (simp [*]; done)), H', ⟨Nat.le_refl _⟩, by repeat (first | exact Drawn0.refl _ | apply Drawn0.step)⟩
    case round =>
      clear H'
      try clear p2
      try clear c6
      try clear c6b0
      try clear c6b1
      obtain ⟨x12_1, x13_1, rfl, rfl, HA, HK1, ⟨m1, rfl⟩⟩ := hrel
      cases gk with
      | zero => exact absurd HA.out (by simp [nat_guess.l0])
      | succ k1 =>
        have H := HA.out
        clear HA
        simp only [nat_guess.l0] at H
        have HC7 := Aside0.mk H
        clear H
        go_upto_region 3 with (fail)
        repeat (go_quiet (fail); go_upto_region 3 with (fail))
        go_cut [42] (fun v42 wc => ∃ (kq : Nat) (x42_6 : Bool), v42 = .bool x42_6 ∧ Aside0 (nat_guess.j1 kq a2 a3 a4 x12_1 x13_1 x42_6 = some r) ∧ Aside0 (kq ≤ k1) ∧ Drawn0 w wc)
        case first =>
          have H := HC7.out
          clear HC7
          by_cases c8 : (x12_1 / 4294967296) > 0
          · rw [if_pos c8] at H
            have c8b0 : decide (0 < (x12_1 / 4294967296)) = true := decide_eq_true c8
            clear c8
            (first | rw [c8b0] | (simp only [i64_w, i32_w]; rw [c8b0]) | skip)
            have H' := Aside0.mk H
            clear H
            go_wp2
            repeat (go_quiet (fail); try go_wp2)
            go_meet
            case rel => exact ⟨_, (true), (by first | rfl | (simp; done) | (simp [*]; done)), H', ⟨by have := HK1.out; first | omega | exact Nat.le_refl _⟩, by repeat (first | exact Drawn0.refl _ | apply Drawn0.step)⟩
          · rw [if_neg c8] at H
            have c8b0 : decide (0 < (x12_1 / 4294967296)) = false := decide_eq_false c8
            clear c8
            (first | rw [c8b0] | (simp only [i64_w, i32_w]; rw [c8b0]) | skip)
            have H' := Aside0.mk H
            clear H
            go_wp2
            repeat (go_quiet (fail); try go_wp2)
            go_meet
            case rel => exact ⟨_, (decide ((IntKind.u64.wrap (x12_1 * (IntKind.u64.wrap (a4)))) > (Go.bits .or .u64 (IntKind.u64.wrap (x13_1 * 4294967296)) (IntKind.u64.wrap (a2))))), (by first | rfl | (simp; done) | (simp [*]; done)), H', ⟨by have := HK1.out; first | omega | exact Nat.le_refl _⟩, by repeat (first | exact Drawn0.refl _ | apply Drawn0.step)⟩
        case rest =>
          clear HC7
          try clear p2
          try clear c6
          try clear c6b0
          try clear c6b1
          try clear c8
          try clear c8b0
          try clear p2
          obtain ⟨kq, x42_6, rfl, HA, HJ6, ⟨mc6, rfl⟩⟩ := hcut
          cases kq with
          | zero => exact absurd HA.out (by simp [nat_guess.j1])
          | succ kj6 =>
            have H := HA.out
            clear HA
            simp only [nat_guess.j1] at H
            by_cases c9 : x42_6 = true
            · subst c9
              have H1 : (if ((IntKind.u64.wrap (x13_1 + (IntKind.u64.wrap (a3)))) / 4294967296) > 0 then (some (IntKind.u64.wrap (x12_1 - 1))) else (nat_guess.l0 kj6 a2 a3 a4 (IntKind.u64.wrap (x12_1 - 1)) (IntKind.u64.wrap (x13_1 + (IntKind.u64.wrap (a3)))))) = some r := by rw [if_pos rfl] at H; exact H
              clear H
              have H := H1
              clear H1
              by_cases c10 : ((IntKind.u64.wrap (x13_1 + (IntKind.u64.wrap (a3)))) / 4294967296) > 0
              · rw [if_pos c10] at H
                have c10b0 : decide (0 < ((IntKind.u64.wrap (x13_1 + (IntKind.u64.wrap (a3)))) / 4294967296)) = true := decide_eq_true c10
                clear c10
                obtain rfl := Option.some.inj H
                go_wp2
                repeat (go_quiet (fail); try go_wp2)
                go_ret
                exact ⟨by first | rfl | (simp; done) | (simp [*]; done), by repeat (first | exact Drawn0.refl _ | apply Drawn0.step)⟩
              · rw [if_neg c10] at H
                have c10b0 : decide (0 < ((IntKind.u64.wrap (x13_1 + (IntKind.u64.wrap (a3)))) / 4294967296)) = false := decide_eq_false c10
                clear c10
                have H' := Aside0.mk H
                clear H
                go_wp2
                repeat (go_quiet (fail); try go_wp2)
                go_roundg kj6
                case measure => have := HK1.out; have := HJ6.out; omega
                case rel => exact ⟨(IntKind.u64.wrap (x12_1 - 1)), (IntKind.u64.wrap (x13_1 + (IntKind.u64.wrap (a3)))), (by first | rfl | (simp; done) | (simp [*]; done)), (by first | rfl | (simp; done) | (simp [*]; done)), H', ⟨by have := HK1.out; have := HJ6.out; omega⟩, by repeat (first | exact Drawn0.refl _ | apply Drawn0.step)⟩
            · replace c9 := Bool.eq_false_iff.mpr c9
              subst c9
              have H1 : (some x12_1) = some r := by rw [if_neg (show ¬ (false = true) by decide)] at H; exact H
              clear H
              have H := H1
              clear H1
              obtain rfl := Option.some.inj H
              go_wp2
              repeat (go_quiet (fail); try go_wp2)
              go_ret
              exact ⟨by first | rfl | (simp; done) | (simp [*]; done), by repeat (first | exact Drawn0.refl _ | apply Drawn0.step)⟩

end Go.Proofs.YtdgebcgcabhjoaaDoor.P
-- Written by a program for this claim. Not trusted: Lean checks it.
namespace Go.Proofs.YtdgebcgcabhjoaaDoor.P
open Go.RowKit Go.Proofs.YtdgebcgcabhjoaaDoorW.PrintWords Go.Proofs.YtdgebcgcabhjoaaDoorW.PrintLast Go.Proofs.YtdgebcgcabhjoaaDoorW.PrintMore
attribute [local go_sem] max2_int min2_int max_two min_two max_three min_three max_four min_four   -- for this text's walks alone
set_option linter.unusedVariables false
set_option linter.unusedSimpArgs false

/-! ### nat_num_right: function 72 -/
def nat_num_right.l0 : Nat → List Int → Int → List Int → List Int → Int → Int → Option (List Int)
  | 0, _, _, _, _, _, _ => none
  | k + 1, x0, x1, x5, x11, x12, x13 => if x13 < x12 then (if 0 ≤ x13 then (if x13 < (x11.length : Int) then (if 0 ≤ x1 then (if x13 < (x5.length : Int) then ((some (x5.set (x13 : Int).toNat (shr .u32 (rd x11 x13) x1) : List Int)).bind fun y133 => (if (wrap64 (x13 + 1)) < (x0.length : Int) then (if 0 ≤ (wrap64 (x13 + 1)) then (if 0 ≤ (wrap64 (32 - x1)) then (nat_num_right.l0 k x0 x1 (y133.set (x13 : Int).toNat (Go.bits .or .u32 (rd y133 x13) ((shl .u64 (IntKind.u64.wrap (rd x0 (wrap64 (x13 + 1)))) (wrap64 (32 - x1))) % 4294967296))) x11 x12 (wrap64 (x13 + 1))) else (none)) else (none)) else (nat_num_right.l0 k x0 x1 y133 x11 x12 (wrap64 (x13 + 1))))) else (none)) else (none)) else (none)) else (none)) else ((nat_num_trim.f x5).bind fun t137 => (some t137))
def nat_num_right.f (k : Nat) (l0 : List Int) (a1 : Int) : Option (List Int) := if 0 ≤ (l0.length : Int) then (if ((l0.length : Int) : Int).toNat ≤ 70368744177664 then (nat_num_right.l0 k l0 a1 (List.replicate ((l0.length : Int) : Int).toNat 0) l0 (l0.length : Int) 0) else (none)) else (none)
theorem nat_num_right.mono_l : ∀ k, (∀ y0 y1 y2 y3 y4 y5, LeO (nat_num_right.l0 k y0 y1 y2 y3 y4 y5) (nat_num_right.l0 (k + 1) y0 y1 y2 y3 y4 y5))
  | 0 => fun _ _ _ _ _ _ r h => by simp [nat_num_right.l0] at h
  | k + 1 => by
    have ih0 := nat_num_right.mono_l k
    · intro y0 y1 y2 y3 y4 y5
      unfold nat_num_right.l0
      repeat' first
      | (with_reducible exact ih0 _ _ _ _ _ _)
      | (with_reducible exact LeO.refl _)
      | (with_reducible exact LeO.none _)
      | (with_reducible refine LeO.ite ?_ ?_)
      | (with_reducible refine LeO.bind ?_ (fun _ => ?_))
      | exact ih0 _ _ _ _ _ _
      | exact LeO.none _
      | refine LeO.ite ?_ ?_
      | refine LeO.bind ?_ (fun _ => ?_)
theorem nat_num_right.mono : ∀ a0 a1 k, LeO (nat_num_right.f k a0 a1) (nat_num_right.f (k + 1) a0 a1) := by
  intro a0 a1 k
  have ih0 := nat_num_right.mono_l k
  unfold nat_num_right.f
  repeat' first
      | (with_reducible exact ih0 _ _ _ _ _ _)
      | (with_reducible exact LeO.refl _)
      | (with_reducible exact LeO.none _)
      | (with_reducible refine LeO.ite ?_ ?_)
      | (with_reducible refine LeO.bind ?_ (fun _ => ?_))
      | exact ih0 _ _ _ _ _ _
      | exact LeO.none _
      | refine LeO.ite ?_ ?_
      | refine LeO.bind ?_ (fun _ => ?_)
def nat_num_right.T7 : Bool × List (List Nat × List Nat) := (true, [([], []), ([], []), ([0, 1], [0, 1]), ([2], [2]), ([], []), ([], []), ([5], [5]), ([4, 6], [4, 6]), ([7], [7]), ([8], [8]), ([], []), ([10], [10]), ([9, 11], [9, 11]), ([12], [12]), ([3, 13], [3, 13]), ([0, 1, 0, 1, 2, 3, 4, 5, 6, 7, 8, 9, 10, 11, 12, 13, 14], [0, 1]), ([15, 14, 0, 1, 2, 3, 4, 5, 6, 7, 8, 9, 10, 11, 12, 13, 14], [14, 15])])
def nat_num_right.B7 : List Nat := [0, 0, 3, 7, 0, 0, 32, 112, 240, 496, 0, 1024, 4080, 8176, 16383, 32767, 65535]
theorem nat_num_right.tab7 : rtab .any (opsOf Tryd.f72 7) = nat_num_right.T7 := by kernel_rfl
theorem nat_num_right.bits7 : waitsOk nat_num_right.T7.2 nat_num_right.B7 = true := by kernel_rfl
set_option maxHeartbeats 8000000 in
set_option maxRecDepth 100000 in
theorem nat_num_right.calls (k : Nat) (A0 : Option Addr) (c0 : Nat) (l0 : List Int) (a1 : Int) (r : List Int) (w : World) (hr0 : Kd.C (Kd.int .u32) w A0 l0.length l0) (hc0 : l0.length ≤ c0) (h : nat_num_right.f k l0 a1 = some r) :
    Calls Tryd.prog 72 #[.slice A0 l0.length c0, .int .i64 a1] w fun e w' => ∃ v0_ : Value, e = .returned (v0_) ∧ Kd.R (Kd.int .u32) 63 w' w.heap.size (fun _ => True) v0_ r ∧ Below w.heap.size w w' := by
  have HR0 := Aside0.mk hr0
  have HC0 := Aside0.mk hc0
  clear hr0 hc0
  have HB := Aside0.mk (Below.refl w.heap.size w)
  have H : (if 0 ≤ (l0.length : Int) then (if ((l0.length : Int) : Int).toNat ≤ 70368744177664 then (nat_num_right.l0 k l0 a1 (List.replicate ((l0.length : Int) : Int).toNat 0) l0 (l0.length : Int) 0) else (none)) else (none)) = some r := h
  clear h
  by_cases c3 : 0 ≤ (l0.length : Int)
  · rw [if_pos c3] at H
    have c3b0 := eq_true c3
    have c3b1 : decide (0 ≤ (l0.length : Int)) = true := decide_eq_true c3
    clear c3
    by_cases c4 : ((l0.length : Int) : Int).toNat ≤ 70368744177664
    · rw [if_pos c4] at H
      have c4b0 := eq_true c4
      have c4b1 : decide (((l0.length : Int) : Int).toNat ≤ 70368744177664) = true := decide_eq_true c4
      clear c4
      obtain ⟨y129, hy129⟩ : ∃ y_ : List Int, y_ = (List.replicate ((l0.length : Int) : Int).toNat 0) := ⟨_, rfl⟩
      replace H : (nat_num_right.l0 k l0 a1 y129 l0 (l0.length : Int) 0) = some r := by first | (rw [hy129]; with_reducible exact H) | (have H2_ := (Option.bind_some _ _).symm.trans H; rw [hy129]; with_reducible exact H2_) | (have H2_ := (Option.bind_some _ _).symm.trans H; with_reducible exact H2_) | with_reducible exact H | (rw [hy129]; exact H) | exact H
      have Ny129 := Aside0.mk hy129
      clear hy129
      have H' := Aside0.mk H
      clear H
      go_enter Tryd.func72, Tryd.ntmps72
      go_wp2_with (first | ((with_reducible refine gate_dst (N := 10) rfl ?_); refine Kd.R_make (Kd.int .u32) _ 63 rfl (N := 10) rfl 97 _ _ rfl (l0.length : Int) rfl rfl Tryd.underlying97 (.int .u32 0) 4 info63 rfl (by decide) (by omega) 0 (ok := fun _ => True) (okp := fun _ => True) rfl (fun _ hk => hk) trivial (of_decide_eq_true (by first | (with_reducible assumption) | assumption)) (Nat.le_trans (Nat.mul_le_mul_right _ (of_decide_eq_true (by first | (with_reducible assumption) | assumption) : (l0.length : Int).toNat ≤ 70368744177664)) (by omega)) (Below.refl _ _) (Nat.le_refl _) ?_; intro v130 w5 ho6 hb hg_ hnew_; clear hg_ hnew_; (first | rw [← Ny129.out] at ho6 | (simp only [Int.reduceToNat] at ho6; rw [← Ny129.out] at ho6)); have n0_ := Aside0.mk (Kd.R_lower ho6 (below_size (by repeat (first | (with_reducible first | exact HB.out | apply below_alloc | apply pw_below_drewN | apply below_drew1) | exact HB.out)))); have n1_ := Aside0.mk (below_step (by repeat (first | (with_reducible first | exact HB.out | apply below_alloc | apply pw_below_drewN | apply below_drew1) | exact HB.out)) hb); clear HB; have HO131 := n0_; have HB := n1_; clear n0_ n1_; clear hb ho6))
      go_loopg [13] k (fun kq v13 w' => ∃ (x5_1 : List Int) (x13_1 : Int), v13 = .int .i64 x13_1 ∧ Aside0 (nat_num_right.l0 kq l0 a1 x5_1 l0 (l0.length : Int) x13_1 = some r) ∧ Aside0 (kq ≤ k) ∧ Aside0 (Kd.R (Kd.int .u32) 63 w' w.heap.size (fun _ => True) v130 x5_1) ∧ Aside0 (Below w.heap.size w w'))
      case atStart => exact ⟨(y129), (0), (by first | rfl | (simp; done) | (simp [*]; done)), H', ⟨Nat.le_refl _⟩, ⟨by (with_reducible repeat (first | apply Kd.R_alloc | apply Kd.R_drewN | apply Kd.R_drew)); exact HO131.out⟩, ⟨by repeat (first | (with_reducible first | exact HB.out | apply below_alloc | apply pw_below_drewN | apply below_drew1) | exact HB.out)⟩⟩
      case round =>
        clear H'
        try clear p2
        try clear c3
        try clear c3b0
        try clear c3b1
        try clear c4
        try clear c4b0
        try clear c4b1
        obtain ⟨x5_1, x13_1, rfl, HA, HK1, HO_5, HB⟩ := hrel
        cases gk with
        | zero => exact absurd HA.out (by simp [nat_num_right.l0])
        | succ k1 =>
          have H := HA.out
          clear HA
          simp only [nat_num_right.l0] at H
          by_cases c7 : x13_1 < (l0.length : Int)
          · rw [if_pos c7] at H
            have c7b0 : decide (x13_1 < (l0.length : Int)) = true := decide_eq_true c7
            clear c7
            by_cases c8 : 0 ≤ x13_1
            · rw [if_pos c8] at H
              have c8b0 : decide (0 ≤ x13_1) = true := decide_eq_true c8
              clear c8
              by_cases c9 : x13_1 < (l0.length : Int)
              · rw [if_pos c9] at H
                have c9b0 : decide (x13_1 < (l0.length : Int)) = true := decide_eq_true c9
                clear c9
                by_cases c10 : 0 ≤ a1
                · rw [if_pos c10] at H
                  have c10b0 := eq_true c10
                  have c10b1 : decide (0 ≤ a1) = true := decide_eq_true c10
                  clear c10
                  obtain ⟨ji11, hji11⟩ : ∃ j_ : Int, (shr .u32 (rd l0 x13_1) a1) = j_ := ⟨_, rfl⟩
                  replace H : (if x13_1 < (x5_1.length : Int) then ((some (x5_1.set (x13_1 : Int).toNat (ji11) : List Int)).bind fun y133 => (if (wrap64 (x13_1 + 1)) < (l0.length : Int) then (if 0 ≤ (wrap64 (x13_1 + 1)) then (if 0 ≤ (wrap64 (32 - a1)) then (nat_num_right.l0 k1 l0 a1 (y133.set (x13_1 : Int).toNat (Go.bits .or .u32 (rd y133 x13_1) ((shl .u64 (IntKind.u64.wrap (rd l0 (wrap64 (x13_1 + 1)))) (wrap64 (32 - a1))) % 4294967296))) l0 (l0.length : Int) (wrap64 (x13_1 + 1))) else (none)) else (none)) else (nat_num_right.l0 k1 l0 a1 y133 l0 (l0.length : Int) (wrap64 (x13_1 + 1))))) else (none)) = some r := by first | (rw [hji11] at H; exact H) | (simp only [hji11] at H ⊢; exact H)
                  have hji11_ : ((rd l0 x13_1) / 2 ^ min a1.toNat 32) = ji11 := hji11
                  have hji11z : a1 ≤ 32 → ((rd l0 x13_1) / 2 ^ a1.toNat) = ji11 := shr_small hji11
                  by_cases c12 : x13_1 < (x5_1.length : Int)
                  · rw [if_pos c12] at H
                    have c12b0 : decide (x13_1 < (x5_1.length : Int)) = true := decide_eq_true c12
                    clear c12
                    obtain ⟨y133, hy133⟩ : ∃ y_ : List Int, y_ = (x5_1.set (x13_1 : Int).toNat (ji11)) := ⟨_, rfl⟩
                    replace H : (if (wrap64 (x13_1 + 1)) < (l0.length : Int) then (if 0 ≤ (wrap64 (x13_1 + 1)) then (if 0 ≤ (wrap64 (32 - a1)) then (nat_num_right.l0 k1 l0 a1 (y133.set (x13_1 : Int).toNat (Go.bits .or .u32 (rd y133 x13_1) ((shl .u64 (IntKind.u64.wrap (rd l0 (wrap64 (x13_1 + 1)))) (wrap64 (32 - a1))) % 4294967296))) l0 (l0.length : Int) (wrap64 (x13_1 + 1))) else (none)) else (none)) else (nat_num_right.l0 k1 l0 a1 y133 l0 (l0.length : Int) (wrap64 (x13_1 + 1)))) = some r := by first | (rw [hy133]; with_reducible exact H) | (have H2_ := (Option.bind_some _ _).symm.trans H; rw [hy133]; with_reducible exact H2_) | (have H2_ := (Option.bind_some _ _).symm.trans H; with_reducible exact H2_) | with_reducible exact H | (rw [hy133]; exact H) | exact H
                    have Ny133 := Aside0.mk hy133
                    clear hy133
                    by_cases c14 : (wrap64 (x13_1 + 1)) < (l0.length : Int)
                    · rw [if_pos c14] at H
                      have c14b0 : decide ((wrap64 (x13_1 + 1)) < (l0.length : Int)) = true := decide_eq_true c14
                      clear c14
                      obtain ⟨ji15, hji15⟩ : ∃ j_ : Int, (wrap64 (x13_1 + 1)) = j_ := ⟨_, rfl⟩
                      replace H : (if 0 ≤ (ji15) then (if 0 ≤ (wrap64 (32 - a1)) then (nat_num_right.l0 k1 l0 a1 (y133.set (x13_1 : Int).toNat (Go.bits .or .u32 (rd y133 x13_1) ((shl .u64 (IntKind.u64.wrap (rd l0 (ji15))) (wrap64 (32 - a1))) % 4294967296))) l0 (l0.length : Int) ji15) else (none)) else (none)) = some r := by first | (rw [hji15] at H; exact H) | (simp only [hji15] at H ⊢; exact H)
                      (try rw [hji15] at c14b0)
                      have hji15w : (IntKind.i64.wrap (x13_1 + 1)) = ji15 := (i64_w _).trans hji15
                      by_cases c16 : 0 ≤ (ji15)
                      · rw [if_pos c16] at H
                        have c16b0 : decide (0 ≤ (ji15)) = true := decide_eq_true c16
                        clear c16
                        obtain ⟨ji17, hji17⟩ : ∃ j_ : Int, (wrap64 (32 - a1)) = j_ := ⟨_, rfl⟩
                        replace H : (if 0 ≤ (ji17) then (nat_num_right.l0 k1 l0 a1 (y133.set (x13_1 : Int).toNat (Go.bits .or .u32 (rd y133 x13_1) ((shl .u64 (IntKind.u64.wrap (rd l0 (ji15))) (ji17)) % 4294967296))) l0 (l0.length : Int) ji15) else (none)) = some r := by first | (rw [hji17] at H; exact H) | (simp only [hji17] at H ⊢; exact H)
                        have hji17w : (IntKind.i64.wrap (32 - a1)) = ji17 := (i64_w _).trans hji17
                        by_cases c18 : 0 ≤ (ji17)
                        · rw [if_pos c18] at H
                          have c18b0 := eq_true c18
                          have c18b1 : decide (0 ≤ (ji17)) = true := decide_eq_true c18
                          clear c18
                          obtain ⟨ji19, hji19⟩ : ∃ j_ : Int, (shl .u64 (IntKind.u64.wrap (rd l0 (ji15))) (ji17)) = j_ := ⟨_, rfl⟩
                          replace H : (nat_num_right.l0 k1 l0 a1 (y133.set (x13_1 : Int).toNat (Go.bits .or .u32 (rd y133 x13_1) ((ji19) % 4294967296))) l0 (l0.length : Int) ji15) = some r := by first | (rw [hji19] at H; exact H) | (simp only [hji19] at H ⊢; exact H)
                          have hji19_ : (IntKind.u64.wrap ((IntKind.u64.wrap (rd l0 (ji15))) * 2 ^ min (ji17).toNat 64)) = ji19 := hji19
                          have hji19z : (ji17) ≤ 64 → (IntKind.u64.wrap ((IntKind.u64.wrap (rd l0 (ji15))) * 2 ^ (ji17).toNat)) = ji19 := shl_small hji19
                          obtain ⟨y136, hy136⟩ : ∃ y_ : List Int, y_ = (y133.set (x13_1 : Int).toNat (Go.bits .or .u32 (rd y133 x13_1) ((ji19) % 4294967296))) := ⟨_, rfl⟩
                          replace H : (nat_num_right.l0 k1 l0 a1 y136 l0 (l0.length : Int) ji15) = some r := by first | (rw [hy136]; with_reducible exact H) | (have H2_ := (Option.bind_some _ _).symm.trans H; rw [hy136]; with_reducible exact H2_) | (have H2_ := (Option.bind_some _ _).symm.trans H; with_reducible exact H2_) | with_reducible exact H | (rw [hy136]; exact H) | exact H
                          have Ny136 := Aside0.mk hy136
                          clear hy136
                          have H' := Aside0.mk H
                          clear H
                          have p132 : 0 ≤ (x13_1 : Int) := of_decide_eq_true (by first | (with_reducible assumption) | assumption)
                          have q132 : x13_1 < (l0.length : Int) := of_decide_eq_true (by first | (with_reducible assumption) | assumption)
                          obtain ⟨ad132, e132, hx132_0⟩ := Kd.at_int HR0.out x13_1 p132 q132
                          cases e132
                          replace hx132_0 := (HB.out.cell (World.block_lt_of_cell? w _ hx132_0)).trans hx132_0
                          replace p132 := eq_true p132
                          replace q132 := eq_true q132
                          have p13 : 0 ≤ (x13_1 : Int) := of_decide_eq_true (by first | (with_reducible assumption) | assumption)
                          have q13 : (x13_1 : Int) < ((x5_1.length : Int) : Int) := of_decide_eq_true (by first | (with_reducible assumption) | assumption)
                          obtain ⟨go13, co13, eo13, gb13, gl13, cl13, HG13⟩ := Kd.R_form HO_5.out (by omega)
                          (first | cases eo13 | (injection eo13 with ea_ en_ ec_; (first | subst ea_ | (injection ea_ with ea_; subst ea_)); subst ec_; clear en_))
                          have GB13 := Aside0.mk gb13
                          have GG13 := Aside0.mk HG13
                          clear gb13 gl13 HG13
                          obtain ⟨hx13_0, hf13_0⟩ := Kd.R_celln 0 HO_5.out (x13_1 : Int) p13 q13
                          replace p13 := eq_true p13
                          replace q13 := eq_true q13
                          have HP21 := Kd.R_putg HO_5.out (x13_1 : Int) ji11
                          try go_wp2_with (first | ((with_reducible refine gate_store (t := 63) (p := 23) rfl ?_); refine store_event (t := 63) (p := 23) (v := ?vo_w22) (w1 := (wr.setCell ⟨go13, (x13_1 : Int).toNat, none⟩ (.int .u32 ji11))) ?hg ?ho ?hn ?hr ?_; (case ho => rfl); (case hg => rfl); (case hn => rfl); (case hr => first | (go_simp; done) | (go_simp; rfl)); intro w22 hw; have hg : wr.grownBy w22 (some go13) := (by rw [hw]; exact HP21.2); have hp_ : Kd.R (Kd.int .u32) 63 w22 w.heap.size (fun _ => True) (.slice (some ⟨go13, 0, none⟩) x5_1.length co13) y133 := (by rw [hw, Ny133.out]; exact HP21.1); clear HP21; have n0_ := Aside0.mk (hp_); have n1_ := Aside0.mk ((by rw [hw]; exact below_set (HB.out) GB13.out : Below w.heap.size w w22)); clear HO_5; clear HB; have HO_5 := n0_; have HB := n1_; clear n0_ n1_; clear hg hw hp_))
                          have n0_ := Aside0.mk (Kd.R_drew HO_5.out)
                          have n1_ := Aside0.mk (below_drew1 HB.out)
                          clear HO_5
                          clear HB
                          have HO_5 := n0_
                          have HB := n1_
                          clear n0_ n1_
                          have p134 : 0 ≤ (x13_1 : Int) := of_decide_eq_true (by first | (with_reducible assumption) | assumption)
                          have q134 : x13_1 < (y133.length : Int) := (by have h_ : (x13_1 : Int) < ((x5_1.length : Int) : Int) := of_decide_eq_true (by first | (with_reducible assumption) | assumption); first | (have e_ := (Kd.R_reads' HO_5.out).1; omega) | simpa only [Ny133.out, List.length_set] using h_)
                          have ql134 : ((x13_1 : Int) < ((x5_1.length : Int) : Int)) = True := eq_true (of_decide_eq_true (by first | (with_reducible assumption) | assumption))
                          obtain ⟨ad134, e134, hx134_0⟩ := Kd.at_int (Kd.R_reads' HO_5.out).2.2 x13_1 p134 q134
                          obtain rfl : (⟨go13, 0, none⟩ : Addr) = ad134 := (by injection e134)
                          (first | simp only [add_plain] at hx134_0 | simp only [add_at] at hx134_0 | simp only [Addr.add, Nat.zero_add] at hx134_0 | skip)
                          replace p134 := eq_true p134
                          replace q134 := eq_true q134
                          have p135 : 0 ≤ ((ji15) : Int) := of_decide_eq_true (by first | (with_reducible assumption) | assumption)
                          have q135 : (ji15) < (l0.length : Int) := of_decide_eq_true (by first | (with_reducible assumption) | assumption)
                          obtain ⟨ad135, e135, hx135_0⟩ := Kd.at_int HR0.out (ji15) p135 q135
                          have hw135_0 := hx135_0
                          obtain rfl : ad132 = ad135 := (by injection e135)
                          replace hx135_0 := (HB.out.cell (World.block_lt_of_cell? w _ hx135_0)).trans hx135_0
                          replace p135 := eq_true p135
                          replace q135 := eq_true q135
                          have p20 : 0 ≤ (x13_1 : Int) := of_decide_eq_true (by first | (with_reducible assumption) | assumption)
                          have q20 : (x13_1 : Int) < ((x5_1.length : Int) : Int) := of_decide_eq_true (by first | (with_reducible assumption) | assumption)
                          obtain ⟨hx20_0, hf20_0⟩ := Kd.R_celln 0 HO_5.out (x13_1 : Int) p20 q20
                          replace p20 := eq_true p20
                          replace q20 := eq_true q20
                          have HP24 := Kd.R_putn HO_5.out (x13_1 : Int) (Go.bits .or .u32 (rd y133 x13_1) ((ji19) % 4294967296))
                          rw [← Ny136.out] at HP24
                          have HQ24 := Aside0.mk HP24
                          clear HP24
                          refine start_ (n := 17) (S := fun w' => w'.cell? ⟨go13, (x13_1).toNat, none⟩ = some (.int .u32 (rd y133 x13_1)) ∧ w'.cell? (ad132.add ((ji15)).toNat) = some (.int .u32 (rd l0 (ji15)))) (ds := [16]) #[false, false, false, false, false, false, false, false, false, false, false, false, false, false, false, false, false] (by kernel_rfl) rfl rfl ⟨hx134_0, ((HB.out.cell (World.block_lt_of_cell? w _ hw135_0)).trans hw135_0)⟩ (fun hHeld => ?_); refine with_tabW nat_num_right.tab7 nat_num_right.bits7 (fun HT_ HW_ => ?_)
                          generalize w22.drew = w23 at HO_5 HB HQ24 hf20_0 hx134_0 hx135_0 hx20_0 hHeld ⊢
                          refine pure_ (i := 0) (N := some 29) (v := ?_) (a' := ?_) #[true, false, false, false, false, false, false, false, false, false, false, false, false, false, false, false, false] rfl rfl (any_of HT_.out (by kernel_rfl)) (fun _ _ _ h => h) (Or.inl ⟨by rfl, ?_⟩) ?_ ?_
                          rotate_left
                          · intro w'
                            go_simp
                            with_reducible rfl
                          rotate_left
                          · simp only [Act.put, List.setIfInBounds_toArray, List.set_cons_zero, List.set_cons_succ, i64_w, i32_w]
                            rfl
                          refine pure_ (i := 1) (N := some 30) (v := ?_) (a' := ?_) #[true, true, false, false, false, false, false, false, false, false, false, false, false, false, false, false, false] rfl rfl (any_of HT_.out (by kernel_rfl)) (fun _ _ _ h => h) (Or.inl ⟨by rfl, ?_⟩) ?_ ?_
                          rotate_left
                          · intro w'
                            go_simp
                            with_reducible rfl
                          rotate_left
                          · simp only [Act.put, List.setIfInBounds_toArray, List.set_cons_zero, List.set_cons_succ, i64_w, i32_w]
                            rfl
                          refine pure_ (i := 2) (N := some 31) (v := ?_) (a' := ?_) #[true, true, true, false, false, false, false, false, false, false, false, false, false, false, false, false, false] rfl rfl (any_of HT_.out (by kernel_rfl)) (fun _ _ _ h => h) (Or.inl ⟨by rfl, ?_⟩) ?_ ?_
                          rotate_left
                          · intro w'
                            go_simp
                            with_reducible rfl
                          rotate_left
                          · simp only [Act.put, List.setIfInBounds_toArray, List.set_cons_zero, List.set_cons_succ, i64_w, i32_w]
                            rfl
                          refine pure_ (i := 4) (N := some 33) (v := ?_) (a' := ?_) #[true, true, true, false, true, false, false, false, false, false, false, false, false, false, false, false, false] rfl rfl (any_of HT_.out (by kernel_rfl)) (fun _ _ _ h => h) (Or.inl ⟨by rfl, ?_⟩) ?_ ?_
                          rotate_left
                          · intro w'
                            go_simp
                            with_reducible rfl
                          rotate_left
                          · simp only [Act.put, List.setIfInBounds_toArray, List.set_cons_zero, List.set_cons_succ, i64_w, i32_w]
                            rfl
                          refine pure_ (i := 5) (N := some 34) (v := ?_) (a' := ?_) #[true, true, true, false, true, true, false, false, false, false, false, false, false, false, false, false, false] rfl rfl (any_of HT_.out (by kernel_rfl)) (fun _ _ _ h => h) (Or.inl ⟨by rfl, ?_⟩) ?_ ?_
                          rotate_left
                          · intro w'
                            go_simp
                            with_reducible rfl
                          rotate_left
                          · simp only [Act.put, List.setIfInBounds_toArray, List.set_cons_zero, List.set_cons_succ, i64_w, i32_w]
                            rfl
                          refine pure_ (i := 6) (N := some 35) (v := ?_) (a' := ?_) #[true, true, true, false, true, true, true, false, false, false, false, false, false, false, false, false, false] rfl rfl (any_of HT_.out (by kernel_rfl)) (fun _ _ _ h => h) (Or.inl ⟨by rfl, ?_⟩) ?_ ?_
                          rotate_left
                          · intro w'
                            go_simp
                            with_reducible rfl
                          rotate_left
                          · simp only [Act.put, List.setIfInBounds_toArray, List.set_cons_zero, List.set_cons_succ, i64_w, i32_w]
                            rfl
                          refine pure_ (i := 7) (N := some 36) (v := ?_) (a' := ?_) #[true, true, true, false, true, true, true, true, false, false, false, false, false, false, false, false, false] rfl rfl (any_of HT_.out (by kernel_rfl)) (fun _ _ _ h => h) (Or.inl ⟨by rfl, ?_⟩) ?_ ?_
                          rotate_left
                          · intro w'
                            go_simp
                            with_reducible rfl
                          rotate_left
                          · simp only [Act.put, List.setIfInBounds_toArray, List.set_cons_zero, List.set_cons_succ, i64_w, i32_w]
                            rfl
                          refine pure_ (i := 10) (N := some 39) (v := ?_) (a' := ?_) #[true, true, true, false, true, true, true, true, false, false, true, false, false, false, false, false, false] rfl rfl (any_of HT_.out (by kernel_rfl)) (fun _ _ _ h => h) (Or.inl ⟨by rfl, ?_⟩) ?_ ?_
                          rotate_left
                          · intro w'
                            go_simp
                            with_reducible rfl
                          rotate_left
                          · simp only [Act.put, List.setIfInBounds_toArray, List.set_cons_zero, List.set_cons_succ, i64_w, i32_w]
                            rfl
                          refine pure_ (i := 11) (N := some 40) (v := ?_) (a' := ?_) #[true, true, true, false, true, true, true, true, false, false, true, true, false, false, false, false, false] rfl rfl (any_of HT_.out (by kernel_rfl)) (fun _ _ _ h => h) (Or.inl ⟨by rfl, ?_⟩) ?_ ?_
                          rotate_left
                          · intro w'
                            go_simp
                            with_reducible rfl
                          rotate_left
                          · simp only [Act.put, List.setIfInBounds_toArray, List.set_cons_zero, List.set_cons_succ, i64_w, i32_w]
                            rfl
                          refine take_ (i := 3) (N := some 32) (v := ?_) (a' := ?_) #[true, true, true, true, true, true, true, true, false, false, true, true, false, false, false, false, false] rfl rfl (take_ofW HT_.out HW_.out (by kernel_rfl)) (fun _ _ _ h => h) (Or.inl ⟨by rfl, ?_⟩) hHeld ?_ ?_
                          rotate_left
                          · rintro w' ⟨s0, s1⟩
                            go_simp
                            with_reducible rfl
                          rotate_left
                          · simp only [Act.put, List.setIfInBounds_toArray, List.set_cons_zero, List.set_cons_succ, i64_w, i32_w]
                            rfl
                          refine take_ (i := 8) (N := some 37) (v := ?_) (a' := ?_) #[true, true, true, true, true, true, true, true, true, false, true, true, false, false, false, false, false] rfl rfl (take_ofW HT_.out HW_.out (by kernel_rfl)) (fun _ _ _ h => h) (Or.inl ⟨by rfl, ?_⟩) hHeld ?_ ?_
                          rotate_left
                          · rintro w' ⟨s0, s1⟩
                            go_simp
                            with_reducible rfl
                          rotate_left
                          · simp only [Act.put, List.setIfInBounds_toArray, List.set_cons_zero, List.set_cons_succ, i64_w, i32_w]
                            rfl
                          refine pure_ (i := 9) (N := some 38) (v := ?_) (a' := ?_) #[true, true, true, true, true, true, true, true, true, true, true, true, false, false, false, false, false] rfl rfl (any_of HT_.out (by kernel_rfl)) (fun _ _ _ h => h) (Or.inl ⟨by rfl, ?_⟩) ?_ ?_
                          rotate_left
                          · intro w'
                            go_simp
                            with_reducible rfl
                          rotate_left
                          · simp only [Act.put, List.setIfInBounds_toArray, List.set_cons_zero, List.set_cons_succ, i64_w, i32_w]
                            rfl
                          refine pure_ (i := 12) (N := some 41) (v := ?_) (a' := ?_) #[true, true, true, true, true, true, true, true, true, true, true, true, true, false, false, false, false] rfl rfl (any_of HT_.out (by kernel_rfl)) (fun _ _ _ h => h) (Or.inl ⟨by rfl, ?_⟩) ?_ ?_
                          rotate_left
                          · intro w'
                            go_simp
                            with_reducible rfl
                          rotate_left
                          · simp only [Act.put, List.setIfInBounds_toArray, List.set_cons_zero, List.set_cons_succ, i64_w, i32_w]
                            rfl
                          refine pure_ (i := 13) (N := some 42) (v := ?_) (a' := ?_) #[true, true, true, true, true, true, true, true, true, true, true, true, true, true, false, false, false] rfl rfl (any_of HT_.out (by kernel_rfl)) (fun _ _ _ h => h) (Or.inl ⟨by rfl, ?_⟩) ?_ ?_
                          rotate_left
                          · intro w'
                            go_simp
                            with_reducible rfl
                          rotate_left
                          · simp only [Act.put, List.setIfInBounds_toArray, List.set_cons_zero, List.set_cons_succ, i64_w, i32_w]
                            rfl
                          refine pure_ (i := 14) (N := some 43) (v := ?_) (a' := ?_) #[true, true, true, true, true, true, true, true, true, true, true, true, true, true, true, false, false] rfl rfl (any_of HT_.out (by kernel_rfl)) (fun _ _ _ h => h) (Or.inl ⟨by rfl, ?_⟩) ?_ ?_
                          rotate_left
                          · intro w'
                            go_simp
                            with_reducible rfl
                          rotate_left
                          · simp only [Act.put, List.setIfInBounds_toArray, List.set_cons_zero, List.set_cons_succ, i64_w, i32_w]
                            rfl
                          refine pure_ (i := 15) (N := some 44) (v := ?_) (a' := ?_) #[true, true, true, true, true, true, true, true, true, true, true, true, true, true, true, true, false] rfl rfl (any_of HT_.out (by kernel_rfl)) (fun _ _ _ h => h) (Or.inl ⟨by rfl, ?_⟩) ?_ ?_
                          rotate_left
                          · intro w'
                            go_simp
                            with_reducible rfl
                          rotate_left
                          · simp only [Act.put, List.setIfInBounds_toArray, List.set_cons_zero, List.set_cons_succ, i64_w, i32_w]
                            rfl
                          refine last_ (i := 16) (N := none) #[true, true, true, true, true, true, true, true, true, true, true, true, true, true, true, true, true] rfl rfl (one_of HT_.out (by kernel_rfl)) (by decide) (fun K hK => ?_)
                          refine skip_ (w1 := ?_) (by rfl) rfl ?_ ?_
                          rotate_left
                          · go_simp
                            rfl
                          refine hK.out _ _ ?_
                          clear hK K
                          refine done_ (done_of HT_.out (by kernel_rfl)) ?_
                          try go_wp2
                          go_roundg k1
                          case measure => have := HK1.out; omega
                          case rel => exact ⟨(y136), (ji15), (by first | rfl | (simp; done) | (simp only [← hji15] <;> (first | rfl | simp)) | (simp [*]; done)), H', ⟨by have := HK1.out; omega⟩, ⟨by (with_reducible repeat (first | apply Kd.R_alloc | apply Kd.R_drewN | apply Kd.R_drew)); exact HQ24.out⟩, ⟨by repeat (first | (with_reducible first | exact HB.out | apply below_alloc | apply pw_below_drewN | apply below_drew1 | refine below_set ?_ GB13.out) | exact HB.out)⟩⟩
                        · rw [if_neg c18] at H
                          exact absurd H (by simp)
                      · rw [if_neg c16] at H
                        exact absurd H (by simp)
                    · rw [if_neg c14] at H
                      have c14b0 : decide ((wrap64 (x13_1 + 1)) < (l0.length : Int)) = false := decide_eq_false c14
                      clear c14
                      have H' := Aside0.mk H
                      clear H
                      have p132 : 0 ≤ (x13_1 : Int) := of_decide_eq_true (by first | (with_reducible assumption) | assumption)
                      have q132 : x13_1 < (l0.length : Int) := of_decide_eq_true (by first | (with_reducible assumption) | assumption)
                      obtain ⟨ad132, e132, hx132_0⟩ := Kd.at_int HR0.out x13_1 p132 q132
                      cases e132
                      replace hx132_0 := (HB.out.cell (World.block_lt_of_cell? w _ hx132_0)).trans hx132_0
                      replace p132 := eq_true p132
                      replace q132 := eq_true q132
                      have p13 : 0 ≤ (x13_1 : Int) := of_decide_eq_true (by first | (with_reducible assumption) | assumption)
                      have q13 : (x13_1 : Int) < ((x5_1.length : Int) : Int) := of_decide_eq_true (by first | (with_reducible assumption) | assumption)
                      obtain ⟨go13, co13, eo13, gb13, gl13, cl13, HG13⟩ := Kd.R_form HO_5.out (by omega)
                      (first | cases eo13 | (injection eo13 with ea_ en_ ec_; (first | subst ea_ | (injection ea_ with ea_; subst ea_)); subst ec_; clear en_))
                      have GB13 := Aside0.mk gb13
                      have GG13 := Aside0.mk HG13
                      clear gb13 gl13 HG13
                      obtain ⟨hx13_0, hf13_0⟩ := Kd.R_celln 0 HO_5.out (x13_1 : Int) p13 q13
                      replace p13 := eq_true p13
                      replace q13 := eq_true q13
                      have HP25 := Kd.R_putg HO_5.out (x13_1 : Int) ji11
                      go_wp2_with (first | ((with_reducible refine gate_store (t := 63) (p := 23) rfl ?_); refine store_event (t := 63) (p := 23) (v := ?vo_w26) (w1 := (wr.setCell ⟨go13, (x13_1 : Int).toNat, none⟩ (.int .u32 ji11))) ?hg ?ho ?hn ?hr ?_; (case ho => rfl); (case hg => rfl); (case hn => rfl); (case hr => first | (go_simp; done) | (go_simp; rfl)); intro w26 hw; have hg : wr.grownBy w26 (some go13) := (by rw [hw]; exact HP25.2); have hp_ : Kd.R (Kd.int .u32) 63 w26 w.heap.size (fun _ => True) (.slice (some ⟨go13, 0, none⟩) x5_1.length co13) y133 := (by rw [hw, Ny133.out]; exact HP25.1); clear HP25; have n0_ := Aside0.mk (hp_); have n1_ := Aside0.mk ((by rw [hw]; exact below_set (HB.out) GB13.out : Below w.heap.size w w26)); clear HO_5; clear HB; have HO_5 := n0_; have HB := n1_; clear n0_ n1_; clear hg hw hp_))
                      go_roundg k1
                      case measure => have := HK1.out; omega
                      case rel => exact ⟨(y133), (wrap64 (x13_1 + 1)), (by first | rfl | (simp; done) | (simp [*]; done)), H', ⟨by have := HK1.out; omega⟩, ⟨by (with_reducible repeat (first | apply Kd.R_alloc | apply Kd.R_drewN | apply Kd.R_drew)); exact HO_5.out⟩, ⟨by repeat (first | (with_reducible first | exact HB.out | apply below_alloc | apply pw_below_drewN | apply below_drew1) | exact HB.out)⟩⟩
                  · rw [if_neg c12] at H
                    exact absurd H (by simp)
                · rw [if_neg c10] at H
                  exact absurd H (by simp)
              · rw [if_neg c9] at H
                exact absurd H (by simp)
            · rw [if_neg c8] at H
              exact absurd H (by simp)
          · rw [if_neg c7] at H
            have c7b0 : decide (x13_1 < (l0.length : Int)) = false := decide_eq_false c7
            clear c7
            replace H := Option.bind_eq_some_iff.mp H
            obtain ⟨t137, A270, H⟩ := H
            replace H : (some t137) = some r := H
            have A27 := Aside0.mk A270
            clear A270
            obtain rfl := Option.some.inj H
            obtain ⟨Ao28, co28, eo28⟩ := Kd.R_slice HO_5.out
            subst eo28
            go_wp2_with (first | ((with_reducible refine gate_callee (f := 60) rfl ?_); refine goesL_ (some 47) rfl rfl Tryd.func60 (by kernel_rfl) rfl #[.slice Ao28 x5_1.length co28] rfl (by (try simp only [List.map_toArray, List.map_cons, List.map_nil]); first | done | rfl | (simp only [List.length_drop, List.length_take]; rfl)) ?_; (with_reducible refine (nat_num_trim.calls (fun k_ => some k_ = (.slice Ao28 x5_1.length co28 : Value).ownBlock) (.slice Ao28 x5_1.length co28) x5_1 t137 w _ ?side1 ?side2 A27.out).mono ?_); (case side1 => repeat (first | (with_reducible first | exact HB.out | apply below_alloc | apply pw_below_drewN | apply below_drew1) | exact HB.out)); (case side2 => exact Kd.R_tight rfl HO_5.out); rintro e w29 ⟨v138, rfl, ho0, hb, hkp⟩; refine ⟨_, rfl, ?_⟩; have n0_ := Aside0.mk (Kd.R_mono (ok' := fun k_ => True) ho0 (fun k_ hk_ => trivial)); have n1_ := Aside0.mk (hb); clear HB; clear HO_5; have HO139 := n0_; have HB := n1_; clear n0_ n1_; (try clear hb); (try clear hkp); (try clear ho0)))
            go_ret
            exact ⟨_, by first | rfl | (simp [errW_none, errW_some] <;> rfl) | (simp [*, errW_none, errW_some] <;> rfl), by (with_reducible repeat (first | apply Kd.R_alloc | apply Kd.R_drewN | apply Kd.R_drew)); exact HO139.out, by repeat (first | (with_reducible first | exact HB.out | apply below_alloc | apply pw_below_drewN | apply below_drew1) | exact HB.out)⟩
    · rw [if_neg c4] at H
      exact absurd H (by simp)
  · rw [if_neg c3] at H
    exact absurd H (by simp)

end Go.Proofs.YtdgebcgcabhjoaaDoor.P
-- Written by a program for this claim. Not trusted: Lean checks it.
namespace Go.Proofs.YtdgebcgcabhjoaaDoor.P
open Go.RowKit Go.Proofs.YtdgebcgcabhjoaaDoorW.PrintWords Go.Proofs.YtdgebcgcabhjoaaDoorW.PrintLast Go.Proofs.YtdgebcgcabhjoaaDoorW.PrintMore
attribute [local go_sem] max2_int min2_int max_two min_two max_three min_three max_four min_four   -- for this text's walks alone
set_option linter.unusedVariables false
set_option linter.unusedSimpArgs false

/-! ### bits_LeadingZeros32: function 66 -/
def bits_LeadingZeros32.f (a0 : Int) : Option (Int) := (bits_Len32.f a0).bind fun t128 => (some (wrap64 (32 - t128)))
set_option maxHeartbeats 8000000 in
set_option maxRecDepth 100000 in
theorem bits_LeadingZeros32.calls (a0 : Int) (r : Int) (w : World) (h : bits_LeadingZeros32.f a0 = some r) :
    Calls Tryd.prog 66 #[.int .u32 a0] w fun e w' => e = .returned (.int .i64 r) ∧ Drawn0 w w' := by
  have H : ((bits_Len32.f a0).bind fun t128 => (some (wrap64 (32 - t128)))) = some r := h
  clear h
  replace H := Option.bind_eq_some_iff.mp H
  obtain ⟨t128, A20, H⟩ := H
  replace H : (some (wrap64 (32 - t128))) = some r := H
  have A2 := Aside0.mk A20
  clear A20
  obtain rfl := Option.some.inj H
  go_enter Tryd.func66, Tryd.ntmps66
  go_wp2_with (first | ((with_reducible refine gate_callee (f := 76) rfl ?_); refine goesL_ (some 4) rfl rfl Tryd.func76 (by kernel_rfl) rfl #[.int .u32 a0] rfl (by (try simp only [List.map_toArray, List.map_cons, List.map_nil]); first | done | rfl | (simp only [List.length_drop, List.length_take]; rfl)) ?_; (with_reducible refine (bits_Len32.calls a0 t128 _ A2.out).mono ?_); rintro e w' ⟨rfl, ⟨nd, rfl⟩⟩; refine ⟨_, rfl, ?_⟩))
  go_ret
  exact ⟨by first | rfl | (simp; done) | (simp [*]; done), by repeat (first | exact Drawn0.refl _ | apply Drawn0.step)⟩

end Go.Proofs.YtdgebcgcabhjoaaDoor.P
/- nat's takeOff and putBack: contracts, on a part of a row of the call's own. -/
namespace Go.Proofs.YtdgebcgcabhjoaaDoor.P
set_option linter.unusedVariables false
set_option linter.unusedSimpArgs false
open Go.RowKit Go.Proofs.YtdgebcgcabhjoaaDoorW.PrintWords Go.Proofs.YtdgebcgcabhjoaaDoorW.PrintMore Go.Proofs.YtdgebcgcabhjoaaDoorW.PrintLast
/-- q times v taken off from place off on, the first i limbs; what is carried, what is borrowed. -/
def toAt (us vs : List Int) (q : Int) (off : Nat) : Nat → List Int × Int × Int
  | 0 => (us, 0, 0)
  | i + 1 => ((toAt us vs q off i).1.set (off + i) (((toAt us vs q off i).1.getD (off + i) 0 - ((q * vs.getD i 0 + (toAt us vs q off i).2.1) % 18446744073709551616) % 4294967296 - (toAt us vs q off i).2.2) % 4294967296), ((q * vs.getD i 0 + (toAt us vs q off i).2.1) % 18446744073709551616) / 4294967296, if (toAt us vs q off i).1.getD (off + i) 0 < ((q * vs.getD i 0 + (toAt us vs q off i).2.1) % 18446744073709551616) % 4294967296 + (toAt us vs q off i).2.2 then 1 else 0)
def toEnd (us vs : List Int) (q : Int) (off : Nat) : List Int × Int :=
  ((toAt us vs q off vs.length).1.set (off + vs.length) (((toAt us vs q off vs.length).1.getD (off + vs.length) 0 - (toAt us vs q off vs.length).2.1 - (toAt us vs q off vs.length).2.2) % 4294967296), if (toAt us vs q off vs.length).1.getD (off + vs.length) 0 < (toAt us vs q off vs.length).2.1 + (toAt us vs q off vs.length).2.2 then 1 else 0)
theorem toAt_ok {us vs : List Int} {q : Int} (off : Nat) (hu : okL us) (hv : okL vs) (hq : 0 ≤ q) : ∀ i, okL (toAt us vs q off i).1 ∧ (toAt us vs q off i).1.length = us.length ∧ (0 ≤ (toAt us vs q off i).2.1 ∧ (toAt us vs q off i).2.1 < 4294967296) ∧ (0 ≤ (toAt us vs q off i).2.2 ∧ (toAt us vs q off i).2.2 ≤ 1)
  | 0 => ⟨hu, rfl, by simp [toAt], by simp [toAt]⟩
  | i + 1 => by
    obtain ⟨h1, h2, h3, h4⟩ := toAt_ok off hu hv hq i
    unfold toAt
    refine ⟨okL_set h1 _ (by omega) (by omega), by rw [List.length_set, h2], by simp only []; omega, ?_⟩
    simp only []
    split <;> omega
theorem to_digit (u Z b : Int) (hu : 0 ≤ u ∧ u < 4294967296) (hZ : 0 ≤ Z) (hb : 0 ≤ b ∧ b ≤ 1) :
    ((u - Z % 4294967296 - b) % 4294967296).toNat + (Z.toNat + b.toNat) = u.toNat + 4294967296 * ((Z / 4294967296).toNat + (if u < Z % 4294967296 + b then (1 : Int) else 0).toNat) := by
  split <;> omega
theorem to_step (T T0 Ti q x c b u d c' b' vu v1 v0 V : Nat) (hT : T = T0 * Ti) (hset : v1 + T * u = v0 + T * d) (ih : v0 + T0 * (q * V) = vu + T * (c + b)) (hd : d + (q * x + (c + b)) = u + 4294967296 * (c' + b')) :
    v1 + T0 * (q * (V + Ti * x)) = vu + T * 4294967296 * (c' + b') := by
  have e1 := congrArg (fun z => T * z) hd
  have e2 : T0 * (q * (V + Ti * x)) = T0 * (q * V) + T * (q * x) := by rw [hT, Nat.mul_add, Nat.mul_add, Nat.mul_left_comm q Ti, Nat.mul_assoc]
  rw [e2, Nat.mul_assoc]
  simp only [Nat.mul_add] at e1 ih ⊢
  omega
/-- What was taken off, by value. -/
theorem toAt_val {us vs : List Int} {q : Int} (off : Nat) (hu : okL us) (hv : okL vs) (hq : 0 ≤ q ∧ q < 4294967296) : ∀ i, off + i ≤ us.length → val (toAt us vs q off i).1 + 4294967296 ^ off * (q.toNat * val (vs.take i)) = val us + 4294967296 ^ (off + i) * ((toAt us vs q off i).2.1.toNat + (toAt us vs q off i).2.2.toNat)
  | 0, _ => by simp [toAt, val]
  | i + 1, hl => by
    have ih := toAt_val off hu hv hq i (by omega)
    obtain ⟨h1, h2, h3, h4⟩ := toAt_ok off hu hv hq.1 i
    have hx := okL_getD hv i
    have hg := okL_getD h1 (off + i)
    have hp0 : 0 ≤ q * vs.getD i 0 := Int.mul_nonneg hq.1 hx.1
    have hp1 : q * vs.getD i 0 ≤ 4294967295 * 4294967295 := Int.mul_le_mul (by omega) (by omega) hx.1 (by omega)
    have hmul : (q * vs.getD i 0).toNat = q.toNat * (vs.getD i 0).toNat := Int.toNat_mul hq.1 hx.1
    have hZ : ((q * vs.getD i 0 + (toAt us vs q off i).2.1) % 18446744073709551616).toNat = q.toNat * (vs.getD i 0).toNat + (toAt us vs q off i).2.1.toNat := by
      rw [Int.emod_eq_of_lt (by omega) (by omega), ← hmul]; omega
    have hdg := to_digit _ ((q * vs.getD i 0 + (toAt us vs q off i).2.1) % 18446744073709551616) _ hg (by omega) h4
    have hset := val_set (toAt us vs q off i).1 (off + i) (((toAt us vs q off i).1.getD (off + i) 0 - ((q * vs.getD i 0 + (toAt us vs q off i).2.1) % 18446744073709551616) % 4294967296 - (toAt us vs q off i).2.2) % 4294967296) (by omega)
    rw [hZ, Nat.add_assoc] at hdg
    rw [val_take_step, show off + (i + 1) = off + i + 1 by omega, Nat.pow_succ]
    exact to_step _ _ _ _ _ _ _ _ _ _ _ _ _ _ _ (Nat.pow_add _ _ _) hset ih hdg
theorem toEnd_ok {us vs : List Int} {q : Int} (off : Nat) (hu : okL us) (hv : okL vs) (hq : 0 ≤ q) : okL (toEnd us vs q off).1 ∧ (toEnd us vs q off).1.length = us.length ∧ (0 ≤ (toEnd us vs q off).2 ∧ (toEnd us vs q off).2 ≤ 1) := by
  obtain ⟨h1, h2, h3, h4⟩ := toAt_ok off hu hv hq vs.length
  unfold toEnd
  refine ⟨okL_set h1 _ (by omega) (by omega), by rw [List.length_set, h2], ?_⟩
  simp only []
  split <;> omega
theorem to_digit0 (u c b : Int) (hu : 0 ≤ u ∧ u < 4294967296) (hc : 0 ≤ c ∧ c < 4294967296) (hb : 0 ≤ b ∧ b ≤ 1) :
    ((u - c - b) % 4294967296).toNat + (c.toNat + b.toNat) = u.toNat + 4294967296 * (if u < c + b then (1 : Int) else 0).toNat := by
  split <;> omega
theorem to_last (T c b u d b' vu v1 v0 W : Nat) (hset : v1 + T * u = v0 + T * d) (ih : v0 + W = vu + T * (c + b)) (hd : d + (c + b) = u + 4294967296 * b') : v1 + W = vu + T * 4294967296 * b' := by
  have e1 := congrArg (fun z => T * z) hd
  rw [Nat.mul_assoc]
  simp only [Nat.mul_add] at e1 ih ⊢
  omega
theorem toEnd_val {us vs : List Int} {q : Int} (off : Nat) (hu : okL us) (hv : okL vs) (hq : 0 ≤ q ∧ q < 4294967296) (hl : off + vs.length < us.length) : val (toEnd us vs q off).1 + 4294967296 ^ off * (q.toNat * val vs) = val us + 4294967296 ^ (off + vs.length + 1) * (toEnd us vs q off).2.toNat := by
  have ih := toAt_val off hu hv hq vs.length (by omega)
  obtain ⟨h1, h2, h3, h4⟩ := toAt_ok off hu hv hq.1 vs.length
  have hg := okL_getD h1 (off + vs.length)
  rw [List.take_length] at ih
  have hset := val_set (toAt us vs q off vs.length).1 (off + vs.length) (((toAt us vs q off vs.length).1.getD (off + vs.length) 0 - (toAt us vs q off vs.length).2.1 - (toAt us vs q off vs.length).2.2) % 4294967296) (by omega)
  have hd := to_digit0 _ _ _ hg h3 h4
  rw [Nat.pow_succ]
  exact to_last _ _ _ _ _ _ _ _ _ _ hset ih hd
theorem toAt_take (us vs : List Int) (q : Int) (off : Nat) : ∀ i, (toAt us vs q off i).1.take off = us.take off
  | 0 => rfl
  | i + 1 => by unfold toAt; rw [List.take_set_of_le (by omega), toAt_take us vs q off i]
theorem toEnd_take (us vs : List Int) (q : Int) (off : Nat) : (toEnd us vs q off).1.take off = us.take off := by
  unfold toEnd; rw [List.take_set_of_le (by omega), toAt_take]
theorem toAt_drop (us vs : List Int) (q : Int) (off j : Nat) : ∀ i, off + i ≤ j → (toAt us vs q off i).1.drop j = us.drop j
  | 0, _ => rfl
  | i + 1, h => by unfold toAt; rw [List.drop_set_of_lt (by omega), toAt_drop us vs q off j i (by omega)]
theorem toEnd_drop (us vs : List Int) (q : Int) (off : Nat) : (toEnd us vs q off).1.drop (off + vs.length + 1) = us.drop (off + vs.length + 1) := by
  unfold toEnd; rw [List.drop_set_of_lt (by omega), toAt_drop _ _ _ _ _ _ (by omega)]
/-- v put back from place off on. -/
def pbAt (us vs : List Int) (off : Nat) : Nat → List Int × Int
  | 0 => (us, 0)
  | i + 1 => ((pbAt us vs off i).1.set (off + i) (((pbAt us vs off i).1.getD (off + i) 0 + vs.getD i 0 + (pbAt us vs off i).2) % 4294967296), ((pbAt us vs off i).1.getD (off + i) 0 + vs.getD i 0 + (pbAt us vs off i).2) / 4294967296)
def pbEnd (us vs : List Int) (off : Nat) : List Int := (pbAt us vs off vs.length).1.set (off + vs.length) (((pbAt us vs off vs.length).1.getD (off + vs.length) 0 + (pbAt us vs off vs.length).2) % 4294967296)
theorem pbAt_ok {us vs : List Int} (off : Nat) (hu : okL us) (hv : okL vs) : ∀ i, okL (pbAt us vs off i).1 ∧ (pbAt us vs off i).1.length = us.length ∧ (0 ≤ (pbAt us vs off i).2 ∧ (pbAt us vs off i).2 ≤ 1)
  | 0 => ⟨hu, rfl, by simp [pbAt]⟩
  | i + 1 => by
    obtain ⟨h1, h2, h3⟩ := pbAt_ok off hu hv i
    have hx := okL_getD hv i
    have hg := okL_getD h1 (off + i)
    unfold pbAt
    exact ⟨okL_set h1 _ (by omega) (by omega), by rw [List.length_set, h2], by simp only []; omega⟩
theorem pb_digit (s : Int) (hs : 0 ≤ s) : (s % 4294967296).toNat + 4294967296 * (s / 4294967296).toNat = s.toNat := by omega
theorem pb_step (T T0 Ti x c u d c' vu v1 v0 V : Nat) (hT : T = T0 * Ti) (hset : v1 + T * u = v0 + T * d) (ih : v0 + T * c = vu + T0 * V) (hd : d + 4294967296 * c' = u + x + c) :
    v1 + T * 4294967296 * c' = vu + T0 * (V + Ti * x) := by
  have e1 := congrArg (fun z => T * z) hd
  have e2 : T0 * (V + Ti * x) = T0 * V + T * x := by rw [hT, Nat.mul_add, Nat.mul_assoc]
  rw [e2, Nat.mul_assoc]
  simp only [Nat.mul_add] at e1 ih ⊢
  omega
theorem pbAt_val {us vs : List Int} (off : Nat) (hu : okL us) (hv : okL vs) : ∀ i, off + i ≤ us.length → val (pbAt us vs off i).1 + 4294967296 ^ (off + i) * (pbAt us vs off i).2.toNat = val us + 4294967296 ^ off * val (vs.take i)
  | 0, _ => by simp [pbAt, val]
  | i + 1, hl => by
    have ih := pbAt_val off hu hv i (by omega)
    obtain ⟨h1, h2, h3⟩ := pbAt_ok off hu hv i
    have hx := okL_getD hv i
    have hg := okL_getD h1 (off + i)
    have hset := val_set (pbAt us vs off i).1 (off + i) (((pbAt us vs off i).1.getD (off + i) 0 + vs.getD i 0 + (pbAt us vs off i).2) % 4294967296) (by omega)
    have hd := pb_digit ((pbAt us vs off i).1.getD (off + i) 0 + vs.getD i 0 + (pbAt us vs off i).2) (by omega)
    have hs : ((pbAt us vs off i).1.getD (off + i) 0 + vs.getD i 0 + (pbAt us vs off i).2).toNat = ((pbAt us vs off i).1.getD (off + i) 0).toNat + (vs.getD i 0).toNat + (pbAt us vs off i).2.toNat := by clear hset hd ih; omega
    rw [hs] at hd
    rw [val_take_step, show off + (i + 1) = off + i + 1 by omega, Nat.pow_succ]
    exact pb_step _ _ _ _ _ _ _ _ _ _ _ _ (Nat.pow_add _ _ _) hset ih hd
theorem pbEnd_ok {us vs : List Int} (off : Nat) (hu : okL us) (hv : okL vs) : okL (pbEnd us vs off) ∧ (pbEnd us vs off).length = us.length := by
  obtain ⟨h1, h2, h3⟩ := pbAt_ok off hu hv vs.length
  unfold pbEnd
  exact ⟨okL_set h1 _ (by omega) (by omega), by rw [List.length_set, h2]⟩
theorem pb_last (T c u d c' vu v1 v0 W : Nat) (hset : v1 + T * u = v0 + T * d) (ih : v0 + T * c = vu + W) (hd : d + 4294967296 * c' = u + c) : v1 + T * 4294967296 * c' = vu + W := by
  have e1 := congrArg (fun z => T * z) hd
  rw [Nat.mul_assoc]
  simp only [Nat.mul_add] at e1 ih ⊢
  omega
theorem pbEnd_val {us vs : List Int} (off : Nat) (hu : okL us) (hv : okL vs) (hl : off + vs.length < us.length) : ∃ c, val (pbEnd us vs off) + 4294967296 ^ (off + vs.length + 1) * c = val us + 4294967296 ^ off * val vs := by
  have ih := pbAt_val off hu hv vs.length (by omega)
  obtain ⟨h1, h2, h3⟩ := pbAt_ok off hu hv vs.length
  have hg := okL_getD h1 (off + vs.length)
  rw [List.take_length] at ih
  have hset := val_set (pbAt us vs off vs.length).1 (off + vs.length) (((pbAt us vs off vs.length).1.getD (off + vs.length) 0 + (pbAt us vs off vs.length).2) % 4294967296) (by omega)
  have hd := pb_digit ((pbAt us vs off vs.length).1.getD (off + vs.length) 0 + (pbAt us vs off vs.length).2) (by omega)
  have hs : ((pbAt us vs off vs.length).1.getD (off + vs.length) 0 + (pbAt us vs off vs.length).2).toNat = ((pbAt us vs off vs.length).1.getD (off + vs.length) 0).toNat + (pbAt us vs off vs.length).2.toNat := by clear hset hd ih; omega
  rw [hs] at hd
  have hfin := pb_last _ _ _ _ _ _ _ _ _ hset ih hd
  rw [← Nat.pow_succ] at hfin
  exact ⟨_, hfin⟩
theorem pbAt_take (us vs : List Int) (off : Nat) : ∀ i, (pbAt us vs off i).1.take off = us.take off
  | 0 => rfl
  | i + 1 => by unfold pbAt; rw [List.take_set_of_le (by omega), pbAt_take us vs off i]
theorem pbEnd_take (us vs : List Int) (off : Nat) : (pbEnd us vs off).take off = us.take off := by
  unfold pbEnd; rw [List.take_set_of_le (by omega), pbAt_take]
theorem pbAt_drop (us vs : List Int) (off j : Nat) : ∀ i, off + i ≤ j → (pbAt us vs off i).1.drop j = us.drop j
  | 0, _ => rfl
  | i + 1, h => by unfold pbAt; rw [List.drop_set_of_lt (by omega), pbAt_drop us vs off j i (by omega)]
theorem pbEnd_drop (us vs : List Int) (off : Nat) : (pbEnd us vs off).drop (off + vs.length + 1) = us.drop (off + vs.length + 1) := by
  unfold pbEnd; rw [List.drop_set_of_lt (by omega), pbAt_drop _ _ _ _ _ (by omega)]
/-! The walks -/
theorem rowInt (l : List Int) (j : Nat) (h : j < l.length) : (l.map (Value.int .u32))[j]? = some (.int .u32 (l.getD j 0)) := by
  rw [List.getElem?_map, List.getD_eq_getElem?_getD, List.getElem?_eq_getElem h]
  rfl
theorem grown_drewN (w : World) (n : Nat) (row : Option Nat) : w.grownBy (w.drewN n) row := ⟨rfl, rfl, rfl, Nat.le_refl _, fun _ _ _ => rfl⟩
set_option maxHeartbeats 4000000 in
set_option maxRecDepth 100000 in
theorem takeOff_in (base Bu N cap off Bv cv : Nat) (us vs : List Int) (q : Int) (w : World) (ho : w.ownsRow base 63 1 (.slice (some ⟨Bu, 0, none⟩) N cap) N (us.map (Value.int .u32))) (hN : us.length = N)
    (hv : ∀ i, i < vs.length → w.cell? ⟨Bv, i, none⟩ = some (.int .u32 (vs.getD i 0))) (hne : Bv ≠ Bu) (hu : okL us) (hvo : okL vs) (hq : 0 ≤ q ∧ q < 18446744073709551616) (hoff : off + vs.length < N) (hz : N ≤ 1152921504606846976) :
    Calls Tryd.prog 70 #[.slice (some ⟨Bu, off, none⟩) (N - off) (cap - off), .slice (some ⟨Bv, 0, none⟩) vs.length cv, .int .u64 q] w fun e w' => e = .returned (.int .u32 (toEnd us vs q off).2) ∧ w'.ownsRow base 63 1 (.slice (some ⟨Bu, 0, none⟩) N cap) N ((toEnd us vs q off).1.map (Value.int .u32)) ∧ w.grownBy w' (some Bu) := by
  have HO := Lib.hid ho
  have HV := Lib.hid hv
  have HU := Lib.hid hu
  have HVO := Lib.hid hvo
  have HOFF := Lib.hid hoff
  have HN := Lib.hid hN
  have hg0 : w.grownBy w (some Bu) := ⟨rfl, rfl, rfl, Nat.le_refl _, fun _ _ _ => rfl⟩
  clear ho hv hu hvo hN
  go_enter Tryd.func70, Tryd.ntmps70
  go_wp2
  go_loopw [7, 8, 14] (fun vc vb vi wr => ∃ i : Nat, i ≤ vs.length ∧ vi = .int .i64 i ∧ vc = .int .u64 (toAt us vs q off i).2.1 ∧ vb = .int .u32 (toAt us vs q off i).2.2 ∧ Hid (wr.ownsRow base 63 1 (.slice (some ⟨Bu, 0, none⟩) N cap) N ((toAt us vs q off i).1.map (Value.int .u32))) ∧ Hid (w.grownBy wr (some Bu))) (fun _ _ vi _ => vs.length - (intOf vi).toNat)
  case atStart => exact ⟨0, Nat.zero_le _, rfl, rfl, rfl, HO, Lib.hid hg0⟩
  case round =>
    clear hg0
    obtain ⟨i, hi, rfl, rfl, rfl, hO, hG⟩ := hrel
    by_cases hlt : i < vs.length
    · have hcv : wr.cell? ⟨Bv, i, none⟩ = some (.int .u32 (vs.getD i 0)) := hG.out.cell (HV.out i hlt) (by intro e; injection e with e; exact hne e)
      obtain ⟨h1, h2, h3, h4⟩ := toAt_ok off HU.out HVO.out hq.1 i
      have hoff2 := HOFF.out
      have hcu : wr.cell? ⟨Bu, off + i, none⟩ = some (.int .u32 ((toAt us vs q off i).1.getD (off + i) 0)) := by
        rw [hO.out.cellAt (off + i) (by omega)]
        exact rowInt _ _ (by have := HN.out; omega)
      have hfu : wr.frozen? ⟨Bu, off + i, none⟩ = false := hO.out.frozenAt (off + i)
      have hw2 : IntKind.i64.wrap ((i : Int) + 1) = ((i + 1 : Nat) : Int) := by rw [wrap_in _ (by omega)]; omega
      have hx := okL_getD HVO.out i
      have hg := okL_getD h1 (off + i)
      have hsub : Hid (bits_Sub32.f ((toAt us vs q off i).1.getD (off + i) 0) (((q * vs.getD i 0 + (toAt us vs q off i).2.1) % 18446744073709551616) % 4294967296) (toAt us vs q off i).2.2 = some (((toAt us vs q off i).1.getD (off + i) 0 - ((q * vs.getD i 0 + (toAt us vs q off i).2.1) % 18446744073709551616) % 4294967296 - (toAt us vs q off i).2.2) % 4294967296, if (toAt us vs q off i).1.getD (off + i) 0 < ((q * vs.getD i 0 + (toAt us vs q off i).2.1) % 18446744073709551616) % 4294967296 + (toAt us vs q off i).2.2 then 1 else 0)) := Lib.hid (by
        unfold bits_Sub32.f
        rw [if_pos ⟨hg, by omega, h4⟩])
      have hs1 : Hid (toAt us vs q off (i + 1) = ((toAt us vs q off i).1.set (off + i) (((toAt us vs q off i).1.getD (off + i) 0 - ((q * vs.getD i 0 + (toAt us vs q off i).2.1) % 18446744073709551616) % 4294967296 - (toAt us vs q off i).2.2) % 4294967296), ((q * vs.getD i 0 + (toAt us vs q off i).2.1) % 18446744073709551616) / 4294967296, if (toAt us vs q off i).1.getD (off + i) 0 < ((q * vs.getD i 0 + (toAt us vs q off i).2.1) % 18446744073709551616) % 4294967296 + (toAt us vs q off i).2.2 then 1 else 0)) := Lib.hid rfl
      have e1 : IntKind.u64.wrap (vs.getD i 0) = vs.getD i 0 := u64w hx.1 (by omega)
      have e3 : IntKind.u64.wrap (IntKind.u64.wrap (q * vs.getD i 0) + (toAt us vs q off i).2.1) = (q * vs.getD i 0 + (toAt us vs q off i).2.1) % 18446744073709551616 := by
        have : ∀ z : Int, IntKind.u64.wrap z = z % 18446744073709551616 := fun z => by simp [IntKind.wrap, IntKind.bits, IntKind.signed]
        rw [this, this, Int.emod_add_emod]
      have e4 : (0 : Int) ≤ (q * vs.getD i 0 + (toAt us vs q off i).2.1) % 18446744073709551616 := by omega
      clear h1 h2 h3 h4 hx hg
      obtain ⟨dd, hdd⟩ : ∃ v, ((toAt us vs q off i).1.getD (off + i) 0 - ((q * vs.getD i 0 + (toAt us vs q off i).2.1) % 18446744073709551616) % 4294967296 - (toAt us vs q off i).2.2) % 4294967296 = v := ⟨_, rfl⟩
      obtain ⟨bb, hbb⟩ : ∃ v : Int, (if (toAt us vs q off i).1.getD (off + i) 0 < ((q * vs.getD i 0 + (toAt us vs q off i).2.1) % 18446744073709551616) % 4294967296 + (toAt us vs q off i).2.2 then 1 else 0) = v := ⟨_, rfl⟩
      rw [hdd, hbb] at hsub hs1
      clear hdd hbb
      generalize toAt us vs q off i = s at *
      generalize vs.getD i 0 = x at *
      generalize hP : (q * x + s.2.1) % 18446744073709551616 = P at *
      generalize s.1.getD (off + i) 0 = u at *
      generalize s.2.2 = b at *
      go_wp2_with (first | (go_at_call 78; refine (bits_Sub32.calls u (P % 4294967296) b _ _ _ hsub.out).mono ?_; rintro e w' ⟨rfl, ⟨nd, rfl⟩⟩))
      have hst := World.ownsRow.stored (pw_own_drewN hO.out nd) (off + i) (.int .u32 dd)
      rw [← List.map_set] at hst
      refine ⟨⟨i + 1, by omega, by rw [Int.natCast_add]; rfl, by rw [hs1.out], by rw [hs1.out], Lib.hid ?_, Lib.hid ?_⟩, by simp [intOf]; omega⟩
      · rw [hs1.out]; exact hst.1
      · exact (World.grownBy.trans (World.grownBy.trans hG.out (grown_drewN _ nd _)) hst.2)
    · obtain rfl : i = vs.length := by omega
      obtain ⟨h1, h2, h3, h4⟩ := toAt_ok off HU.out HVO.out hq.1 vs.length
      have hoff2 := HOFF.out
      have hcu : wr.cell? ⟨Bu, off + vs.length, none⟩ = some (.int .u32 ((toAt us vs q off vs.length).1.getD (off + vs.length) 0)) := by
        rw [hO.out.cellAt (off + vs.length) (by omega)]
        exact rowInt _ _ (by have := HN.out; omega)
      have hfu : wr.frozen? ⟨Bu, off + vs.length, none⟩ = false := hO.out.frozenAt (off + vs.length)
      have hg := okL_getD h1 (off + vs.length)
      have hsub : Hid (bits_Sub32.f ((toAt us vs q off vs.length).1.getD (off + vs.length) 0) (toAt us vs q off vs.length).2.1 (toAt us vs q off vs.length).2.2 = some (((toAt us vs q off vs.length).1.getD (off + vs.length) 0 - (toAt us vs q off vs.length).2.1 - (toAt us vs q off vs.length).2.2) % 4294967296, if (toAt us vs q off vs.length).1.getD (off + vs.length) 0 < (toAt us vs q off vs.length).2.1 + (toAt us vs q off vs.length).2.2 then 1 else 0)) := Lib.hid (by
        unfold bits_Sub32.f
        rw [if_pos ⟨hg, h3, h4⟩])
      have hs1 : Hid (toEnd us vs q off = ((toAt us vs q off vs.length).1.set (off + vs.length) (((toAt us vs q off vs.length).1.getD (off + vs.length) 0 - (toAt us vs q off vs.length).2.1 - (toAt us vs q off vs.length).2.2) % 4294967296), if (toAt us vs q off vs.length).1.getD (off + vs.length) 0 < (toAt us vs q off vs.length).2.1 + (toAt us vs q off vs.length).2.2 then 1 else 0)) := Lib.hid rfl
      have hc0 : (toAt us vs q off vs.length).2.1 % 4294967296 = (toAt us vs q off vs.length).2.1 := by omega
      clear h1 h2 h3 h4 hg
      obtain ⟨dd, hdd⟩ : ∃ v, ((toAt us vs q off vs.length).1.getD (off + vs.length) 0 - (toAt us vs q off vs.length).2.1 - (toAt us vs q off vs.length).2.2) % 4294967296 = v := ⟨_, rfl⟩
      obtain ⟨bb, hbb⟩ : ∃ v : Int, (if (toAt us vs q off vs.length).1.getD (off + vs.length) 0 < (toAt us vs q off vs.length).2.1 + (toAt us vs q off vs.length).2.2 then 1 else 0) = v := ⟨_, rfl⟩
      rw [hdd, hbb] at hsub hs1
      clear hdd hbb
      generalize toAt us vs q off vs.length = s at *
      generalize s.1.getD (off + vs.length) 0 = u at *
      generalize s.2.2 = b at *
      generalize s.2.1 = c at *
      go_wp2_with (first | (go_at_call 78; refine (bits_Sub32.calls u c b _ _ _ hsub.out).mono ?_; rintro e w' ⟨rfl, ⟨nd, rfl⟩⟩))
      have hst := World.ownsRow.stored (pw_own_drewN hO.out nd) (off + vs.length) (.int .u32 dd)
      rw [← List.map_set] at hst
      go_ret
      rw [hs1.out]
      exact ⟨rfl, hst.1, World.grownBy.trans (World.grownBy.trans hG.out (grown_drewN _ nd _)) hst.2⟩
set_option maxHeartbeats 4000000 in
set_option maxRecDepth 100000 in
theorem putBack_in (base Bu N cap off Bv cv : Nat) (us vs : List Int) (w : World) (ho : w.ownsRow base 63 1 (.slice (some ⟨Bu, 0, none⟩) N cap) N (us.map (Value.int .u32))) (hN : us.length = N)
    (hv : ∀ i, i < vs.length → w.cell? ⟨Bv, i, none⟩ = some (.int .u32 (vs.getD i 0))) (hne : Bv ≠ Bu) (hu : okL us) (hvo : okL vs) (hoff : off + vs.length < N) (hz : N ≤ 1152921504606846976) :
    Calls Tryd.prog 71 #[.slice (some ⟨Bu, off, none⟩) (N - off) (cap - off), .slice (some ⟨Bv, 0, none⟩) vs.length cv] w fun e w' => e = .returned (.tuple #[]) ∧ w'.ownsRow base 63 1 (.slice (some ⟨Bu, 0, none⟩) N cap) N ((pbEnd us vs off).map (Value.int .u32)) ∧ w.grownBy w' (some Bu) := by
  have HO := Lib.hid ho
  have HV := Lib.hid hv
  have HU := Lib.hid hu
  have HVO := Lib.hid hvo
  have HOFF := Lib.hid hoff
  have HN := Lib.hid hN
  have hg0 : w.grownBy w (some Bu) := ⟨rfl, rfl, rfl, Nat.le_refl _, fun _ _ _ => rfl⟩
  clear ho hv hu hvo hN
  go_enter Tryd.func71, Tryd.ntmps71
  go_wp2
  go_loopw [4, 9] (fun vc vi wr => ∃ i : Nat, i ≤ vs.length ∧ vi = .int .i64 i ∧ vc = .int .u32 (pbAt us vs off i).2 ∧ Hid (wr.ownsRow base 63 1 (.slice (some ⟨Bu, 0, none⟩) N cap) N ((pbAt us vs off i).1.map (Value.int .u32))) ∧ Hid (w.grownBy wr (some Bu))) (fun _ vi _ => vs.length - (intOf vi).toNat)
  case atStart => exact ⟨0, Nat.zero_le _, rfl, rfl, HO, Lib.hid hg0⟩
  case round =>
    clear hg0
    obtain ⟨i, hi, rfl, rfl, hO, hG⟩ := hrel
    by_cases hlt : i < vs.length
    · have hcv : wr.cell? ⟨Bv, i, none⟩ = some (.int .u32 (vs.getD i 0)) := hG.out.cell (HV.out i hlt) (by intro e; injection e with e; exact hne e)
      obtain ⟨h1, h2, h3⟩ := pbAt_ok off HU.out HVO.out i
      have hoff2 := HOFF.out
      have hcu : wr.cell? ⟨Bu, off + i, none⟩ = some (.int .u32 ((pbAt us vs off i).1.getD (off + i) 0)) := by
        rw [hO.out.cellAt (off + i) (by omega)]
        exact rowInt _ _ (by have := HN.out; omega)
      have hfu : wr.frozen? ⟨Bu, off + i, none⟩ = false := hO.out.frozenAt (off + i)
      have hw2 : IntKind.i64.wrap ((i : Int) + 1) = ((i + 1 : Nat) : Int) := by rw [wrap_in _ (by omega)]; omega
      have hx := okL_getD HVO.out i
      have hg := okL_getD h1 (off + i)
      have hsub : Hid (bits_Add32.f ((pbAt us vs off i).1.getD (off + i) 0) (vs.getD i 0) (pbAt us vs off i).2 = some (((pbAt us vs off i).1.getD (off + i) 0 + vs.getD i 0 + (pbAt us vs off i).2) % 4294967296, ((pbAt us vs off i).1.getD (off + i) 0 + vs.getD i 0 + (pbAt us vs off i).2) / 4294967296)) := Lib.hid (by
        unfold bits_Add32.f
        rw [if_pos ⟨hg, hx, h3⟩])
      have hs1 : Hid (pbAt us vs off (i + 1) = ((pbAt us vs off i).1.set (off + i) (((pbAt us vs off i).1.getD (off + i) 0 + vs.getD i 0 + (pbAt us vs off i).2) % 4294967296), ((pbAt us vs off i).1.getD (off + i) 0 + vs.getD i 0 + (pbAt us vs off i).2) / 4294967296)) := Lib.hid rfl
      clear h1 h2 h3 hx hg
      obtain ⟨dd, hdd⟩ : ∃ v, ((pbAt us vs off i).1.getD (off + i) 0 + vs.getD i 0 + (pbAt us vs off i).2) % 4294967296 = v := ⟨_, rfl⟩
      obtain ⟨bb, hbb⟩ : ∃ v, ((pbAt us vs off i).1.getD (off + i) 0 + vs.getD i 0 + (pbAt us vs off i).2) / 4294967296 = v := ⟨_, rfl⟩
      rw [hdd, hbb] at hsub hs1
      clear hdd hbb
      generalize pbAt us vs off i = s at *
      generalize vs.getD i 0 = x at *
      generalize s.1.getD (off + i) 0 = u at *
      generalize s.2 = b at *
      go_wp2_with (first | (go_at_call 79; refine (bits_Add32.calls u x b _ _ _ hsub.out).mono ?_; rintro e w' ⟨rfl, ⟨nd, rfl⟩⟩))
      have hst := World.ownsRow.stored (pw_own_drewN hO.out nd) (off + i) (.int .u32 dd)
      rw [← List.map_set] at hst
      refine ⟨⟨i + 1, by omega, by rw [Int.natCast_add]; rfl, by rw [hs1.out], Lib.hid ?_, Lib.hid ?_⟩, by simp [intOf]; omega⟩
      · rw [hs1.out]; exact hst.1
      · exact (World.grownBy.trans (World.grownBy.trans hG.out (grown_drewN _ nd _)) hst.2)
    · obtain rfl : i = vs.length := by omega
      obtain ⟨h1, h2, h3⟩ := pbAt_ok off HU.out HVO.out vs.length
      have hoff2 := HOFF.out
      have hcu : wr.cell? ⟨Bu, off + vs.length, none⟩ = some (.int .u32 ((pbAt us vs off vs.length).1.getD (off + vs.length) 0)) := by
        rw [hO.out.cellAt (off + vs.length) (by omega)]
        exact rowInt _ _ (by have := HN.out; omega)
      have hfu : wr.frozen? ⟨Bu, off + vs.length, none⟩ = false := hO.out.frozenAt (off + vs.length)
      have hs1 : Hid (pbEnd us vs off = (pbAt us vs off vs.length).1.set (off + vs.length) (((pbAt us vs off vs.length).1.getD (off + vs.length) 0 + (pbAt us vs off vs.length).2) % 4294967296)) := Lib.hid rfl
      clear h1 h2 h3
      generalize pbAt us vs off vs.length = s at *
      generalize s.1.getD (off + vs.length) 0 = u at *
      generalize s.2 = c at *
      go_wp2
      have hst := World.ownsRow.stored hO.out (off + vs.length) (.int .u32 ((u + c) % 4294967296))
      rw [← List.map_set] at hst
      refine ⟨rfl, .tuple #[], by simp [results, Tryd.f71], ?_⟩
      rw [hs1.out]
      exact ⟨rfl, hst.1, World.grownBy.trans hG.out hst.2⟩
end Go.Proofs.YtdgebcgcabhjoaaDoor.P
namespace Go.Proofs.YtdgebcgcabhjoaaDoor.P
set_option linter.unusedVariables false
set_option linter.unusedSimpArgs false
open Go.RowKit Go.Proofs.YtdgebcgcabhjoaaDoorW.PrintWords Go.Proofs.YtdgebcgcabhjoaaDoorW.PrintMore
/-- What a guess owes: at most one too great, by the two highest limbs and three of the dividend's. -/
structure GuessOk (X3 D q : Nat) : Prop where
  lt : q < 4294967296
  le : q * D ≤ X3
  ge : ∀ Q, Q < 4294967296 → Q * D ≤ X3 → Q ≤ q
theorem guess_loop (v1 v0 u0 head : Nat) (hv1 : 2147483648 ≤ v1) (hv1' : v1 < 4294967296) (hv0 : v0 < 4294967296) (hu0 : u0 < 4294967296) : ∀ (m q r k : Nat), r < 4294967296 → 4294967296 ≤ r + m * v1 → q ≤ 4294967297 → (q = 4294967297 → r + v1 < 4294967296) → q * v1 + r = head →
    (∀ Q, Q < 4294967296 → Q * (v1 * 4294967296 + v0) ≤ head * 4294967296 + u0 → Q ≤ q) → 2 * m + 3 ≤ k →
    ∃ q', nat_guess.l0 k u0 v1 v0 q r = some (q' : Int) ∧ ∃ q'' : Nat, q' = (q'' : Int) ∧ GuessOk (head * 4294967296 + u0) (v1 * 4294967296 + v0) q'' := by
  intro m
  induction m with
  | zero => intro q r k hr hm; omega
  | succ m ih =>
    intro q r k hr hm hq hq2 hqr hge hk
    obtain ⟨k, rfl⟩ : ∃ j, k = j + 2 := ⟨k - 2, by omega⟩
    -- the round behind a 'too great'
    have again : (4294967296 ≤ q ∨ r * 4294967296 + u0 < q * v0) → 1 ≤ q → ∃ q', nat_guess.j1 (k + 1) u0 v1 v0 q r true = some (q' : Int) ∧ ∃ q'' : Nat, q' = (q'' : Int) ∧ GuessOk (head * 4294967296 + u0) (v1 * 4294967296 + v0) q'' := by
      intro hbad hq1
      have hge' : ∀ Q, Q < 4294967296 → Q * (v1 * 4294967296 + v0) ≤ head * 4294967296 + u0 → Q ≤ q - 1 := by
        intro Q hQ hle
        have h1 := hge Q hQ hle
        rcases Nat.lt_or_ge Q q with h | h
        · omega
        · exfalso
          obtain rfl : Q = q := by omega
          rcases hbad with hb | hb
          · omega
          · rw [Nat.mul_add, ← Nat.mul_assoc, ← hqr, Nat.add_mul] at hle
            omega
      have hsub : (q - 1) * v1 + (r + v1) = head := by
        have : q * v1 = (q - 1) * v1 + v1 := by rw [← Nat.succ_mul]; congr 1; omega
        omega
      have e1 : IntKind.u64.wrap ((r : Int) + IntKind.u64.wrap (v1 : Int)) = ((r + v1 : Nat) : Int) := by rw [u64w (show (0 : Int) ≤ (v1 : Int) by omega) (by omega), u64w (show (0 : Int) ≤ (r : Int) + (v1 : Int) by omega) (by omega)]; omega
      have e2 : IntKind.u64.wrap ((q : Int) - 1) = ((q - 1 : Nat) : Int) := by rw [u64w (by omega) (by omega)]; omega
      rw [nat_guess.j1.eq_2, if_pos rfl, e1, e2]
      by_cases hbr : 4294967296 ≤ r + v1
      · rw [if_pos (by omega)]
        have hqb : q - 1 < 4294967296 := by
          rcases Nat.lt_or_ge (q - 1) 4294967296 with h | h
          · exact h
          · have := hq2 (by omega); omega
        refine ⟨_, rfl, _, rfl, hqb, ?_, hge'⟩
        have h1 : (q - 1) * v0 ≤ 4294967295 * 4294967295 := Nat.mul_le_mul (by omega) (by omega)
        rw [Nat.mul_add, ← Nat.mul_assoc, ← hsub, Nat.add_mul]
        have h2 : 4294967296 * 4294967296 ≤ (r + v1) * 4294967296 := Nat.mul_le_mul_right _ hbr
        omega
      · rw [if_neg (by omega)]
        exact ih (q - 1) (r + v1) k (by omega) (by rw [Nat.succ_mul] at hm; omega) (by omega) (by omega) hsub hge' (by omega)
    rw [nat_guess.l0.eq_2]
    by_cases hbig : 4294967296 ≤ q
    · rw [if_pos (by omega)]
      exact again (.inl hbig) (by omega)
    · rw [if_neg (by omega)]
      have hp : q * v0 ≤ 4294967295 * 4294967295 := Nat.mul_le_mul (by omega) (by omega)
      have e1 : IntKind.u64.wrap ((q : Int) * IntKind.u64.wrap (v0 : Int)) = ((q * v0 : Nat) : Int) := by
        rw [u64w (show (0 : Int) ≤ (v0 : Int) by omega) (by omega), ← Int.natCast_mul, u64w (by omega) (by omega)]
      have e2 : bits .or .u64 (IntKind.u64.wrap ((r : Int) * 4294967296)) (IntKind.u64.wrap (u0 : Int)) = ((r * 4294967296 + u0 : Nat) : Int) := by
        rw [u64w (show (0 : Int) ≤ (r : Int) * 4294967296 by omega) (by omega), u64w (show (0 : Int) ≤ (u0 : Int) by omega) (by omega), or64 (by omega) (by omega) (by omega) (by omega)]
        omega
      rw [e1, e2]
      by_cases hgt : r * 4294967296 + u0 < q * v0
      · rw [decide_eq_true (by omega)]
        exact again (.inr hgt) (by
          rcases Nat.eq_zero_or_pos q with h | h
          · subst h; simp at hgt
          · exact h)
      · rw [decide_eq_false (by omega), nat_guess.j1.eq_2, if_neg (by simp)]
        refine ⟨_, rfl, _, rfl, by omega, ?_, hge⟩
        rw [Nat.mul_add, ← Nat.mul_assoc, ← hqr, Nat.add_mul]
        omega
theorem guess_f (u2 u1 u0 v1 v0 : Nat) (hu2 : u2 ≤ v1) (hu1 : u1 < 4294967296) (hu0 : u0 < 4294967296) (hv1 : 2147483648 ≤ v1) (hv1' : v1 < 4294967296) (hv0 : v0 < 4294967296) :
    ∃ q : Nat, nat_guess.f 10 u2 u1 u0 v1 v0 = some (q : Int) ∧ GuessOk ((u2 * 4294967296 + u1) * 4294967296 + u0) (v1 * 4294967296 + v0) q := by
  have hh : u2 * 4294967296 + u1 < 18446744073709551616 := by omega
  have e0 : bits .or .u64 (IntKind.u64.wrap ((IntKind.u64.wrap (u2 : Int)) * 4294967296)) (IntKind.u64.wrap (u1 : Int)) = ((u2 * 4294967296 + u1 : Nat) : Int) := by
    rw [u64w (show (0 : Int) ≤ (u2 : Int) by omega) (by omega), u64w (show (0 : Int) ≤ (u2 : Int) * 4294967296 by omega) (by omega), u64w (show (0 : Int) ≤ (u1 : Int) by omega) (by omega), or64 (by omega) (by omega) (by omega) (by omega)]
    omega
  have e1 : IntKind.u64.wrap (v1 : Int) = (v1 : Int) := u64w (by omega) (by omega)
  have hqr := Nat.div_add_mod' (u2 * 4294967296 + u1) v1
  have hrl := Nat.mod_lt (u2 * 4294967296 + u1) (show v1 > 0 by omega)
  have hq0 : (u2 * 4294967296 + u1) / v1 ≤ 4294967297 := by
    rcases Nat.lt_or_ge ((u2 * 4294967296 + u1) / v1) 4294967298 with h | h
    · omega
    · exfalso
      have h1 := Nat.mul_le_mul_right v1 h
      have h2 : u2 * 4294967296 ≤ v1 * 4294967296 := Nat.mul_le_mul_right _ hu2
      omega
  have hq2 : (u2 * 4294967296 + u1) / v1 = 4294967297 → (u2 * 4294967296 + u1) % v1 + v1 < 4294967296 := by
    intro h
    rw [h] at hqr
    have h2 : u2 * 4294967296 ≤ v1 * 4294967296 := Nat.mul_le_mul_right _ hu2
    omega
  have hge : ∀ Q, Q < 4294967296 → Q * (v1 * 4294967296 + v0) ≤ (u2 * 4294967296 + u1) * 4294967296 + u0 → Q ≤ (u2 * 4294967296 + u1) / v1 := by
    intro Q _ hle
    rw [Nat.le_div_iff_mul_le (by omega)]
    rw [Nat.mul_add, ← Nat.mul_assoc] at hle
    rcases Nat.lt_or_ge (u2 * 4294967296 + u1) (Q * v1) with h | h
    · exfalso
      have := Nat.mul_le_mul_right 4294967296 (show u2 * 4294967296 + u1 + 1 ≤ Q * v1 from h)
      rw [Nat.add_mul] at this
      omega
    · exact h
  obtain ⟨q', hq', q, rfl, hok⟩ := guess_loop v1 v0 u0 (u2 * 4294967296 + u1) hv1 hv1' hv0 hu0 2 _ _ 10 (show (u2 * 4294967296 + u1) % v1 < 4294967296 by omega) (by omega) hq0 hq2 hqr hge (by omega)
  refine ⟨q, ?_, hok⟩
  unfold nat_guess.f
  rw [e0, e1, if_neg (by omega), Int.tdiv_eq_ediv_of_nonneg (by omega), Int.tmod_eq_emod_of_nonneg (by omega), ← Int.natCast_ediv, ← Int.natCast_emod, u64w (Int.natCast_nonneg _) (by clear hq'; omega)]
  exact hq'
/-- A guess is told, whatever the limbs are, by a divisor whose highest bit is set. -/
theorem u64_rng (z : Int) : 0 ≤ IntKind.u64.wrap z ∧ IntKind.u64.wrap z < 18446744073709551616 := by
  have : IntKind.u64.wrap z = z % 18446744073709551616 := by simp [IntKind.wrap, IntKind.bits, IntKind.signed]
  rw [this]; omega
theorem guess_told_loop (v1 v0 u0 : Int) (hv1 : 2147483648 ≤ v1) (hv1' : v1 < 4294967296) : ∀ (m : Nat) (q r : Int) (k : Nat), 0 ≤ r → r < 4294967296 → 4294967296 ≤ r + m * v1 → (0 ≤ q ∧ q < 18446744073709551616) → 2 * m + 3 ≤ k → ∃ q', nat_guess.l0 k u0 v1 v0 q r = some q' ∧ 0 ≤ q' ∧ q' < 18446744073709551616 := by
  intro m
  induction m with
  | zero => intro q r k h0 hr hm; simp at hm; omega
  | succ m ih =>
    intro q r k h0 hr hm hq hk
    obtain ⟨k, rfl⟩ : ∃ j, k = j + 2 := ⟨k - 2, by omega⟩
    have e1 : IntKind.u64.wrap (r + IntKind.u64.wrap v1) = r + v1 := by rw [u64w (show (0 : Int) ≤ v1 by omega) (by omega), u64w (show (0 : Int) ≤ r + v1 by omega) (by omega)]
    have step : ∀ b : Bool, ∃ q', nat_guess.j1 (k + 1) u0 v1 v0 q r b = some q' ∧ 0 ≤ q' ∧ q' < 18446744073709551616 := by
      intro b
      rw [nat_guess.j1.eq_2, e1]
      cases b with
      | true =>
        rw [if_pos rfl]
        by_cases hbr : 4294967296 ≤ r + v1
        · rw [if_pos (by omega)]
          exact ⟨_, rfl, u64_rng _⟩
        · rw [if_neg (by omega)]
          refine ih _ _ k (by omega) (by omega) ?_ (u64_rng _) (by omega)
          have : ((m + 1 : Nat) : Int) * v1 = (m : Int) * v1 + v1 := by rw [Int.natCast_add, Int.add_mul]; simp
          omega
      | false =>
        rw [if_neg (by simp)]
        exact ⟨_, rfl, hq⟩
    rw [nat_guess.l0.eq_2]
    split
    · exact step _
    · exact step _
theorem guess_told (u2 u1 u0 v1 v0 : Int) (hu2 : 0 ≤ u2 ∧ u2 < 4294967296) (hu1 : 0 ≤ u1 ∧ u1 < 4294967296) (hv1 : 2147483648 ≤ v1) (hv1' : v1 < 4294967296) : ∃ q : Int, nat_guess.f 10 u2 u1 u0 v1 v0 = some q ∧ 0 ≤ q ∧ q < 18446744073709551616 := by
  have e1 : IntKind.u64.wrap v1 = v1 := u64w (by omega) (by omega)
  have e0 : bits .or .u64 (IntKind.u64.wrap ((IntKind.u64.wrap u2) * 4294967296)) (IntKind.u64.wrap u1) = u2 * 4294967296 + u1 := by
    rw [u64w hu2.1 (by omega), u64w (show (0 : Int) ≤ u2 * 4294967296 by omega) (by omega), u64w hu1.1 (by omega), or64 hu2.1 hu2.2 hu1.1 hu1.2]
  unfold nat_guess.f
  rw [e0, e1, if_neg (by omega), Int.tmod_eq_emod_of_nonneg (by omega)]
  have h1 := Int.emod_nonneg (u2 * 4294967296 + u1) (show v1 ≠ 0 by omega)
  have h2 := Int.emod_lt_of_pos (u2 * 4294967296 + u1) (show 0 < v1 by omega)
  exact guess_told_loop v1 v0 u0 hv1 hv1' 2 _ _ 10 h1 (by omega) (by omega) (u64_rng _) (by omega)
/-- Knuth's theorem: the guess is the digit, or one more. -/
theorem guess_digit {X V X3 D W q : Nat} (hW : 0 < W) (hq : GuessOk X3 D q) (hX0 : X3 * W ≤ X) (hX1 : X < (X3 + 1) * W) (hV0 : D * W ≤ V) (hV1 : V < (D + 1) * W) (hD : 4294967296 * 2147483648 ≤ D) (hXV : X < V * 4294967296) : X / V ≤ q ∧ q ≤ X / V + 1 := by
  have hVp : 0 < V := by
    have := Nat.mul_le_mul (show 1 ≤ D by omega) (show 1 ≤ W by omega); omega
  constructor
  · refine hq.ge _ ((Nat.div_lt_iff_lt_mul hVp).2 (by rw [Nat.mul_comm]; exact hXV)) ?_
    have h1 := Nat.div_mul_le_self X V
    have h2 := Nat.mul_le_mul_left (X / V) hV0
    rw [← Nat.mul_assoc] at h2
    have h3 : X / V * D * W < (X3 + 1) * W := by omega
    have := Nat.lt_of_mul_lt_mul_right h3
    omega
  · rcases Nat.eq_zero_or_pos q with h0 | h0
    · rw [h0]; exact Nat.zero_le _
    · have h1 : (q - 1) * V ≤ X := by
        have h2 : (q - 1) * V ≤ (q - 1) * ((D + 1) * W) := Nat.mul_le_mul_left _ (by omega)
        have h3 : (q - 1) * ((D + 1) * W) = (q * D + q - D - 1) * W := by
          rw [← Nat.mul_assoc]
          congr 1
          obtain ⟨p, rfl⟩ : ∃ p, q = p + 1 := ⟨q - 1, by omega⟩
          rw [Nat.add_sub_cancel, Nat.mul_add, Nat.add_mul]
          omega
        have hlt := hq.lt
        have h4 : q * D + q - D - 1 ≤ X3 := by have := hq.le; omega
        have h5 := Nat.mul_le_mul_right W h4
        omega
      have := (Nat.le_div_iff_mul_le hVp).2 h1
      generalize X / V = Z at *
      omega
/-! left, right -/
theorem two_pow (n : Nat) : (2 : Int) ^ n = ((2 ^ n : Nat) : Int) := by rw [Int.natCast_pow]; rfl
theorem sh_val (a : List Int) (ha : okL a) (n : Nat) (hn : n < 32) : ∀ i, okL (shAt a n i) ∧ val (shAt a n i) + 4294967296 ^ i * (moAt a n i).toNat = val (a.take i) * 2 ^ n
  | 0 => ⟨okL_nil, by simp [shAt, moAt, val]⟩
  | i + 1 => by
    obtain ⟨h1, h2⟩ := sh_val a ha n hn i
    have hm := moAt_bd ha hn i
    obtain ⟨x, hx⟩ : ∃ x : Nat, a.getD i 0 = x := ⟨(a.getD i 0).toNat, by have := okL_getD ha i; omega⟩
    have hxb := okL_getD ha i
    rw [hx] at hxb
    obtain ⟨mo, hmo⟩ : ∃ m : Nat, moAt a n i = m := ⟨(moAt a n i).toNat, by omega⟩
    rw [hmo, two_pow] at hm
    rw [hmo, Int.toNat_natCast] at h2
    have hB : 2 ^ n * 2 ^ (32 - n) = 4294967296 := by rw [← Nat.pow_add, show n + (32 - n) = 32 by omega]
    have e1 : a.getD i 0 * 2 ^ n % 4294967296 + moAt a n i = ((x * 2 ^ n % 4294967296 + mo : Nat) : Int) := by rw [hx, hmo, two_pow, ← Int.natCast_mul]; omega
    have e2 : a.getD i 0 / 2 ^ (32 - n) = ((x / 2 ^ (32 - n) : Nat) : Int) := by rw [hx, two_pow, ← Int.natCast_ediv]
    have e3 : x * 2 ^ n / 4294967296 = x / 2 ^ (32 - n) := by rw [← hB, Nat.mul_comm x, Nat.mul_div_mul_left _ _ (Nat.two_pow_pos n)]
    have e4 : x * 2 ^ n % 4294967296 + mo < 4294967296 := by
      have h5 : x * 2 ^ n % 4294967296 = 2 ^ n * (x % 2 ^ (32 - n)) := by rw [← hB, Nat.mul_comm x, Nat.mul_mod_mul_left]
      have h6 := Nat.mod_lt x (Nat.two_pow_pos (32 - n))
      have h7 := Nat.mul_le_mul_left (2 ^ n) (show x % 2 ^ (32 - n) + 1 ≤ 2 ^ (32 - n) by omega)
      rw [hB, Nat.mul_add, Nat.mul_one] at h7
      omega
    refine ⟨?_, ?_⟩
    · rw [shAt, okL_app, e1]
      exact ⟨h1, okL_cons.2 ⟨by omega, okL_nil⟩⟩
    · rw [shAt, moAt, e1, e2, val_app, shAt_len, val_take_step, hx, Int.toNat_natCast, Int.toNat_natCast]
      have e5 : val [((x * 2 ^ n % 4294967296 + mo : Nat) : Int)] = x * 2 ^ n % 4294967296 + mo := by generalize x * 2 ^ n % 4294967296 + mo = z; simp [val]
      rw [e5, ← e3, Nat.pow_succ, Nat.add_mul, ← h2, Nat.mul_assoc]
      have e6 := Nat.mod_add_div (x * 2 ^ n) 4294967296
      have e7 := congrArg (fun z => 4294967296 ^ i * z) e6
      simp only [Nat.mul_add] at e7 ⊢
      rw [Nat.mul_assoc]
      omega
/-- Limbs so many bits up. -/
theorem left_val {a : List Int} (ha : okL a) {n : Nat} (hn : n < 32) (hz : a.length ≤ 1073741824) : ∃ u, nat_num_left.f a n = some u ∧ okL u ∧ u.length = a.length + 1 ∧ val u = val a * 2 ^ n := by
  obtain ⟨h1, h2⟩ := sh_val a ha n hn a.length
  have hm := moAt_bd ha hn a.length
  have hp : (2 : Int) ^ n ≤ 4294967296 := by
    rw [two_pow]
    have := Nat.pow_le_pow_right (show 0 < 2 by omega) (show n ≤ 32 by omega)
    omega
  refine ⟨shAt a n a.length ++ [moAt a n a.length], ?_, ?_, ?_, ?_⟩
  · unfold nat_num_left.f
    rw [Int.toNat_natCast, if_pos ⟨ha, hz, by omega, by omega⟩]
  · rw [okL_app]; exact ⟨h1, okL_cons.2 ⟨by omega, okL_nil⟩⟩
  · rw [List.length_append, shAt_len]; rfl
  · rw [val_app, shAt_len]
    rw [List.take_length] at h2
    rw [← h2]
    simp [val]
theorem val_of_digits (N : Nat) : ∀ (l : List Int) (i : Nat), i ≤ l.length → (∀ j, j < i → l.getD j 0 = ((N / 4294967296 ^ j % 4294967296 : Nat) : Int)) → val (l.take i) = N % 4294967296 ^ i
  | l, 0, _, _ => by simp [val, Nat.mod_one]
  | l, i + 1, hi, h => by
    rw [val_take_step, val_of_digits N l i (by omega) (fun j hj => h j (by omega)), h i (by omega), Int.toNat_natCast, Nat.pow_succ, Nat.mod_mul]
/-- A limb of what is shifted down. -/
theorem right_digit (N n i : Nat) (hn : n < 32) : N / 2 ^ n / 4294967296 ^ i % 4294967296 = N / 4294967296 ^ i % 4294967296 / 2 ^ n + (N / 4294967296 ^ (i + 1) % 4294967296 * 2 ^ (32 - n)) % 4294967296 := by
  have hB : 2 ^ n * 2 ^ (32 - n) = 4294967296 := by rw [← Nat.pow_add, show n + (32 - n) = 32 by omega]
  have hp := Nat.two_pow_pos n
  have hp2 := Nat.two_pow_pos (32 - n)
  rw [Nat.div_div_eq_div_mul, Nat.mul_comm (2 ^ n), ← Nat.div_div_eq_div_mul, Nat.pow_succ, ← Nat.div_div_eq_div_mul]
  generalize N / 4294967296 ^ i = A
  obtain ⟨x, hx⟩ : ∃ x, A % 4294967296 = x := ⟨_, rfl⟩
  obtain ⟨Y, hY⟩ : ∃ Y, A / 4294967296 = Y := ⟨_, rfl⟩
  have hA : A = x + 2 ^ n * (2 ^ (32 - n) * Y) := by rw [← Nat.mul_assoc, hB, ← hx, ← hY]; omega
  rw [hx, hY]
  have h1 : A / 2 ^ n = x / 2 ^ n + 2 ^ (32 - n) * Y := by rw [hA, Nat.add_mul_div_left _ _ hp]
  have h2 : x / 2 ^ n < 2 ^ (32 - n) := by
    rw [Nat.div_lt_iff_lt_mul hp, Nat.mul_comm, hB]
    omega
  have h3 : Y % 4294967296 * 2 ^ (32 - n) % 4294967296 = 2 ^ (32 - n) * (Y % 2 ^ n) := by
    rw [Nat.mul_comm, ← hB, Nat.mul_comm (2 ^ n), Nat.mul_mod_mul_left, Nat.mod_mul_left_mod]
  have h4 : Y = 2 ^ n * (Y / 2 ^ n) + Y % 2 ^ n := (Nat.div_add_mod _ _).symm
  have h5 := Nat.mod_lt Y hp
  have h6 := Nat.mul_le_mul_left (2 ^ (32 - n)) (show Y % 2 ^ n + 1 ≤ 2 ^ n by omega)
  rw [Nat.mul_comm _ (2 ^ n), hB, Nat.mul_add, Nat.mul_one] at h6
  rw [h1, h3]
  have h7 : 2 ^ (32 - n) * Y = 4294967296 * (Y / 2 ^ n) + 2 ^ (32 - n) * (Y % 2 ^ n) := by
    conv => lhs; rw [h4]
    rw [Nat.mul_add, ← Nat.mul_assoc, Nat.mul_comm (2 ^ (32 - n)) (2 ^ n), hB]
  rw [h7]
  clear h1 h3 h4 h5 h7 hA
  generalize x / 2 ^ n = p at *
  generalize 2 ^ (32 - n) * (Y % 2 ^ n) = M at *
  generalize Y / 2 ^ n = z at *
  omega
theorem or_low {x y n : Nat} (hn : n ≤ 32) (hx : x < 2 ^ n) (hy : y % 2 ^ n = 0) (hy2 : y < 4294967296) : bits .or .u32 (x : Int) (y : Int) = ((x + y : Nat) : Int) := by
  have hx2 : x < 4294967296 := Nat.lt_of_lt_of_le hx (Nat.pow_le_pow_right (n := 2) (by omega) hn)
  rw [u32_or_nat x y hx2 hy2]
  congr 1
  rw [Nat.or_comm, nat_join n y x hy hx, Nat.add_comm]
theorem right_loop (a : List Int) (ha : okL a) (n : Nat) (hn : n < 32) (hz : a.length ≤ 1073741824) : ∀ (m i k : Nat) (out : List Int), i + m = a.length → m + 1 ≤ k → okL out → out.length = a.length → (∀ j, j < i → out.getD j 0 = ((val a / 2 ^ n / 4294967296 ^ j % 4294967296 : Nat) : Int)) →
    nat_num_right.l0 k a n out a a.length i = some (limbs (val a / 2 ^ n))
  | 0, i, k, out, hi, hk, hok, hl, hd => by
    obtain ⟨k, rfl⟩ : ∃ j, k = j + 1 := ⟨k - 1, by omega⟩
    have hv := val_of_digits (val a / 2 ^ n) out i (by omega) hd
    rw [List.take_of_length_le (by omega), Nat.mod_eq_of_lt (by rw [show i = a.length by omega]; exact Nat.lt_of_le_of_lt (Nat.div_le_self _ _) (val_lt ha))] at hv
    rw [nat_num_right.l0.eq_2, if_neg (by omega)]
    unfold nat_num_trim.f
    rw [if_pos ⟨hok, by omega⟩, hv]
    rfl
  | m + 1, i, k, out, hi, hk, hok, hl, hd => by
    obtain ⟨k, rfl⟩ : ∃ j, k = j + 1 := ⟨k - 1, by omega⟩
    have hB : 2 ^ n * 2 ^ (32 - n) = 4294967296 := by rw [← Nat.pow_add, show n + (32 - n) = 32 by omega]
    have hg : ∀ j, a.getD j 0 = ((val a / 4294967296 ^ j % 4294967296 : Nat) : Int) := fun j => by
      have h1 : (val (a.drop j) : Nat) = val a / 4294967296 ^ j := by
        by_cases hj : j ≤ a.length
        · have := val_app (a.take j) (a.drop j)
          rw [List.take_append_drop, List.length_take, Nat.min_eq_left hj] at this
          have hlt := val_lt (okL_take ha j)
          rw [List.length_take, Nat.min_eq_left hj] at hlt
          rw [this, Nat.add_mul_div_left _ _ (Nat.pow_pos (by omega)), Nat.div_eq_of_lt hlt, Nat.zero_add]
        · rw [List.drop_of_length_le (by omega), val]
          symm
          exact Nat.div_eq_of_lt (Nat.lt_of_lt_of_le (val_lt ha) (Nat.pow_le_pow_right (by omega) (by omega)))
      by_cases hj : j < a.length
      · rw [← h1, drop_getD hj, val]
        have := okL_getD ha j
        omega
      · rw [← h1, List.drop_of_length_le (by omega), List.getD_eq_getElem?_getD, List.getElem?_eq_none (by omega)]
        rfl
    obtain ⟨x, hx⟩ : ∃ x, val a / 4294967296 ^ i % 4294967296 = x := ⟨_, rfl⟩
    obtain ⟨y, hy⟩ : ∃ y, val a / 4294967296 ^ (i + 1) % 4294967296 = y := ⟨_, rfl⟩
    have hxb : x < 4294967296 := by rw [← hx]; exact Nat.mod_lt _ (by omega)
    have hyb : y < 4294967296 := by rw [← hy]; exact Nat.mod_lt _ (by omega)
    have hdig := right_digit (val a) n i hn
    rw [hx, hy] at hdig
    have hgx := hg i
    rw [hx] at hgx
    have hgy := hg (i + 1)
    rw [hy] at hgy
    have hxs : x / 2 ^ n < 2 ^ (32 - n) := by rw [Nat.div_lt_iff_lt_mul (Nat.two_pow_pos n), Nat.mul_comm, hB]; exact hxb
    have esr : shr .u32 (x : Int) (n : Int) = ((x / 2 ^ n : Nat) : Int) := by
      unfold shr
      rw [Int.toNat_natCast, Nat.min_eq_left (by show n ≤ 32; omega), two_pow, ← Int.natCast_ediv]
    have hle : x / 2 ^ n < 4294967296 := Nat.lt_of_le_of_lt (Nat.div_le_self _ _) hxb
    have key : ∀ d : Nat, d < 4294967296 → val a / 2 ^ n / 4294967296 ^ i % 4294967296 = d → nat_num_right.l0 k a n (out.set i (d : Int)) a a.length ((i + 1 : Nat) : Int) = some (limbs (val a / 2 ^ n)) := fun d hd' he => by
      refine right_loop a ha n hn hz m (i + 1) k _ (by omega) (by omega) (okL_set hok _ (by omega) (by omega)) (by rw [List.length_set, hl]) (fun j hj => ?_)
      rw [getD_set]
      by_cases hji : i = j
      · subst hji
        rw [if_pos ⟨rfl, by omega⟩, he]
      · rw [if_neg (by omega)]
        exact hd j (by omega)
    rw [nat_num_right.l0.eq_2, if_pos (by omega), if_pos (by omega), if_pos (by omega), if_pos (by omega), if_pos (by omega), rdn, hgx, esr, w64 ((i : Int) + 1) (by omega), Int.toNat_natCast]
    simp only [Option.bind_some]
    by_cases hlast : i + 1 < a.length
    · have esl : shl .u64 (IntKind.u64.wrap (y : Int)) (wrap64 (32 - (n : Int))) % 4294967296 = ((y * 2 ^ (32 - n) % 4294967296 : Nat) : Int) := by
        have hp : y * 2 ^ (32 - n) < 18446744073709551616 := by
          have h1 : 2 ^ (32 - n) ≤ 2 ^ 32 := Nat.pow_le_pow_right (by omega) (by omega)
          have := Nat.mul_lt_mul_of_lt_of_le hyb h1 (by omega)
          omega
        unfold shl
        rw [w64 _ (by omega), show (32 - (n : Int)).toNat = 32 - n by omega, Nat.min_eq_left (by show 32 - n ≤ 64; omega), u64w (show (0 : Int) ≤ (y : Int) by omega) (by omega), two_pow, ← Int.natCast_mul, u64w (by omega) (by omega)]
        omega
      rw [if_pos (by omega), if_pos (by omega), w64 (32 - (n : Int)) (by omega), if_pos (by omega), rdn, getD_set, if_pos ⟨rfl, by omega⟩, show (i : Int) + 1 = ((i + 1 : Nat) : Int) by omega, rdn, hgy]
      rw [w64 (32 - (n : Int)) (by omega)] at esl
      rw [esl, or_low (n := 32 - n) (by omega) hxs (by
        rw [Nat.mod_mod_of_dvd _ ⟨2 ^ n, by rw [Nat.mul_comm, hB]⟩]
        exact Nat.mul_mod_left _ _) (Nat.mod_lt _ (by omega)), List.set_set]
      exact key _ (by rw [← hdig]; exact Nat.mod_lt _ (by omega)) hdig
    · have hy0 : y = 0 := by
        rw [← hy, Nat.div_eq_of_lt (Nat.lt_of_lt_of_le (val_lt ha) (Nat.pow_le_pow_right (by omega) (by omega)))]
      rw [hy0, Nat.zero_mul, Nat.zero_mod, Nat.add_zero] at hdig
      rw [if_neg (by omega), show (i : Int) + 1 = ((i + 1 : Nat) : Int) by omega]
      exact key _ hle hdig
theorem right_f (a : List Int) (ha : okL a) (n : Nat) (hn : n < 32) (hz : a.length ≤ 1073741824) (k : Nat) (hk : a.length + 1 ≤ k) : nat_num_right.f k a n = some (limbs (val a / 2 ^ n)) := by
  unfold nat_num_right.f
  rw [if_pos (by omega), if_pos (by omega), Int.toNat_natCast]
  exact right_loop a ha n hn hz a.length 0 k _ (by omega) hk (fun z hz => by rw [List.eq_of_mem_replicate hz]; omega) (by simp) (fun j hj => by omega)
/-- A limb's shift, that its highest bit is set. -/
theorem lead_f (x : Nat) (h0 : 0 < x) (h1 : x < 4294967296) : ∃ s : Nat, bits_LeadingZeros32.f x = some (s : Int) ∧ s < 32 ∧ 2147483648 ≤ x * 2 ^ s ∧ x * 2 ^ s < 4294967296 := by
  unfold bits_LeadingZeros32.f bits_Len32.f
  rw [if_pos (by omega), Option.bind_some, Int.toNat_natCast]
  unfold len2
  rw [if_neg (by omega)]
  have a1 := Nat.log2_self_le (show x ≠ 0 by omega)
  have a2 := @Nat.lt_log2_self x
  have hlt : x.log2 < 32 := by
    rcases Nat.lt_or_ge x.log2 32 with h | h
    · exact h
    · have := Nat.pow_le_pow_right (show 0 < 2 by omega) h; omega
  refine ⟨31 - x.log2, ?_, by omega, ?_, ?_⟩
  · rw [w64 _ (by omega)]
    congr 1
    omega
  · have := Nat.mul_le_mul_right (2 ^ (31 - x.log2)) a1
    rw [← Nat.pow_add, show x.log2 + (31 - x.log2) = 31 by omega] at this
    exact this
  · have := Nat.mul_lt_mul_of_pos_right a2 (Nat.two_pow_pos (31 - x.log2))
    rw [← Nat.pow_add, show x.log2 + 1 + (31 - x.log2) = 32 by omega] at this
    exact this
end Go.Proofs.YtdgebcgcabhjoaaDoor.P
namespace Go.Proofs.YtdgebcgcabhjoaaDoor.P
set_option linter.unusedVariables false
set_option linter.unusedSimpArgs false
open Go.RowKit Go
section
variable {F : Fence} {n : Nat} {P : Program} {ops : Array Oper} {C : World → Prop} {md : Region.Mode}
/-- Whatever order is picked, the first m operations come ahead of the others. -/
def wpHead (F : Fence) (n : Nat) (P : Program) (md : Region.Mode) (ops : Array Oper) (C : World → Prop) (m : Nat) (L : Array Bool → Act → Prop) : Nat → Array Bool → Act → Prop
  | 0, listed, a => L listed a
  | f + 1, listed, a => Region.ready md ops listed ≠ [] ∧ ∀ i ∈ Region.ready md ops listed, i < m ∧ qOpIn F n P ops C i (wpHead F n P md ops C m L f (listed.setIfInBounds i true)) a
theorem any_of_head {m g : Nat} {L : Array Bool → Act → Prop} {Q' : Exit → Act → World → Prop} (hd : ∀ (i : Nat) o, ops[i]? = some o → ∀ c, o.op ≠ .defer c) (hL : ∀ listed a w, C w → L listed a → wpAnyIn F n P md ops Q' g listed a w) :
    ∀ (f : Nat) (listed : Array Bool) (a : Act) (w : World), C w → wpHead F n P md ops C m L f listed a → wpAnyIn F n P md ops Q' (f + g) listed a w
  | 0, listed, a, w, hw, h => by rw [Nat.zero_add]; exact hL _ _ _ hw h
  | f + 1, listed, a, w, hw, h => by
    rw [show f + 1 + g = (f + g) + 1 by omega]
    exact ⟨fun h0 => absurd h0 h.1, fun i hi => op_of_quiet hd hw (fun a' w' hw' h' => any_of_head hd hL f _ a' w' hw' h') (h.2 i hi).2⟩
theorem head_first {m i : Nat} {oi : Oper} {v : Value} {L : Array Bool → Act → Prop} (hi : ops[i]? = some oi) (hsel : ∀ (j : Nat) (o : Oper) cs b, ops[j]? = some o → o.op ≠ .select cs b)
    (hs : Region.sinkB md ops m = true) (hc : Region.chainB md ops m = true) (hn : m < ops.size) (him : i < m) (hdone : ∀ listed a, L listed a → ∀ j ∈ Region.ready md ops listed, m ≤ j) :
    ∀ (f : Nat) (listed : Array Bool) (a : Act), HeadInv md ops m listed →
      (∀ j oj, ops[j]? = some oj → j ≠ i → listed.getD j true = false → (∀ e ∈ oj.after, Region.binds md e = true → e.on ≠ i) → oi.apart ops oj = true) →
      i ∈ Region.ready md ops listed → YieldsQuiet F n P ops C oi v a →
      wpHead F n P md ops C m L f (listed.setIfInBounds i true) (a.put oi.dst v) → wpHead F n P md ops C m L (f + 1) listed a := by
  intro f
  induction f with
  | zero =>
    intro listed a inv _ hr hy H
    have hun := (mem_ready.1 hr).1
    refine ⟨fun h => (by rw [h] at hr; cases hr), fun j hj => ?_⟩
    have hjn : j < m := by
      rcases Nat.lt_or_ge j m with h | h
      · exact h
      · exact absurd hj (tail_waits hs hc hn inv _ i rfl him hun j h)
    refine ⟨hjn, ?_⟩
    by_cases hji : j = i
    · subst hji; exact hy.qOpIn hi H
    · have := hdone _ _ H j (ready_mono hj hji)
      omega
  | succ f ih =>
    intro listed a inv hfree hr hy H
    have hun := (mem_ready.1 hr).1
    refine ⟨fun h => (by rw [h] at hr; cases hr), fun j hj => ?_⟩
    have hjn : j < m := by
      rcases Nat.lt_or_ge j m with h | h
      · exact h
      · exact absurd hj (tail_waits hs hc hn inv _ i rfl him hun j h)
    refine ⟨hjn, ?_⟩
    by_cases hji : j = i
    · subst hji; exact hy.qOpIn hi H
    · have h1 := (H.2 j (ready_mono hj hji)).2
      obtain ⟨hjun, oj, hoj, hall⟩ := mem_ready.1 hj
      have hnot : ∀ e ∈ oj.after, Region.binds md e = true → e.on ≠ i := fun e he hb heq => by
        have h1 := hall e he hb
        rw [heq, getD_both hun] at h1
        cases h1
      have h2 := qOpIn_put hoj (hfree j oj hoj hji hjun hnot) (fun cs b => hsel i oi cs b hi) (fun cs b => hsel j oj cs b hoj) hy h1
      have hfree' : ∀ k ok, ops[k]? = some ok → k ≠ i → (listed.setIfInBounds j true).getD k true = false →
          (∀ e ∈ ok.after, Region.binds md e = true → e.on ≠ i) → oi.apart ops ok = true := fun k ok hk hki hun hno => by
        refine hfree k ok hk hki ?_ hno
        by_cases hjk : j = k
        · subst hjk; exact hjun
        · rw [getD_set_ne true hjk] at hun; exact hun
      refine qOpIn_mono (fun a' h3 => ih (listed.setIfInBounds j true) a' (inv.set hj hjn) hfree' (ready_mono hr (Ne.symm hji)) h3.1 ?_) h2
      rw [Array.setIfInBounds_comm _ _ hji]
      exact h3.2
def headB (md : Region.Mode) (ops : Array Oper) (M : Array Bool) : Nat → Nat → Array Bool → Bool
  | 0, _, listed => listed == M
  | f + 1, k, listed => (Region.ready md ops listed).contains k && Region.free md ops listed k && headB md ops M f (k + 1) (listed.setIfInBounds k true)
theorem head_lex {m : Nat} {M : Array Bool} {E : Act → Prop} (hsel : Region.noSelect ops = true) (hs : Region.sinkB md ops m = true) (hc : Region.chainB md ops m = true) (hn : m < ops.size) (hM : ∀ j ∈ Region.ready md ops M, m ≤ j) :
    ∀ (l : List Oper) (k : Nat) (listed : Array Bool) (a : Act), (∀ j, j < l.length → l[j]? = ops[k + j]?) → k + l.length = m → HeadInv md ops m listed →
    headB md ops M l.length k listed = true → wpQuietIn F n P ops C E l a → wpHead F n P md ops C m (fun listed' a' => listed' = M ∧ E a') l.length listed a
  | [], k, listed, a, _, hk, _, hB, h => ⟨by simpa [headB] using hB, h⟩
  | o :: l, k, listed, a, hl, hk, inv, hB, h => by
    have h0 : ops[k]? = some o := by simpa using (hl 0 (by simp)).symm
    simp only [List.length_cons, headB, Bool.and_eq_true] at hB
    obtain ⟨⟨hr, hf⟩, hB'⟩ := hB
    have hkn : k < m := by simp only [List.length_cons] at hk; omega
    have hr' : k ∈ Region.ready md ops listed := by simpa using hr
    have hst : qOpIn F n P ops C k (wpQuietIn F n P ops C E l) a := by unfold qOpIn; simp only [h0]; exact h
    obtain ⟨v, hy, hK⟩ := yieldsQuiet_of_qOpIn h0 hst
    exact head_first h0 (Region.noSelect_spec hsel) hs hc hn hkn (fun listed' a' hL => by rw [hL.1]; exact hM) l.length listed a inv (Region.free_spec h0 hf) hr' hy
      (head_lex hsel hs hc hn hM l (k + 1) _ _ (fun j hj => by have := hl (j + 1) (by simp; omega); simpa [Nat.add_assoc, Nat.add_comm 1 j] using this) (by simp only [List.length_cons] at hk; omega) (inv.set hr' hkn) hB' hK)
def tailB (ops : Array Oper) (m : Nat) : Bool := headB .any ops (mask1 m (ops.size - m)) m 0 (Array.replicate ops.size false) && Region.sinkB .any ops m && Region.chainB .any ops m && Region.noSelect ops && decide (m < ops.size) && noDeferB ops.toList && (Region.ready .any ops (mask1 m (ops.size - m))).all (fun j => decide (m ≤ j))
/-- A region within a round: its first m operations turn no memory, in any order; the others come behind them all. -/
theorem region_tail_round {id : Nat} {Q : Exit → Act → World → Prop} {a : Act} {w : World} (m : Nat) (hm : P.follows .mixedOrders = true) (hB : tailB ops m = true)
    (h : wpQuietIn F n P ops (fun w' => ∃ n, w' = w.drewN n) (fun a' => ∀ w', (∃ n, w' = w.drewN n) → wpAnyIn F n P .any ops Q (ops.size - m) (mask1 m (ops.size - m)) a' w') (ops.toList.take m) a) : (Code.region id ops true).wpIn F n P Q a w := by
  unfold tailB at hB
  simp only [Bool.and_eq_true, decide_eq_true_eq] at hB
  obtain ⟨⟨⟨⟨⟨⟨h1, h2⟩, h3⟩, h4⟩, h5⟩, h6⟩, h7⟩ := hB
  have hd' : ∀ (i : Nat) o, ops[i]? = some o → ∀ c, o.op ≠ .defer c := by
    intro i o ho
    have : ops.toList[i]? = some o := by simpa using ho
    exact noDefer_spec h6 o (List.mem_of_getElem? this)
  have hl : (ops.toList.take m).length = m := by rw [List.length_take]; simp; omega
  have hr : ∀ j ∈ Region.ready .any ops (mask1 m (ops.size - m)), m ≤ j := fun j hj => by simpa using List.all_eq_true.1 h7 j hj
  have inv0 : HeadInv .any ops m (Array.replicate ops.size false) :=
    ⟨by simp, fun j oj _ hl => (by rw [getD_replicate_false] at hl; cases hl), fun t _ ht => getD_in (by simpa using ht) (getD_replicate_false _ _)⟩
  have hp := head_lex (F := F) (n := n) (P := P) (C := fun w' => ∃ n, w' = w.drewN n) h4 h2 h3 h5 hr (ops.toList.take m) 0 (Array.replicate ops.size false) a (fun j hj => by
    rw [hl] at hj
    rw [List.getElem?_take_of_lt hj]
    simp) (by rw [hl]; omega) inv0 (by rw [hl]; exact h1) h
  rw [hl] at hp
  refine wpIn_region_any hm ?_
  have := any_of_head (F := F) (n := n) (P := P) (md := .any) (ops := ops) (C := fun w' => ∃ n, w' = w.drewN n) (Q' := Q) (g := ops.size - m) hd' (fun listed a' w' hw' he => by rw [he.1]; exact he.2 w' hw') m _ a { w with drawn := w.drawn + 1 } ⟨1, rfl⟩ hp
  rw [show m + (ops.size - m) = ops.size by omega] at this
  exact this
end
end Go.Proofs.YtdgebcgcabhjoaaDoor.P
namespace Go.Proofs.YtdgebcgcabhjoaaDoor.P
set_option linter.unusedVariables false
set_option linter.unusedSimpArgs false
open Go.RowKit Go.Shelf Go.Proofs.YtdgebcgcabhjoaaDoorW.PrintWords Go.Proofs.YtdgebcgcabhjoaaDoorW.PrintMore Go.Proofs.YtdgebcgcabhjoaaDoorW.PrintLast
/-! A step of the division, plain -/
def gs (us vs : List Int) (i : Nat) : Int := (nat_guess.f 10 (us.getD (i + vs.length) 0) (us.getD (i + vs.length - 1) 0) (us.getD (i + vs.length - 2) 0) (vs.getD (vs.length - 1) 0) (vs.getD (vs.length - 2) 0)).getD 0
def dvT (us vs : List Int) (i : Nat) : List Int × Int := toEnd us vs (gs us vs i) i
def dvU (us vs : List Int) (i : Nat) : List Int := if (dvT us vs i).2 > 0 then pbEnd (dvT us vs i).1 vs i else (dvT us vs i).1
def dvQ (us vs : List Int) (i : Nat) : Int := (if (dvT us vs i).2 > 0 then IntKind.u64.wrap (gs us vs i - 1) else gs us vs i) % 4294967296
theorem val_drop_step {l : List Int} {i : Nat} (h : i < l.length) : val (l.drop i) = (l.getD i 0).toNat + 4294967296 * val (l.drop (i + 1)) := by rw [drop_getD h, val]
theorem val_split (l : List Int) {i : Nat} (h : i ≤ l.length) : val l = val (l.take i) + 4294967296 ^ i * val (l.drop i) := by
  have := val_app (l.take i) (l.drop i)
  rwa [List.take_append_drop, List.length_take, Nat.min_eq_left h] at this
structure StepOk (us vs : List Int) (i : Nat) : Prop where
  guess : nat_guess.f 10 (us.getD (i + vs.length) 0) (us.getD (i + vs.length - 1) 0) (us.getD (i + vs.length - 2) 0) (vs.getD (vs.length - 1) 0) (vs.getD (vs.length - 2) 0) = some (gs us vs i)
  rng : 0 ≤ gs us vs i ∧ gs us vs i < 4294967296
  pos : (dvT us vs i).2 > 0 → 0 < gs us vs i
  ok : okL (dvU us vs i)
  len : (dvU us vs i).length = us.length
  take : (dvU us vs i).take i = us.take i
  rest : val ((dvU us vs i).drop i) = val (us.drop i) % val vs
  quot : dvQ us vs i = ((val (us.drop i) / val vs : Nat) : Int)
theorem step_ok {us vs : List Int} {i : Nat} (hu : okL us) (hv : okL vs) (hn : 2 ≤ vs.length) (htop : 2147483648 ≤ vs.getD (vs.length - 1) 0) (hi : i + vs.length < us.length) (hlt : val (us.drop (i + 1)) < val vs) : StepOk us vs i := by
  obtain ⟨n, hne⟩ : ∃ n, vs.length = n + 2 := ⟨vs.length - 2, by omega⟩
  have hVb : val vs < 4294967296 ^ (n + 2) := by rw [← hne]; exact val_lt hv
  -- the dividend and its limbs
  obtain ⟨X, hX⟩ : ∃ X, val (us.drop i) = X := ⟨_, rfl⟩
  have hXs := val_drop_step (l := us) (i := i) (by omega)
  have hui := okL_getD hu i
  have hXV : X < val vs * 4294967296 := by
    rw [← hX, hXs]
    have h1 := Nat.mul_le_mul_left 4294967296 (show val (us.drop (i + 1)) + 1 ≤ val vs from hlt)
    rw [Nat.mul_add, Nat.mul_comm 4294967296 (val vs)] at h1
    omega
  have hXb : X < 4294967296 ^ (n + 3) := by
    have := Nat.mul_lt_mul_of_pos_right hVb (show 0 < 4294967296 by omega)
    have e : 4294967296 ^ (n + 3) = 4294967296 ^ (n + 2) * 4294967296 := Nat.pow_succ ..
    rw [e]
    exact Nat.lt_trans hXV this
  -- what stands above is nothing
  have hhigh : val (us.drop (i + (n + 3))) = 0 := by
    have h1 := val_split (us.drop i) (i := n + 3) (by rw [List.length_drop]; omega)
    rw [List.drop_drop, hX] at h1
    rcases Nat.eq_zero_or_pos (val (us.drop (i + (n + 3)))) with h | h
    · exact h
    · have := Nat.le_mul_of_pos_right (4294967296 ^ (n + 3)) h; omega
  -- the three highest limbs of the dividend, the two highest of the divisor
  have hb : ∀ j, 0 ≤ us.getD j 0 ∧ us.getD j 0 < 4294967296 := fun j => okL_getD hu j
  have hbv : ∀ j, 0 ≤ vs.getD j 0 ∧ vs.getD j 0 < 4294967296 := fun j => okL_getD hv j
  obtain ⟨u2, hu2⟩ : ∃ u : Nat, us.getD (i + (n + 2)) 0 = u := ⟨(us.getD (i + (n + 2)) 0).toNat, by have := hb (i + (n + 2)); omega⟩
  obtain ⟨u1, hu1⟩ : ∃ u : Nat, us.getD (i + (n + 1)) 0 = u := ⟨(us.getD (i + (n + 1)) 0).toNat, by have := hb (i + (n + 1)); omega⟩
  obtain ⟨u0, hu0⟩ : ∃ u : Nat, us.getD (i + n) 0 = u := ⟨(us.getD (i + n) 0).toNat, by have := hb (i + n); omega⟩
  obtain ⟨v1, hv1⟩ : ∃ u : Nat, vs.getD (n + 1) 0 = u := ⟨(vs.getD (n + 1) 0).toNat, by have := hbv (n + 1); omega⟩
  obtain ⟨v0, hv0⟩ : ∃ u : Nat, vs.getD n 0 = u := ⟨(vs.getD n 0).toNat, by have := hbv n; omega⟩
  have b2 := hb (i + (n + 2)); rw [hu2] at b2
  have b1 := hb (i + (n + 1)); rw [hu1] at b1
  have b0 := hb (i + n); rw [hu0] at b0
  have c1 := hbv (n + 1); rw [hv1] at c1
  have c0 := hbv n; rw [hv0] at c0
  rw [hne, show n + 2 - 1 = n + 1 by omega, hv1] at htop
  have hW : 0 < 4294967296 ^ n := Nat.pow_pos (by omega)
  have hXr : val (us.drop (i + n)) = (u2 * 4294967296 + u1) * 4294967296 + u0 := by
    rw [val_drop_step (show i + n < us.length by omega), hu0, show i + n + 1 = i + (n + 1) by omega, val_drop_step (show i + (n + 1) < us.length by omega), hu1, show i + (n + 1) + 1 = i + (n + 2) by omega, val_drop_step (show i + (n + 2) < us.length by omega), hu2, show i + (n + 2) + 1 = i + (n + 3) by omega, hhigh]
    simp only [Int.toNat_natCast]
    omega
  have hXw := val_split (us.drop i) (i := n) (by rw [List.length_drop]; omega)
  rw [List.drop_drop, hXr, hX] at hXw
  have hXlo : val ((us.drop i).take n) < 4294967296 ^ n := by
    have := val_lt (okL_take (okL_drop hu i) n)
    rw [List.length_take, List.length_drop, Nat.min_eq_left (by omega)] at this
    exact this
  have hVr : val (vs.drop n) = v1 * 4294967296 + v0 := by
    rw [val_drop_step (show n < vs.length by omega), hv0, val_drop_step (show n + 1 < vs.length by omega), hv1, show n + 1 + 1 = n + 2 by omega, List.drop_of_length_le (by omega)]
    simp only [Int.toNat_natCast, val]
    omega
  have hVw := val_split vs (i := n) (by omega)
  rw [hVr] at hVw
  have hVlo : val (vs.take n) < 4294967296 ^ n := by
    have := val_lt (okL_take hv n)
    rw [List.length_take, Nat.min_eq_left (by omega)] at this
    exact this
  generalize 4294967296 ^ n = W at *
  generalize val ((us.drop i).take n) = xl at *
  generalize val (vs.take n) = vl at *
  have hX0 : ((u2 * 4294967296 + u1) * 4294967296 + u0) * W ≤ X := by rw [hXw, Nat.mul_comm]; omega
  have hX1 : X < ((u2 * 4294967296 + u1) * 4294967296 + u0 + 1) * W := by rw [hXw, Nat.add_mul _ 1, Nat.one_mul, Nat.mul_comm W]; omega
  have hV0 : (v1 * 4294967296 + v0) * W ≤ val vs := by rw [hVw, Nat.mul_comm]; omega
  have hV1 : val vs < (v1 * 4294967296 + v0 + 1) * W := by rw [hVw, Nat.add_mul _ 1, Nat.one_mul, Nat.mul_comm W]; omega
  have hu2v : u2 ≤ v1 := by
    rcases Nat.lt_or_ge v1 u2 with h | h
    · exfalso
      have e1 : ((u2 * 4294967296 + u1) * 4294967296 + u0) * W < (v1 * 4294967296 + v0 + 1) * W * 4294967296 := by omega
      rw [Nat.mul_right_comm] at e1
      have e2 := Nat.lt_of_mul_lt_mul_right e1
      omega
    · exact h
  obtain ⟨q, hg, hgo⟩ := guess_f u2 u1 u0 v1 v0 hu2v (by omega) (by omega) (by omega) (by omega) (by omega)
  obtain ⟨hq1, hq2⟩ := guess_digit hW hgo hX0 hX1 hV0 hV1 (by
    have := Nat.mul_le_mul_left 4294967296 (show 2147483648 ≤ v1 by omega); omega) hXV
  have hgs : gs us vs i = (q : Int) := by
    unfold gs
    rw [hne, show i + (n + 2) - 1 = i + (n + 1) by omega, show i + (n + 2) - 2 = i + n by omega, show n + 2 - 1 = n + 1 by omega, show n + 2 - 2 = n by omega, hu2, hu1, hu0, hv1, hv0, hg]
    rfl
  have hql := hgo.lt
  have hqr : 0 ≤ gs us vs i ∧ gs us vs i < 4294967296 := by rw [hgs]; omega
  obtain ⟨t1, t2, t3⟩ := toEnd_ok (us := us) (vs := vs) i hu hv hqr.1
  have tv := toEnd_val (us := us) (vs := vs) i hu hv hqr (by omega)
  have tt := toEnd_take us vs (gs us vs i) i
  have td := toEnd_drop us vs (gs us vs i) i
  rw [hgs, Int.toNat_natCast] at tv
  rw [hgs] at t1 t2 t3 tt td
  obtain ⟨T, hT⟩ : ∃ T, toEnd us vs (q : Int) i = T := ⟨_, rfl⟩
  rw [hT] at t1 t2 t3 tv tt td
  have hdT : dvT us vs i = T := by unfold dvT; rw [hgs, hT]
  have hBi : 0 < 4294967296 ^ i := Nat.pow_pos (by omega)
  -- values from place i on
  have hsU := val_split us (i := i) (by omega)
  have hsT := val_split T.1 (i := i) (by omega)
  rw [hX] at hsU
  rw [tt] at hsT
  have key : val (T.1.drop i) + q * val vs = X + 4294967296 ^ (n + 3) * T.2.toNat := by
    rw [hsU, hsT, hne, show i + (n + 2) + 1 = i + (n + 3) by omega, Nat.pow_add, Nat.mul_assoc, Nat.add_assoc, Nat.add_assoc] at tv
    have := Nat.add_left_cancel tv
    rw [← Nat.mul_add, ← Nat.mul_add] at this
    exact Nat.eq_of_mul_eq_mul_left hBi this
  have hTh : val (T.1.drop i) < 4294967296 ^ (n + 3) := by
    have h1 := val_split (T.1.drop i) (i := n + 3) (by rw [List.length_drop]; omega)
    rw [List.drop_drop, show i + (n + 3) = i + vs.length + 1 by omega, td, show i + vs.length + 1 = i + (n + 3) by omega, hhigh, Nat.mul_zero, Nat.add_zero] at h1
    rw [h1]
    have := val_lt (okL_take (okL_drop t1 i) (n + 3))
    rw [List.length_take, List.length_drop, Nat.min_eq_left (by omega)] at this
    exact this
  have hVp : 0 < val vs := by
    rcases Nat.eq_zero_or_pos (val vs) with h | h
    · rw [h] at hXV; omega
    · exact h
  have hdm := Nat.div_add_mod' X (val vs)
  have hml := Nat.mod_lt X hVp
  rcases Int.lt_or_le 0 T.2 with hbor | hbor
  · -- one too great
    have hT1 : T.2.toNat = 1 := by omega
    rw [hT1, Nat.mul_one] at key
    have hqe : q = X / val vs + 1 := by
      rcases Nat.lt_or_ge (X / val vs) q with h | h
      · omega
      · exfalso
        have := Nat.mul_le_mul_right (val vs) h
        omega
    obtain ⟨p1, p2⟩ := pbEnd_ok (us := T.1) (vs := vs) i t1 hv
    obtain ⟨c, pv⟩ := pbEnd_val (us := T.1) (vs := vs) i t1 hv (by omega)
    have pt := pbEnd_take T.1 vs i
    have pd := pbEnd_drop T.1 vs i
    obtain ⟨P, hP⟩ : ∃ P, pbEnd T.1 vs i = P := ⟨_, rfl⟩
    rw [hP] at p1 p2 pv pt pd
    have hsP := val_split P (i := i) (by omega)
    rw [pt, tt] at hsP
    have keyP : val (P.drop i) + 4294967296 ^ (n + 3) * c = val (T.1.drop i) + val vs := by
      rw [hsP, hsT, hne, show i + (n + 2) + 1 = i + (n + 3) by omega, Nat.pow_add, Nat.mul_assoc, Nat.add_assoc, Nat.add_assoc] at pv
      have := Nat.add_left_cancel pv
      rw [← Nat.mul_add, ← Nat.mul_add] at this
      exact Nat.eq_of_mul_eq_mul_left hBi this
    have hPh : val (P.drop i) < 4294967296 ^ (n + 3) := by
      have h1 := val_split (P.drop i) (i := n + 3) (by rw [List.length_drop]; omega)
      rw [List.drop_drop, show i + (n + 3) = i + vs.length + 1 by omega, pd, td, show i + vs.length + 1 = i + (n + 3) by omega, hhigh, Nat.mul_zero, Nat.add_zero] at h1
      rw [h1]
      have := val_lt (okL_take (okL_drop p1 i) (n + 3))
      rw [List.length_take, List.length_drop, Nat.min_eq_left (by omega)] at this
      exact this
    have hmV : val vs < 4294967296 ^ (n + 3) := Nat.lt_trans hVb (Nat.pow_lt_pow_right (by omega) (by omega))
    have hrest : val (P.drop i) = X % val vs := by
      rw [hqe, Nat.add_mul, Nat.one_mul] at key
      generalize X / val vs * val vs = m1 at *
      generalize X % val vs = m2 at *
      generalize 4294967296 ^ (n + 3) = BB at *
      rcases c with _ | _ | c
      · rw [Nat.mul_zero] at keyP; omega
      · rw [Nat.zero_add, Nat.mul_one] at keyP; omega
      · rw [show c + 1 + 1 = c + 2 from rfl, Nat.mul_add] at keyP; omega
    refine ⟨by rw [hgs]; unfold gs at hgs; rw [hne, show i + (n + 2) - 1 = i + (n + 1) by omega, show i + (n + 2) - 2 = i + n by omega, show n + 2 - 1 = n + 1 by omega, show n + 2 - 2 = n by omega, hu2, hu1, hu0, hv1, hv0]; exact hg, hqr, fun _ => by rw [hgs]; exact Int.natCast_pos.2 (by rw [hqe]; exact Nat.succ_pos _), ?_, ?_, ?_, ?_, ?_⟩
    · unfold dvU; rw [hdT, if_pos hbor, hP]; exact p1
    · unfold dvU; rw [hdT, if_pos hbor, hP, p2, t2]
    · unfold dvU; rw [hdT, if_pos hbor, hP, pt, tt]
    · unfold dvU; rw [hdT, if_pos hbor, hP, hX]; exact hrest
    · unfold dvQ; rw [hdT, if_pos hbor, hgs, hX]; generalize X / val vs = Z at *; rw [u64w (by omega) (by omega)]; omega
  · have hT0 : T.2.toNat = 0 := by omega
    rw [hT0, Nat.mul_zero, Nat.add_zero] at key
    have hqe : q = X / val vs := by
      rcases Nat.lt_or_ge (X / val vs) q with h | h
      · exfalso
        have h2 := Nat.mul_le_mul_right (val vs) (show X / val vs + 1 ≤ q from h)
        rw [Nat.add_mul, Nat.one_mul] at h2
        omega
      · omega
    have hrest : val (T.1.drop i) = X % val vs := by rw [hqe] at key; omega
    refine ⟨by rw [hgs]; unfold gs at hgs; rw [hne, show i + (n + 2) - 1 = i + (n + 1) by omega, show i + (n + 2) - 2 = i + n by omega, show n + 2 - 1 = n + 1 by omega, show n + 2 - 2 = n by omega, hu2, hu1, hu0, hv1, hv0]; exact hg, hqr, fun h => by rw [hdT] at h; omega, ?_, ?_, ?_, ?_, ?_⟩
    · unfold dvU; rw [hdT, if_neg (by omega)]; exact t1
    · unfold dvU; rw [hdT, if_neg (by omega), t2]
    · unfold dvU; rw [hdT, if_neg (by omega), tt]
    · unfold dvU; rw [hdT, if_neg (by omega), hX]; exact hrest
    · unfold dvQ; rw [hdT, if_neg (by omega), hgs, hX, ← hqe]; omega
/-! All steps -/
def dvS (vs : List Int) (s : List Int × List Int) (i : Nat) : List Int × List Int := (dvU s.1 vs i, s.2.set i (dvQ s.1 vs i))
def dvF (us vs : List Int) (m : Nat) (l : List Nat) : List Int × List Int := l.foldl (dvS vs) (us, List.replicate m 0)
theorem dvF_snoc (us vs : List Int) (m : Nat) (l : List Nat) (i : Nat) : dvF us vs m (l ++ [i]) = dvS vs (dvF us vs m l) i := by simp [dvF]
theorem gs_rng {us vs : List Int} (hu : okL us) (hv : okL vs) (htop : 2147483648 ≤ vs.getD (vs.length - 1) 0) (i : Nat) : nat_guess.f 10 (us.getD (i + vs.length) 0) (us.getD (i + vs.length - 1) 0) (us.getD (i + vs.length - 2) 0) (vs.getD (vs.length - 1) 0) (vs.getD (vs.length - 2) 0) = some (gs us vs i) ∧ 0 ≤ gs us vs i ∧ gs us vs i < 18446744073709551616 := by
  obtain ⟨q, h1, h2, h3⟩ := guess_told (us.getD (i + vs.length) 0) (us.getD (i + vs.length - 1) 0) (us.getD (i + vs.length - 2) 0) (vs.getD (vs.length - 1) 0) (vs.getD (vs.length - 2) 0) (okL_getD hu _) (okL_getD hu _) htop (okL_getD hv _).2
  have : gs us vs i = q := by unfold gs; rw [h1]; rfl
  rw [this]
  exact ⟨h1, h2, h3⟩
theorem dvU_ok {us vs : List Int} (hu : okL us) (hv : okL vs) (htop : 2147483648 ≤ vs.getD (vs.length - 1) 0) (i : Nat) : okL (dvU us vs i) ∧ (dvU us vs i).length = us.length ∧ okL (dvT us vs i).1 ∧ (dvT us vs i).1.length = us.length := by
  have hg := gs_rng hu hv htop i
  obtain ⟨t1, t2, _⟩ := toEnd_ok (us := us) (vs := vs) i hu hv hg.2.1
  obtain ⟨p1, p2⟩ := pbEnd_ok (us := (toEnd us vs (gs us vs i) i).1) (vs := vs) i t1 hv
  unfold dvU dvT
  split
  · exact ⟨p1, by rw [p2, t2], t1, t2⟩
  · exact ⟨t1, t2, t1, t2⟩
theorem dvF_ok {us vs : List Int} (hu : okL us) (hv : okL vs) (htop : 2147483648 ≤ vs.getD (vs.length - 1) 0) (m : Nat) (l : List Nat) : okL (dvF us vs m l).1 ∧ (dvF us vs m l).1.length = us.length ∧ okL (dvF us vs m l).2 ∧ (dvF us vs m l).2.length = m := by
  have key : ∀ (l : List Nat) (s : List Int × List Int), (okL s.1 ∧ s.1.length = us.length ∧ okL s.2 ∧ s.2.length = m) → (okL (l.foldl (dvS vs) s).1 ∧ (l.foldl (dvS vs) s).1.length = us.length ∧ okL (l.foldl (dvS vs) s).2 ∧ (l.foldl (dvS vs) s).2.length = m) := by
    intro l
    induction l with
    | nil => intro s h; exact h
    | cons i l ih =>
      intro s h
      obtain ⟨h1, h2, h3, h4⟩ := h
      refine ih _ ?_
      obtain ⟨d1, d2, _⟩ := dvU_ok h1 hv htop i
      unfold dvS
      exact ⟨d1, by rw [d2, h2], okL_set h3 _ (by unfold dvQ; omega) (by unfold dvQ; omega), by rw [List.length_set, h4]⟩
  exact key l _ ⟨hu, rfl, fun z hz => by rw [List.eq_of_mem_replicate hz]; omega, by simp⟩
theorem dv_fold {us0 vs : List Int} (hv : okL vs) (hn : 2 ≤ vs.length) (htop : 2147483648 ≤ vs.getD (vs.length - 1) 0) (m : Nat) : ∀ (i : Nat) (s : List Int × List Int), i ≤ m → m + vs.length = us0.length → okL us0 → okL s.1 → s.1.length = us0.length → s.2.length = m → okL s.2 → s.1.take i = us0.take i → val (s.1.drop i) = val (us0.drop i) % val vs → val (s.2.drop i) = val (us0.drop i) / val vs →
    val ((down i).foldl (dvS vs) s).1 = val us0 % val vs ∧ val ((down i).foldl (dvS vs) s).2 = val us0 / val vs
  | 0, s, _, _, _, _, _, _, _, _, h1, h2 => by simpa [down] using ⟨h1, h2⟩
  | i + 1, s, hi, hm, hu0, hok, hl, hlq, hokq, ht, hr, hq => by
    have hVp : 0 < val vs := by
      rcases Nat.eq_zero_or_pos (val vs) with h | h
      · have := (val_zero hv).1 h (vs.getD (vs.length - 1) 0) (by
          rw [List.getD_eq_getElem?_getD, List.getElem?_eq_getElem (show vs.length - 1 < vs.length by omega)]; exact List.getElem_mem _)
        omega
      · exact h
    have hlt : val (s.1.drop (i + 1)) < val vs := by rw [hr]; exact Nat.mod_lt _ hVp
    have st := step_ok (us := s.1) (vs := vs) (i := i) hok hv hn htop (by omega) hlt
    have hgi : s.1.getD i 0 = us0.getD i 0 := by
      have h1 : s.1.getD i 0 = (s.1.take (i + 1)).getD i 0 := by
        rw [List.getD_eq_getElem?_getD, List.getD_eq_getElem?_getD, List.getElem?_take_of_lt (by omega)]
      have h2 : us0.getD i 0 = (us0.take (i + 1)).getD i 0 := by
        rw [List.getD_eq_getElem?_getD, List.getD_eq_getElem?_getD, List.getElem?_take_of_lt (by omega)]
      rw [h1, ht, ← h2]
    have hX := val_drop_step (l := s.1) (i := i) (by omega)
    have hX0 := val_drop_step (l := us0) (i := i) (by omega)
    rw [hr, hgi] at hX
    generalize hu : (us0.getD i 0).toNat = u at *
    generalize hA : val (us0.drop (i + 1)) = A at *
    have hAe := Nat.div_add_mod A (val vs)
    have e0 : val (us0.drop i) = (u + 4294967296 * (A % val vs)) + val vs * (4294967296 * (A / val vs)) := by
      rw [hX0]
      conv => lhs; rw [← hAe]
      rw [Nat.mul_add, Nat.mul_left_comm]
      omega
    have er : val (s.1.drop i) % val vs = val (us0.drop i) % val vs := by rw [hX, e0, Nat.add_mul_mod_self_left]
    have eq : val (us0.drop i) / val vs = val (s.1.drop i) / val vs + 4294967296 * (A / val vs) := by rw [hX, e0, Nat.add_mul_div_left _ _ hVp]
    rw [down, List.foldl_cons]
    refine dv_fold hv hn htop m i (dvS vs s i) (by omega) hm hu0 st.ok (by unfold dvS; rw [st.len, hl]) (by unfold dvS; rw [List.length_set, hlq]) (okL_set hokq _ (by unfold dvQ; omega) (by unfold dvQ; omega)) ?_ ?_ ?_
    · show (dvU s.1 vs i).take i = _
      rw [st.take]
      have := congrArg (List.take i) ht
      rw [List.take_take, List.take_take, Nat.min_eq_left (by omega)] at this
      exact this
    · show val ((dvU s.1 vs i).drop i) = _
      rw [st.rest, er]
    · show val ((s.2.set i (dvQ s.1 vs i)).drop i) = _
      rw [val_drop_step (by rw [List.length_set]; omega), getD_set, if_pos ⟨rfl, by omega⟩, List.drop_set_of_lt (by omega), hq, st.quot, Int.toNat_natCast, eq]
/-- Quotient and rest. -/
theorem dv_val {us vs : List Int} (hu : okL us) (hv : okL vs) (hn : 2 ≤ vs.length) (htop : 2147483648 ≤ vs.getD (vs.length - 1) 0) (m : Nat) (hm : m + vs.length = us.length) (hlt : val us < val vs * 4294967296 ^ m) :
    val (dvF us vs m (down m)).1 = val us % val vs ∧ val (dvF us vs m (down m)).2 = val us / val vs := by
  have hs := val_split us (i := m) (by omega)
  have hd : val (us.drop m) < val vs := by
    rcases Nat.lt_or_ge (val (us.drop m)) (val vs) with h | h
    · exact h
    · have := Nat.mul_le_mul_left (4294967296 ^ m) h
      rw [Nat.mul_comm (val vs)] at hlt
      omega
  have hz : okL (List.replicate m (0 : Int)) := fun z hz => by rw [List.eq_of_mem_replicate hz]; omega
  exact dv_fold hv hn htop m m (us, List.replicate m 0) (Nat.le_refl _) hm hu hu rfl (by simp) hz rfl (by simp only []; rw [Nat.mod_eq_of_lt hd]) (by
    simp only []
    rw [List.drop_of_length_le (by simp), Nat.div_eq_of_lt hd]
    rfl)
end Go.Proofs.YtdgebcgcabhjoaaDoor.P

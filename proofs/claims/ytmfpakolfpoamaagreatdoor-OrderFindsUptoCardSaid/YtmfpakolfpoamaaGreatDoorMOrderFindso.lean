/- Texts of this claim, one behind the other. -/
import Derived.Test.YtmfpakolfpoamaaGreatDoorMOrderFindsj
import Derived.Test.YtmfpakolfpoamaaGreatDoorMOrderFindsk
import Derived.Test.YtmfpakolfpoamaaGreatDoorMOrderFindsn
import Derived.WalkLawsBesides
import Derived.Test.YtmfpakolfpoamaaGreatDoorMOrderFindsi
set_option maxRecDepth 100000
namespace Go.Proofs.YtmfpakolfpoamaaGreatDoor.P
set_option linter.unusedVariables false
set_option linter.unusedSimpArgs false
open Go.RowKit Go.Proofs.YtmfpakolfpoamaaGreatDoorW.PrintWords Go.Proofs.YtmfpakolfpoamaaGreatDoorW.PrintMore
def expo : Nat := 2400
def top : Nat := 10 ^ expo
theorem ten_bound : top < 4294967296 ^ 256 := by decide +kernel
theorem top_ge {m : Nat} (h : m ≤ 2400) : 10 ^ m ≤ top := by
 have h2 : m ≤ expo := h
 unfold top
 generalize expo = e at *
 exact Nat.pow_le_pow_right (Nat.succ_pos 9) h2
theorem mul_limbs {a b : Nat} (ha : a ≤ top) (hb : b ≤ top) (k : Nat) (hk : 70000 ≤ k) : nat_num_mul.f k (limbs a) (limbs b) = some (limbs (a * b)) := by
 have h1 := limbs_len (Nat.lt_of_le_of_lt ha ten_bound)
 have h2 := limbs_len (Nat.lt_of_le_of_lt hb ten_bound)
 have := mul_eq (limbs a) (limbs b) (okL_limbs a) (okL_limbs b) (by omega) (by omega) k (by have := mul_bound h1 h2; omega)
 rwa [val_limbs, val_limbs] at this
theorem power_loop : ∀ (n : Nat) (o b k : Nat), n ≤ 4096 → 1 ≤ o → 1 ≤ b → o * b ^ n ≤ top → n + 70001 ≤ k → nat_power.l0 k n (limbs o) (limbs b) = some (limbs (o * b ^ n)) := by
 intro n
 induction n using Nat.strongRecOn with
 | _ n ih =>
  intro o b k hn ho hb hle hk
  obtain ⟨k, rfl⟩ : ∃ m, k = m + 1 := ⟨k - 1, by omega⟩
  by_cases h0 : n = 0
  · subst h0
    rw [nat_power.l0.eq_2, if_neg (by omega), Nat.pow_zero, Nat.mul_one]
  · have hbn : b ≤ b ^ n := Nat.le_self_pow h0 b
    have hb1 : b ≤ top := Nat.le_trans hbn (Nat.le_trans (Nat.le_mul_of_pos_left _ ho) hle)
    have ho1 : o ≤ top := Nat.le_trans (Nat.le_mul_of_pos_right _ (Nat.pow_pos hb)) hle
    have e2 : wrap64 (Int.tdiv (n : Int) 2) = ((n / 2 : Nat) : Int) := by
     rw [Int.tdiv_eq_ediv_of_nonneg (by omega), w64 _ (by omega)]; omega
    have em : Int.tmod (n : Int) 2 = ((n % 2 : Nat) : Int) := by rw [Int.tmod_eq_emod_of_nonneg (by omega)]; omega
    rw [nat_power.l0.eq_2, if_pos (by omega), em]
    by_cases h1 : n % 2 = 1
    · rw [if_pos (by omega), mul_limbs ho1 hb1 k (by omega), Option.bind_some]
      by_cases hn1 : 1 < n
      · have ep : o * b * (b * b) ^ (n / 2) = o * b ^ n := by
         rw [← Nat.pow_two, ← Nat.pow_mul, Nat.mul_assoc, ← Nat.pow_succ']
         congr 2
         omega
        rw [if_pos (by omega), mul_limbs hb1 hb1 k (by omega), Option.bind_some, e2, ih (n / 2) (by omega) (o * b) (b * b) k (by omega) (Nat.mul_pos ho hb) (Nat.mul_pos hb hb) (by rw [ep]; exact hle) (by omega), ep]
      · obtain rfl : n = 1 := by omega
        rw [if_neg (by omega), e2, ih (1 / 2) (by omega) (o * b) b k (by omega) (Nat.mul_pos ho hb) hb (by simpa using hle) (by omega)]
        simp
    · have hn1 : 1 < n := by omega
      have ep : o * (b * b) ^ (n / 2) = o * b ^ n := by
       rw [← Nat.pow_two, ← Nat.pow_mul]
       congr 2
       omega
      rw [if_neg (by omega), if_pos (by omega), mul_limbs hb1 hb1 k (by omega), Option.bind_some, e2, ih (n / 2) (by omega) o (b * b) k (by omega) ho (Nat.mul_pos hb hb) (by rw [ep]; exact hle) (by omega), ep]
def powV (n : Int) : List Int × Int := if 0 ≤ n ∧ n ≤ 2400 then (limbs (10 ^ n.toNat), 0) else ([], 4)
theorem pow_f (n : Int) (k : Nat) (hk : 80000 ≤ k) : nat_Pow.f k n = some (powV n) := by
 unfold nat_Pow.f powV nat_power.f
 by_cases h0 : n < 0
 · rw [if_pos h0, if_neg (by omega)]
 · by_cases h1 : n > 2400
   · rw [if_neg h0, if_pos h1, if_neg (by omega)]
   · obtain ⟨m, rfl⟩ : ∃ m : Nat, n = m := ⟨n.toNat, by omega⟩
     have e1 : ([1] : List Int) = limbs 1 := by rw [limbs_pos (by omega), limbs_zero]; rfl
     have e2 : ([10] : List Int) = limbs 10 := by rw [limbs_pos (by omega), show (10 : Nat) / 4294967296 = 0 by omega, limbs_zero]; rfl
     rw [if_neg h0, if_neg h1, if_pos (by omega), e1, e2, power_loop m 1 10 k (by omega) (by omega) (by omega) (by rw [Nat.one_mul]; exact top_ge (by omega)) (by omega), Option.bind_some, Nat.one_mul, Int.toNat_natCast]
def cmpV (a b : List Int) : Int × Int := if tw a b = 0 then (cmpI (val a) (val b), 0) else (0, tw a b)
def subV (a b : List Int) : List Int × Int := if tw a b = 0 then (if val a < val b then ([], 4) else (limbs (val a - val b), 0)) else ([], tw a b)
theorem cmp_neg {m n : Nat} : cmpI m n < 0 ↔ m < n := by unfold cmpI; split <;> (try split) <;> omega
theorem cmp_f (a b : List Int) (ha : okL a) (hb : okL b) (hla : a.length ≤ 4611686018427387904) (hlb : b.length ≤ 4611686018427387904) : Ev (fun k => nat_Compare.f k a b) (cmpV a b) := by
 unfold nat_Compare.f cmpV
 rw [check_f a hla, check_f b hlb]
 simp only [Option.bind_some]
 refine Ev.bind (a := tw a b) ⟨3, fun k hk => errs_f (chk a) (chk b) k hk⟩ ?_
 by_cases h : tw a b = 0
 · simp only [if_pos h]
   obtain ⟨⟨h1, h2⟩, h3, h4⟩ := (tw_ok ha hb).1 h
   unfold nat_num_compare.f
   simp only [if_pos (show (canon a ∧ canon b) ∧ a.length ≤ 1073741824 ∧ b.length ≤ 1073741824 from ⟨⟨h2, h4⟩, by omega, by omega⟩), Option.bind_some]
   exact Ev.now _
 · simp only [if_neg h]
   exact Ev.now _
theorem canon_le_len {a b : List Int} (ha : canon a) (hb : canon b) (h : val b ≤ val a) : b.length ≤ a.length := canon_len hb (Nat.lt_of_le_of_lt h (val_lt (canon_okL ha)))
theorem sub_f (a b : List Int) (ha : okL a) (hb : okL b) (hla : a.length ≤ 4611686018427387904) (hlb : b.length ≤ 4611686018427387904) : Ev (fun k => nat_Sub.f k a b) (subV a b) := by
 unfold nat_Sub.f subV
 refine Ev.bind (a := tw a b) ⟨3, fun k hk => two_f a b hla hlb k hk⟩ ?_
 by_cases h : tw a b = 0
 · simp only [if_pos h]
   obtain ⟨⟨h1, h2⟩, h3, h4⟩ := (tw_ok ha hb).1 h
   unfold nat_num_compare.f
   simp only [if_pos (show (canon a ∧ canon b) ∧ a.length ≤ 1073741824 ∧ b.length ≤ 1073741824 from ⟨⟨h2, h4⟩, by omega, by omega⟩), Option.bind_some]
   by_cases hlt : val a < val b
   · simp only [if_pos hlt, if_pos (cmp_neg.2 hlt)]
     exact Ev.now _
   · simp only [if_neg hlt, if_neg (fun hh => hlt (cmp_neg.1 hh))]
     unfold nat_num_sub.f
     simp only [if_pos (show (okL a ∧ okL b) ∧ a.length ≤ 1073741824 ∧ b.length ≤ a.length ∧ val b ≤ val a from ⟨⟨ha, hb⟩, by omega, canon_le_len h2 h4 (by omega), by omega⟩), Option.bind_some]
     exact Ev.now _
 · simp only [if_neg h]
   exact Ev.now _
end Go.Proofs.YtmfpakolfpoamaaGreatDoor.P
namespace Go.Proofs.YtmfpakolfpoamaaGreatDoor.P
set_option linter.unusedVariables false
set_option linter.unusedSimpArgs false
open Go.RowKit Go.Proofs.YtmfpakolfpoamaaGreatDoorW.PrintWords Go.Proofs.YtmfpakolfpoamaaGreatDoorW.PrintMore Go.Proofs.YtmfpakolfpoamaaGreatDoorW.PrintLast
set_option maxHeartbeats 1000000 in
theorem minus_any (d : D) (A : Option Addr) (c : Nat) (w : World) :
 Calls Tryz.prog 93 #[.agg #[.bool d.f0, .slice A d.f1.length c, .int .i64 d.f2]] w fun e w' => e = .returned (.agg #[.bool (!d.f0 && decide (d.f1.length ≠ 0)), .slice A d.f1.length c, .int .i64 d.f2]) ∧ Below w.heap.size w w' := by
 obtain ⟨f0, l, x⟩ := d
 cases f0 with
 | true =>
  go_enter Tryz.func93, Tryz.ntmps93
  go_wp2
  refine bodyPost_ret (v := .agg #[.bool false, .slice A l.length c, .int .i64 x]) ?_ rfl ⟨rfl, ?_⟩
  · simp [results, Tryz.f93, go_sem]
  · exact by repeat (first | exact Below.refl _ _ | refine Below.alloc ?_ (by simp; omega) _ | refine Below.alloc ?_ (by simp) _)
 | false =>
  cases hz : ((l.length : Int) == 0) with
  | true =>
   have h0 : l.length = 0 := by have := eq_of_beq hz; omega
   have hd : decide (l.length ≠ 0) = false := by simp [h0]
   show Calls _ _ _ _ fun e w' => e = .returned (.agg #[.bool (!false && decide (l.length ≠ 0)), .slice A l.length c, .int .i64 x]) ∧ _
   rw [hd]
   clear h0 hd
   go_enter Tryz.func93, Tryz.ntmps93
   go_wp2
   refine bodyPost_ret (v := .agg #[.bool false, .slice A l.length c, .int .i64 x]) ?_ rfl ⟨rfl, ?_⟩
   · simp [results, Tryz.f93, go_sem]
   · exact by repeat (first | exact Below.refl _ _ | refine Below.alloc ?_ (by simp; omega) _ | refine Below.alloc ?_ (by simp) _)
  | false =>
   have h0 : l.length ≠ 0 := by intro h; rw [h] at hz; simp at hz
   have hd : decide (l.length ≠ 0) = true := by simp [h0]
   show Calls _ _ _ _ fun e w' => e = .returned (.agg #[.bool (!false && decide (l.length ≠ 0)), .slice A l.length c, .int .i64 x]) ∧ _
   rw [hd]
   clear h0 hd
   go_enter Tryz.func93, Tryz.ntmps93
   go_wp2
   refine bodyPost_ret (v := .agg #[.bool true, .slice A l.length c, .int .i64 x]) ?_ rfl ⟨rfl, ?_⟩
   · simp [results, Tryz.f93, go_sem]
   · exact by repeat (first | exact Below.refl _ _ | refine Below.alloc ?_ (by simp; omega) _ | refine Below.alloc ?_ (by simp) _)
set_option maxHeartbeats 1000000 in
theorem down_same (d : D) (A : Option Addr) (c : Nat) (x : Int) (w : World) (h : d.f1.length = 0 ∨ d.f2 = x) :
 Calls Tryz.prog 115 #[.agg #[.bool d.f0, .slice A d.f1.length c, .int .i64 d.f2], .int .i64 x] w fun e w' => e = .returned (.agg #[.bool d.f0, .slice A d.f1.length c, .int .i64 x]) ∧ Below w.heap.size w w' := by
 cases hz : ((d.f1.length : Int) == 0) with
 | true =>
  go_enter Tryz.func115, Tryz.ntmps115
  go_wp2
  refine bodyPost_ret (v := .agg #[.bool d.f0, .slice A d.f1.length c, .int .i64 x]) ?_ rfl ⟨rfl, ?_⟩
  · simp [results, Tryz.f115, go_sem]
  · exact by repeat (first | exact Below.refl _ _ | refine Below.alloc ?_ (by simp; omega) _ | refine Below.alloc ?_ (by simp) _)
 | false =>
  have h0 : d.f1.length ≠ 0 := by intro h; rw [h] at hz; simp at hz
  have hx : d.f2 = x := by omega
  have hb : (d.f2 == x) = true := by simp [hx]
  clear h h0
  go_enter Tryz.func115, Tryz.ntmps115
  go_wp2
  refine bodyPost_ret (v := .agg #[.bool d.f0, .slice A d.f1.length c, .int .i64 x]) ?_ rfl ⟨rfl, ?_⟩
  · simp [results, Tryz.f115, go_sem]
  · exact by repeat (first | exact Below.refl _ _ | refine Below.alloc ?_ (by simp; omega) _ | refine Below.alloc ?_ (by simp) _)
theorem must_any (v : Value) (x : Int) (w : World) : Calls Tryz.prog 116 #[v, .int .i64 x] w fun e w' => e = .returned v ∧ w = w' := by
 go_enter Tryz.func116, Tryz.ntmps116
 go_wp2
 go_ret
 exact ⟨rfl, rfl⟩
theorem down_end {w w5 w6 X : World} {P2 : Option Addr} {m : List Int} {p2 : Nat} {x : Int} {b0 : Bool} (hX : X = (w6.setCell ⟨w.heap.size, 1, none⟩ (.slice P2 m.length p2)).setCell ⟨w.heap.size, 2, none⟩ (.int .i64 x) ∨ X = (w6.setCell ⟨w.heap.size, 2, none⟩ (.int .i64 x)).setCell ⟨w.heap.size, 1, none⟩ (.slice P2 m.length p2))
 (hs : w.heap.size + 2 ≤ w5.heap.size) (hB : Below w.heap.size w w6) (hR : (Kd.int .u32).R 90 w6 w5.heap.size (fun _ => True) (.slice P2 m.length p2) m)
 (hy : w6.heap[w.heap.size + 1]? = some (.cells #[.bool false, .slice none 0 0, .int .i64 0] 122 (0, 0))) :
 ∃ W7, W7 = ((X.setCell ⟨w.heap.size + 1, 0, none⟩ (.bool b0)).setCell ⟨w.heap.size + 1, 1, none⟩ (.slice P2 m.length p2)).setCell ⟨w.heap.size + 1, 2, none⟩ (.int .i64 x) ∧ Below w.heap.size w W7 ∧ Kd.C (Kd.int .u32) W7 P2 m.length m ∧ W7.heap[w.heap.size + 1]? = some (.cells #[.bool b0, .slice P2 m.length p2, .int .i64 x] 122 (0, 0)) := by
 have far : ∀ j, j ≠ w.heap.size → X.heap[j]? = w6.heap[j]? := fun j hj => by
  rcases hX with rfl | rfl <;> rw [Below.heap_setCell _ _ _ _ (by simpa using hj), Below.heap_setCell _ _ _ _ (by simpa using hj)]
 have hbX : Below w.heap.size w X := by
  rcases hX with rfl | rfl <;> exact (hB.setCell (p := ⟨w.heap.size, _, none⟩) (Nat.le_refl _) _).setCell (p := ⟨w.heap.size, _, none⟩) (Nat.le_refl _) _
 refine ⟨_, rfl, ((hbX.setCell (p := ⟨w.heap.size + 1, 0, none⟩) (Nat.le_succ _) _).setCell (p := ⟨w.heap.size + 1, 1, none⟩) (Nat.le_succ _) _).setCell (p := ⟨w.heap.size + 1, 2, none⟩) (Nat.le_succ _) _, ?_, box3_out ((far _ (by omega)).trans hy) _ _ _⟩
 exact (Kd.R_reads' (Kd.R_move (Kd.R_bound hR) (fun j hj => by
  have := hj.2.1
  rw [Below.heap_setCell _ _ _ _ (by simp; omega), Below.heap_setCell _ _ _ _ (by simp; omega), Below.heap_setCell _ _ _ _ (by simp; omega)]
  exact far j (by omega)))).2.2
set_option maxHeartbeats 4000000 in
theorem down_more (d : D) (A : Option Addr) (c : Nat) (n : Nat) (m : List Int) (x : Int) (w : World) (hc : d.f1.length ≤ c) (hC : Kd.C (Kd.int .u32) w A d.f1.length d.f1) (hl : okL d.f1) (h40 : d.f1.length ≤ 256) (h0 : d.f1.length ≠ 0) (hx : d.f2 - x = n) (hn0 : n ≠ 0) (hn : n ≤ 2400) (hb : -9000000 ≤ x ∧ d.f2 ≤ 9000000) (hm : mulV d.f1 (limbs (10 ^ n)) = (m, 0)) (hlen : (limbs (10 ^ n)).length ≤ 4611686018427387904) :
 Calls Tryz.prog 115 #[.agg #[.bool d.f0, .slice A d.f1.length c, .int .i64 d.f2], .int .i64 x] w fun e w' => ∃ B dd, e = .returned (.agg #[.bool d.f0, .slice B m.length dd, .int .i64 x]) ∧ m.length ≤ dd ∧ Kd.C (Kd.int .u32) w' B m.length m ∧ Below w.heap.size w w' := by
 have hz : ((d.f1.length : Int) == 0) = false := beq_eq_false_iff_ne.mpr (by omega)
 have he : (d.f2 == x) = false := beq_eq_false_iff_ne.mpr (by omega)
 have hw : IntKind.i64.wrap (d.f2 - x) = (n : Int) := by rw [wrap_in _ (by omega)]; exact hx
 have hw2 : wrap64 (d.f2 - x) = (n : Int) := by unfold wrap64; omega
 have HP : Hid (nat_Pow.f 80000 (n : Int) = some (limbs (10 ^ n), 0)) := Lib.hid (by
  rw [pow_f _ _ (Nat.le_refl _)]
  unfold powV
  rw [if_pos (by omega), Int.toNat_natCast])
 have HM : Hid (nat_Mul.f 70000 d.f1 (limbs (10 ^ n)) = some (m, 0)) := Lib.hid (by rw [mul_f _ _ hl (okL_limbs _) (by omega) hlen 70000 (Nat.le_refl _), hm])
 have HC := Lib.hid hC
 clear hC hm hx h0 hn0 hl hlen
 generalize limbs (10 ^ n) = pw at *
 have HCC := Lib.hid hc
 have hzero : ∀ W : World, Calls Tryz.prog 94 #[.agg #[.bool d.f0, .slice A d.f1.length c, .int .i64 d.f2]] W fun e w' => e = .returned (.bool false) ∧ Below W.heap.size W w' := by
  intro W
  go_enter Tryz.func94, Tryz.ntmps94
  go_wp2
  go_ret
  exact ⟨rfl, (Below.refl _ _).alloc (Nat.le_refl _) _⟩
 have HZ := Lib.hid hzero
 obtain ⟨W2, hW2⟩ : ∃ W2, W2 = (w.alloc (.cells #[.bool d.f0, .slice A d.f1.length c, .int .i64 d.f2] 122)).alloc (.cells #[.bool false, .slice none 0 0, .int .i64 0] 122) := ⟨_, rfl⟩
 have hA : Below w.heap.size w W2 := by rw [hW2]; exact ((Below.refl _ _).alloc (Nat.le_refl _) _).alloc (by simp) _
 have hs2 : W2.heap.size = w.heap.size + 2 := by rw [hW2]; simp
 have hbx : W2.heap[w.heap.size]? = some (.cells #[.bool d.f0, .slice A d.f1.length c, .int .i64 d.f2] 122 (0, 0)) := by rw [hW2]; exact blk_alloc (blk_new _ _) _
 have hby : W2.heap[w.heap.size + 1]? = some (.cells #[.bool false, .slice none 0 0, .int .i64 0] 122 (0, 0)) := by
  rw [hW2]
  have := blk_new (w.alloc (.cells #[.bool d.f0, .slice A d.f1.length c, .int .i64 d.f2] 122)) (.cells #[.bool false, .slice none 0 0, .int .i64 0] 122)
  rw [World.size_alloc] at this
  exact this
 rw [hW2] at hA hs2 hbx hby
 have HA := Lib.hid hA
 have HS2 := Lib.hid hs2
 have HX := Lib.hid hbx
 have HY := Lib.hid hby
 clear hA hs2 hbx hby hz hzero
 go_enter Tryz.func115, Tryz.ntmps115
 go_upto_region 4 with (first | (go_at_call 94; refine (HZ.out _).mono ?_; rintro e w3 ⟨rfl, hB3⟩; obtain ⟨hx3, hxf⟩ := bcells HX.out hB3))
 have hA3 := HA.out.trans (hB3.mono (by rw [HS2.out]; omega))
 have hX4 := blk_drew (blk_below3 HX.out hB3)
 have hY4 := blk_drew (blk_below3 HY.out hB3)
 have HA4 := Lib.hid (below_drew hA3)
 have HX4 := Lib.hid hX4
 have HY4 := Lib.hid hY4
 have hs4 := hB3.size
 rw [HS2.out] at hs4
 obtain ⟨hx4, hxf4⟩ := bcells hX4 (Below.refl _ _)
 clear hx3 hxf hA3 hX4 hY4 hB3
 go_region_law (first
  | (go_simp; go_at_call 133; refine (nat_Pow.calls 80000 (n : Int) _ _ _ HP.out).mono ?_; rintro e w5 ⟨v1, rfl, hR1, hB5⟩; obtain ⟨P1, p1, rfl⟩ := Kd.R_slice hR1; obtain ⟨hx5, hxf5⟩ := bcells HX4.out hB5)
  | (go_simp; go_at_call 116; refine (must_any _ _ _).mono ?_; rintro e w9 ⟨rfl, rfl⟩)
  | (go_simp; go_at_call 132; refine (nat_Mul.calls 70000 A c d.f1 P1 p1 pw m 0 w5 (Kd.C_below HC.out (HA4.out.trans (hB5.mono (by rw [World.size_drew]; omega)))) HCC.out (Kd.R_reads' hR1).2.2 (Kd.R_reads' hR1).2.1 HM.out).mono ?_; rintro e w6 ⟨v2, rfl, hR2, hB6⟩; obtain ⟨P2, p2, rfl⟩ := Kd.R_slice hR2; obtain ⟨hx6, hxf6⟩ := bcells (blk_below3 HX4.out hB5) hB6))
 all_goals
  have hs5 := hB5.size
  have hs6 := hB6.size
  rw [World.size_drew] at hs5
  have hfin := down_end (b0 := d.f0) (x := x) (by first | exact .inl rfl | exact .inr rfl) (Nat.le_trans hs4 hs5) (HA4.out.trans ((hB5.mono (by rw [World.size_drew]; omega)).trans (hB6.mono (by omega)))) hR2 (blk_below3 (blk_below3 HY4.out hB5) hB6)
  obtain ⟨hy6, hyf6⟩ := bcells (blk_below3 (blk_below3 HY4.out hB5) hB6) (Below.refl _ _)
  have HF := Lib.hid hfin
  have hpp := (Kd.R_reads' hR2).2.1
  clear hR2 hB5 hB6 hR1 hx5 hxf5 hx4 hxf4 hfin
  rename_i q_ k_ a_
  refine a_ _ _ ?_
  go_wp2_with fail
  obtain ⟨W7, hW7, hBW, hCW, hrow⟩ := HF.out
  rw [← hW7]
  obtain ⟨z0, z1, z2⟩ := cells3 hrow
  refine bodyPost_ret (v := .agg #[.bool d.f0, .slice P2 m.length p2, .int .i64 x]) ?_ rfl ⟨P2, p2, rfl, hpp, hCW, hBW⟩
  simp [results, Tryz.f115, go_sem, z0, z1, z2]
theorem fitsV_yes' {n : Nat} (h : (limbs n).length ≤ 256) : fitsV n = (limbs n, 0) := by unfold fitsV; rw [if_neg (by omega)]
theorem canon_tw' {a b : List Int} (ha : canon a) (hb : canon b) (h1 : a.length ≤ 256) (h2 : b.length ≤ 256) : tw a b = 0 := (tw_ok (canon_okL ha) (canon_okL hb)).2 ⟨⟨h1, ha⟩, h2, hb⟩
theorem mulV_fits {a b : List Int} (ha : canon a) (hb : canon b) (h1 : a.length ≤ 256) (h2 : b.length ≤ 256) (h : val a * val b ≤ top) : mulV a b = (limbs (val a * val b), 0) := by
 unfold mulV
 rw [if_pos (canon_tw' ha hb h1 h2), fitsV_yes' (limbs_len (Nat.lt_of_le_of_lt h ten_bound))]
theorem addV_fits {a b : List Int} (ha : canon a) (hb : canon b) (h1 : a.length ≤ 256) (h2 : b.length ≤ 256) (h : val a + val b ≤ top) : addV a b = (limbs (val a + val b), 0) := by
 unfold addV
 rw [if_pos (canon_tw' ha hb h1 h2), fitsV_yes' (limbs_len (Nat.lt_of_le_of_lt h ten_bound))]
theorem top_len {n : Nat} (h : n ≤ top) : (limbs n).length ≤ 256 := limbs_len (Nat.lt_of_le_of_lt h ten_bound)
theorem canon_nil_iff {l : List Int} (h : canon l) : l.length = 0 ↔ val l = 0 := by
 constructor
 · intro e
   have : l = [] := List.eq_nil_of_length_eq_zero e
   subst this
   rfl
 · intro e
   unfold canon at h
   rw [e, limbs_zero] at h
   rw [← h]
   rfl
def downN (d : D) (x : Int) : Nat := val d.f1 * 10 ^ (d.f2 - x).toNat
set_option maxHeartbeats 1000000 in
theorem down_any (d : D) (A : Option Addr) (c : Nat) (x : Int) (w : World) (hc : d.f1.length ≤ c) (hC : Kd.C (Kd.int .u32) w A d.f1.length d.f1) (hcan : canon d.f1) (hlen : d.f1.length ≤ 256) (hx : x ≤ d.f2) (hn : d.f1.length ≠ 0 → d.f2 - x ≤ 2400) (hb : -9000000 ≤ x ∧ d.f2 ≤ 9000000) (ht : downN d x ≤ top) :
 Calls Tryz.prog 115 #[.agg #[.bool d.f0, .slice A d.f1.length c, .int .i64 d.f2], .int .i64 x] w fun e w' => ∃ B dd, e = .returned (.agg #[.bool d.f0, .slice B (limbs (downN d x)).length dd, .int .i64 x]) ∧ (limbs (downN d x)).length ≤ dd ∧ Kd.C (Kd.int .u32) w' B (limbs (downN d x)).length (limbs (downN d x)) ∧ Below w.heap.size w w' := by
 by_cases h : d.f1.length = 0 ∨ d.f2 = x
 · have e : limbs (downN d x) = d.f1 := by
    unfold downN
    rcases h with h | h
    · rw [(canon_nil_iff hcan).1 h, Nat.zero_mul, limbs_zero, List.eq_nil_of_length_eq_zero h]
    · rw [show (d.f2 - x).toNat = 0 by omega, Nat.pow_zero, Nat.mul_one]
      exact hcan
   rw [e]
   refine (down_same d A c x w h).mono ?_
   rintro e w' ⟨rfl, hB⟩
   exact ⟨A, c, rfl, hc, Kd.C_below hC hB, hB⟩
 · obtain ⟨n, hn'⟩ : ∃ n : Nat, d.f2 - x = n := ⟨(d.f2 - x).toNat, by omega⟩
   have h0 : d.f1.length ≠ 0 := fun e => h (.inl e)
   have h1 : n ≠ 0 := fun e => h (.inr (by omega))
   have hn2 : n ≤ 2400 := by have := hn h0; omega
   have e : downN d x = val d.f1 * val (limbs (10 ^ n)) := by unfold downN; rw [hn', val_limbs, Int.toNat_natCast]
   have hpl : (limbs (10 ^ n)).length ≤ 256 := top_len (top_ge hn2)
   rw [e] at ht ⊢
   exact down_more d A c n _ x w hc hC (canon_okL hcan) hlen h0 hn' h1 hn2 hb (mulV_fits hcan (canon_limbs _) hlen hpl ht) (by omega)
def plusD (a b : D) : D :=
 let low := min a.f2 b.f2
 if a.f0 = b.f0 then ⟨a.f0, limbs (downN a low + downN b low), low⟩ else if downN a low < downN b low then ⟨b.f0, limbs (downN b low - downN a low), low⟩ else ⟨a.f0, limbs (downN a low - downN b low), low⟩
structure PlusAt (w W : World) (a0 b0 : Bool) (E1 : Option Addr) (e1 : Nat) (E2 : Option Addr) (e2 : Nat) (l1 l2 : List Int) (low : Int) : Prop where
 x : W.heap[w.heap.size]? = some (.cells #[.bool a0, .slice E1 l1.length e1, .int .i64 low] 122 (0, 0))
 y : W.heap[w.heap.size + 1]? = some (.cells #[.bool b0, .slice E2 l2.length e2, .int .i64 low] 122 (0, 0))
 o : W.heap[w.heap.size + 2]? = some (.cells #[.bool false, .slice none 0 0, .int .i64 0] 122 (0, 0))
 below : Below w.heap.size w W
 c1 : Kd.C (Kd.int .u32) W E1 l1.length l1
 c2 : Kd.C (Kd.int .u32) W E2 l2.length l2
 k1 : l1.length ≤ e1
 k2 : l2.length ≤ e2
def set3 (W : World) (g : Nat) (v0 v1 v2 : Value) : World := ((W.setCell ⟨g, 0, none⟩ v0).setCell ⟨g, 1, none⟩ v1).setCell ⟨g, 2, none⟩ v2
theorem set3_far (W : World) (g : Nat) (v0 v1 v2 : Value) (j : Nat) (h : j ≠ g) : (set3 W g v0 v1 v2).heap[j]? = W.heap[j]? := by
 unfold set3
 rw [Below.heap_setCell _ _ _ _ (by simpa using h), Below.heap_setCell _ _ _ _ (by simpa using h), Below.heap_setCell _ _ _ _ (by simpa using h)]
theorem set3_below {w W : World} {B g : Nat} (h : Below B w W) (hg : B ≤ g) (v0 v1 v2 : Value) : Below B w (set3 W g v0 v1 v2) :=
 ((h.setCell (p := ⟨g, 0, none⟩) hg _).setCell (p := ⟨g, 1, none⟩) hg _).setCell (p := ⟨g, 2, none⟩) hg _
theorem C_far {W W' : World} {g : Nat} {t : Nat} {cs : Array Value} {A : Option Addr} {l : List Int} (hC : Kd.C (Kd.int .u32) W A l.length l) (hg : W.heap[g]? = some (.cells cs t (0, 0))) (hno : ∀ (i : Nat) (n : Int), cs[i]? ≠ some (.int .u32 n)) (far : ∀ j, j ≠ g → W'.heap[j]? = W.heap[j]?) : Kd.C (Kd.int .u32) W' A l.length l := by
 refine ⟨hC.1, hC.2.1, fun hp => ?_⟩
 obtain ⟨ad, e, hc⟩ := hC.2.2 hp
 refine ⟨ad, e, fun j p hj => ?_⟩
 obtain ⟨cs', h1, h2, h3⟩ := hc j p hj
 refine ⟨cs', h1, h2, fun i u hu => ?_⟩
 have h4 := h3 i u hu
 have hne : (ad.add (j * (Kd.int .u32).sz + i)).block ≠ g := by
  intro hb
  obtain rfl := h2
  have hi : i = 0 := by
   rcases Nat.eq_zero_or_pos i with h | h
   · exact h
   · rw [List.getElem?_eq_none (by simp; omega)] at hu; cases hu
  subst hi
  simp only [List.getElem?_cons_zero, Option.some.injEq] at hu
  subst hu
  simp only [World.cell?, hb, hg] at h4
  split at h4
  · cases h4
  · exact hno _ _ h4
 rw [← h4]
 exact World.cell?_of_block (far _ hne)
theorem set3_row {X : World} {g t : Nat} {o0 o1 o2 : Value} (h : X.heap[g]? = some (.cells #[o0, o1, o2] t (0, 0))) (v0 v1 v2 : Value) : (set3 X g v0 v1 v2).heap[g]? = some (.cells #[v0, v1, v2] t (0, 0)) := box3_out h v0 v1 v2
theorem noU (b : Bool) (A : Option Addr) (m c : Nat) (x : Int) (i : Nat) (n : Int) : (#[Value.bool b, .slice A m c, .int .i64 x] : Array Value)[i]? ≠ some (.int .u32 n) := by
 intro h
 rcases i with _ | _ | _ | i
 · simp at h
 · simp at h
 · simp at h
 · simp at h
theorem plus_mid {w W : World} {a0 b0 a1 b1 : Bool} {E1 E2 F1 F2 : Option Addr} {e1 e2 f1 f2 m1 m2 : Nat} {l1 l2 : List Int} {low x1 x2 : Int}
 (hx : W.heap[w.heap.size]? = some (.cells #[.bool a1, .slice F1 m1 f1, .int .i64 x1] 122 (0, 0)))
 (hy : W.heap[w.heap.size + 1]? = some (.cells #[.bool b1, .slice F2 m2 f2, .int .i64 x2] 122 (0, 0)))
 (ho : W.heap[w.heap.size + 2]? = some (.cells #[.bool false, .slice none 0 0, .int .i64 0] 122 (0, 0)))
 (hB : Below w.heap.size w W) (h1 : Kd.C (Kd.int .u32) W E1 l1.length l1) (h2 : Kd.C (Kd.int .u32) W E2 l2.length l2) (k1 : l1.length ≤ e1) (k2 : l2.length ≤ e2) :
 PlusAt w (set3 (set3 W w.heap.size (.bool a0) (.slice E1 l1.length e1) (.int .i64 low)) (w.heap.size + 1) (.bool b0) (.slice E2 l2.length e2) (.int .i64 low)) a0 b0 E1 e1 E2 e2 l1 l2 low := by
 have hy1 := (set3_far W w.heap.size (.bool a0) (.slice E1 l1.length e1) (.int .i64 low) (w.heap.size + 1) (by omega)).trans hy
 have mv : ∀ {A : Option Addr} {l : List Int}, Kd.C (Kd.int .u32) W A l.length l → Kd.C (Kd.int .u32) (set3 (set3 W w.heap.size (.bool a0) (.slice E1 l1.length e1) (.int .i64 low)) (w.heap.size + 1) (.bool b0) (.slice E2 l2.length e2) (.int .i64 low)) A l.length l := fun h =>
  C_far (C_far h hx (noU _ _ _ _ _) (fun j hj => set3_far _ _ _ _ _ j hj)) hy1 (noU _ _ _ _ _) (fun j hj => set3_far _ _ _ _ _ j hj)
 refine ⟨?_, set3_row hy1 _ _ _, ?_, set3_below (set3_below hB (Nat.le_refl _) _ _ _) (Nat.le_succ _) _ _ _, mv h1, mv h2, k1, k2⟩
 · rw [set3_far _ _ _ _ _ _ (by omega)]; exact set3_row hx _ _ _
 · rw [set3_far _ _ _ _ _ _ (by omega), set3_far _ _ _ _ _ _ (by omega)]; exact ho
theorem PlusAt.later {w W W' : World} {a0 b0 : Bool} {E1 E2 : Option Addr} {e1 e2 : Nat} {l1 l2 : List Int} {low : Int} (h : PlusAt w W a0 b0 E1 e1 E2 e2 l1 l2 low) (hB : Below W.heap.size W W') : PlusAt w W' a0 b0 E1 e1 E2 e2 l1 l2 low :=
 ⟨blk_below3 h.x hB, blk_below3 h.y hB, blk_below3 h.o hB, h.below.trans (hB.mono h.below.size), Kd.C_below h.c1 hB, Kd.C_below h.c2 hB, h.k1, h.k2⟩
theorem plus_end {w W w8 : World} {a0 b0 : Bool} {E1 E2 P : Option Addr} {e1 e2 p : Nat} {l1 l2 m : List Int} {low : Int} (h : PlusAt w W a0 b0 E1 e1 E2 e2 l1 l2 low) (hB : Below W.heap.size W w8)
 (hR : (Kd.int .u32).R 90 w8 W.heap.size (fun _ => True) (.slice P m.length p) m) :
 Below w.heap.size w (set3 (w8.setCell ⟨w.heap.size, 1, none⟩ (.slice P m.length p)) (w.heap.size + 1 + 1) (.bool a0) (.slice P m.length p) (.int .i64 low)) ∧ Kd.C (Kd.int .u32) (set3 (w8.setCell ⟨w.heap.size, 1, none⟩ (.slice P m.length p)) (w.heap.size + 1 + 1) (.bool a0) (.slice P m.length p) (.int .i64 low)) P m.length m ∧ (set3 (w8.setCell ⟨w.heap.size, 1, none⟩ (.slice P m.length p)) (w.heap.size + 1 + 1) (.bool a0) (.slice P m.length p) (.int .i64 low)).heap[w.heap.size + 1 + 1]? = some (.cells #[.bool a0, .slice P m.length p, .int .i64 low] 122 (0, 0)) ∧ m.length ≤ p := by
 have hs := blk_lt h.o
 have hoo := blk_below3 h.o hB
 refine ⟨set3_below ((h.below.trans (hB.mono (by omega))).setCell (p := ⟨w.heap.size, 1, none⟩) (Nat.le_refl _) _) (by omega) _ _ _, ?_, set3_row (o0 := .bool false) (o1 := .slice none 0 0) (o2 := .int .i64 0) ?_ _ _ _, (Kd.R_reads' hR).2.1⟩
 · exact (Kd.R_reads' (Kd.R_move (Kd.R_bound hR) (fun j hj => by
    have := hj.2.1
    rw [set3_far _ _ _ _ _ _ (by omega), Below.heap_setCell _ _ _ _ (by simp; omega)]))).2.2
 · rw [Below.heap_setCell _ _ _ _ (by simp; omega)]
   exact hoo
set_option maxHeartbeats 1000000 in
theorem plus_any (a b : D) (A : Option Addr) (c : Nat) (B : Option Addr) (dd : Nat) (w : World) (hc : a.f1.length ≤ c) (hC : Kd.C (Kd.int .u32) w A a.f1.length a.f1) (hd : b.f1.length ≤ dd) (hD : Kd.C (Kd.int .u32) w B b.f1.length b.f1)
 (ha : canon a.f1) (hb : canon b.f1) (hla : a.f1.length ≤ 256) (hlb : b.f1.length ≤ 256) (low : Int) (hlow : low = min a.f2 b.f2) (hda : a.f1.length ≠ 0 → a.f2 - low ≤ 2400) (hdb : b.f1.length ≠ 0 → b.f2 - low ≤ 2400) (hr : -9000000 ≤ a.f2 ∧ a.f2 ≤ 9000000 ∧ -9000000 ≤ b.f2 ∧ b.f2 ≤ 9000000) (ht : downN a low + downN b low ≤ top) :
 Calls Tryz.prog 92 #[.agg #[.bool a.f0, .slice A a.f1.length c, .int .i64 a.f2], .agg #[.bool b.f0, .slice B b.f1.length dd, .int .i64 b.f2]] w fun e w' => ∃ E ee, e = .returned (.agg #[.bool (plusD a b).f0, .slice E (plusD a b).f1.length ee, .int .i64 (plusD a b).f2]) ∧ (plusD a b).f1.length ≤ ee ∧ Kd.C (Kd.int .u32) w' E (plusD a b).f1.length (plusD a b).f1 ∧ Below w.heap.size w w' := by
 obtain ⟨X, hX⟩ : ∃ X, X = downN a low := ⟨_, rfl⟩
 obtain ⟨Y, hY⟩ : ∃ Y, Y = downN b low := ⟨_, rfl⟩
 have HDA := Lib.hid (fun W (hW : Below w.heap.size w W) => down_any a A c low W hc (Kd.C_below hC hW) ha hla (by omega) hda ⟨by omega, by omega⟩ (by omega))
 have HDB := Lib.hid (fun W (hW : Below w.heap.size w W) => down_any b B dd low W hd (Kd.C_below hD hW) hb hlb (by omega) hdb ⟨by omega, by omega⟩ (by omega))
 have HP : Hid (plusD a b = if a.f0 = b.f0 then ⟨a.f0, limbs (X + Y), low⟩ else if X < Y then ⟨b.f0, limbs (Y - X), low⟩ else ⟨a.f0, limbs (X - Y), low⟩) := Lib.hid (by unfold plusD; simp only; rw [← hlow, ← hX, ← hY])
 rw [← hX] at HDA
 rw [← hY] at HDB
 rw [← hX, ← hY] at ht
 have hlx : (limbs X).length ≤ 256 := top_len (by omega)
 have hly : (limbs Y).length ≤ 256 := top_len (by omega)
 have HADD : Hid (nat_Add.f 3 (limbs X) (limbs Y) = some (limbs (X + Y), 0)) := Lib.hid (by
  rw [add_f _ _ (okL_limbs X) (okL_limbs Y) (by omega) (by omega) 3 (Nat.le_refl _), addV_fits (canon_limbs X) (canon_limbs Y) hlx hly (by rw [val_limbs, val_limbs]; exact ht), val_limbs, val_limbs])
 have HCMP : Hid (∃ k, nat_Compare.f k (limbs X) (limbs Y) = some (cmpI X Y, 0)) := Lib.hid (by
  obtain ⟨k, hk⟩ := cmp_f (limbs X) (limbs Y) (okL_limbs X) (okL_limbs Y) (by omega) (by omega)
  refine ⟨k, (hk k (Nat.le_refl _)).trans ?_⟩
  unfold cmpV
  rw [if_pos (canon_tw' (canon_limbs X) (canon_limbs Y) hlx hly), val_limbs, val_limbs])
 have HSB : ∀ U V : Nat, V ≤ U → (limbs U).length ≤ 256 → (limbs V).length ≤ 256 → ∃ k, nat_Sub.f k (limbs U) (limbs V) = some (limbs (U - V), 0) := fun U V h h1 h2 => by
  obtain ⟨k, hk⟩ := sub_f (limbs U) (limbs V) (okL_limbs U) (okL_limbs V) (by omega) (by omega)
  refine ⟨k, (hk k (Nat.le_refl _)).trans ?_⟩
  unfold subV
  rw [if_pos (canon_tw' (canon_limbs U) (canon_limbs V) h1 h2), val_limbs, val_limbs, if_neg (by omega)]
 have HS1 : Hid (X < Y → ∃ k, nat_Sub.f k (limbs Y) (limbs X) = some (limbs (Y - X), 0)) := Lib.hid (fun h => HSB Y X (by omega) hly hlx)
 have HS2 : Hid (¬ X < Y → ∃ k, nat_Sub.f k (limbs X) (limbs Y) = some (limbs (X - Y), 0)) := Lib.hid (fun h => HSB X Y (by omega) hlx hly)
 subst hlow
 clear hX hY hC hD ha hb hda hdb ht hlx hly HSB
 obtain ⟨R, hR⟩ : ∃ R, R = plusD a b := ⟨_, rfl⟩
 rw [← hR]
 rw [← hR] at HP
 clear hR
 generalize limbs X = lx at *
 generalize limbs Y = ly at *
 obtain ⟨W3, hW3⟩ : ∃ W3, W3 = ((w.alloc (.cells #[.bool a.f0, .slice A a.f1.length c, .int .i64 a.f2] 122)).alloc (.cells #[.bool b.f0, .slice B b.f1.length dd, .int .i64 b.f2] 122)).alloc (.cells #[.bool false, .slice none 0 0, .int .i64 0] 122) := ⟨_, rfl⟩
 have hz : W3.heap.size = w.heap.size + 3 := by rw [hW3]; simp
 have hA : Below w.heap.size w W3 := by rw [hW3]; exact (((Below.refl _ _).alloc (Nat.le_refl _) _).alloc (by simp) _).alloc (by simp; omega) _
 have hx : W3.heap[w.heap.size]? = some (.cells #[.bool a.f0, .slice A a.f1.length c, .int .i64 a.f2] 122 (0, 0)) := by rw [hW3]; exact blk_alloc (blk_alloc (blk_new _ _) _) _
 have hy : W3.heap[w.heap.size + 1]? = some (.cells #[.bool b.f0, .slice B b.f1.length dd, .int .i64 b.f2] 122 (0, 0)) := by
  rw [hW3]
  have := blk_new (w.alloc (.cells #[.bool a.f0, .slice A a.f1.length c, .int .i64 a.f2] 122)) (.cells #[.bool b.f0, .slice B b.f1.length dd, .int .i64 b.f2] 122)
  rw [World.size_alloc] at this
  exact blk_alloc this _
 have ho : W3.heap[w.heap.size + 2]? = some (.cells #[.bool false, .slice none 0 0, .int .i64 0] 122 (0, 0)) := by
  rw [hW3]
  have := blk_new ((w.alloc (.cells #[.bool a.f0, .slice A a.f1.length c, .int .i64 a.f2] 122)).alloc (.cells #[.bool b.f0, .slice B b.f1.length dd, .int .i64 b.f2] 122)) (.cells #[.bool false, .slice none 0 0, .int .i64 0] 122)
  rw [World.size_alloc, World.size_alloc] at this
  exact this
 have HZ := Lib.hid hz
 have HA := Lib.hid hA
 have HX := Lib.hid hx
 have HY := Lib.hid hy
 have HO := Lib.hid ho
 have HW3 := Lib.hid hW3
 clear hz hA hx hy ho hW3
 go_enter Tryz.func92, Tryz.ntmps92
 go_upto_region 2 with (fail)
 rw [← HW3.out]
 clear HW3
 have HAd := Lib.hid (below_drew HA.out)
 have HXd := Lib.hid (blk_drew HX.out)
 have HYd := Lib.hid (blk_drew HY.out)
 have HOd := Lib.hid (blk_drew HO.out)
 have hzd := HZ.out
 rw [← World.size_drew] at hzd
 obtain ⟨hx, hxf⟩ := bcells HXd.out (Below.refl _ _)
 obtain ⟨hy, hyf⟩ := bcells HYd.out (Below.refl _ _)
 clear HA HX HY HO HZ
 go_region_law (first
  | (go_simp; go_at_call 115; (with_reducible refine (HDA.out _ HAd.out).mono ?_); rintro e w5 ⟨E1, e1, rfl, hp1, hC1, hB1⟩; have hs1 := hB1.size; obtain ⟨hx5, hxf5⟩ := bcells HXd.out hB1; obtain ⟨hy5, hyf5⟩ := bcells HYd.out hB1)
  | (go_simp; go_at_call 115; (with_reducible refine (HDB.out w5 (HAd.out.trans (hB1.mono (by omega)))).mono ?_); rintro e w6 ⟨E2, e2, rfl, hp2, hC2, hB2⟩; obtain ⟨hx6, hxf6⟩ := bcells (blk_below3 HXd.out hB1) hB2; obtain ⟨hy6, hyf6⟩ := bcells (blk_below3 HYd.out hB1) hB2))
 all_goals
  have hm := plus_mid (a0 := a.f0) (b0 := b.f0) (low := min a.f2 b.f2) (blk_below3 (blk_below3 HXd.out hB1) hB2) (blk_below3 (blk_below3 HYd.out hB1) hB2) (blk_below3 (blk_below3 HOd.out hB1) hB2) (HAd.out.trans ((hB1.mono (by omega)).trans (hB2.mono (by omega)))) (Kd.C_below hC1 hB2) hC2 hp1 hp2
  simp only [set3] at hm
  rename_i q_ k_ a_
  refine a_ _ _ ?_
  clear a_ hx6 hxf6 hy6 hyf6 hx5 hxf5 hy5 hyf5 hx hxf hy hyf hB1 hB2 hC1 hC2 hp1 hp2 hs1 hzd HAd HXd HYd HOd HDA HDB
  generalize (((((w6.setCell ⟨w.heap.size, 0, none⟩ (.bool a.f0)).setCell ⟨w.heap.size, 1, none⟩ (.slice E1 lx.length e1)).setCell ⟨w.heap.size, 2, none⟩ (.int .i64 (min a.f2 b.f2))).setCell ⟨w.heap.size + 1, 0, none⟩ (.bool b.f0)).setCell ⟨w.heap.size + 1, 1, none⟩ (.slice E2 ly.length e2)).setCell ⟨w.heap.size + 1, 2, none⟩ (.int .i64 (min a.f2 b.f2)) = W7 at hm ⊢
  generalize min a.f2 b.f2 = low at *
  have HM := Lib.hid hm
  obtain ⟨hx, hxf⟩ := bcells hm.x (Below.refl _ _)
  obtain ⟨hy, hyf⟩ := bcells hm.y (Below.refl _ _)
  clear hm
  cases hab : (a.f0 == b.f0) with
  | true =>
   have hR := HP.out
   rw [if_pos (eq_of_beq hab)] at hR
   clear HP
   subst hR
   go_wp2_with (first
    | (go_at_call 117; (with_reducible refine (nat_Add.calls 3 E1 e1 lx E2 e2 ly (limbs (X + Y)) 0 W7 HM.out.c1 HM.out.k1 HM.out.c2 HM.out.k2 HADD.out).mono ?_); rintro e w8 ⟨v8, rfl, hR8, hB8⟩; obtain ⟨P, p, rfl⟩ := Kd.R_slice hR8; have hend := plus_end HM.out hB8 hR8; obtain ⟨hx8, hxf8⟩ := bcells (blk_below3 HM.out.x hB8) (Below.refl _ _); obtain ⟨ho8, hof8⟩ := bcells (blk_below3 HM.out.o hB8) (Below.refl _ _); have HE := Lib.hid hend; clear hend hR8 hB8)
    | (go_at_call 116; (with_reducible refine (must_any _ _ _).mono ?_); rintro e w9 ⟨rfl, rfl⟩))
   obtain ⟨hb9, hc9, hr9, hk9⟩ := HE.out
   simp only [set3] at hb9 hc9 hr9
   obtain ⟨W9, hW9⟩ : ∃ W9, W9 = (((w8.setCell ⟨w.heap.size, 1, none⟩ (.slice P (limbs (X + Y)).length p)).setCell ⟨w.heap.size + 1 + 1, 0, none⟩ (.bool a.f0)).setCell ⟨w.heap.size + 1 + 1, 1, none⟩ (.slice P (limbs (X + Y)).length p)).setCell ⟨w.heap.size + 1 + 1, 2, none⟩ (.int .i64 low) := ⟨_, rfl⟩
   rw [← hW9] at hb9 hc9 hr9 ⊢
   obtain ⟨z0, z1, z2⟩ := cells3 hr9
   refine bodyPost_ret (v := .agg #[.bool a.f0, .slice P (limbs (X + Y)).length p, .int .i64 low]) ?_ rfl ⟨P, p, rfl, hk9, hc9, hb9⟩
   simp [results, Tryz.f92, go_sem, z0, z1, z2]
  | false =>
   have hR := HP.out
   rw [if_neg (by intro h; rw [h] at hab; simp at hab)] at hR
   clear HP
   obtain ⟨kc, hkc⟩ := HCMP.out
   have HK := Lib.hid hkc
   by_cases hlt : X < Y
   · rw [if_pos hlt] at hR
     subst hR
     obtain ⟨ks, hks⟩ := HS1.out hlt
     have HKS := Lib.hid hks
     have hcm : cmpI X Y = -1 := by unfold cmpI; rw [if_pos (by omega)]
     rw [hcm] at HK
     clear hkc hks hcm HS1 HS2 HADD HCMP
     go_wp2_with (first
      | (go_at_call 118; (with_reducible refine (nat_Compare.calls kc E1 e1 lx E2 e2 ly (-1) 0 W7 HM.out.c1 HM.out.k1 HM.out.c2 HM.out.k2 HK.out).mono ?_); rintro e w8 ⟨rfl, hB8⟩; have HM8 := Lib.hid (HM.out.later hB8); obtain ⟨hx8, hxf8⟩ := bcells HM8.out.x (Below.refl _ _); obtain ⟨hy8, hyf8⟩ := bcells HM8.out.y (Below.refl _ _); have hsw := plus_mid (a0 := b.f0) (b0 := a.f0) (low := low) HM8.out.x HM8.out.y HM8.out.o HM8.out.below HM8.out.c2 HM8.out.c1 HM8.out.k2 HM8.out.k1; simp only [set3] at hsw; have HSW := Lib.hid hsw; obtain ⟨hxs, hxsf⟩ := bcells HSW.out.x (Below.refl _ _); obtain ⟨hys, hysf⟩ := bcells HSW.out.y (Below.refl _ _); clear hsw hB8 hx hxf hy hyf)
      | (go_at_call 119; (with_reducible refine (nat_Sub.calls ks E2 e2 ly E1 e1 lx (limbs (Y - X)) 0 _ HSW.out.c1 HSW.out.k1 HSW.out.c2 HSW.out.k2 HKS.out).mono ?_); rintro e w9 ⟨v9, rfl, hR9, hB9⟩; obtain ⟨P, p, rfl⟩ := Kd.R_slice hR9; have hend := plus_end HSW.out hB9 hR9; obtain ⟨hx9, hxf9⟩ := bcells (blk_below3 HSW.out.x hB9) (Below.refl _ _); obtain ⟨ho9, hof9⟩ := bcells (blk_below3 HSW.out.o hB9) (Below.refl _ _); have HE := Lib.hid hend; clear hend hR9 hB9)
      | (go_at_call 116; (with_reducible refine (must_any _ _ _).mono ?_); rintro e w9 ⟨rfl, rfl⟩))
     obtain ⟨hb9, hc9, hr9, hk9⟩ := HE.out
     simp only [set3] at hb9 hc9 hr9
     obtain ⟨W9, hW9⟩ : ∃ W9, W9 = (((w9.setCell ⟨w.heap.size, 1, none⟩ (.slice P (limbs (Y - X)).length p)).setCell ⟨w.heap.size + 1 + 1, 0, none⟩ (.bool b.f0)).setCell ⟨w.heap.size + 1 + 1, 1, none⟩ (.slice P (limbs (Y - X)).length p)).setCell ⟨w.heap.size + 1 + 1, 2, none⟩ (.int .i64 low) := ⟨_, rfl⟩
     rw [← hW9] at hb9 hc9 hr9 ⊢
     obtain ⟨z0, z1, z2⟩ := cells3 hr9
     refine bodyPost_ret (v := .agg #[.bool b.f0, .slice P (limbs (Y - X)).length p, .int .i64 low]) ?_ rfl ⟨P, p, rfl, hk9, hc9, hb9⟩
     simp [results, Tryz.f92, go_sem, z0, z1, z2]
   · rw [if_neg hlt] at hR
     subst hR
     obtain ⟨ks, hks⟩ := HS2.out hlt
     have HKS := Lib.hid hks
     obtain ⟨cv, hcv⟩ : ∃ cv, cv = cmpI X Y := ⟨_, rfl⟩
     have hcm : ¬ cv < 0 := by rw [hcv]; unfold cmpI; split <;> (try split) <;> omega
     rw [← hcv] at HK
     clear hkc hks hcv HS1 HS2 HADD HCMP
     go_wp2_with (first
      | (go_at_call 118; (with_reducible refine (nat_Compare.calls kc E1 e1 lx E2 e2 ly cv 0 W7 HM.out.c1 HM.out.k1 HM.out.c2 HM.out.k2 HK.out).mono ?_); rintro e w8 ⟨rfl, hB8⟩; have HM8 := Lib.hid (HM.out.later hB8); obtain ⟨hx8, hxf8⟩ := bcells HM8.out.x (Below.refl _ _); obtain ⟨hy8, hyf8⟩ := bcells HM8.out.y (Below.refl _ _); clear hB8 hx hxf hy hyf)
      | (go_at_call 119; (with_reducible refine (nat_Sub.calls ks E1 e1 lx E2 e2 ly (limbs (X - Y)) 0 _ HM8.out.c1 HM8.out.k1 HM8.out.c2 HM8.out.k2 HKS.out).mono ?_); rintro e w9 ⟨v9, rfl, hR9, hB9⟩; obtain ⟨P, p, rfl⟩ := Kd.R_slice hR9; have hend := plus_end HM8.out hB9 hR9; obtain ⟨hx9, hxf9⟩ := bcells (blk_below3 HM8.out.x hB9) (Below.refl _ _); obtain ⟨ho9, hof9⟩ := bcells (blk_below3 HM8.out.o hB9) (Below.refl _ _); have HE := Lib.hid hend; clear hend hR9 hB9)
      | (go_at_call 116; (with_reducible refine (must_any _ _ _).mono ?_); rintro e w9 ⟨rfl, rfl⟩))
     obtain ⟨hb9, hc9, hr9, hk9⟩ := HE.out
     simp only [set3] at hb9 hc9 hr9
     obtain ⟨W9, hW9⟩ : ∃ W9, W9 = (((w9.setCell ⟨w.heap.size, 1, none⟩ (.slice P (limbs (X - Y)).length p)).setCell ⟨w.heap.size + 1 + 1, 0, none⟩ (.bool a.f0)).setCell ⟨w.heap.size + 1 + 1, 1, none⟩ (.slice P (limbs (X - Y)).length p)).setCell ⟨w.heap.size + 1 + 1, 2, none⟩ (.int .i64 low) := ⟨_, rfl⟩
     rw [← hW9] at hb9 hc9 hr9 ⊢
     obtain ⟨z0, z1, z2⟩ := cells3 hr9
     refine bodyPost_ret (v := .agg #[.bool a.f0, .slice P (limbs (X - Y)).length p, .int .i64 low]) ?_ rfl ⟨P, p, rfl, hk9, hc9, hb9⟩
     simp [results, Tryz.f92, go_sem, z0, z1, z2]
def sg (n : Bool) (x : Nat) : Int := if n then -(x : Int) else x
def dvalD (a : D) : Int := sg a.f0 (val a.f1 * 10 ^ (a.f2 + 1000).toNat)
theorem sg_mul (n : Bool) (x c : Nat) : sg n (x * c) = sg n x * (c : Int) := by
 unfold sg
 split <;> simp [Int.neg_mul]
theorem cmpI_mul (x y : Int) (c : Nat) (h : 0 < c) : cmpI (x * (c : Int)) (y * (c : Int)) = cmpI x y := by
 have hc : (0 : Int) < c := by omega
 unfold cmpI
 by_cases h1 : x < y
 · rw [if_pos h1, if_pos (Int.mul_lt_mul_of_pos_right h1 hc)]
 · rw [if_neg h1, if_neg (fun h' => h1 (Int.lt_of_mul_lt_mul_right h' (by omega)))]
   by_cases h2 : y < x
   · rw [if_pos h2, if_pos (Int.mul_lt_mul_of_pos_right h2 hc)]
   · rw [if_neg h2, if_neg (fun h' => h2 (Int.lt_of_mul_lt_mul_right h' (by omega)))]
def minusD (d : D) : D := ⟨!d.f0 && decide (d.f1.length ≠ 0), d.f1, d.f2⟩
theorem down_le (v n a b c : Nat) (h : v < 10 ^ a) (hn : n ≤ b) (hc : a + b + 1 ≤ c) : v * 10 ^ n + v * 10 ^ n ≤ 10 ^ c := by
 have h1 : v * 10 ^ n ≤ 10 ^ (a + b) := by
  rw [Nat.pow_add]
  exact Nat.mul_le_mul (by omega) (Nat.pow_le_pow_right (by omega) hn)
 have h2 : 10 ^ (a + b + 1) ≤ 10 ^ c := Nat.pow_le_pow_right (by omega) hc
 rw [Nat.pow_succ] at h2
 omega
theorem dec_ok {d : D} (h : decOkB d = true) : canon d.f1 ∧ d.f1.length ≤ 256 ∧ -1000 ≤ d.f2 ∧ d.f2 ≤ 1000 ∧ (d.f1.length ≠ 0 → val d.f1 < decTop) := by
 unfold decOkB at h
 simp only [Bool.and_eq_true, decide_eq_true_eq] at h
 obtain ⟨⟨h1, h2⟩, h3⟩ := h
 by_cases h0 : d.f1.length = 0
 · rw [if_pos h0] at h3
   simp only [Bool.and_eq_true, beq_iff_eq] at h3
   exact ⟨h2, by omega, by omega, by omega, fun h => absurd h0 h⟩
 · rw [if_neg h0] at h3
   simp only [Bool.and_eq_true, decide_eq_true_eq] at h3
   exact ⟨h2, by omega, by omega, by omega, fun _ => h3.1.1.2⟩
theorem downN_fits {d : D} (h : decOkB d = true) (x : Int) (hx : -1000 ≤ x) (hle : x ≤ d.f2) : downN d x + downN d x ≤ top := by
 obtain ⟨h1, h2, h3, h4, h5⟩ := dec_ok h
 unfold downN
 by_cases h0 : d.f1.length = 0
 · rw [(canon_nil_iff h1).1 h0]; simp
 · unfold top
   refine down_le _ _ decDig 2000 expo (h5 h0) (by omega) (by decide)
theorem dval_down {d : D} (x : Int) (hx : -1000 ≤ x) (hle : x ≤ d.f2) : dvalD d = sg d.f0 (downN d x) * ((10 ^ (x + 1000).toNat : Nat) : Int) := by
 unfold dvalD downN
 rw [← sg_mul, Nat.mul_assoc, ← Nat.pow_add, show (d.f2 - x).toNat + (x + 1000).toNat = (d.f2 + 1000).toNat by omega]
theorem plus_sg (a b : D) (low : Int) (hlow : low = min a.f2 b.f2) : sg (plusD a b).f0 (val (plusD a b).f1) = sg a.f0 (downN a low) + sg b.f0 (downN b low) ∧ canon (plusD a b).f1 := by
 unfold plusD
 simp only [← hlow]
 generalize downN a low = X
 generalize downN b low = Y
 by_cases h : a.f0 = b.f0
 · rw [if_pos h]
   refine ⟨?_, canon_limbs _⟩
   simp only [val_limbs, ← h]
   unfold sg
   split <;> push_cast <;> omega
 · rw [if_neg h]
   by_cases hlt : X < Y
   · rw [if_pos hlt]
     refine ⟨?_, canon_limbs _⟩
     simp only [val_limbs]
     unfold sg
     cases ha : a.f0 <;> cases hb : b.f0 <;> simp [ha, hb] at h ⊢ <;> omega
   · rw [if_neg hlt]
     refine ⟨?_, canon_limbs _⟩
     simp only [val_limbs]
     unfold sg
     cases ha : a.f0 <;> cases hb : b.f0 <;> simp [ha, hb] at h ⊢ <;> omega
theorem minus_sg (d : D) (h : canon d.f1) (x : Int) : sg (minusD d).f0 (downN (minusD d) x) = - sg d.f0 (downN d x) := by
 unfold minusD downN sg
 simp only
 by_cases h0 : d.f1.length = 0
 · rw [(canon_nil_iff h).1 h0]; simp
 · have hd : decide (d.f1.length ≠ 0) = true := by simp [h0]
   rw [hd]
   cases d.f0 <;> simp
def dcmp (a b : D) : Int := cmpI (dvalD a) (dvalD b)
theorem dcmp_plus (a b : D) (ha : decOkB a = true) (hb : decOkB b = true) : dcmp a b = if (plusD a (minusD b)).f1.length = 0 then 0 else if (plusD a (minusD b)).f0 then -1 else 1 := by
 obtain ⟨a1, a2, a3, a4, a5⟩ := dec_ok ha
 obtain ⟨b1, b2, b3, b4, b5⟩ := dec_ok hb
 obtain ⟨low, hlow⟩ : ∃ low, low = min a.f2 b.f2 := ⟨_, rfl⟩
 have h1 := plus_sg a (minusD b) low hlow
 rw [minus_sg b b1] at h1
 unfold dcmp
 rw [dval_down (d := a) low (by omega) (by omega), dval_down (d := b) low (by omega) (by omega), cmpI_mul _ _ _ (Nat.pow_pos (by omega))]
 generalize sg a.f0 (downN a low) = X at *
 generalize sg b.f0 (downN b low) = Y at *
 obtain ⟨h1, h2⟩ := h1
 have h3 := canon_nil_iff h2
 generalize plusD a (minusD b) = p at *
 unfold cmpI
 by_cases h0 : p.f1.length = 0
 · rw [if_pos h0]
   have := h3.1 h0
   rw [this] at h1
   have h4 : sg p.f0 0 = 0 := by unfold sg; split <;> rfl
   rw [h4] at h1
   rw [if_neg (by omega), if_neg (by omega)]
 · rw [if_neg h0]
   have hv : val p.f1 ≠ 0 := fun e => h0 (h3.2 e)
   unfold sg at h1
   cases hp : p.f0
   · rw [hp] at h1
     simp only [Bool.false_eq_true, if_false] at h1 ⊢
     rw [if_neg (by omega), if_pos (by omega)]
   · rw [hp] at h1
     simp only [if_true] at h1 ⊢
     rw [if_pos (by omega)]
end Go.Proofs.YtmfpakolfpoamaaGreatDoor.P

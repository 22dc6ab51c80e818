/- What nat's printed functions tell, by value. -/
import Derived.Test.YtdbnpaloalhciaaPx4
import Derived.Test.YtdbnpaloalhciaaNa
namespace Go.Proofs.Ytdbnpaloalhciaa.P
set_option linter.unusedVariables false
set_option linter.unusedSimpArgs false
open Go.RowKit Go.Proofs.YtdbnpaloalhciaaW.PrintWords Go.Proofs.YtdbnpaloalhciaaW.PrintMore
theorem w64 (n : Int) (h : -9223372036854775808 ≤ n ∧ n ≤ 9223372036854775807) : wrap64 n = n := by unfold wrap64; omega
theorem val_set : ∀ (l : List Int) (j : Nat) (v : Int), j < l.length → val (l.set j v) + 4294967296 ^ j * (l.getD j 0).toNat = val l + 4294967296 ^ j * v.toNat
  | [], j, v, h => by simp at h
  | x :: l, 0, v, h => by simp [val]; omega
  | x :: l, j + 1, v, h => by
    have ih := val_set l j v (by simpa using h)
    simp only [List.set_cons_succ, val, List.getD_cons_succ, Nat.pow_succ]
    have e : ∀ z : Nat, 4294967296 ^ j * 4294967296 * z = 4294967296 * (4294967296 ^ j * z) := fun z => by rw [Nat.mul_comm (4294967296 ^ j) 4294967296, Nat.mul_assoc]
    rw [e, e]
    omega
theorem u64w {x : Int} (h0 : 0 ≤ x) (h1 : x < 18446744073709551616) : IntKind.u64.wrap x = x := by
  have : IntKind.u64.wrap x = x % 18446744073709551616 := by simp [IntKind.wrap, IntKind.bits, IntKind.signed]
  rw [this]; omega
theorem rdn (l : List Int) (j : Nat) : rd l (j : Int) = l.getD j 0 := rd_nat l j
theorem okL_set {l : List Int} (h : okL l) (j : Nat) {v : Int} (h0 : 0 ≤ v) (h1 : v < 4294967296) : okL (l.set j v) := fun z hz => by
  rcases List.mem_or_eq_of_mem_set hz with hz | rfl
  · exact h z hz
  · exact ⟨h0, h1⟩
theorem drop_getD {l : List Int} {n : Nat} (h : n < l.length) : l.drop n = l.getD n 0 :: l.drop (n + 1) := by
  rw [List.drop_eq_getElem_cons h, List.getD_eq_getElem?_getD, List.getElem?_eq_getElem h]
  rfl
theorem getD_set (l : List Int) (i j : Nat) (v : Int) : (l.set i v).getD j 0 = if i = j ∧ j < l.length then v else l.getD j 0 := by
  rw [List.getD_eq_getElem?_getD, List.getD_eq_getElem?_getD, List.getElem?_set]
  by_cases h : i = j
  · subst h
    by_cases h2 : i < l.length
    · simp [h2]
    · simp [h2]
  · simp [h]
/-- A product's step of one limb: x * y + o + c. -/
theorem mul_step {x y o c : Int} (hx : 0 ≤ x ∧ x < 4294967296) (hy : 0 ≤ y ∧ y < 4294967296) (ho : 0 ≤ o ∧ o < 4294967296) (hc : 0 ≤ c ∧ c < 4294967296) :
    0 ≤ x * y ∧ x * y ≤ 18446744065119617025 ∧ (x * y + o + c) / 4294967296 < 4294967296 := by
  have h1 : x * y ≤ 4294967295 * 4294967295 := Int.mul_le_mul (by omega) (by omega) hy.1 (by omega)
  have h0 : 0 ≤ x * y := Int.mul_nonneg hx.1 hy.1
  refine ⟨h0, by omega, by omega⟩
theorem mul_inner (a b : List Int) (ha : okL a) (hb : okL b) (hla : a.length ≤ 1073741824) (hlb : b.length ≤ 1073741824) (i : Nat) (hi : i < a.length) : ∀ (m kk fuel : Nat) (out : List Int) (c : Int), kk + m = b.length → m + 1 ≤ fuel → okL out → out.length = a.length + b.length → (0 ≤ c ∧ c < 4294967296) → (∀ j, i + b.length ≤ j → out.getD j 0 = 0) →
    ∃ out', okL out' ∧ out'.length = a.length + b.length ∧ (∀ j, i + 1 + b.length ≤ j → out'.getD j 0 = 0) ∧ val out' = val out + ((a.getD i 0).toNat * val (b.drop kk) + c.toNat) * 4294967296 ^ (i + kk) ∧
      nat_num_mul.l1 fuel b out i (a.getD i 0) c a a.length i b b.length kk = nat_num_mul.l0 (fuel - (m + 1)) b out' a a.length ((i + 1 : Nat) : Int)
  | 0, kk, fuel, out, c, hk, hf, hok, hl, hc, hz => by
    obtain ⟨fuel, rfl⟩ : ∃ j, fuel = j + 1 := ⟨fuel - 1, by omega⟩
    obtain rfl : kk = b.length := by omega
    refine ⟨out.set (i + b.length) c, okL_set hok _ hc.1 hc.2, by rw [List.length_set, hl], fun j hj => ?_, ?_, ?_⟩
    · rw [getD_set, if_neg (by omega)]; exact hz j (by omega)
    · have := val_set out (i + b.length) c (by omega)
      rw [hz _ (Nat.le_refl _)] at this
      rw [List.drop_of_length_le (Nat.le_refl _)]
      simp only [val, Nat.mul_zero, Nat.zero_add, Int.toNat_zero, Nat.add_zero] at this ⊢
      rw [this, Nat.mul_comm]
    · rw [nat_num_mul.l1.eq_2, if_neg (by omega), w64 _ (by omega), if_pos (by omega), if_pos (by omega), w64 _ (by omega), show ((i : Int) + (b.length : Int)).toNat = i + b.length by omega, show c % 4294967296 = c by omega, show ((i : Int) + 1) = ((i + 1 : Nat) : Int) by omega]
      rfl
  | m + 1, kk, fuel, out, c, hk, hf, hok, hl, hc, hz => by
    obtain ⟨fuel, rfl⟩ : ∃ j, fuel = j + 1 := ⟨fuel - 1, by omega⟩
    have hx := okL_getD ha i
    have hy := okL_getD hb kk
    have ho := okL_getD hok (i + kk)
    obtain ⟨s0, s1, s2⟩ := mul_step hx hy ho hc
    have hc1 : 0 ≤ (a.getD i 0 * b.getD kk 0 + out.getD (i + kk) 0 + c) / 4294967296 := by omega
    obtain ⟨out', o1, o2, o3, o4, o5⟩ := mul_inner a b ha hb hla hlb i hi m (kk + 1) fuel (out.set (i + kk) ((a.getD i 0 * b.getD kk 0 + out.getD (i + kk) 0 + c) % 4294967296)) ((a.getD i 0 * b.getD kk 0 + out.getD (i + kk) 0 + c) / 4294967296) (by omega) (by omega) (okL_set hok _ (by omega) (by omega)) (by rw [List.length_set, hl]) ⟨hc1, s2⟩ (fun j hj => by rw [getD_set, if_neg (by omega)]; exact hz j hj)
    refine ⟨out', o1, o2, o3, ?_, ?_⟩
    · rw [o4, drop_getD (show kk < b.length by omega), val]
      have hv := val_set out (i + kk) ((a.getD i 0 * b.getD kk 0 + out.getD (i + kk) 0 + c) % 4294967296) (by omega)
      have e : ((a.getD i 0 * b.getD kk 0 + out.getD (i + kk) 0 + c) % 4294967296).toNat + 4294967296 * ((a.getD i 0 * b.getD kk 0 + out.getD (i + kk) 0 + c) / 4294967296).toNat = (a.getD i 0).toNat * (b.getD kk 0).toNat + (out.getD (i + kk) 0).toNat + c.toNat := by
        have : ((a.getD i 0).toNat * (b.getD kk 0).toNat : Nat) = (a.getD i 0 * b.getD kk 0).toNat := by
          rw [Int.toNat_mul hx.1 hy.1]
        rw [this]; omega
      generalize ((a.getD i 0 * b.getD kk 0 + out.getD (i + kk) 0 + c) % 4294967296).toNat = q at *
      generalize ((a.getD i 0 * b.getD kk 0 + out.getD (i + kk) 0 + c) / 4294967296).toNat = d at *
      generalize val (b.drop (kk + 1)) = V at *
      generalize (a.getD i 0).toNat = X at *
      generalize (b.getD kk 0).toNat = Y at *
      generalize (out.getD (i + kk) 0).toNat = O at *
      rw [show i + (kk + 1) = (i + kk) + 1 by omega, Nat.pow_succ]
      generalize 4294967296 ^ (i + kk) = T at *
      have e2 := congrArg (T * ·) e
      simp only [Nat.mul_add] at e2
      have g1 : (X * V + d) * (T * 4294967296) = T * (X * (4294967296 * V)) + T * (4294967296 * d) := by
        rw [Nat.add_mul]; congr 1 <;> ac_rfl
      have g2 : (X * (Y + 4294967296 * V) + c.toNat) * T = T * (X * Y) + T * (X * (4294967296 * V)) + T * c.toNat := by
        rw [Nat.add_mul, Nat.mul_add, Nat.add_mul, Nat.mul_comm (X * Y) T, Nat.mul_comm (X * (4294967296 * V)) T, Nat.mul_comm c.toNat T]
      rw [g1, g2]
      omega
    · rw [nat_num_mul.l1.eq_2, if_pos (by omega), if_pos (by omega), if_pos (by omega), w64 ((i : Int) + kk) (by omega), if_pos (by omega), if_pos (by omega), show ((i : Int) + (kk : Int)) = ((i + kk : Nat) : Int) by omega, Int.toNat_natCast, rdn, rdn, u64w hx.1 (by omega), u64w hy.1 (by omega), u64w ho.1 (by omega), u64w s0 (by omega), @u64w (a.getD i 0 * b.getD kk 0 + out.getD (i + kk) 0) (by omega) (by omega), @u64w (a.getD i 0 * b.getD kk 0 + out.getD (i + kk) 0 + c) (by omega) (by omega), w64 _ (by omega), show ((kk : Int) + 1) = ((kk + 1 : Nat) : Int) by omega, o5]
      congr 1
      omega
theorem mul_outer (a b : List Int) (ha : okL a) (hb : okL b) (hla : a.length ≤ 1073741824) (hlb : b.length ≤ 1073741824) : ∀ (m i fuel : Nat) (out : List Int), i + m = a.length → (m + 1) * (b.length + 3) ≤ fuel → okL out → out.length = a.length + b.length → (∀ j, i + b.length ≤ j → out.getD j 0 = 0) → val out = val (a.take i) * val b →
    nat_num_mul.l0 fuel b out a a.length i = some (limbs (val a * val b))
  | 0, i, fuel, out, hi, hf, hok, hl, hz, hv => by
    obtain ⟨fuel, rfl⟩ : ∃ j, fuel = j + 1 := ⟨fuel - 1, by omega⟩
    rw [nat_num_mul.l0.eq_2, if_neg (by omega)]
    unfold nat_num_trim.f
    rw [if_pos ⟨hok, by omega⟩, hv, List.take_of_length_le (by omega)]
    rfl
  | m + 1, i, fuel, out, hi, hf, hok, hl, hz, hv => by
    have hf' : (m + 1) * (b.length + 3) + (b.length + 3) ≤ fuel := by rw [← Nat.succ_mul]; exact hf
    obtain ⟨fuel, rfl⟩ : ∃ j, fuel = j + 1 := ⟨fuel - 1, by omega⟩
    obtain ⟨out', o1, o2, o3, o4, o5⟩ := mul_inner a b ha hb hla hlb i (by omega) b.length 0 fuel out 0 (by omega) (by omega) hok hl ⟨Int.le_refl _, by omega⟩ hz
    rw [nat_num_mul.l0.eq_2, if_pos (by omega), if_pos (by omega), if_pos (by omega), rdn]
    have o5' : nat_num_mul.l1 fuel b out i (a.getD i 0) 0 a a.length i b b.length 0 = _ := o5
    rw [o5']
    refine mul_outer a b ha hb hla hlb m (i + 1) _ out' (by omega) (by omega) o1 o2 o3 ?_
    have e0 : Int.toNat 0 = 0 := rfl
    rw [o4, hv, val_take_step, List.drop_zero, e0, Nat.add_zero, Nat.add_zero, Nat.add_mul]
    congr 1
    rw [Nat.mul_comm (4294967296 ^ i), Nat.mul_assoc, Nat.mul_assoc, Nat.mul_comm (val b)]
theorem mul_eq (a b : List Int) (ha : okL a) (hb : okL b) (hla : a.length ≤ 1073741824) (hlb : b.length ≤ 1073741824) (k : Nat) (hk : (a.length + 1) * (b.length + 3) ≤ k) : nat_num_mul.f k a b = some (limbs (val a * val b)) := by
  unfold nat_num_mul.f
  rw [w64 _ (by omega), if_pos (by omega), show ((a.length : Int) + (b.length : Int)).toNat = a.length + b.length by omega, if_pos (by omega)]
  have h0 : okL (List.replicate (a.length + b.length) (0 : Int)) := fun z hz => by rw [List.eq_of_mem_replicate hz]; omega
  have hv : val (List.replicate (a.length + b.length) (0 : Int)) = 0 := (val_zero h0).2 fun z hz => List.eq_of_mem_replicate hz
  exact mul_outer a b ha hb hla hlb a.length 0 k _ (by omega) hk h0 (by simp) (fun j _ => by rw [List.getD_eq_getElem?_getD, List.getElem?_replicate]; split <;> rfl) (by rw [hv]; simp [val])
end Go.Proofs.Ytdbnpaloalhciaa.P

/- nat's printed functions by value: checks, sums, products. -/
import Derived.Test.YtdbnpaloalhciaaPa
import Derived.Test.YtdbnpaloalhciaaPx6
import Derived.Test.YtdbnpaloalhciaaPx5
namespace Go.Proofs.Ytdbnpaloalhciaa.P
set_option linter.unusedVariables false
set_option linter.unusedSimpArgs false
open Go.RowKit Go.Proofs.YtdbnpaloalhciaaW.PrintWords Go.Proofs.YtdbnpaloalhciaaW.PrintMore
def chk (l : List Int) : Int := if l.length > 256 then 5 else if l ≠ [] ∧ l.getD (l.length - 1) 0 = 0 then 9 else 0
theorem check_f (l : List Int) (h : l.length ≤ 4611686018427387904) : nat_Check.f l = some (chk l) := by
  unfold nat_Check.f chk
  by_cases h1 : l.length > 256
  · rw [if_pos (by omega), if_pos h1]
  · rw [if_neg (by omega), if_neg h1]
    cases l with
    | nil => simp
    | cons x l =>
      rw [if_pos (by simp <;> omega), w64 _ (by omega), if_pos (by simp <;> omega), if_pos (by simp <;> omega)]
      have e : rd (x :: l) (((x :: l).length : Int) - 1) = (x :: l).getD ((x :: l).length - 1) 0 := by unfold rd; congr 1; simp <;> omega
      rw [e]
      by_cases h2 : (x :: l).getD ((x :: l).length - 1) 0 = 0
      · rw [if_pos h2, if_pos ⟨by simp, h2⟩]
      · rw [if_neg h2, if_neg (fun hh => h2 hh.2)]
theorem getLast_getD {l : List Int} (h : l ≠ []) : l.getLast h = l.getD (l.length - 1) 0 := by
  have := List.length_pos_iff.2 h
  rw [List.getLast_eq_getElem, List.getD_eq_getElem?_getD, List.getElem?_eq_getElem (by omega)]
  rfl
theorem chk_ok {l : List Int} (h : okL l) : chk l = 0 ↔ l.length ≤ 256 ∧ canon l := by
  unfold chk
  constructor
  · intro hc
    by_cases h1 : l.length > 256
    · rw [if_pos h1] at hc; omega
    · rw [if_neg h1] at hc
      refine ⟨by omega, canon_of_last h fun hn => ?_⟩
      rw [getLast_getD hn]
      intro h0
      rw [if_pos ⟨hn, h0⟩] at hc
      omega
  · rintro ⟨h1, h2⟩
    rw [if_neg (by omega), if_neg]
    rintro ⟨hn, h0⟩
    exact canon_last h2 hn (by rw [getLast_getD hn]; exact h0)
theorem chk_vals (l : List Int) : chk l = 0 ∨ chk l = 5 ∨ chk l = 9 := by
  unfold chk
  split
  · simp
  · split <;> simp
theorem errs_f (x y : Int) (k : Nat) (hk : 3 ≤ k) : api_Errno.f k [x, y] = some (if x = 0 then y else x) := by
  obtain ⟨k, rfl⟩ : ∃ m, k = m + 3 := ⟨k - 3, by omega⟩
  unfold api_Errno.f
  by_cases hx : x = 0
  · subst hx
    by_cases hy : y = 0
    · subst hy; simp [api_Errno.l0, rd, w64]
    · simp [api_Errno.l0, rd, w64, hy]
  · simp [api_Errno.l0, rd, hx]
def tw (a b : List Int) : Int := if chk a = 0 then chk b else chk a
theorem two_f (a b : List Int) (ha : a.length ≤ 4611686018427387904) (hb : b.length ≤ 4611686018427387904) (k : Nat) (hk : 3 ≤ k) : nat_two.f k a b = some (tw a b) := by
  unfold nat_two.f tw
  rw [check_f a ha, Option.bind_some, check_f b hb, Option.bind_some, errs_f _ _ k hk, Option.bind_some]
theorem tw_ok {a b : List Int} (ha : okL a) (hb : okL b) : tw a b = 0 ↔ (a.length ≤ 256 ∧ canon a) ∧ b.length ≤ 256 ∧ canon b := by
  rw [← chk_ok ha, ← chk_ok hb]
  unfold tw
  by_cases h : chk a = 0
  · rw [if_pos h]; simp [h]
  · rw [if_neg h]; simp [h]
/-- Limbs, if they are not too many. -/
def fitsV (n : Nat) : List Int × Int := if (limbs n).length > 256 then ([], 51) else (limbs n, 0)
theorem fits_f (n : Nat) : nat_fits.f (limbs n) = some (fitsV n) := by
  unfold nat_fits.f fitsV
  by_cases h : (limbs n).length > 256
  · rw [if_pos (by omega), if_pos h]
  · rw [if_neg (by omega), if_neg h]
def addV (a b : List Int) : List Int × Int := if tw a b = 0 then fitsV (val a + val b) else ([], tw a b)
def mulV (a b : List Int) : List Int × Int := if tw a b = 0 then fitsV (val a * val b) else ([], tw a b)
theorem add_f (a b : List Int) (ha : okL a) (hb : okL b) (hla : a.length ≤ 4611686018427387904) (hlb : b.length ≤ 4611686018427387904) (k : Nat) (hk : 3 ≤ k) : nat_Add.f k a b = some (addV a b) := by
  unfold nat_Add.f addV
  rw [two_f a b hla hlb k hk, Option.bind_some]
  by_cases h : tw a b = 0
  · rw [if_pos h, if_pos h]
    have h2 := (tw_ok ha hb).1 h
    unfold nat_num_add.f
    rw [if_pos ⟨⟨ha, hb⟩, by omega, by omega⟩, Option.bind_some, fits_f, Option.bind_some]
  · rw [if_neg h, if_neg h]
theorem mul_bound {x y : Nat} (hx : x ≤ 256) (hy : y ≤ 256) : (x + 1) * (y + 3) ≤ 70000 := Nat.le_trans (Nat.mul_le_mul (show x + 1 ≤ 257 by omega) (show y + 3 ≤ 259 by omega)) (by omega)
theorem mul_f (a b : List Int) (ha : okL a) (hb : okL b) (hla : a.length ≤ 4611686018427387904) (hlb : b.length ≤ 4611686018427387904) (k : Nat) (hk : 70000 ≤ k) : nat_Mul.f k a b = some (mulV a b) := by
  unfold nat_Mul.f mulV
  rw [two_f a b hla hlb k (by omega), Option.bind_some]
  by_cases h : tw a b = 0
  · rw [if_pos h, if_pos h]
    have h2 := (tw_ok ha hb).1 h
    rw [mul_eq a b ha hb (by omega) (by omega) k (by have := mul_bound h2.1.1 h2.2.1; omega), Option.bind_some, fits_f, Option.bind_some]
  · rw [if_neg h, if_neg h]
theorem fitsV_ok (n : Nat) : okL (fitsV n).1 ∧ (fitsV n).1.length ≤ 256 ∧ (fitsV n).2 = if (limbs n).length > 256 then 51 else 0 := by
  unfold fitsV
  split
  · exact ⟨okL_nil, by simp, rfl⟩
  · exact ⟨okL_limbs n, by simp; omega, rfl⟩
theorem addV_ok (a b : List Int) : okL (addV a b).1 ∧ (addV a b).1.length ≤ 256 := by
  unfold addV
  split
  · exact ⟨(fitsV_ok _).1, (fitsV_ok _).2.1⟩
  · exact ⟨okL_nil, by simp⟩
theorem mulV_ok (a b : List Int) : okL (mulV a b).1 ∧ (mulV a b).1.length ≤ 256 := by
  unfold mulV
  split
  · exact ⟨(fitsV_ok _).1, (fitsV_ok _).2.1⟩
  · exact ⟨okL_nil, by simp⟩
theorem okL_of_wf {l : List Int} (h : ∀ x ∈ l, (Lit.int .u32 x).wf = true) : okL l := fun x hx => by
  have := h x hx
  simp [Lit.wf, IntKind.min, IntKind.max, IntKind.signed, IntKind.bits] at this
  omega
theorem same_loop (a b : List Int) (hl : a.length = b.length) (h : a.length ≤ 4611686018427387904) : ∀ (m i k : Nat), i + m = a.length → m + 1 ≤ k → bolterplain_SameLimbs.l0 k a b i = some (decide (a.drop i = b.drop i))
  | 0, i, k, hi, hk => by
    obtain ⟨k, rfl⟩ : ∃ m, k = m + 1 := ⟨k - 1, by omega⟩
    rw [bolterplain_SameLimbs.l0.eq_2, if_neg (by omega), List.drop_of_length_le (by omega), List.drop_of_length_le (by omega)]
    rfl
  | m + 1, i, k, hi, hk => by
    obtain ⟨k, rfl⟩ : ∃ m, k = m + 1 := ⟨k - 1, by omega⟩
    rw [bolterplain_SameLimbs.l0.eq_2, if_pos (by omega), if_pos (by omega), if_pos (by omega), w64 _ (by omega), rdn, rdn, drop_getD (l := a) (by omega), drop_getD (l := b) (by omega)]
    by_cases e : a.getD i 0 = b.getD i 0
    · rw [if_pos e, show ((i : Int) + 1) = ((i + 1 : Nat) : Int) by omega, same_loop a b hl h m (i + 1) k (by omega) (by omega)]
      congr 1
      rw [e, decide_eq_decide]
      exact ⟨fun hh => by rw [hh], fun hh => by injection hh⟩
    · rw [if_neg e]
      congr 1
      symm
      rw [decide_eq_false_iff_not]
      intro hh
      injection hh with h1 h2
      exact e h1
theorem same_f (a b : List Int) (h : a.length ≤ 4611686018427387904) (k : Nat) (hk : a.length + 1 ≤ k) : bolterplain_SameLimbs.f k a b = some (decide (a = b)) := by
  unfold bolterplain_SameLimbs.f
  by_cases hl : a.length = b.length
  · rw [if_pos (by omega)]
    have := same_loop a b hl h a.length 0 k (by omega) hk
    simpa using this
  · rw [if_neg (by omega)]
    congr 1
    symm
    rw [decide_eq_false_iff_not]
    intro e
    exact hl (by rw [e])
end Go.Proofs.Ytdbnpaloalhciaa.P

/- Digits and their number: plain. -/
import Derived.Test.YtdbnpaloalhciaaNt
import Derived.Test.YtdbnpaloalhciaaNa
import Derived.Test.YtdbnpaloalhciaaPx6
import Derived.Test.YtdbnpaloalhciaaPx5
namespace Go.Proofs.Ytdbnpaloalhciaa.P
set_option linter.unusedVariables false
set_option linter.unusedSimpArgs false
open Go.RowKit Go.Proofs.YtdbnpaloalhciaaW.PrintWords
/-- Digits. -/
def okD (l : List Int) : Prop := ∀ x ∈ l, 0 ≤ x ∧ x < 10
instance (l : List Int) : Decidable (okD l) := by unfold okD; infer_instance
/-- Their number. -/
def dval : List Int → Nat
  | [] => 0
  | x :: l => x.toNat + 10 * dval l
/-- A number's decs. -/
def decs (n : Nat) : List Int := if h : n = 0 then [] else ((n % 10 : Nat) : Int) :: decs (n / 10)
termination_by n
decreasing_by omega
theorem decs_zero : decs 0 = [] := by rw [decs, dif_pos rfl]
theorem decs_pos {n : Nat} (h : n ≠ 0) : decs n = ((n % 10 : Nat) : Int) :: decs (n / 10) := by rw [decs, dif_neg h]
theorem okD_nil : okD [] := fun x hx => by simp at hx
theorem okD_cons {x : Int} {l : List Int} : okD (x :: l) ↔ (0 ≤ x ∧ x < 10) ∧ okD l := by unfold okD; simp
theorem okD_app {l r : List Int} : okD (l ++ r) ↔ okD l ∧ okD r := by
  unfold okD
  constructor
  · intro h; exact ⟨fun x hx => h x (List.mem_append_left _ hx), fun x hx => h x (List.mem_append_right _ hx)⟩
  · rintro ⟨h, k⟩ x hx; exact (List.mem_append.1 hx).elim (h x) (k x)
theorem okD_take {l : List Int} (h : okD l) (n : Nat) : okD (l.take n) := fun x hx => h x (List.mem_of_mem_take hx)
theorem okD_getD {l : List Int} (h : okD l) (i : Nat) : 0 ≤ l.getD i 0 ∧ l.getD i 0 < 10 := by
  rw [List.getD_eq_getElem?_getD]
  by_cases hi : i < l.length
  · rw [List.getElem?_eq_getElem hi]; exact h _ (List.getElem_mem hi)
  · rw [List.getElem?_eq_none (by omega)]; simp
theorem okD_decs : ∀ n, okD (decs n) := by
  intro n
  induction n using Nat.strongRecOn with
  | _ n ih =>
    by_cases h : n = 0
    · subst h; rw [decs_zero]; exact okD_nil
    · rw [decs_pos h, okD_cons]; exact ⟨by omega, ih _ (by omega)⟩
theorem dval_decs : ∀ n, dval (decs n) = n := by
  intro n
  induction n using Nat.strongRecOn with
  | _ n ih =>
    by_cases h : n = 0
    · subst h; rw [decs_zero]; rfl
    · rw [decs_pos h, dval, ih _ (by omega)]; omega
/-- Digits as they may be: the last one not 0. -/
def dcanon (l : List Int) : Prop := decs (dval l) = l
instance (l : List Int) : Decidable (dcanon l) := by unfold dcanon; infer_instance
theorem dcanon_decs (n : Nat) : dcanon (decs n) := by unfold dcanon; rw [dval_decs]
theorem dcanon_okD {l : List Int} (h : dcanon l) : okD l := by have := okD_decs (dval l); rwa [h] at this
theorem dval_app : ∀ (l r : List Int), dval (l ++ r) = dval l + 10 ^ l.length * dval r
  | [], r => by simp [dval]
  | x :: l, r => by
    rw [List.cons_append, dval, dval_app l r, dval, List.length_cons, Nat.pow_succ, Nat.mul_add, Nat.mul_comm (10 ^ l.length) 10, Nat.mul_assoc, Nat.add_assoc]
theorem dval_lt : ∀ {l : List Int}, okD l → dval l < 10 ^ l.length
  | [], _ => by simp [dval]
  | x :: l, h => by
    rw [okD_cons] at h
    have := dval_lt h.2
    rw [dval, List.length_cons, Nat.pow_succ]
    omega
/-- Digits whose last one is not 0 are their number's. -/
theorem dcanon_of_last : ∀ {l : List Int}, okD l → (∀ h : l ≠ [], l.getLast h ≠ 0) → dcanon l
  | [], _, _ => by unfold dcanon; rw [dval, decs_zero]
  | [x], h, hl => by
    rw [okD_cons] at h
    have := hl (by simp)
    simp at this
    unfold dcanon
    have hv : dval [x] = x.toNat := by simp [dval]
    rw [hv, decs_pos (by omega), show x.toNat / 10 = 0 by omega, decs_zero, show ((x.toNat % 10 : Nat) : Int) = x by omega]
  | x :: y :: l, h, hl => by
    have h0 := okD_cons.1 h
    have ih := dcanon_of_last (l := y :: l) h0.2 (fun hn => by have := hl (by simp); rwa [List.getLast_cons hn] at this)
    have hp : dval (y :: l) ≠ 0 := by
      intro e
      unfold dcanon at ih
      rw [e, decs_zero] at ih
      simp at ih
    unfold dcanon at ih ⊢
    rw [dval, decs_pos (by omega), show (x.toNat + 10 * dval (y :: l)) % 10 = x.toNat by omega, show (x.toNat + 10 * dval (y :: l)) / 10 = dval (y :: l) by omega, ih, show ((x.toNat : Nat) : Int) = x by omega]
theorem dcanon_last {l : List Int} (h : dcanon l) (hn : l ≠ []) : l.getLast hn ≠ 0 := by
  have key : ∀ n (hn : decs n ≠ []), (decs n).getLast hn ≠ 0 := by
    intro n
    induction n using Nat.strongRecOn with
    | _ n ih =>
      intro hn
      have h0 : n ≠ 0 := by intro e; subst e; exact hn decs_zero
      by_cases h1 : n / 10 = 0
      · have e : decs n = [((n % 10 : Nat) : Int)] := by rw [decs_pos h0, h1, decs_zero]
        simp only [e, List.getLast_singleton]
        omega
      · have hm : decs (n / 10) ≠ [] := by rw [decs_pos h1]; simp
        have := ih (n / 10) (by omega) hm
        simp only [decs_pos h0]
        rw [List.getLast_cons hm]
        exact this
  have e : decs (dval l) = l := h
  have hm : decs (dval l) ≠ [] := by rw [e]; exact hn
  have := key (dval l) hm
  simp only [e] at this
  exact this
theorem dval_take_succ {l : List Int} {n : Nat} (h : n < l.length) : dval (l.take (n + 1)) = dval (l.take n) + 10 ^ n * (l.getD n 0).toNat := by
  rw [take_succ_getD h, dval_app, List.length_take, Nat.min_eq_left (by omega)]
  simp [dval]
/-- Digits without 0 at their end. -/
theorem dtrim_done {l : List Int} (h : okD l) {m : Nat} (hm : m ≤ l.length) (hv : dval (l.take m) = dval l) (hl : m = 0 ∨ l.getD (m - 1) 0 ≠ 0) : l.take m = decs (dval l) := by
  have hc : dcanon (l.take m) := by
    refine dcanon_of_last (okD_take h m) fun hn => ?_
    rcases hl with rfl | hl
    · simp at hn
    · obtain ⟨j, rfl⟩ : ∃ j, m = j + 1 := ⟨m - 1, by rcases m with _ | m; simp at hn; omega⟩
      have e := take_succ_getD (l := l) (n := j) (by omega)
      simp only [e, List.getLast_concat]
      simpa using hl
  rw [← hv]
  exact hc.symm
theorem dtrim_step {l : List Int} {m : Nat} (hm : m + 1 ≤ l.length) (hv : dval (l.take (m + 1)) = dval l) (h0 : l.getD m 0 = 0) : dval (l.take m) = dval l := by
  rw [dval_take_succ (by omega), h0] at hv
  simpa using hv
theorem dcanon_len {l : List Int} (h : dcanon l) {k : Nat} (hk : dval l < 10 ^ k) : l.length ≤ k := by
  rcases Nat.lt_or_ge k l.length with hlt | hge
  · exfalso
    have hn : l ≠ [] := by intro e; subst e; simp at hlt
    have hl := dcanon_last h hn
    have hok := dcanon_okD h
    obtain ⟨j, hj⟩ : ∃ j, l.length = j + 1 := ⟨l.length - 1, by omega⟩
    have e := dval_take_succ (l := l) (n := j) (by omega)
    rw [show j + 1 = l.length by omega, List.take_length] at e
    have hg : l.getD j 0 = l.getLast hn := by
      rw [List.getLast_eq_getElem, List.getD_eq_getElem?_getD, List.getElem?_eq_getElem (show j < l.length by omega)]
      simp only [Option.getD_some]
      congr 1
      omega
    have hb := okD_getD hok j
    rw [hg] at hb
    have h1 : 1 ≤ (l.getD j 0).toNat := by rw [hg]; omega
    have h2 : 10 ^ k ≤ 10 ^ j := Nat.pow_le_pow_right (by omega) (by omega)
    have h3 : 10 ^ j ≤ 10 ^ j * (l.getD j 0).toNat := Nat.le_mul_of_pos_right _ h1
    omega
  · exact hge
end Go.Proofs.Ytdbnpaloalhciaa.P
namespace Go.Proofs.Ytdbnpaloalhciaa.P
set_option linter.unusedVariables false
set_option linter.unusedSimpArgs false
open Go.RowKit Go.Proofs.YtdbnpaloalhciaaW.PrintWords Go.Proofs.YtdbnpaloalhciaaW.PrintMore
def chk (l : List Int) : Int := if l.length > 256 then 5 else if l ≠ [] ∧ l.getD (l.length - 1) 0 = 0 then 9 else 0
theorem check_f (l : List Int) (h : l.length ≤ 4611686018427387904) : nat_Check.f l = some (chk l) := by
  unfold nat_Check.f chk
  by_cases h1 : l.length > 256
  · rw [if_pos (by omega), if_pos h1]
  · rw [if_neg (by omega), if_neg h1]
    cases l with
    | nil => simp
    | cons x l =>
      rw [if_pos (by simp <;> omega), w64 _ (by omega), if_pos (by simp <;> omega), if_pos (by simp <;> omega)]
      have e : rd (x :: l) (((x :: l).length : Int) - 1) = (x :: l).getD ((x :: l).length - 1) 0 := by unfold rd; congr 1; simp <;> omega
      rw [e]
      by_cases h2 : (x :: l).getD ((x :: l).length - 1) 0 = 0
      · rw [if_pos h2, if_pos ⟨by simp, h2⟩]
      · rw [if_neg h2, if_neg (fun hh => h2 hh.2)]
theorem getLast_getD {l : List Int} (h : l ≠ []) : l.getLast h = l.getD (l.length - 1) 0 := by
  have := List.length_pos_iff.2 h
  rw [List.getLast_eq_getElem, List.getD_eq_getElem?_getD, List.getElem?_eq_getElem (by omega)]
  rfl
theorem chk_ok {l : List Int} (h : okL l) : chk l = 0 ↔ l.length ≤ 256 ∧ canon l := by
  unfold chk
  constructor
  · intro hc
    by_cases h1 : l.length > 256
    · rw [if_pos h1] at hc; omega
    · rw [if_neg h1] at hc
      refine ⟨by omega, canon_of_last h fun hn => ?_⟩
      rw [getLast_getD hn]
      intro h0
      rw [if_pos ⟨hn, h0⟩] at hc
      omega
  · rintro ⟨h1, h2⟩
    rw [if_neg (by omega), if_neg]
    rintro ⟨hn, h0⟩
    exact canon_last h2 hn (by rw [getLast_getD hn]; exact h0)
theorem errs_f (x y : Int) (k : Nat) (hk : 3 ≤ k) : api_Errno.f k [x, y] = some (if x = 0 then y else x) := by
  obtain ⟨k, rfl⟩ : ∃ m, k = m + 3 := ⟨k - 3, by omega⟩
  unfold api_Errno.f
  by_cases hx : x = 0
  · subst hx
    by_cases hy : y = 0
    · subst hy; simp [api_Errno.l0, rd, w64]
    · simp [api_Errno.l0, rd, w64, hy]
  · simp [api_Errno.l0, rd, hx]
def tw (a b : List Int) : Int := if chk a = 0 then chk b else chk a
theorem two_f (a b : List Int) (ha : a.length ≤ 4611686018427387904) (hb : b.length ≤ 4611686018427387904) (k : Nat) (hk : 3 ≤ k) : nat_two.f k a b = some (tw a b) := by
  unfold nat_two.f tw
  rw [check_f a ha, Option.bind_some, check_f b hb, Option.bind_some, errs_f _ _ k hk, Option.bind_some]
theorem tw_ok {a b : List Int} (ha : okL a) (hb : okL b) : tw a b = 0 ↔ (a.length ≤ 256 ∧ canon a) ∧ b.length ≤ 256 ∧ canon b := by
  rw [← chk_ok ha, ← chk_ok hb]
  unfold tw
  by_cases h : chk a = 0
  · rw [if_pos h]; simp [h]
  · rw [if_neg h]; simp [h]
/-- Limbs, if they are not too many. -/
def fitsV (n : Nat) : List Int × Int := if (limbs n).length > 256 then ([], 51) else (limbs n, 0)
theorem fits_f (n : Nat) : nat_fits.f (limbs n) = some (fitsV n) := by
  unfold nat_fits.f fitsV
  by_cases h : (limbs n).length > 256
  · rw [if_pos (by omega), if_pos h]
  · rw [if_neg (by omega), if_neg h]
def addV (a b : List Int) : List Int × Int := if tw a b = 0 then fitsV (val a + val b) else ([], tw a b)
def mulV (a b : List Int) : List Int × Int := if tw a b = 0 then fitsV (val a * val b) else ([], tw a b)
theorem add_f (a b : List Int) (ha : okL a) (hb : okL b) (hla : a.length ≤ 4611686018427387904) (hlb : b.length ≤ 4611686018427387904) (k : Nat) (hk : 3 ≤ k) : nat_Add.f k a b = some (addV a b) := by
  unfold nat_Add.f addV
  rw [two_f a b hla hlb k hk, Option.bind_some]
  by_cases h : tw a b = 0
  · rw [if_pos h, if_pos h]
    have h2 := (tw_ok ha hb).1 h
    unfold nat_num_add.f
    rw [if_pos ⟨⟨ha, hb⟩, by omega, by omega⟩, Option.bind_some, fits_f, Option.bind_some]
  · rw [if_neg h, if_neg h]
theorem mul_bound {x y : Nat} (hx : x ≤ 256) (hy : y ≤ 256) : (x + 1) * (y + 3) ≤ 70000 := Nat.le_trans (Nat.mul_le_mul (show x + 1 ≤ 257 by omega) (show y + 3 ≤ 259 by omega)) (by omega)
theorem mul_f (a b : List Int) (ha : okL a) (hb : okL b) (hla : a.length ≤ 4611686018427387904) (hlb : b.length ≤ 4611686018427387904) (k : Nat) (hk : 70000 ≤ k) : nat_Mul.f k a b = some (mulV a b) := by
  unfold nat_Mul.f mulV
  rw [two_f a b hla hlb k (by omega), Option.bind_some]
  by_cases h : tw a b = 0
  · rw [if_pos h, if_pos h]
    have h2 := (tw_ok ha hb).1 h
    rw [mul_eq a b ha hb (by omega) (by omega) k (by have := mul_bound h2.1.1 h2.2.1; omega), Option.bind_some, fits_f, Option.bind_some]
  · rw [if_neg h, if_neg h]
theorem fitsV_ok (n : Nat) : okL (fitsV n).1 ∧ (fitsV n).1.length ≤ 256 ∧ (fitsV n).2 = if (limbs n).length > 256 then 51 else 0 := by
  unfold fitsV
  split
  · exact ⟨okL_nil, by simp, rfl⟩
  · exact ⟨okL_limbs n, by simp; omega, rfl⟩
theorem addV_ok (a b : List Int) : okL (addV a b).1 ∧ (addV a b).1.length ≤ 256 := by
  unfold addV
  split
  · exact ⟨(fitsV_ok _).1, (fitsV_ok _).2.1⟩
  · exact ⟨okL_nil, by simp⟩
theorem okL_of_wf {l : List Int} (h : ∀ x ∈ l, (Lit.int .u32 x).wf = true) : okL l := fun x hx => by
  have := h x hx
  simp [Lit.wf, IntKind.min, IntKind.max, IntKind.signed, IntKind.bits] at this
  omega
theorem same_loop (a b : List Int) (hl : a.length = b.length) (h : a.length ≤ 4611686018427387904) : ∀ (m i k : Nat), i + m = a.length → m + 1 ≤ k → bolterplain_SameLimbs.l0 k a b i = some (decide (a.drop i = b.drop i))
  | 0, i, k, hi, hk => by
    obtain ⟨k, rfl⟩ : ∃ m, k = m + 1 := ⟨k - 1, by omega⟩
    rw [bolterplain_SameLimbs.l0.eq_2, if_neg (by omega), List.drop_of_length_le (by omega), List.drop_of_length_le (by omega)]
    rfl
  | m + 1, i, k, hi, hk => by
    obtain ⟨k, rfl⟩ : ∃ m, k = m + 1 := ⟨k - 1, by omega⟩
    rw [bolterplain_SameLimbs.l0.eq_2, if_pos (by omega), if_pos (by omega), if_pos (by omega), w64 _ (by omega), rdn, rdn, drop_getD (l := a) (by omega), drop_getD (l := b) (by omega)]
    by_cases e : a.getD i 0 = b.getD i 0
    · rw [if_pos e, show ((i : Int) + 1) = ((i + 1 : Nat) : Int) by omega, same_loop a b hl h m (i + 1) k (by omega) (by omega)]
      congr 1
      rw [e, decide_eq_decide]
      exact ⟨fun hh => by rw [hh], fun hh => by injection hh⟩
    · rw [if_neg e]
      congr 1
      symm
      rw [decide_eq_false_iff_not]
      intro hh
      injection hh with h1 h2
      exact e h1
theorem same_f (a b : List Int) (h : a.length ≤ 4611686018427387904) (k : Nat) (hk : a.length + 1 ≤ k) : bolterplain_SameLimbs.f k a b = some (decide (a = b)) := by
  unfold bolterplain_SameLimbs.f
  by_cases hl : a.length = b.length
  · rw [if_pos (by omega)]
    have := same_loop a b hl h a.length 0 k (by omega) hk
    simpa using this
  · rw [if_neg (by omega)]
    congr 1
    symm
    rw [decide_eq_false_iff_not]
    intro e
    exact hl (by rw [e])
end Go.Proofs.Ytdbnpaloalhciaa.P
namespace Go.Proofs.Ytdbnpaloalhciaa.P
set_option linter.unusedVariables false
set_option linter.unusedSimpArgs false
open Go.RowKit Go.Proofs.YtdbnpaloalhciaaW.PrintWords Go.Proofs.YtdbnpaloalhciaaW.PrintMore
def expo : Nat := 2400
def top : Nat := 10 ^ expo
theorem ten_bound : top < 4294967296 ^ 256 := by decide +kernel
theorem top_ge {m : Nat} (h : m ≤ 2400) : 10 ^ m ≤ top := by
  have h2 : m ≤ expo := h
  unfold top
  generalize expo = e at *
  exact Nat.pow_le_pow_right (Nat.succ_pos 9) h2
theorem limbs_len {n k : Nat} (h : n < 4294967296 ^ k) : (limbs n).length ≤ k := canon_len (canon_limbs n) (by rw [val_limbs]; exact h)
theorem mul_limbs {a b : Nat} (ha : a ≤ top) (hb : b ≤ top) (k : Nat) (hk : 70000 ≤ k) : nat_num_mul.f k (limbs a) (limbs b) = some (limbs (a * b)) := by
  have h1 := limbs_len (Nat.lt_of_le_of_lt ha ten_bound)
  have h2 := limbs_len (Nat.lt_of_le_of_lt hb ten_bound)
  have := mul_eq (limbs a) (limbs b) (okL_limbs a) (okL_limbs b) (by omega) (by omega) k (by have := mul_bound h1 h2; omega)
  rwa [val_limbs, val_limbs] at this
theorem power_loop : ∀ (n : Nat) (o b k : Nat), n ≤ 4096 → 1 ≤ o → 1 ≤ b → o * b ^ n ≤ top → n + 70001 ≤ k → nat_power.l0 k n (limbs o) (limbs b) = some (limbs (o * b ^ n)) := by
  intro n
  induction n using Nat.strongRecOn with
  | _ n ih =>
    intro o b k hn ho hb hle hk
    obtain ⟨k, rfl⟩ : ∃ m, k = m + 1 := ⟨k - 1, by omega⟩
    by_cases h0 : n = 0
    · subst h0
      rw [nat_power.l0.eq_2, if_neg (by omega), Nat.pow_zero, Nat.mul_one]
    · have hbn : b ≤ b ^ n := Nat.le_self_pow h0 b
      have hb1 : b ≤ top := Nat.le_trans hbn (Nat.le_trans (Nat.le_mul_of_pos_left _ ho) hle)
      have ho1 : o ≤ top := Nat.le_trans (Nat.le_mul_of_pos_right _ (Nat.pow_pos hb)) hle
      have e2 : wrap64 (Int.tdiv (n : Int) 2) = ((n / 2 : Nat) : Int) := by
        rw [Int.tdiv_eq_ediv_of_nonneg (by omega), w64 _ (by omega)]; omega
      have em : Int.tmod (n : Int) 2 = ((n % 2 : Nat) : Int) := by rw [Int.tmod_eq_emod_of_nonneg (by omega)]; omega
      rw [nat_power.l0.eq_2, if_pos (by omega), em]
      by_cases h1 : n % 2 = 1
      · rw [if_pos (by omega), mul_limbs ho1 hb1 k (by omega), Option.bind_some]
        by_cases hn1 : 1 < n
        · have ep : o * b * (b * b) ^ (n / 2) = o * b ^ n := by
            rw [← Nat.pow_two, ← Nat.pow_mul, Nat.mul_assoc, ← Nat.pow_succ']
            congr 2
            omega
          rw [if_pos (by omega), mul_limbs hb1 hb1 k (by omega), Option.bind_some, e2, ih (n / 2) (by omega) (o * b) (b * b) k (by omega) (Nat.mul_pos ho hb) (Nat.mul_pos hb hb) (by rw [ep]; exact hle) (by omega), ep]
        · obtain rfl : n = 1 := by omega
          rw [if_neg (by omega), e2, ih (1 / 2) (by omega) (o * b) b k (by omega) (Nat.mul_pos ho hb) hb (by simpa using hle) (by omega)]
          simp
      · have hn1 : 1 < n := by omega
        have ep : o * (b * b) ^ (n / 2) = o * b ^ n := by
          rw [← Nat.pow_two, ← Nat.pow_mul]
          congr 2
          omega
        rw [if_neg (by omega), if_pos (by omega), mul_limbs hb1 hb1 k (by omega), Option.bind_some, e2, ih (n / 2) (by omega) o (b * b) k (by omega) ho (Nat.mul_pos hb hb) (by rw [ep]; exact hle) (by omega), ep]
def powV (n : Int) : List Int × Int := if 0 ≤ n ∧ n ≤ 2400 then (limbs (10 ^ n.toNat), 0) else ([], 4)
theorem pow_f (n : Int) (k : Nat) (hk : 80000 ≤ k) : nat_Pow.f k n = some (powV n) := by
  unfold nat_Pow.f powV nat_power.f
  by_cases h0 : n < 0
  · rw [if_pos h0, if_neg (by omega)]
  · by_cases h1 : n > 2400
    · rw [if_neg h0, if_pos h1, if_neg (by omega)]
    · obtain ⟨m, rfl⟩ : ∃ m : Nat, n = m := ⟨n.toNat, by omega⟩
      have e1 : ([1] : List Int) = limbs 1 := by rw [limbs_pos (by omega), limbs_zero]; rfl
      have e2 : ([10] : List Int) = limbs 10 := by rw [limbs_pos (by omega), show (10 : Nat) / 4294967296 = 0 by omega, limbs_zero]; rfl
      rw [if_neg h0, if_neg h1, if_pos (by omega), e1, e2, power_loop m 1 10 k (by omega) (by omega) (by omega) (by rw [Nat.one_mul]; exact top_ge (by omega)) (by omega), Option.bind_some, Nat.one_mul, Int.toNat_natCast]
/-! Reverse -/
theorem reverse_loop (x : List Int) (hx : x.length ≤ 4611686018427387904) : ∀ (m i k : Nat) (y : List Int), x.length ≤ i + i + m → m + 1 ≤ k → y.length = x.length → (i ≤ x.length) →
    (∀ p, p < x.length → y.getD p 0 = if p < i ∨ x.length ≤ p + i then x.getD (x.length - 1 - p) 0 else x.getD p 0) →
    slices_Reverse_byte_byte.l0 k y i ((x.length : Int) - 1 - i) = some x.reverse := by
  intro m
  induction m with
  | zero =>
    intro i k y hm hk hl hi hy
    obtain ⟨k, rfl⟩ : ∃ m, k = m + 1 := ⟨k - 1, by omega⟩
    rw [slices_Reverse_byte_byte.l0.eq_2, if_neg (by omega)]
    congr 1
    apply List.ext_getElem
    · simpa using hl
    · intro p h1 h2
      have h3 := hy p (by omega)
      rw [if_pos (by omega)] at h3
      rw [List.getD_eq_getElem?_getD, List.getElem?_eq_getElem h1, List.getD_eq_getElem?_getD, List.getElem?_eq_getElem (by omega)] at h3
      rw [List.getElem_reverse]
      exact h3
  | succ m ih =>
    intro i k y hm hk hl hi hy
    obtain ⟨k, rfl⟩ : ∃ m, k = m + 1 := ⟨k - 1, by omega⟩
    rw [slices_Reverse_byte_byte.l0.eq_2]
    by_cases hlt : (i : Int) < (x.length : Int) - 1 - i
    · rw [if_pos hlt, if_pos (by omega), if_pos (by omega), if_pos (by omega), if_pos (by omega), w64 _ (by omega), w64 _ (by omega), show ((i : Int) + 1) = ((i + 1 : Nat) : Int) by omega, show ((x.length : Int) - 1 - i - 1) = (x.length : Int) - 1 - ((i + 1 : Nat) : Int) by omega]
      have e1 : ((x.length : Int) - 1 - i).toNat = x.length - 1 - i := by omega
      refine ih (i + 1) k _ (by omega) (by omega) (by simpa using hl) (by omega) fun p hp => ?_
      rw [e1, getD_set, getD_set, Int.toNat_natCast, List.length_set, hl]
      unfold rd
      rw [e1, Int.toNat_natCast, hy _ (by omega), hy _ (by omega), hy p hp]
      by_cases h1 : x.length - 1 - i = p
      · rw [if_pos ⟨h1, hp⟩, if_neg (by omega), if_pos (by omega)]
        exact congrArg (fun q => x.getD q 0) (by omega)
      · rw [if_neg (by omega)]
        by_cases h2 : i = p
        · rw [if_pos ⟨h2, hp⟩, if_neg (by omega), if_pos (by omega)]
          exact congrArg (fun q => x.getD q 0) (by omega)
        · rw [if_neg (by omega)]
          by_cases h3 : p < i ∨ x.length ≤ p + i
          · rw [if_pos h3, if_pos (by omega)]
          · rw [if_neg h3, if_neg (by omega)]
    · rw [if_neg hlt]
      have := ih i (k + 1) y
      congr 1
      apply List.ext_getElem
      · simpa using hl
      · intro p h1 h2
        have h3 := hy p (by omega)
        rw [List.getD_eq_getElem?_getD, List.getElem?_eq_getElem h1] at h3
        rw [List.getElem_reverse]
        simp only [Option.getD_some] at h3
        rw [h3]
        have g : ∀ q (hq : q < x.length), x.getD q 0 = x[q] := fun q hq => by rw [List.getD_eq_getElem?_getD, List.getElem?_eq_getElem hq]; rfl
        split
        · rw [g _ (by omega)]
        · rw [g _ (by omega)]
          congr 1
          omega
theorem reverse_f (x : List Int) (hx : x.length ≤ 4611686018427387904) (k : Nat) (hk : x.length + 1 ≤ k) : slices_Reverse_byte_byte.f k x = some x.reverse := by
  unfold slices_Reverse_byte_byte.f
  rw [w64 _ (by omega)]
  have := reverse_loop x hx x.length 0 k x (by omega) hk rfl (by omega) (fun p hp => by rw [if_neg (by omega)])
  simpa using this
/-! Print -/
def asc (n : Nat) : List Int := (decs n).map (48 + ·)
def fin (out : List Int) : ByteArray := if out.length = 0 then ⟨#[48]⟩ else strOfNums out.reverse
theorem asc_pos {n : Nat} (h : n ≠ 0) : asc n = (48 + ((n % 10 : Nat) : Int)) :: asc (n / 10) := by unfold asc; rw [decs_pos h]; rfl
theorem asc_zero : asc 0 = [] := by unfold asc; rw [decs_zero]; rfl
theorem print_end (out : List Int) (h : out.length < 140737488355328) : Ev (fun k => nat_Print.l0 k out (limbs 0)) (fin out, 0) := by
  refine ⟨out.length + 3, fun k hk => ?_⟩
  obtain ⟨k, rfl⟩ : ∃ m, k = m + 1 := ⟨k - 1, by omega⟩
  show nat_Print.l0 (k + 1) out (limbs 0) = _
  rw [limbs_zero, nat_Print.l0.eq_2, if_neg (by simp)]
  unfold fin
  by_cases h0 : out.length = 0
  · rw [if_pos (by omega), if_pos h0]
  · rw [if_neg (by omega), if_neg h0, reverse_f out (by omega) k (by omega), Option.bind_some]
theorem print_inner (q : Nat) (IH : ∀ out, out.length + (decs q).length < 140737488355328 → Ev (fun k => nat_Print.l0 k out (limbs q)) (fin (out ++ asc q), 0)) :
    ∀ (j : Nat) (out : List Int) (r : Nat), j ≤ 9 → r < 10 ^ j → out.length + (decs (q * 10 ^ j + r)).length < 140737488355328 → Ev (fun k => nat_Print.l1 k out (limbs q) (r : Int) ((9 : Int) - j)) (fin (out ++ asc (q * 10 ^ j + r)), 0)
  | 0, out, r, hj, hr, hl => by
    obtain rfl : r = 0 := by simpa using hr
    rw [Nat.pow_zero, Nat.mul_one, Nat.add_zero] at hl ⊢
    exact Ev.step (fun k => by rw [nat_Print.l1.eq_2, if_neg (by omega)]) (IH out hl)
  | j + 1, out, r, hj, hr, hl => by
    by_cases hM : q * 10 ^ (j + 1) + r = 0
    · have hq : q = 0 := by
        rcases Nat.eq_zero_or_pos q with h | h
        · exact h
        · have := Nat.mul_pos h (Nat.pow_pos (n := j + 1) (show 0 < 10 by omega)); omega
      subst hq
      obtain rfl : r = 0 := by omega
      simp only [Nat.zero_mul, Nat.zero_add] at hl ⊢
      refine Ev.step (fun k => by rw [nat_Print.l1.eq_2, if_pos (by omega), limbs_zero, if_neg (by simp), if_neg (by omega), ← limbs_zero]) (IH out hl)
    · have hp : (10 : Nat) ^ (j + 1) = 10 * 10 ^ j := by rw [Nat.pow_succ, Nat.mul_comm]
      have hd : (q * 10 ^ (j + 1) + r) / 10 = q * 10 ^ j + r / 10 := by
        rw [hp, Nat.mul_left_comm]; omega
      have hm : (q * 10 ^ (j + 1) + r) % 10 = r % 10 := by
        rw [hp, Nat.mul_left_comm]; omega
      have hdl : (decs (q * 10 ^ (j + 1) + r)).length = (decs (q * 10 ^ j + r / 10)).length + 1 := by rw [decs_pos hM, List.length_cons, hd]
      have hrr : r / 10 < 10 ^ j := by rw [hp] at hr; omega
      have ih := print_inner q IH j (out ++ [48 + ((r % 10 : Nat) : Int)]) (r / 10) (by omega) hrr (by rw [List.length_append, List.length_singleton]; omega)
      have e : fin (out ++ asc (q * 10 ^ (j + 1) + r)) = fin (out ++ [48 + ((r % 10 : Nat) : Int)] ++ asc (q * 10 ^ j + r / 10)) := by rw [asc_pos hM, hd, hm, List.append_assoc]; rfl
      rw [e]
      have hr2 : r < 1000000000 := Nat.lt_of_lt_of_le hr (Nat.pow_le_pow_right (n := 10) (by omega) (show j + 1 ≤ 9 by omega))
      have e1 : (48 + Int.tmod (r : Int) 10) % 256 = 48 + ((r % 10 : Nat) : Int) := by rw [Int.tmod_eq_emod_of_nonneg (by omega)]; omega
      have e2 : Int.tdiv (r : Int) 10 % 4294967296 = ((r / 10 : Nat) : Int) := by rw [Int.tdiv_eq_ediv_of_nonneg (by omega)]; omega
      have e3 : wrap64 ((9 : Int) - ((j + 1 : Nat) : Int) + 1) = (9 : Int) - j := by rw [w64 _ (by omega)]; omega
      refine Ev.step (fun k => ?_) ih
      rw [nat_Print.l1.eq_2, if_pos (by omega), e1, e2, e3]
      by_cases hq : ((limbs q).length : Int) > 0
      · rw [if_pos hq, if_pos (by omega)]
      · rw [if_neg hq]
        have hq0 : q = 0 := by
          rcases Nat.eq_zero_or_pos q with h | h
          · exact h
          · rw [limbs_pos (by omega)] at hq; simp at hq
        subst hq0
        rw [if_pos (by omega), if_pos (by omega)]
theorem print_outer : ∀ (n : Nat) (out : List Int), (limbs n).length ≤ 1073741824 → out.length + (decs n).length < 140737488355328 → Ev (fun k => nat_Print.l0 k out (limbs n)) (fin (out ++ asc n), 0) := by
  intro n
  induction n using Nat.strongRecOn with
  | _ n ih =>
    intro out hz hl
    by_cases h0 : n = 0
    · subst h0
      rw [asc_zero, List.append_nil]
      exact print_end out (by omega)
    · have hs : nat_num_small.f (limbs n) 1000000000 = some (limbs (n / 1000000000), ((n % 1000000000 : Nat) : Int)) := by
        unfold nat_num_small.f
        rw [if_pos ⟨okL_limbs n, hz, by omega, by omega⟩, val_limbs]
        rfl
      have hp : (limbs n).length > 0 := by rw [limbs_pos h0]; simp
      have hz2 : (limbs (n / 1000000000)).length ≤ 1073741824 := by
        refine Nat.le_trans (limbs_len ?_) hz
        have := val_lt (okL_limbs n)
        rw [val_limbs] at this
        omega
      have hdl : ∀ out : List Int, out.length + (decs (n / 1000000000)).length < 140737488355328 → Ev (fun k => nat_Print.l0 k out (limbs (n / 1000000000))) (fin (out ++ asc (n / 1000000000)), 0) := fun out h => ih _ (by omega) out hz2 h
      have hin := print_inner (n / 1000000000) hdl 9 out (n % 1000000000) (by omega) (by omega) (by rw [show n / 1000000000 * 10 ^ 9 + n % 1000000000 = n by omega]; exact hl)
      rw [show n / 1000000000 * 10 ^ 9 + n % 1000000000 = n by omega] at hin
      exact Ev.step (fun k => by rw [nat_Print.l0.eq_2, if_pos (by omega), hs, Option.bind_some]; rfl) hin
/-- A number's digits as a text. -/
def text (n : Nat) : ByteArray := fin (asc n)
def printV (l : List Int) : ByteArray × Int := if chk l = 0 then (text (val l), 0) else (⟨#[]⟩, chk l)
theorem dec_bound : 4294967296 ^ 256 < 10 ^ 2467 := by decide +kernel
theorem decs_len {n k : Nat} (h : n < 10 ^ k) : (decs n).length ≤ k := dcanon_len (dcanon_decs n) (by rw [dval_decs]; exact h)
theorem val_256 {l : List Int} (h : okL l) (hl : l.length ≤ 256) : val l < 4294967296 ^ 256 := Nat.lt_of_lt_of_le (val_lt h) (Nat.pow_le_pow_right (by omega) hl)
theorem decs_256 {l : List Int} (h : okL l) (hl : l.length ≤ 256) : (decs (val l)).length ≤ 2467 := decs_len (Nat.lt_trans (val_256 h hl) dec_bound)
theorem print_f (l : List Int) (h : okL l) (hl : l.length ≤ 4611686018427387904) : Ev (fun k => nat_Print.f k l) (printV l) := by
  unfold printV nat_Print.f
  rw [check_f l hl]
  simp only [Option.bind_some]
  by_cases hc : chk l = 0
  · simp only [if_pos hc]
    obtain ⟨h1, h2⟩ := (chk_ok h).1 hc
    have := print_outer (val l) [] (by rw [h2]; omega) (by have := decs_256 h h1; simp; omega)
    rw [h2, List.nil_append] at this
    exact this
  · simp only [if_neg hc]
    exact Ev.now _
theorem alive_ev : Ev bolterlaw01_alive.f true := by
  unfold bolterlaw01_alive.f
  have e1 : powV 10 = ([1410065408, 2], 0) := by
    unfold powV
    rw [if_pos (by omega), show (10 : Nat) ^ (10 : Int).toNat = 10000000000 from rfl, limbs_pos (by omega), show (10000000000 : Nat) / 4294967296 = 2 from rfl, limbs_pos (by omega), show (2 : Nat) / 4294967296 = 0 from rfl, limbs_zero]
    rfl
  have hok : okL [1410065408, 2] := by decide
  have ec : chk [1410065408, 2] = 0 := rfl
  have e2 : printV [1410065408, 2] = (⟨#[49, 48, 48, 48, 48, 48, 48, 48, 48, 48, 48]⟩, 0) := by
    unfold printV
    rw [if_pos ec]
    unfold text
    have : asc (val [1410065408, 2]) = [48, 48, 48, 48, 48, 48, 48, 48, 48, 48, 49] := by
      rw [show val [1410065408, 2] = 10000000000 from rfl]
      simp [asc_pos, asc_zero]
    rw [this]
    rfl
  refine Ev.bind (a := powV 10) ⟨80000, fun k hk => pow_f 10 k hk⟩ ?_
  rw [e1]
  refine Ev.bind (print_f [1410065408, 2] hok (by simp)) ?_
  rw [e2]
  refine ⟨0, fun k _ => ?_⟩
  simp [bolterlaw01_num.f, w64, rd]
end Go.Proofs.Ytdbnpaloalhciaa.P

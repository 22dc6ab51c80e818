/- The page's decimal answers, by value. -/
import Derived.Test.YtdbnpaloalhciaaPe
import Derived.Test.YtdbnpaloalhciaaPx8
import Derived.Test.YtdbnpaloalhciaaPx10
import Derived.Test.YtdbnpaloalhciaaPx9
import Derived.Test.YtdbnpaloalhciaaPx14
import Derived.Test.YtdbnpaloalhciaaNc
import Derived.Test.YtdbnpaloalhciaaPx15
import Derived.Test.YtdbnpaloalhciaaPx16
import Derived.Test.YtdbnpaloalhciaaPx17
import Derived.Test.YtdbnpaloalhciaaPx18
import Derived.Test.YtdbnpaloalhciaaPx13
namespace Go.Proofs.Ytdbnpaloalhciaa.P
set_option linter.unusedVariables false
set_option linter.unusedSimpArgs false
open Go.RowKit Go.Proofs.YtdbnpaloalhciaaW.PrintWords Go.Proofs.YtdbnpaloalhciaaW.PrintMore
theorem decs_drop : ∀ (i n : Nat), (decs n).drop i = decs (n / 10 ^ i)
  | 0, n => by simp
  | i + 1, n => by
    by_cases h : n = 0
    · subst h; simp [decs_zero]
    · rw [decs_pos h, List.drop_succ_cons, decs_drop i, Nat.pow_succ, Nat.mul_comm, Nat.div_div_eq_div_mul]
theorem decs_getD : ∀ (i n : Nat), (decs n).getD i 0 = ((n / 10 ^ i % 10 : Nat) : Int)
  | 0, n => by
    by_cases h : n = 0
    · subst h; simp [decs_zero]
    · rw [decs_pos h]; simp
  | i + 1, n => by
    by_cases h : n = 0
    · subst h; simp [decs_zero]
    · rw [decs_pos h, List.getD_cons_succ, decs_getD i, Nat.pow_succ, Nat.mul_comm, Nat.div_div_eq_div_mul]
theorem limbs_drop : ∀ (i n : Nat), (limbs n).drop i = limbs (n / 4294967296 ^ i)
  | 0, n => by simp
  | i + 1, n => by
    by_cases h : n = 0
    · subst h; simp [limbs_zero]
    · rw [limbs_pos h, List.drop_succ_cons, limbs_drop i, Nat.pow_succ, Nat.mul_comm, Nat.div_div_eq_div_mul]
theorem limbs_getD : ∀ (i n : Nat), (limbs n).getD i 0 = ((n / 4294967296 ^ i % 4294967296 : Nat) : Int)
  | 0, n => by
    by_cases h : n = 0
    · subst h; simp [limbs_zero]
    · rw [limbs_pos h]; simp
  | i + 1, n => by
    by_cases h : n = 0
    · subst h; simp [limbs_zero]
    · rw [limbs_pos h, List.getD_cons_succ, limbs_getD i, Nat.pow_succ, Nat.mul_comm, Nat.div_div_eq_div_mul]
theorem decs_lt {i n : Nat} : i < (decs n).length ↔ n / 10 ^ i ≠ 0 := by
  have h := congrArg List.length (decs_drop i n)
  rw [List.length_drop] at h
  by_cases h0 : n / 10 ^ i = 0
  · rw [h0, decs_zero] at h; simp at h; constructor <;> intro h2 <;> omega
  · rw [decs_pos h0, List.length_cons] at h; constructor <;> intro h2 <;> omega
theorem limbs_lt {i n : Nat} : i < (limbs n).length ↔ n / 4294967296 ^ i ≠ 0 := by
  have h := congrArg List.length (limbs_drop i n)
  rw [List.length_drop] at h
  by_cases h0 : n / 4294967296 ^ i = 0
  · rw [h0, limbs_zero] at h; simp at h; constructor <;> intro h2 <;> omega
  · rw [limbs_pos h0, List.length_cons] at h; constructor <;> intro h2 <;> omega
theorem div_succ (b n i : Nat) : n / b ^ (i + 1) = n / b ^ i / b := by rw [Nat.pow_succ, Nat.div_div_eq_div_mul]
theorem dval_lt_pow {l : List Int} {k : Nat} (h : okD l) (hl : l.length ≤ k) : dval l < 10 ^ k := Nat.lt_of_lt_of_le (dval_lt h) (Nat.pow_le_pow_right (by omega) hl)
theorem okD_set {l : List Int} (h : okD l) (j : Nat) {v : Int} (h0 : 0 ≤ v) (h1 : v < 10) : okD (l.set j v) := fun z hz => by
  rcases List.mem_or_eq_of_mem_set hz with hz | rfl
  · exact h z hz
  · exact ⟨h0, h1⟩
/-! Trim -/
theorem ref_trim (l : List Int) (h : okD l) (hl : l.length ≤ 4611686018427387904) : ∀ (m k : Nat), m ≤ l.length → dval (l.take m) = dval l → m + 1 ≤ k → bolterref01_Trim.l0 k l m = some (decs (dval l))
  | 0, k, hm, hv, hk => by
    obtain ⟨k, rfl⟩ : ∃ m, k = m + 1 := ⟨k - 1, by omega⟩
    have := dtrim_done h hm hv (.inl rfl)
    rw [bolterref01_Trim.l0.eq_2, if_neg (by omega), if_pos (by omega), if_pos (by omega), ← this]
    rfl
  | m + 1, k, hm, hv, hk => by
    obtain ⟨k, rfl⟩ : ∃ m, k = m + 1 := ⟨k - 1, by omega⟩
    rw [bolterref01_Trim.l0.eq_2, if_pos (by omega), w64 _ (by omega), show (((m + 1 : Nat) : Int) - 1) = (m : Int) by omega, if_pos (by omega), if_pos (by omega), rdn]
    by_cases h0 : l.getD m 0 = 0
    · rw [if_pos h0, ref_trim l h hl m k (by omega) (dtrim_step hm hv h0) (by omega)]
    · have := dtrim_done h hm hv (.inr h0)
      rw [if_neg h0, if_pos (by omega), if_pos (by omega), ← this]
      rfl
theorem Trim_f (l : List Int) (h : okD l) (hl : l.length ≤ 4611686018427387904) : Ev (fun k => bolterref01_Trim.f k l) (decs (dval l)) :=
  ⟨l.length + 1, fun k hk => ref_trim l h hl l.length k (Nat.le_refl _) (by rw [List.take_length]) hk⟩
/-! carry -/
theorem td10 {x : Int} (h : 0 ≤ x) : Int.tdiv x 10 = x / 10 := Int.tdiv_eq_ediv_of_nonneg h
theorem tm10 {x : Int} (h : 0 ≤ x) : Int.tmod x 10 = x % 10 := Int.tmod_eq_emod_of_nonneg h
theorem dval_snoc (l : List Int) (x : Int) : dval (l ++ [x]) = dval l + 10 ^ l.length * x.toNat := by rw [dval_app]; simp [dval]
theorem okD_snoc {l : List Int} (h : okD l) {x : Int} (h0 : 0 ≤ x) (h1 : x < 10) : okD (l ++ [x]) := by rw [okD_app]; exact ⟨h, okD_cons.2 ⟨⟨h0, h1⟩, okD_nil⟩⟩
theorem carry_end : ∀ (n : Nat) (out : List Int), okD out → n ≤ 4611686018427387904 → out.length + n < 17592186044416 → Ev (fun k => bolterref01_carry.l1 k out n) (decs (dval out + 10 ^ out.length * n)) := by
  intro n
  induction n using Nat.strongRecOn with
  | _ n ih =>
    intro out ho hn hl
    by_cases h0 : n = 0
    · subst h0
      refine Ev.step (fun k => by rw [bolterref01_carry.l1.eq_2, if_neg (by omega)]) ?_
      rw [Nat.mul_zero, Nat.add_zero]
      exact Ev.bind (Trim_f out ho (by omega)) (Ev.now _)
    · have h := ih (n / 10) (by omega) (out ++ [((n % 10 : Nat) : Int)]) (okD_snoc ho (by omega) (by omega)) (by omega) (by rw [List.length_append, List.length_singleton]; omega)
      have e : dval out + 10 ^ out.length * n = dval (out ++ [((n % 10 : Nat) : Int)]) + 10 ^ (out ++ [((n % 10 : Nat) : Int)]).length * (n / 10) := by
        rw [dval_snoc, List.length_append, List.length_singleton, Nat.pow_succ, Int.toNat_natCast, Nat.add_assoc, Nat.mul_assoc, ← Nat.mul_add]
        congr 2
        omega
      rw [e]
      refine Ev.step (fun k => ?_) h
      rw [bolterref01_carry.l1.eq_2, if_pos (by omega), if_pos (by omega), tm10 (by omega), td10 (by omega), w64 _ (by omega)]
      rfl
theorem carry_loop (l : List Int) (hx : ∀ x ∈ l, 0 ≤ x ∧ x ≤ 1000000000000) (hl : l.length ≤ 1000000000) : ∀ (m i : Nat) (out : List Int) (n : Nat), i + m = l.length → okD out → out.length = i → n ≤ 1000000000000 → Ev (fun k => bolterref01_carry.l0 k l out n i) (decs (dval out + 10 ^ i * (n + dval (l.drop i))))
  | 0, i, out, n, hi, ho, hlo, hn => by
    refine Ev.step (fun k => by rw [bolterref01_carry.l0.eq_2, if_neg (by omega)]) ?_
    rw [List.drop_of_length_le (by omega), ← hlo]
    exact carry_end n out ho (by omega) (by omega)
  | m + 1, i, out, n, hi, ho, hlo, hn => by
    have hb : 0 ≤ l.getD i 0 ∧ l.getD i 0 ≤ 1000000000000 := by
      rw [List.getD_eq_getElem?_getD, List.getElem?_eq_getElem (show i < l.length by omega)]
      exact hx _ (List.getElem_mem _)
    obtain ⟨x, hxe⟩ : ∃ x : Nat, l.getD i 0 = x := ⟨(l.getD i 0).toNat, by omega⟩
    have h := carry_loop l hx hl m (i + 1) (out ++ [(((n + x) % 10 : Nat) : Int)]) ((n + x) / 10) (by omega) (okD_snoc ho (by omega) (by omega)) (by rw [List.length_append, List.length_singleton]; omega) (by omega)
    have e : dval out + 10 ^ i * (n + dval (l.drop i)) = dval (out ++ [(((n + x) % 10 : Nat) : Int)]) + 10 ^ (i + 1) * ((n + x) / 10 + dval (l.drop (i + 1))) := by
      rw [dval_snoc, hlo, Int.toNat_natCast, Nat.pow_succ, drop_getD (show i < l.length by omega), dval, hxe, Int.toNat_natCast, Nat.add_assoc, Nat.mul_assoc, ← Nat.mul_add]
      congr 2
      omega
    rw [e]
    refine Ev.step (fun k => ?_) h
    rw [bolterref01_carry.l0.eq_2, if_pos (by omega), if_pos (by omega), if_pos (by omega), rdn, hxe, w64 ((n : Int) + x) (by omega), tm10 (by omega), td10 (by omega), w64 (((n : Int) + x) / 10) (by omega), w64 ((i : Int) + 1) (by omega)]
    rfl
theorem carry_f (l : List Int) (hx : ∀ x ∈ l, 0 ≤ x ∧ x ≤ 1000000000000) (hl : l.length ≤ 1000000000) : Ev (fun k => bolterref01_carry.f k l) (decs (dval l)) := by
  have := carry_loop l hx hl l.length 0 [] 0 (by omega) okD_nil rfl (by omega)
  unfold bolterref01_carry.f
  simpa [dval] using this
/-! times, Digits -/
theorem times_end : ∀ (n : Nat) (out : List Int), n ≤ 4611686018427387904 → out.length + n < 17592186044416 → Ev (fun k => bolterref01_times.l1 k n out) (out ++ decs n) := by
  intro n
  induction n using Nat.strongRecOn with
  | _ n ih =>
    intro out hn hl
    by_cases h0 : n = 0
    · subst h0
      refine Ev.step (fun k => by rw [bolterref01_times.l1.eq_2, if_neg (by omega)]) ?_
      rw [decs_zero, List.append_nil]
      exact Ev.now _
    · have h := ih (n / 10) (by omega) (out ++ [((n % 10 : Nat) : Int)]) (by omega) (by rw [List.length_append, List.length_singleton]; omega)
      rw [decs_pos h0, show out ++ (((n % 10 : Nat) : Int) :: decs (n / 10)) = out ++ [((n % 10 : Nat) : Int)] ++ decs (n / 10) by simp]
      refine Ev.step (fun k => ?_) h
      rw [bolterref01_times.l1.eq_2, if_pos (by omega), if_pos (by omega), tm10 (by omega), td10 (by omega), w64 _ (by omega)]
      rfl
theorem times_loop (n by_ : Nat) (hb0 : 1 ≤ by_) (hb : by_ ≤ 10000000000) (hl : (decs n).length ≤ 1000000000) : ∀ (m i : Nat) (out : List Int) (more : Nat), i + m = (decs n).length → out.length = i → more ≤ by_ → Ev (fun k => bolterref01_times.l0 k (decs n) by_ more out i) (out ++ decs (more + by_ * (n / 10 ^ i)))
  | 0, i, out, more, hi, hlo, hm => by
    refine Ev.step (fun k => by rw [bolterref01_times.l0.eq_2, if_neg (by omega)]) ?_
    have : n / 10 ^ i = 0 := by
      by_cases h : n / 10 ^ i = 0
      · exact h
      · have := decs_lt.2 h; omega
    rw [this, Nat.mul_zero, Nat.add_zero]
    exact times_end more out (by omega) (by omega)
  | m + 1, i, out, more, hi, hlo, hm => by
    have hQ : n / 10 ^ i ≠ 0 := decs_lt.1 (by omega)
    obtain ⟨Q, hQe⟩ : ∃ Q, n / 10 ^ i = Q := ⟨_, rfl⟩
    obtain ⟨x, hxe⟩ : ∃ x, Q % 10 = x := ⟨_, rfl⟩
    obtain ⟨D, hDe⟩ : ∃ D, Q / 10 = D := ⟨_, rfl⟩
    have hxd : (decs n).getD i 0 = (x : Int) := by rw [decs_getD, hQe, hxe]
    have hpr : by_ * x ≤ by_ * 9 := Nat.mul_le_mul_left _ (by omega)
    have h := times_loop n by_ hb0 hb hl m (i + 1) (out ++ [(((more + by_ * x) % 10 : Nat) : Int)]) ((more + by_ * x) / 10) (by omega) (by rw [List.length_append, List.length_singleton]; omega) (by omega)
    rw [div_succ, hQe, hDe] at h
    have hQ2 : Q = 10 * D + x := by omega
    have hM : more + by_ * Q = (more + by_ * x) + 10 * (by_ * D) := by rw [hQ2, Nat.mul_add, Nat.mul_left_comm]; omega
    have hP : by_ * Q ≠ 0 := Nat.mul_ne_zero (by omega) (by rw [← hQe]; exact hQ)
    have e : out ++ decs (more + by_ * Q) = out ++ [(((more + by_ * x) % 10 : Nat) : Int)] ++ decs ((more + by_ * x) / 10 + by_ * D) := by
      rw [decs_pos (show more + by_ * Q ≠ 0 by omega), hM, show ((more + by_ * x) + 10 * (by_ * D)) % 10 = (more + by_ * x) % 10 by omega, show ((more + by_ * x) + 10 * (by_ * D)) / 10 = (more + by_ * x) / 10 + by_ * D by omega]
      simp
    rw [hQe, e]
    have hcm : (x : Int) * (by_ : Int) = ((by_ * x : Nat) : Int) := by rw [Int.natCast_mul, Int.mul_comm]
    refine Ev.step (fun k => ?_) h
    rw [bolterref01_times.l0.eq_2, if_pos (by omega), if_pos (by omega), if_pos (by omega), rdn, hxd, hcm, w64 ((by_ * x : Nat) : Int) (by omega), w64 ((more : Int) + ((by_ * x : Nat) : Int)) (by omega), tm10 (by omega), td10 (by omega), w64 (((more : Int) + ((by_ * x : Nat) : Int)) / 10) (by omega), w64 ((i : Int) + 1) (by omega)]
    rfl
theorem times_f (n by_ more : Nat) (hb0 : 1 ≤ by_) (hb : by_ ≤ 10000000000) (hl : (decs n).length ≤ 1000000000) (hm : more ≤ by_) : Ev (fun k => bolterref01_times.f k (decs n) by_ more) (decs (more + by_ * n)) := by
  have := times_loop n by_ hb0 hb hl (decs n).length 0 [] more (by omega) rfl hm
  unfold bolterref01_times.f
  simpa using this
theorem Digits_loop (n : Nat) (hl : ∀ i, (decs (n / 4294967296 ^ i)).length ≤ 1000000000) (hz : (limbs n).length ≤ 1000000000) : ∀ i : Nat, i ≤ (limbs n).length → Ev (fun k => bolterref01_Digits.l0 k (limbs n) (decs (n / 4294967296 ^ i)) ((i : Int) - 1)) (decs n)
  | 0, _ => by
    refine Ev.step (fun k => by rw [bolterref01_Digits.l0.eq_2, if_neg (by omega)]) ?_
    rw [Nat.pow_zero, Nat.div_one]
    exact Ev.now _
  | i + 1, hi => by
    have ht := times_f (n / 4294967296 ^ (i + 1)) 4294967296 (n / 4294967296 ^ i % 4294967296) (by omega) (by omega) (hl _) (by omega)
    rw [div_succ, Nat.mod_add_div] at ht
    have h := Digits_loop n hl hz i (by omega)
    refine Ev.step (fun k => ?_) (Ev.bind (f := fun k a => bolterref01_Digits.l0 k (limbs n) a ((i : Int) - 1)) ht h)
    rw [bolterref01_Digits.l0.eq_2, if_pos (by omega), if_pos (by omega), if_pos (by omega), show (((i + 1 : Nat) : Int) - 1) = (i : Int) by omega, rdn, limbs_getD, w64 _ (by omega), w64 _ (by omega), div_succ]
    rfl
theorem Digits_f {l : List Int} (h : canon l) (hl : l.length ≤ 256) : Ev (fun k => bolterref01_Digits.f k l) (decs (val l)) := by
  have hd : ∀ i, (decs (val l / 4294967296 ^ i)).length ≤ 1000000000 := fun i => Nat.le_trans (decs_len (Nat.lt_of_le_of_lt (Nat.div_le_self _ _) (Nat.lt_trans (val_256 (canon_okL h) hl) dec_bound))) (by omega)
  have := Digits_loop (val l) hd (by rw [h]; omega) (limbs (val l)).length (Nat.le_refl _)
  have e : val l / 4294967296 ^ (limbs (val l)).length = 0 := by
    by_cases h0 : val l / 4294967296 ^ (limbs (val l)).length = 0
    · exact h0
    · have := limbs_lt.2 h0; omega
  rw [e, decs_zero, h] at this
  unfold bolterref01_Digits.f
  rw [w64 _ (by omega)]
  exact this
/-! Limbs -/
theorem limb_step (Q : Nat) : (Q / 10 % 4294967296 * 10 + Q % 10) / 4294967296 + 10 * (Q / 10 / 4294967296) = Q / 4294967296 ∧ (Q / 10 % 4294967296 * 10 + Q % 10) % 4294967296 = Q % 4294967296 ∧ Q / 10 % 4294967296 * 10 + Q % 10 < 42949672960 := by
  have h1 : Q = 10 * (Q / 10) + Q % 10 := by omega
  have h2 : Q / 10 = 4294967296 * (Q / 10 / 4294967296) + Q / 10 % 4294967296 := (Nat.div_add_mod _ _).symm
  have hx : Q % 10 < 10 := Nat.mod_lt _ (by omega)
  have hr : Q / 10 % 4294967296 < 4294967296 := Nat.mod_lt _ (by omega)
  generalize Q / 10 / 4294967296 = q at *
  generalize Q / 10 % 4294967296 = r at *
  generalize Q / 10 = A at *
  generalize Q % 10 = x at *
  subst h2
  have h3 : Q = r * 10 + x + 4294967296 * (10 * q) := by omega
  rw [h3, Nat.add_mul_div_left _ _ (by omega), Nat.add_mul_mod_self_left]
  exact ⟨rfl, rfl, by omega⟩
theorem Limbs_step (out own : List Int) (i r x t : Nat) (R : List Int) (hi : i < own.length) (hz : own.length ≤ 1000000000) (hg : own.getD i 0 = (x : Int)) (hx : x < 10) (hr : r < 4294967296) (ht : r * 10 + x = t)
    (h : Ev (fun k => bolterref01_Limbs.l1 k out (own.set i ((t / 4294967296 : Nat) : Int)) ((t % 4294967296 : Nat) : Int) ((i : Int) - 1)) R) : Ev (fun k => bolterref01_Limbs.l1 k out own (r : Int) (((i + 1 : Nat) : Int) - 1)) R := by
  have e10 : wrap64 ((r : Int) * 10) = ((r * 10 : Nat) : Int) := by rw [w64 _ (by omega)]; omega
  have et : wrap64 (((r * 10 : Nat) : Int) + (x : Int)) = (t : Int) := by rw [w64 _ (by omega)]; omega
  have htb : t < 42949672960 := by omega
  have hq : ((t : Int) / 4294967296) = ((t / 4294967296 : Nat) : Int) := by omega
  obtain ⟨q, hqe⟩ : ∃ q, t / 4294967296 = q := ⟨_, rfl⟩
  obtain ⟨s, hse⟩ : ∃ s, t % 4294967296 = s := ⟨_, rfl⟩
  have hsum : (t : Int) - (q : Int) * 4294967296 = (s : Int) := by omega
  rw [hqe] at hq
  rw [hqe, hse] at h
  have hqb : q < 10 := by omega
  have hrd : rd (own.set i (q : Int)) (i : Int) = (q : Int) := by rw [rdn, getD_set, if_pos ⟨rfl, hi⟩]
  refine Ev.step (fun k => ?_) h
  rw [bolterref01_Limbs.l1.eq_2, if_pos (by omega), if_pos (by omega), if_pos (by omega), show (((i + 1 : Nat) : Int) - 1) = (i : Int) by omega, rdn, hg, e10, et, Int.toNat_natCast, hq]
  simp only [Option.bind_some]
  rw [hrd, w64 ((q : Int) * 4294967296) (by omega), w64 ((t : Int) - _) (by omega), w64 ((i : Int) - 1) (by omega), hsum]
theorem Limbs_inner (out : List Int) (n : Nat) (hl : (decs n).length ≤ 1000000000) (ho : out.length < 35184372088832) (R : List Int) (IH : Ev (fun k => bolterref01_Limbs.l0 k (out ++ [((n % 4294967296 : Nat) : Int)]) (decs (n / 4294967296))) R) (i : Nat) :
    ∀ (own : List Int) (c : Nat), i ≤ (decs n).length → okD own → own.length = (decs n).length → own.take i = (decs n).take i → dval (own.drop i) = n / 10 ^ i / 4294967296 → n / 10 ^ i % 4294967296 = c →
      Ev (fun k => bolterref01_Limbs.l1 k out own (c : Int) ((i : Int) - 1)) R := by
  induction i with
  | zero =>
    intro own c hi hok hlen ht hv hce
    rw [Nat.pow_zero, Nat.div_one, List.drop_zero] at hv
    rw [Nat.pow_zero, Nat.div_one] at hce
    have hc := carry_f own (fun x hx => by have := hok x hx; omega) (by omega)
    rw [hv] at hc
    rw [hce] at IH
    have hcb : c < 4294967296 := by omega
    refine Ev.step (fun k => ?_) (Ev.bind (f := fun k a => bolterref01_Limbs.l0 k (out ++ [(c : Int)]) a) hc IH)
    rw [bolterref01_Limbs.l1.eq_2, if_neg (by omega), if_pos ho, show (c : Int) % 4294967296 = (c : Int) by omega]
  | succ i ih =>
    intro own c hi hok hlen ht hv hce
    obtain ⟨Q, hQe⟩ : ∃ Q, n / 10 ^ i = Q := ⟨_, rfl⟩
    rw [div_succ, hQe] at hv hce
    have hg : own.getD i 0 = ((Q % 10 : Nat) : Int) := by
      have h1 : own.getD i 0 = (own.take (i + 1)).getD i 0 := by
        rw [List.getD_eq_getElem?_getD, List.getD_eq_getElem?_getD, List.getElem?_take_of_lt (by omega)]
      have h2 : (decs n).getD i 0 = ((decs n).take (i + 1)).getD i 0 := by
        rw [List.getD_eq_getElem?_getD, List.getD_eq_getElem?_getD, List.getElem?_take_of_lt (by omega)]
      rw [h1, ht, ← h2, decs_getD, hQe]
    obtain ⟨hq1, hr1, htb⟩ := limb_step Q
    rw [hce] at hq1 hr1 htb
    have hx10 : Q % 10 < 10 := Nat.mod_lt _ (by omega)
    have hcb : c < 4294967296 := by rw [← hce]; exact Nat.mod_lt _ (by omega)
    obtain ⟨x, hxe⟩ : ∃ x, Q % 10 = x := ⟨_, rfl⟩
    rw [hxe] at hq1 hr1 htb hg hx10
    obtain ⟨t, hte⟩ : ∃ t, c * 10 + x = t := ⟨_, rfl⟩
    rw [hte] at hq1 hr1 htb
    have htb2 : t / 4294967296 < 10 := by omega
    have hset := ih (own.set i ((t / 4294967296 : Nat) : Int)) (t % 4294967296) (by omega) (okD_set hok _ (by omega) (by omega)) (by rw [List.length_set, hlen]) (by
      rw [List.take_set_of_le (by omega)]
      have := congrArg (List.take i) ht
      rw [List.take_take, List.take_take, Nat.min_eq_left (by omega)] at this
      exact this) (by
      rw [drop_getD (by rw [List.length_set]; omega), dval, getD_set, if_pos ⟨rfl, by omega⟩, Int.toNat_natCast, List.drop_set_of_lt (by omega), hv, hQe]
      exact hq1) (by rw [hQe]; exact hr1.symm)
    exact Limbs_step out own i c x t R (by omega) (by omega) hg hx10 hcb hte hset
theorem Limbs_loop : ∀ (n : Nat) (out : List Int), (decs n).length ≤ 1000000000 → out.length + (limbs n).length < 35184372088832 → Ev (fun k => bolterref01_Limbs.l0 k out (decs n)) (limbs 0 ++ out ++ limbs n) := by
  intro n
  induction n using Nat.strongRecOn with
  | _ n ih =>
    intro out hl ho
    by_cases h0 : n = 0
    · subst h0
      refine Ev.step (fun k => by rw [bolterref01_Limbs.l0.eq_2, decs_zero, if_neg (by simp)]) ?_
      rw [limbs_zero, List.nil_append, List.append_nil]
      exact Ev.now _
    · have hp : (decs n).length > 0 := by rw [decs_pos h0]; simp
      have hll : (limbs n).length = (limbs (n / 4294967296)).length + 1 := by rw [limbs_pos h0, List.length_cons]
      have hdl : (decs (n / 4294967296)).length ≤ 1000000000 := Nat.le_trans (decs_len (by have := dval_lt (okD_decs n); rw [dval_decs] at this; omega)) hl
      have h1 := ih (n / 4294967296) (by omega) (out ++ [((n % 4294967296 : Nat) : Int)]) hdl (by rw [List.length_append, List.length_singleton]; omega)
      have e : limbs 0 ++ (out ++ [((n % 4294967296 : Nat) : Int)]) ++ limbs (n / 4294967296) = limbs 0 ++ out ++ limbs n := by rw [limbs_pos h0]; simp
      rw [e] at h1
      have hz : n / 10 ^ (decs n).length = 0 := by
        by_cases h : n / 10 ^ (decs n).length = 0
        · exact h
        · have := decs_lt.2 h; omega
      have h2 := Limbs_inner out n hl (by omega) _ h1 (decs n).length (decs n) 0 (Nat.le_refl _) (okD_decs n) rfl rfl (by rw [List.drop_length, hz]; rfl) (by rw [hz])
      refine Ev.step (fun k => ?_) h2
      rw [bolterref01_Limbs.l0.eq_2, if_pos (by omega), w64 _ (by omega)]
      rfl
theorem limbs_le_decs (n : Nat) : (limbs n).length ≤ (decs n).length := limbs_len (by
  have := dval_lt (okD_decs n)
  rw [dval_decs] at this
  exact Nat.lt_of_lt_of_le this (Nat.pow_le_pow_left (by omega) _))
theorem Limbs_f (n : Nat) (hl : (decs n).length ≤ 1000000000) : Ev (fun k => bolterref01_Limbs.f k (decs n)) (limbs n) := by
  have := Limbs_loop n [] hl (by have := limbs_le_decs n; simp; omega)
  rw [limbs_zero, List.nil_append, List.nil_append] at this
  unfold bolterref01_Limbs.f
  simp only [List.length_nil, Nat.zero_add, List.nil_append, if_pos (show (decs n).length < 17592186044416 by omega)]
  exact this
/-! Order -/
theorem cmp_lt {m n : Nat} (h : m < n) : cmpI m n = -1 := by unfold cmpI; rw [if_pos (by omega)]
theorem Order_loop (m n : Nat) (hl : (decs m).length = (decs n).length) (hz : (decs m).length ≤ 1000000000) : ∀ i : Nat, i ≤ (decs m).length → m / 10 ^ i = n / 10 ^ i → ∀ k, i + 1 ≤ k → bolterref01_Order.l0 k (decs m) (decs n) ((i : Int) - 1) = some (cmpI m n)
  | 0, _, he, k, hk => by
    obtain ⟨k, rfl⟩ : ∃ m, k = m + 1 := ⟨k - 1, by omega⟩
    rw [Nat.pow_zero, Nat.div_one, Nat.div_one] at he
    rw [bolterref01_Order.l0.eq_2, if_neg (by omega), he]
    unfold cmpI
    rw [if_neg (by omega), if_neg (by omega)]
  | i + 1, hi, he, k, hk => by
    obtain ⟨k, rfl⟩ : ∃ m, k = m + 1 := ⟨k - 1, by omega⟩
    rw [div_succ, div_succ] at he
    rw [bolterref01_Order.l0.eq_2, if_pos (by omega), if_pos (by omega), if_pos (by omega), if_pos (by omega), show (((i + 1 : Nat) : Int) - 1) = (i : Int) by omega, rdn, rdn, decs_getD, decs_getD]
    by_cases h1 : m / 10 ^ i < n / 10 ^ i
    · have : m < n := by
        rcases Nat.lt_or_ge m n with h | h
        · exact h
        · have := Nat.div_le_div_right (c := 10 ^ i) h; omega
      rw [if_pos (by omega), cmp_lt this]
    · by_cases h2 : n / 10 ^ i < m / 10 ^ i
      · have : n < m := by
          rcases Nat.lt_or_ge n m with h | h
          · exact h
          · have := Nat.div_le_div_right (c := 10 ^ i) h; omega
        rw [if_neg (by omega), if_pos (by omega)]
        unfold cmpI
        rw [if_neg (by omega), if_pos (by omega)]
      · rw [if_neg (by omega), if_neg (by omega), w64 _ (by omega)]
        exact Order_loop m n hl hz i (by omega) (by omega) k (by omega)
theorem decs_len_lt {m n : Nat} (h : (decs m).length < (decs n).length) : m < n := by
  rcases Nat.lt_or_ge m n with h1 | h1
  · exact h1
  · have h2 : m / 10 ^ (decs m).length = 0 := by
      by_cases h : m / 10 ^ (decs m).length = 0
      · exact h
      · have := decs_lt.2 h; omega
    have h3 := decs_lt.1 h
    have h4 := Nat.div_le_div_right (c := 10 ^ (decs m).length) h1
    rw [h2] at h4
    exact absurd (Nat.le_zero.1 h4) h3
theorem Order_f (m n : Nat) (h1 : (decs m).length ≤ 1000000000) (h2 : (decs n).length ≤ 1000000000) : Ev (fun k => bolterref01_Order.f k (decs m) (decs n)) (cmpI m n) := by
  unfold bolterref01_Order.f
  refine ⟨(decs m).length + 1, fun k hk => ?_⟩
  dsimp only
  by_cases ha : (decs m).length < (decs n).length
  · rw [if_pos (by omega), cmp_lt (decs_len_lt ha)]
  · by_cases hb : (decs n).length < (decs m).length
    · have := decs_len_lt hb
      rw [if_neg (by omega), if_pos (by omega)]
      unfold cmpI
      rw [if_neg (by omega), if_pos (by omega)]
    · rw [if_neg (by omega), if_neg (by omega), w64 _ (by omega)]
      have z : ∀ m : Nat, m / 10 ^ (decs m).length = 0 := fun m => by
        by_cases h : m / 10 ^ (decs m).length = 0
        · exact h
        · have := decs_lt.2 h; omega
      exact Order_loop m n (by omega) h1 (decs m).length (Nat.le_refl _) (by rw [z m, show (decs m).length = (decs n).length by omega, z n]) k hk
end Go.Proofs.Ytdbnpaloalhciaa.P
namespace Go.Proofs.Ytdbnpaloalhciaa.P
set_option linter.unusedVariables false
set_option linter.unusedSimpArgs false
open Go.RowKit Go.Proofs.YtdbnpaloalhciaaW.PrintWords Go.Proofs.YtdbnpaloalhciaaW.PrintMore
theorem div_split (A i : Nat) : A / 10 ^ i = 10 * (A / 10 ^ (i + 1)) + A / 10 ^ i % 10 := by rw [div_succ]; omega
theorem decs_zero_at {A i : Nat} (h : (decs A).length ≤ i) : A / 10 ^ i = 0 := by
  by_cases h0 : A / 10 ^ i = 0
  · exact h0
  · have := decs_lt.2 h0; omega
theorem Plus_step (LA LB out R : List Int) (i a b : Nat) (hga : LA.getD i 0 = (a : Int)) (hgb : LB.getD i 0 = (b : Int)) (ha10 : a < 10) (hb10 : b < 10) (hlen : i < LA.length ∨ i < LB.length) (hlo : out.length < 1000000000) (hi : i < 1000000000) (hA0 : LA.length ≤ i → a = 0) (hB0 : LB.length ≤ i → b = 0)
    (h : Ev (fun k => bolterref01_Plus.l0 k LA LB (out ++ [((a + b : Nat) : Int)]) ((i + 1 : Nat) : Int)) R) : Ev (fun k => bolterref01_Plus.l0 k LA LB out i) R := by
  have hw : wrap64 ((a : Int)) = a := w64 _ (by omega)
  have hwb : wrap64 ((b : Int)) = b := w64 _ (by omega)
  have hw2 : wrap64 ((a : Int) + b) = ((a + b : Nat) : Int) := by rw [w64 _ (by omega)]; omega
  by_cases hlA : i < LA.length
  · refine Ev.step (fun k => by rw [bolterref01_Plus.l0.eq_2, if_pos (by omega)]) (Ev.step (fun k => ?_) h)
    rw [bolterref01_Plus.j1.eq_2, if_pos rfl, if_pos (by omega), if_pos (by omega)]
    by_cases hlB : i < LB.length
    · rw [if_pos (by omega), if_pos (by omega), rdn, rdn, hga, hgb, hw, hw2, w64 _ (by omega)]
      rfl
    · have hb0 := hB0 (by omega)
      rw [if_neg (by omega), if_pos (by omega), rdn, hga, hw, w64 _ (by omega), hb0]
      rfl
  · have hlB : i < LB.length := by omega
    have ha0 := hA0 (by omega)
    refine Ev.step (fun k => by rw [bolterref01_Plus.l0.eq_2, if_neg (by omega), decide_eq_true (by omega)]) (Ev.step (fun k => ?_) h)
    rw [bolterref01_Plus.j1.eq_2, if_pos rfl, if_neg (by omega), if_pos (by omega), if_pos (by omega), if_pos (by omega), rdn, hgb, hwb, w64 _ (by omega), ha0, Nat.zero_add]
    rfl
theorem Plus_end (LA LB out : List Int) (i n : Nat) (h1 : LA.length ≤ i) (h2 : LB.length ≤ i) (hl : out.length ≤ 1000000000) (hx : ∀ x ∈ out, 0 ≤ x ∧ x ≤ 18) (hv : dval out = n) : Ev (fun k => bolterref01_Plus.l0 k LA LB out i) (decs n) := by
  have hc := carry_f out (fun x h => by have := hx x h; omega) hl
  rw [hv] at hc
  refine Ev.step (fun k => by rw [bolterref01_Plus.l0.eq_2, if_neg (by omega), decide_eq_false (by omega)]) (Ev.step (fun k => by rw [bolterref01_Plus.j1.eq_2, if_neg (by simp)]) ?_)
  exact Ev.bind hc (Ev.now _)
theorem Plus_val (D A B A' B' T a b : Nat) (h : D + T * (10 * A' + a + (10 * B' + b)) = A + B) : D + T * (a + b) + T * 10 * (A' + B') = A + B := by
  rw [← h, Nat.mul_assoc, Nat.add_assoc, ← Nat.mul_add]
  congr 2
  omega
theorem Plus_loop (A B : Nat) : ∀ (m i : Nat) (out : List Int), (decs A).length ≤ i + m → (decs B).length ≤ i + m → out.length = i → i + m < 1000000000 → (∀ x ∈ out, 0 ≤ x ∧ x ≤ 18) → dval out + 10 ^ i * (A / 10 ^ i + B / 10 ^ i) = A + B →
    Ev (fun k => bolterref01_Plus.l0 k (decs A) (decs B) out i) (decs (A + B)) := by
  intro m
  induction m with
  | zero =>
    intro i out h1 h2 hl hi hx hv
    rw [decs_zero_at (A := A) (i := i) h1, decs_zero_at (A := B) (i := i) h2] at hv
    exact Plus_end _ _ out i _ h1 h2 (by omega) hx (by simpa using hv)
  | succ m ih =>
    intro i out h1 h2 hl hi hx hv
    by_cases hlt : i < (decs A).length ∨ i < (decs B).length
    · have ha10 : A / 10 ^ i % 10 < 10 := Nat.mod_lt _ (by omega)
      have hb10 : B / 10 ^ i % 10 < 10 := Nat.mod_lt _ (by omega)
      have hz : ∀ C, (decs C).length ≤ i → C / 10 ^ i % 10 = 0 := fun C h => by rw [decs_zero_at h]
      refine Plus_step (decs A) (decs B) out _ i (A / 10 ^ i % 10) (B / 10 ^ i % 10) (decs_getD _ _) (decs_getD _ _) ha10 hb10 hlt (by omega) (by omega) (hz A) (hz B) ?_
      rw [div_split A i, div_split B i] at hv
      refine ih (i + 1) _ (by omega) (by omega) (by rw [List.length_append, List.length_singleton]; omega) (by omega) (fun x hxx => ?_) ?_
      · rcases List.mem_append.1 hxx with h | h
        · exact hx x h
        · rw [List.mem_singleton] at h; rw [h]; generalize A / 10 ^ i % 10 = a at *; generalize B / 10 ^ i % 10 = b at *; clear hv hz; omega
      · rw [dval_snoc, hl, Int.toNat_natCast]
        have := Plus_val _ _ _ _ _ _ _ _ hv
        rwa [← Nat.pow_succ] at this
    · rw [decs_zero_at (A := A) (i := i) (by omega), decs_zero_at (A := B) (i := i) (by omega)] at hv
      exact Plus_end _ _ out i _ (by omega) (by omega) (by omega) hx (by simpa using hv)
theorem Plus_f (A B : Nat) (hA : (decs A).length ≤ 100000000) (hB : (decs B).length ≤ 100000000) : Ev (fun k => bolterref01_Plus.f k (decs A) (decs B)) (decs (A + B)) := by
  have := Plus_loop A B (max (decs A).length (decs B).length) 0 [] (by omega) (by omega) rfl (by omega) (by simp) (by simp [dval])
  exact this
/-! Minus -/
theorem Minus_step (LA LB out R : List Int) (i a b less : Nat) (hga : LA.getD i 0 = (a : Int)) (hgb : LB.getD i 0 = (b : Int)) (ha10 : a < 10) (hb10 : b < 10) (hless : less ≤ 1) (hlen : i < LA.length) (hlo : out.length < 1000000000) (hi : i < 1000000000) (hB0 : LB.length ≤ i → b = 0)
    (key : ∀ (d l2 : Nat), d < 10 → l2 ≤ 1 → d + b + less = a + 10 * l2 → Ev (fun k => bolterref01_Minus.l0 k LA LB (out ++ [(d : Int)]) l2 ((i + 1 : Nat) : Int)) R) : Ev (fun k => bolterref01_Minus.l0 k LA LB out less i) R := by
  have hw1 : wrap64 ((a : Int) - less) = (a : Int) - less := w64 _ (by omega)
  have hw2 : wrap64 ((a : Int) - less - b) = (a : Int) - less - b := w64 _ (by omega)
  by_cases hlB : i < LB.length
  · by_cases hn : a < less + b
    · refine Ev.step (fun k => ?_) (key (a + 10 - less - b) 1 (by omega) (by omega) (by omega))
      rw [bolterref01_Minus.l0.eq_2, if_pos (by omega), if_pos (by omega), if_pos (by omega), rdn, rdn, hga, hgb, hw1, hw2, if_pos (by omega), if_pos (by omega), w64 _ (by omega), w64 _ (by omega), show (a : Int) - less - b + 10 = ((a + 10 - less - b : Nat) : Int) by omega]
      rfl
    · refine Ev.step (fun k => ?_) (key (a - less - b) 0 (by omega) (by omega) (by omega))
      rw [bolterref01_Minus.l0.eq_2, if_pos (by omega), if_pos (by omega), if_pos (by omega), rdn, rdn, hga, hgb, hw1, hw2, if_neg (by omega), if_pos (by omega), w64 _ (by omega), show (a : Int) - less - b = ((a - less - b : Nat) : Int) by omega]
      rfl
  · have hb0 : b = 0 := hB0 (by omega)
    by_cases hn : a < less + b
    · refine Ev.step (fun k => ?_) (key (a + 10 - less - b) 1 (by omega) (by omega) (by omega))
      rw [bolterref01_Minus.l0.eq_2, if_pos (by omega), if_pos (by omega), if_neg (by omega), rdn, hga, hw1, if_pos (by omega), if_pos (by omega), w64 _ (by omega), w64 _ (by omega), show (a : Int) - less + 10 = ((a + 10 - less - b : Nat) : Int) by omega]
      rfl
    · refine Ev.step (fun k => ?_) (key (a - less - b) 0 (by omega) (by omega) (by omega))
      rw [bolterref01_Minus.l0.eq_2, if_pos (by omega), if_pos (by omega), if_neg (by omega), rdn, hga, hw1, if_neg (by omega), if_pos (by omega), w64 _ (by omega), show (a : Int) - less = ((a - less - b : Nat) : Int) by omega]
      rfl
theorem Minus_val (D A B A' B' T a b less d l2 : Nat) (hv : D + T * (10 * A' + a) + B = A + T * (10 * B' + b + less)) (he : d + b + less = a + 10 * l2) : D + T * d + T * 10 * A' + B = A + T * 10 * (B' + l2) := by
  have e2 := congrArg (fun z => T * z) he
  simp only [Nat.mul_add] at e2 hv
  have f : ∀ z, T * 10 * z = T * (10 * z) := fun z => Nat.mul_assoc _ _ _
  rw [Nat.mul_add, f, f, f]
  omega
theorem Minus_loop (A B : Nat) (hle : B ≤ A) : ∀ (m i less : Nat) (out : List Int), (decs A).length = i + m → i + m < 1000000000 → out.length = i → okD out → less ≤ 1 → dval out + 10 ^ i * (A / 10 ^ i) + B = A + 10 ^ i * (B / 10 ^ i + less) →
    Ev (fun k => bolterref01_Minus.l0 k (decs A) (decs B) out less i) (decs (A - B)) := by
  intro m
  induction m with
  | zero =>
    intro i less out h1 hz hl hx hls hv
    rw [decs_zero_at (A := A) (i := i) (by omega), Nat.mul_zero, Nat.add_zero] at hv
    have hd := dval_lt hx
    rw [hl] at hd
    have h0 : B / 10 ^ i + less = 0 := by
      rcases Nat.eq_zero_or_pos (B / 10 ^ i + less) with h | h
      · exact h
      · have := Nat.le_mul_of_pos_right (10 ^ i) h; omega
    rw [h0, Nat.mul_zero, Nat.add_zero] at hv
    have ht := Trim_f out hx (by omega)
    rw [show dval out = A - B by omega] at ht
    refine Ev.step (fun k => by rw [bolterref01_Minus.l0.eq_2, if_neg (by omega)]) ?_
    exact Ev.bind ht (Ev.now _)
  | succ m ih =>
    intro i less out h1 hz hl hx hls hv
    have ha10 : A / 10 ^ i % 10 < 10 := Nat.mod_lt _ (by omega)
    have hb10 : B / 10 ^ i % 10 < 10 := Nat.mod_lt _ (by omega)
    refine Minus_step (decs A) (decs B) out _ i (A / 10 ^ i % 10) (B / 10 ^ i % 10) less (decs_getD _ _) (decs_getD _ _) ha10 hb10 hls (by omega) (by omega) (by omega) (fun h => by rw [decs_zero_at h]) (fun d l2 hd hl2 he => ?_)
    rw [div_split A i, div_split B i] at hv
    refine ih (i + 1) l2 (out ++ [(d : Int)]) (by omega) (by omega) (by rw [List.length_append, List.length_singleton]; omega) (okD_snoc hx (by omega) (by omega)) hl2 ?_
    rw [dval_snoc, hl, Int.toNat_natCast]
    have := Minus_val _ _ _ _ _ _ _ _ _ _ _ hv he
    rwa [← Nat.pow_succ] at this
theorem Minus_f (A B : Nat) (hle : B ≤ A) (hA : (decs A).length ≤ 100000000) : Ev (fun k => bolterref01_Minus.f k (decs A) (decs B)) (decs (A - B)) := by
  have := Minus_loop A B hle (decs A).length 0 0 [] (by omega) (by omega) rfl okD_nil (by omega) (by simp [dval])
  exact this
/-! Product -/
/-! The page's operations -/
theorem ref_check (l : List Int) (h : l.length ≤ 4611686018427387904) : bolterref01_Check.f l = some (chk l) := check_f l h
theorem ref_checks (a b : List Int) (ha : a.length ≤ 4611686018427387904) (hb : b.length ≤ 4611686018427387904) : bolterref01_checks.f a b = some (tw a b) := by
  unfold bolterref01_checks.f tw
  rw [ref_check a ha, ref_check b hb]
  simp only [Option.bind_some]
  split <;> rfl
theorem ref_fits (n : Nat) (h : (decs n).length ≤ 1000000000) : Ev (fun k => bolterref01_fits.f k (decs n)) (fitsV n) := by
  unfold bolterref01_fits.f
  refine Ev.bind (Limbs_f n h) ⟨0, fun k _ => ?_⟩
  unfold fitsV
  by_cases h : (limbs n).length > 256
  · simp only []
    rw [if_pos (by omega), if_pos h]
  · simp only []
    rw [if_neg (by omega), if_neg h]
theorem decs_le_len {m n : Nat} (h : m ≤ n) : (decs m).length ≤ (decs n).length := decs_len (by have := dval_lt (okD_decs n); rw [dval_decs] at this; omega)
theorem decs_add_len {a b n : Nat} (ha : (decs a).length ≤ n) (hb : (decs b).length ≤ n) : (decs (a + b)).length ≤ n + 1 := decs_len (by
  have h1 := dval_lt_pow (okD_decs a) ha
  have h2 := dval_lt_pow (okD_decs b) hb
  rw [dval_decs] at h1 h2
  rw [Nat.pow_succ (m := n)]
  omega)
theorem ref_add (a b : List Int) (ha : okL a) (hb : okL b) (hla : a.length ≤ 4611686018427387904) (hlb : b.length ≤ 4611686018427387904) : Ev (fun k => bolterref01_Add.f k a b) (addV a b) := by
  unfold bolterref01_Add.f addV
  rw [ref_checks a b hla hlb]
  simp only [Option.bind_some]
  by_cases h : tw a b = 0
  · simp only [if_pos h]
    obtain ⟨⟨h1, h2⟩, h3, h4⟩ := (tw_ok ha hb).1 h
    have d1 := decs_256 ha h1
    have d2 := decs_256 hb h3
    have d3 := decs_add_len d1 d2
    exact Ev.bind (Digits_f h2 h1) (Ev.bind (Digits_f h4 h3) (Ev.bind (Plus_f (val a) (val b) (by omega) (by omega)) (Ev.bind (ref_fits _ (by omega)) (Ev.now _))))
  · simp only [if_neg h]
    exact Ev.now _
def cmpV (a b : List Int) : Int × Int := if tw a b = 0 then (cmpI (val a) (val b), 0) else (0, tw a b)
def subV (a b : List Int) : List Int × Int := if tw a b = 0 then (if val a < val b then ([], 4) else (limbs (val a - val b), 0)) else ([], tw a b)
theorem cmp_neg {m n : Nat} : cmpI m n < 0 ↔ m < n := by unfold cmpI; split <;> (try split) <;> omega
theorem cmp_f (a b : List Int) (ha : okL a) (hb : okL b) (hla : a.length ≤ 4611686018427387904) (hlb : b.length ≤ 4611686018427387904) : Ev (fun k => nat_Compare.f k a b) (cmpV a b) := by
  unfold nat_Compare.f cmpV
  rw [check_f a hla, check_f b hlb]
  simp only [Option.bind_some]
  refine Ev.bind (a := tw a b) ⟨3, fun k hk => errs_f (chk a) (chk b) k hk⟩ ?_
  by_cases h : tw a b = 0
  · simp only [if_pos h]
    obtain ⟨⟨h1, h2⟩, h3, h4⟩ := (tw_ok ha hb).1 h
    unfold nat_num_compare.f
    simp only [if_pos (show (canon a ∧ canon b) ∧ a.length ≤ 1073741824 ∧ b.length ≤ 1073741824 from ⟨⟨h2, h4⟩, by omega, by omega⟩), Option.bind_some]
    exact Ev.now _
  · simp only [if_neg h]
    exact Ev.now _
theorem from_f (n : Nat) (h : n < 18446744073709551616) : nat_From.f n = some (limbs n) := by
  unfold nat_From.f nat_num_trim.f
  have hok : okL [(n : Int) % 4294967296, (n : Int) / 4294967296 % 4294967296] := by
    rw [okL_cons, okL_cons]
    exact ⟨by omega, by omega, okL_nil⟩
  have hv : val [(n : Int) % 4294967296, (n : Int) / 4294967296 % 4294967296] = n := by simp [val]; omega
  rw [if_pos ⟨hok, by simp⟩, hv]
  rfl
theorem copy_f (l : List Int) (h : l.length < 35184372088832) : bolterplain_CopyLimbs.f l = some l := by
  unfold bolterplain_CopyLimbs.f
  rw [if_pos (by simpa using h), List.nil_append]
end Go.Proofs.Ytdbnpaloalhciaa.P

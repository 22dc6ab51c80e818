/- nat's quotients and roots by value. -/
import Derived.Test.YtdbnpaloalhciaaPf
import Derived.Test.YtdbnpaloalhciaaNh
import Derived.Test.YtdbnpaloalhciaaPx23
namespace Go.Proofs.Ytdbnpaloalhciaa.P
set_option linter.unusedVariables false
set_option linter.unusedSimpArgs false
open Go.RowKit Go.Proofs.YtdbnpaloalhciaaW.PrintWords Go.Proofs.YtdbnpaloalhciaaW.PrintMore
def divV (a b : List Int) : List Int × List Int × Int := if tw a b = 0 then (if b.length = 0 then ([], [], 53) else (limbs (val a / val b), limbs (val a % val b), 0)) else ([], [], tw a b)
theorem div_f (a b : List Int) (ha : okL a) (hb : okL b) (hla : a.length ≤ 4611686018427387904) (hlb : b.length ≤ 4611686018427387904) (k : Nat) (hk : 3 ≤ k) : nat_Div.f k a b = some (divV a b) := by
  unfold nat_Div.f divV
  rw [two_f a b hla hlb k hk, Option.bind_some]
  by_cases h : tw a b = 0
  · rw [if_pos h, if_pos h]
    have h2 := (tw_ok ha hb).1 h
    by_cases h0 : b.length = 0
    · rw [if_pos (by omega), if_pos h0]
    · rw [if_neg (by omega), if_neg h0]
      unfold nat_num_div.f
      rw [if_pos ⟨⟨h2.1.2, h2.2.2⟩, by intro e; rw [e] at h0; exact h0 rfl, by omega, by omega⟩, Option.bind_some]
  · rw [if_neg h, if_neg h]
theorem limbs_mono2 {m n : Nat} (h : m ≤ n) : (limbs m).length ≤ (limbs n).length := limbs_len (by
  have := val_lt (okL_limbs n)
  rw [val_limbs] at this
  omega)
theorem divV_len (a b : List Int) (ha : okL a) (hb : okL b) : (divV a b).1.length ≤ 256 ∧ (divV a b).2.1.length ≤ 256 := by
  unfold divV
  split
  · rename_i h
    have h2 := (tw_ok ha hb).1 h
    split
    · simp
    · have e : (limbs (val a)).length ≤ 256 := by rw [h2.1.2]; exact h2.1.1
      exact ⟨Nat.le_trans (limbs_mono2 (Nat.div_le_self _ _)) e, Nat.le_trans (limbs_mono2 (Nat.mod_le _ _)) e⟩
  · simp
/-! The page's quotient -/
theorem decs_cons_trim (d n : Nat) (hd : d < 10) : okD ((d : Int) :: decs n) ∧ dval ((d : Int) :: decs n) = d + 10 * n := by
  rw [okD_cons, dval, dval_decs, Int.toNat_natCast]
  exact ⟨⟨by omega, okD_decs n⟩, rfl⟩
theorem Quot_inner (A B : Nat) (hB : 0 < B) (hlB : (decs B).length ≤ 100000000) (i : Nat) (R : List Int × List Int) : ∀ (t N c : Nat) (q : List Int), N = B * t + N % B → (decs N).length ≤ 100000000 → i < q.length → q.length ≤ 100000000 → q.getD i 0 = (c : Int) → c + t ≤ 1000 →
    Ev (fun k => bolterref01_Quotient.l0 k (decs A) (decs B) (q.set i ((c + t : Nat) : Int)) (decs (N % B)) ((i : Int) - 1)) R → Ev (fun k => bolterref01_Quotient.l1 k (decs A) (decs B) q (decs N) i) R
  | 0, N, c, q, hN, hlN, hi, hlq, hg, hc, h => by
    have hlt : N < B := by rw [hN, Nat.mul_zero, Nat.zero_add]; exact Nat.mod_lt _ hB
    have ho := Order_f N B (by omega) (by omega)
    rw [Nat.mod_eq_of_lt hlt, Nat.add_zero] at h
    have hq : q.set i (c : Int) = q := by
      apply List.ext_getElem
      · simp
      · intro j h1 h2
        rw [List.getElem_set]
        split
        · rename_i e
          subst e
          rw [← hg, List.getD_eq_getElem?_getD, List.getElem?_eq_getElem h2]
          rfl
        · rfl
    rw [hq] at h
    have hcm : ¬ cmpI N B ≥ 0 := by have := cmp_neg.2 hlt; omega
    refine Ev.step (f := fun k => (bolterref01_Order.f k (decs N) (decs B)).bind fun t => if t ≥ 0 then ((bolterref01_Minus.f k (decs N) (decs B)).bind fun t571 => (if 0 ≤ (i : Int) then (if (i : Int) < (q.length : Int) then (bolterref01_Quotient.l1 k (decs A) (decs B) (q.set (i : Int).toNat (wrap64 ((rd q i) + 1))) t571 i) else (none)) else (none))) else (bolterref01_Quotient.l0 k (decs A) (decs B) q (decs N) (wrap64 ((i : Int) - 1)))) (fun k => by rw [bolterref01_Quotient.l1.eq_2]) ?_
    refine Ev.bind ho ?_
    simp only [if_neg hcm]
    rw [w64 _ (by omega)]
    exact h
  | t + 1, N, c, q, hN, hlN, hi, hlq, hg, hc, h => by
    have hge : B ≤ N := by rw [hN, Nat.mul_succ]; omega
    have hN2 : N - B = B * t + (N - B) % B := by
      have e : (N - B) % B = N % B := by rw [← Nat.mod_eq_sub_mod hge]
      rw [e]; rw [Nat.mul_succ] at hN; omega
    have ho := Order_f N B (by omega) (by omega)
    have hm := Minus_f N B hge (by omega)
    have ih := Quot_inner A B hB hlB i R t (N - B) (c + 1) (q.set i ((c + 1 : Nat) : Int)) hN2 (Nat.le_trans (decs_le_len (Nat.sub_le _ _)) hlN) (by rw [List.length_set]; exact hi) (by rw [List.length_set]; exact hlq) (by rw [getD_set, if_pos ⟨rfl, hi⟩]) (by omega) (by
      rw [List.set_set, show c + 1 + t = c + (t + 1) by omega, ← Nat.mod_eq_sub_mod hge]
      exact h)
    have hcm : cmpI N B ≥ 0 := by
      rcases Int.lt_or_le (cmpI N B) 0 with h | h
      · have := cmp_neg.1 h; omega
      · exact h
    refine Ev.step (f := fun k => (bolterref01_Order.f k (decs N) (decs B)).bind fun t => if t ≥ 0 then ((bolterref01_Minus.f k (decs N) (decs B)).bind fun t571 => (if 0 ≤ (i : Int) then (if (i : Int) < (q.length : Int) then (bolterref01_Quotient.l1 k (decs A) (decs B) (q.set (i : Int).toNat (wrap64 ((rd q i) + 1))) t571 i) else (none)) else (none))) else (bolterref01_Quotient.l0 k (decs A) (decs B) q (decs N) (wrap64 ((i : Int) - 1)))) (fun k => by rw [bolterref01_Quotient.l1.eq_2]) ?_
    refine Ev.bind ho ?_
    simp only [if_pos hcm]
    refine Ev.bind hm ?_
    simp only [if_pos (show (0 : Int) ≤ (i : Int) by omega), if_pos (show (i : Int) < (q.length : Int) by omega)]
    rw [rdn, hg, w64 _ (by omega), Int.toNat_natCast, show (c : Int) + 1 = ((c + 1 : Nat) : Int) by omega]
    exact ih
theorem decs_ten_len (d r : Nat) (hd : d < 10) : (decs (d + 10 * r)).length ≤ (decs r).length + 1 := by
  by_cases h : d + 10 * r = 0
  · rw [h, decs_zero]; simp
  · rw [decs_pos h, List.length_cons, show (d + 10 * r) / 10 = r by omega]; exact Nat.le_refl _
theorem Quot_loop (A B : Nat) (hB : 0 < B) (hlA : (decs A).length ≤ 10000000) (hlB : (decs B).length ≤ 10000000) : ∀ (i : Nat) (q : List Int), i ≤ (decs A).length → q.length = (decs A).length → okD q → q.take i = List.replicate i 0 → dval (q.drop i) = A / 10 ^ i / B →
    Ev (fun k => bolterref01_Quotient.l0 k (decs A) (decs B) q (decs (A / 10 ^ i % B)) ((i : Int) - 1)) (decs (A / B), decs (A % B))
  | 0, q, hi, hl, hok, ht, hv => by
    rw [Nat.pow_zero, Nat.div_one, List.drop_zero] at hv
    rw [Nat.pow_zero, Nat.div_one]
    have htr := Trim_f q hok (by omega)
    rw [hv] at htr
    refine Ev.step (f := fun k => (bolterref01_Trim.f k q).bind fun t => some (t, decs (A % B))) (fun k => by rw [bolterref01_Quotient.l0.eq_2, if_neg (by omega)]) ?_
    exact Ev.bind htr (Ev.now _)
  | i + 1, q, hi, hl, hok, ht, hv => by
    obtain ⟨X, hX⟩ : ∃ X, A / 10 ^ i = X := ⟨_, rfl⟩
    rw [div_succ, hX] at hv
    rw [div_succ, hX]
    have hgA : (decs A).getD i 0 = ((X % 10 : Nat) : Int) := by rw [decs_getD, hX]
    have hd10 : X % 10 < 10 := Nat.mod_lt _ (by omega)
    obtain ⟨d, hd⟩ : ∃ d, X % 10 = d := ⟨_, rfl⟩
    obtain ⟨r, hr⟩ : ∃ r, X / 10 % B = r := ⟨_, rfl⟩
    have hrB : r < B := by rw [← hr]; exact Nat.mod_lt _ hB
    rw [hd] at hgA hd10
    have hXe : X = B * (10 * (X / 10 / B)) + (d + 10 * r) := by
      have h1 : X = 10 * (X / 10) + d := by omega
      have h2 := Nat.div_add_mod (X / 10) B
      rw [hr] at h2
      conv => lhs; rw [h1, ← h2]
      rw [Nat.mul_add, Nat.mul_left_comm]
      omega
    have hXm : (d + 10 * r) % B = X % B := by rw [hXe, Nat.mul_add_mod]
    have hXd : X / B = 10 * (X / 10 / B) + (d + 10 * r) / B := by
      conv => lhs; rw [hXe]
      rw [Nat.mul_add_div hB]
    have hq10 : (d + 10 * r) / B < 10 := by
      rw [Nat.div_lt_iff_lt_mul hB]
      omega
    have hgq : q.getD i 0 = ((0 : Nat) : Int) := by
      have h1 : q.getD i 0 = (q.take (i + 1)).getD i 0 := by
        rw [List.getD_eq_getElem?_getD, List.getD_eq_getElem?_getD, List.getElem?_take_of_lt (by omega)]
      rw [h1, ht, List.getD_eq_getElem?_getD, List.getElem?_replicate, if_pos (by omega)]
      rfl
    obtain ⟨h1, h2⟩ := decs_cons_trim d r hd10
    have hlr : (decs r).length ≤ 10000000 := Nat.le_trans (decs_le_len (Nat.le_of_lt hrB)) hlB
    have hlN : (decs (d + 10 * r)).length ≤ 10000001 := Nat.le_trans (decs_ten_len d r hd10) (by omega)
    obtain ⟨c, hc⟩ : ∃ c, (d + 10 * r) / B = c := ⟨_, rfl⟩
    have hdm := Nat.div_add_mod (d + 10 * r) B
    rw [hc] at hdm hq10 hXd
    have htr := Trim_f ((d : Int) :: decs r) h1 (by simp; omega)
    rw [h2] at htr
    have hset := Quot_loop A B hB hlA hlB i (q.set i (c : Int)) (by omega) (by rw [List.length_set, hl]) (okD_set hok _ (by omega) (by omega)) (by
      rw [List.take_set_of_le (by omega)]
      have := congrArg (List.take i) ht
      rw [List.take_take, Nat.min_eq_left (by omega), List.take_replicate, Nat.min_eq_left (by omega)] at this
      exact this) (by
      rw [drop_getD (by rw [List.length_set]; omega), dval, getD_set, if_pos ⟨rfl, by omega⟩, Int.toNat_natCast, List.drop_set_of_lt (by omega), hv, hX, hXd]
      omega)
    rw [hX, ← hXm] at hset
    have hin := Quot_inner A B hB (by omega) i (decs (A / B), decs (A % B)) c (d + 10 * r) 0 q hdm.symm (by omega) (by omega) (by omega) hgq (by omega) (by rw [Nat.zero_add]; exact hset)
    refine Ev.step (f := fun k => (bolterref01_Trim.f k ((d : Int) :: decs r)).bind fun t => bolterref01_Quotient.l1 k (decs A) (decs B) q t i) (fun k => ?_) (Ev.bind htr hin)
    rw [bolterref01_Quotient.l0.eq_2, if_pos (by omega), if_pos (by omega), if_pos (by omega), show (((i + 1 : Nat) : Int) - 1) = (i : Int) by omega, rdn, hgA, hr]
    simp only [Option.bind_some]
    rw [if_pos (by simp only [List.length_cons, List.length_nil]; omega)]
    rfl
theorem Quotient_f (A B : Nat) (hB : 0 < B) (hlA : (decs A).length ≤ 10000000) (hlB : (decs B).length ≤ 10000000) : Ev (fun k => bolterref01_Quotient.f k (decs A) (decs B)) (decs (A / B), decs (A % B)) := by
  have hz : A / 10 ^ (decs A).length = 0 := by
    by_cases h : A / 10 ^ (decs A).length = 0
    · exact h
    · have := decs_lt.2 h; omega
  have := Quot_loop A B hB hlA hlB (decs A).length (List.replicate (decs A).length 0) (Nat.le_refl _) (by simp) (fun z hz => by rw [List.eq_of_mem_replicate hz]; omega) (by rw [List.take_of_length_le (by simp)]) (by rw [List.drop_of_length_le (by simp), hz]; simp [dval])
  rw [hz, Nat.zero_mod, decs_zero] at this
  unfold bolterref01_Quotient.f
  simp only [if_pos (show (0 : Int) ≤ ((decs A).length : Int) by omega), Int.toNat_natCast, if_pos (show (decs A).length ≤ 35184372088832 by omega)]
  rw [w64 _ (by omega)]
  exact this
theorem ref_div (a b : List Int) (ha : okL a) (hb : okL b) (hla : a.length ≤ 4611686018427387904) (hlb : b.length ≤ 4611686018427387904) : Ev (fun k => bolterref01_Div.f k a b) (divV a b) := by
  unfold bolterref01_Div.f divV
  rw [ref_checks a b hla hlb]
  simp only [Option.bind_some]
  by_cases h : tw a b = 0
  · simp only [if_pos h]
    obtain ⟨⟨h1, h2⟩, h3, h4⟩ := (tw_ok ha hb).1 h
    by_cases h0 : b.length = 0
    · simp only [if_pos h0, if_pos (show (b.length : Int) = 0 by omega)]
      exact Ev.now _
    · simp only [if_neg h0, if_neg (show ¬ (b.length : Int) = 0 by omega)]
      have hbn : b ≠ [] := by intro e; rw [e] at h0; exact h0 rfl
      have hB : 0 < val b := Nat.lt_of_lt_of_le (Nat.pow_pos (by omega)) (canon_ge h4 hbn)
      have d1 := decs_256 ha h1
      have d2 := decs_256 hb h3
      have d3 := decs_le_len (Nat.div_le_self (val a) (val b))
      have d4 := decs_le_len (Nat.mod_le (val a) (val b))
      exact Ev.bind (Digits_f h2 h1) (Ev.bind (Digits_f h4 h3) (Ev.bind (Quotient_f (val a) (val b) hB (by omega) (by omega)) (Ev.bind (Limbs_f _ (by omega)) (Ev.bind (Limbs_f _ (by omega)) (Ev.now _)))))
  · simp only [if_neg h]
    exact Ev.now _
theorem spoil_ev (l : List Int) (hl : l.length ≤ 4611686018427387904) : ∃ r, Ev (fun k => bolterplain_SpoilLimbs.f k l) r := by
  have key : ∀ (m i : Nat) (x : List Int), x.length = l.length → i + m = l.length → ∃ r, Ev (fun k => bolterplain_SpoilLimbs.l0 k x i) r := by
    intro m
    induction m with
    | zero =>
      intro i x hx hi
      exact ⟨x, Ev.step (f := fun _ => some x) (fun k => by rw [bolterplain_SpoilLimbs.l0.eq_2, if_neg (by omega)]) (Ev.now _)⟩
    | succ m ih =>
      intro i x hx hi
      obtain ⟨r, hr⟩ := ih (i + 1) (x.set i 7) (by rw [List.length_set, hx]) (by omega)
      refine ⟨r, Ev.step (fun k => ?_) hr⟩
      rw [bolterplain_SpoilLimbs.l0.eq_2, if_pos (by omega), if_pos (by omega), w64 _ (by omega)]
      rfl
  exact key l.length 0 l rfl (by omega)
end Go.Proofs.Ytdbnpaloalhciaa.P

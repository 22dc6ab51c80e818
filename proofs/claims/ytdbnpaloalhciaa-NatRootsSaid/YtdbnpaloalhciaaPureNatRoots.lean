/- NatRoots: for any limbs, a root's square is not above the number, that of the next one is (limbs of more than 250 aside); what may not be is refused. -/
import Derived.Test.YtdbnpaloalhciaaPq
import Derived.Test.YtdbnpaloalhciaaPx26
import Derived.Test.YtdbnpaloalhciaaPx27
namespace Go.Proofs.Ytdbnpaloalhciaa.Pure
open Go.RowKit Go.Proofs.Ytdbnpaloalhciaa.P Go.Proofs.YtdbnpaloalhciaaW.PrintWords Go.Proofs.YtdbnpaloalhciaaW.PrintLast
set_option linter.unusedVariables false
set_option linter.unusedSimpArgs false
theorem canon_tw {a b : List Int} (ha : canon a) (hb : canon b) (h1 : a.length ≤ 256) (h2 : b.length ≤ 256) : tw a b = 0 := (tw_ok (canon_okL ha) (canon_okL hb)).2 ⟨⟨h1, ha⟩, h2, hb⟩
theorem zeros_one (m : Nat) : List.replicate m (0 : Int) ++ [1] = limbs (4294967296 ^ m) := by
  induction m with
  | zero => rw [limbs_pos (by simp)]; simp [limbs_zero]
  | succ m ih =>
    have hp : (4294967296 : Nat) ^ m ≠ 0 := Nat.ne_of_gt (Nat.pow_pos (by omega))
    rw [List.replicate_succ, List.cons_append, ih, Nat.pow_succ, limbs_pos (n := 4294967296 ^ m * 4294967296) (by omega), Nat.mul_mod_left, Nat.mul_div_cancel _ (by omega)]
    rfl
/-- Newton's step does not come below the root. -/
theorem newton {a x : Nat} (hx : 0 < x) : a < ((x + a / x) / 2 + 1) * ((x + a / x) / 2 + 1) := by
  obtain ⟨q, hq⟩ : ∃ q, a / x = q := ⟨_, rfl⟩
  obtain ⟨n, hn⟩ : ∃ n, (x + q) / 2 = n := ⟨_, rfl⟩
  rw [hq, hn]
  have h1 : a < (q + 1) * x := by
    rw [← hq]
    exact Nat.lt_of_lt_of_eq (Nat.lt_div_mul_add hx) (by rw [Nat.add_mul, Nat.one_mul])
  have h2 : x + (q + 1) ≤ 2 * (n + 1) := by omega
  have h3 : 4 * ((q + 1) * x) ≤ (x + (q + 1)) * (x + (q + 1)) := by
    generalize q + 1 = y
    have e : ∀ u v : Nat, u ≤ v → 4 * (u * v) ≤ (u + v) * (u + v) := by
      intro u v h
      obtain ⟨d, rfl⟩ : ∃ d, v = u + d := ⟨v - u, by omega⟩
      have : (u + (u + d)) * (u + (u + d)) = 4 * (u * (u + d)) + d * d := by
        have h1 : u + (u + d) = 2 * u + d := by omega
        rw [h1, Nat.add_mul, Nat.mul_add, Nat.mul_add, Nat.mul_add]
        have e1 : 2 * u * (2 * u) = 4 * (u * u) := by rw [Nat.mul_mul_mul_comm]
        have e2 : 2 * u * d = 2 * (u * d) := Nat.mul_assoc _ _ _
        have e3 : d * (2 * u) = 2 * (u * d) := by rw [Nat.mul_comm d, e2]
        rw [e1, e2, e3]
        omega
      omega
    rcases Nat.le_total y x with h | h
    · have := e y x h; rw [Nat.add_comm x y]; exact this
    · have := e x y h; rw [Nat.mul_comm y x]; exact this
  have h4 := Nat.mul_le_mul h2 h2
  have h5 : 2 * (n + 1) * (2 * (n + 1)) = 4 * ((n + 1) * (n + 1)) := by rw [Nat.mul_mul_mul_comm]
  omega
theorem limbs_add_len {m n k : Nat} (hm : (limbs m).length ≤ k) (hn : (limbs n).length ≤ k) : (limbs (m + n)).length ≤ k + 1 := limbs_len (by
  have h1 := val_lt (okL_limbs m)
  have h2 := val_lt (okL_limbs n)
  rw [val_limbs] at h1 h2
  have h3 : 4294967296 ^ (limbs m).length ≤ 4294967296 ^ k := Nat.pow_le_pow_right (Nat.succ_pos _) hm
  have h4 : 4294967296 ^ (limbs n).length ≤ 4294967296 ^ k := Nat.pow_le_pow_right (Nat.succ_pos _) hn
  rw [Nat.pow_succ]
  generalize 4294967296 ^ k = Z at *
  omega)
theorem root_loop (a : List Int) (ca : canon a) (la : a.length ≤ 256) (hpos : 0 < val a) : ∀ x : Nat, 0 < x → val a < (x + 1) * (x + 1) → (limbs x).length ≤ 1000 → ∃ r, 0 < r ∧ r ≤ x ∧ r * r ≤ val a ∧ val a < (r + 1) * (r + 1) ∧ Ev (fun k => nat_num_root.l0 k a (limbs x)) (limbs r) := by
  intro x
  induction x using Nat.strongRecOn with
  | _ x ih =>
    intro hx hlt hl
    have hxl : limbs x ≠ [] := by rw [limbs_pos (by omega)]; simp
    have hlaa : (limbs (val a)).length ≤ 256 := by rw [ca]; exact la
    have hlq : (limbs (val a / x)).length ≤ 256 := Nat.le_trans (limbs_mono2 (Nat.div_le_self _ _)) hlaa
    have hls : (limbs (x + val a / x)).length ≤ 1001 := limbs_add_len hl (by omega)
    have hd : nat_num_div.f a (limbs x) = some (limbs (val a / x), limbs (val a % x)) := by
      unfold nat_num_div.f
      rw [if_pos ⟨⟨ca, canon_limbs _⟩, hxl, by omega, by omega⟩, val_limbs]
    have hs : nat_num_add.f (limbs x) (limbs (val a / x)) = some (limbs (x + val a / x)) := by
      unfold nat_num_add.f
      rw [if_pos ⟨⟨okL_limbs _, okL_limbs _⟩, by omega, by omega⟩, val_limbs, val_limbs]
    have hr : ∀ k, 1002 ≤ k → nat_num_right.f k (limbs (x + val a / x)) 1 = some (limbs ((x + val a / x) / 2)) := fun k hk => by
      have := right_f (limbs (x + val a / x)) (okL_limbs _) 1 (by omega) (by omega) k (by omega)
      rw [val_limbs, Nat.pow_one] at this
      exact this
    have hln : (limbs ((x + val a / x) / 2)).length ≤ 1001 := Nat.le_trans (limbs_mono2 (Nat.div_le_self _ _)) hls
    have hc : nat_num_compare.f (limbs ((x + val a / x) / 2)) (limbs x) = some (cmpI ((x + val a / x) / 2 : Nat) x) := by
      unfold nat_num_compare.f
      rw [if_pos ⟨⟨canon_limbs _, canon_limbs _⟩, by omega, by omega⟩, val_limbs, val_limbs]
    have hnw := newton (a := val a) hx
    generalize hqd : val a / x = q at *
    obtain ⟨n, hn⟩ : ∃ n, (x + q) / 2 = n := ⟨_, rfl⟩
    rw [hn] at hnw hc hr hln
    by_cases hge : x ≤ n
    · have hq : x ≤ q := by omega
      have hsq : x * x ≤ val a := by rw [← hqd] at hq; exact (Nat.le_div_iff_mul_le hx).1 hq
      have hcm : cmpI (n : Int) (x : Int) ≥ 0 := by
        rcases Int.lt_or_le (cmpI (n : Int) x) 0 with h | h
        · have := cmp_neg.1 h; omega
        · exact h
      refine ⟨x, hx, Nat.le_refl _, hsq, hlt, ⟨1003, fun k hk => ?_⟩⟩
      obtain ⟨k, rfl⟩ : ∃ m, k = m + 1 := ⟨k - 1, by omega⟩
      show nat_num_root.l0 (k + 1) a (limbs x) = _
      rw [nat_num_root.l0.eq_2, hd, Option.bind_some]
      simp only []
      rw [hs, Option.bind_some, hr k (by omega), Option.bind_some, hc, Option.bind_some, if_pos hcm]
    · have hn0 : 0 < n := by
        rcases Nat.eq_zero_or_pos n with h | h
        · exfalso
          have hx1 : x = 1 := by omega
          have hq0 : q = 0 := by omega
          rw [hx1, Nat.div_one, hq0] at hqd
          omega
        · exact h
      obtain ⟨r, r0, r1, r2, r3, r4⟩ := ih n (by omega) hn0 hnw (Nat.le_trans (limbs_mono2 (show n ≤ x by omega)) hl)
      have hcm : ¬ cmpI (n : Int) (x : Int) ≥ 0 := by have := cmp_neg.2 (show n < x by omega); omega
      refine ⟨r, r0, by omega, r2, r3, ?_⟩
      obtain ⟨K, hK⟩ := r4
      refine ⟨max K 1002 + 1, fun k hk => ?_⟩
      obtain ⟨k, rfl⟩ : ∃ m, k = m + 1 := ⟨k - 1, by omega⟩
      show nat_num_root.l0 (k + 1) a (limbs x) = _
      rw [nat_num_root.l0.eq_2, hd, Option.bind_some]
      simp only []
      rw [hs, Option.bind_some, hr k (by omega), Option.bind_some, hc, Option.bind_some, if_neg hcm]
      exact hK k (by omega)
theorem root_ev (a : List Int) (ca : canon a) (la : a.length ≤ 256) : ∃ r, r * r ≤ val a ∧ val a < (r + 1) * (r + 1) ∧ Ev (fun k => nat_num_root.f k a) (limbs r) := by
  by_cases h0 : a.length = 0
  · have ha : a = [] := List.eq_nil_of_length_eq_zero h0
    subst ha
    refine ⟨0, by simp [val], by simp [val], ?_⟩
    unfold nat_num_root.f
    simp only [List.length_nil, Int.natCast_zero, if_true]
    rw [limbs_zero]
    exact Ev.now _
  · obtain ⟨m, hm⟩ : ∃ m, m = (a.length + 1) / 2 := ⟨_, rfl⟩
    have hw : wrap64 (Int.tdiv (wrap64 ((a.length : Int) + 1)) 2) = (m : Int) := by
      rw [w64 ((a.length : Int) + 1) (by omega), Int.tdiv_eq_ediv_of_nonneg (by omega), w64 _ (by omega)]; omega
    have hlt : val a < (4294967296 ^ m + 1) * (4294967296 ^ m + 1) := by
      have h1 := val_lt (canon_okL ca)
      have h2 := Nat.pow_le_pow_right (show 0 < 4294967296 by omega) (show a.length ≤ m + m by omega)
      rw [Nat.pow_add] at h2
      have h3 := Nat.mul_le_mul (Nat.le_succ (4294967296 ^ m)) (Nat.le_succ (4294967296 ^ m))
      exact Nat.lt_of_lt_of_le h1 (Nat.le_trans h2 h3)
    have hl : (limbs (4294967296 ^ m)).length ≤ 1000 := by rw [← zeros_one]; simp; omega
    obtain ⟨r, _, _, r2, r3, r4⟩ := root_loop a ca la (Nat.lt_of_lt_of_le (Nat.pow_pos (by omega)) (canon_ge ca (by intro e; rw [e] at h0; exact h0 rfl))) (4294967296 ^ m) (Nat.pow_pos (by omega)) hlt hl
    refine ⟨r, r2, r3, ?_⟩
    unfold nat_num_root.f
    simp only [if_neg (show ¬ (a.length : Int) = 0 by omega), hw, if_pos (show (0 : Int) ≤ (m : Int) by omega), Int.toNat_natCast, if_pos (show m ≤ 70368744177664 by omega), Option.bind_some, List.length_replicate, if_pos (show m < 35184372088832 by omega), zeros_one]
    exact r4
theorem NatRoots : bolterlaw01_NatRoots.Pure := by
  intro a ha1 ha2 ha
  have ha := okL_of_wf ha
  refine Ev.rounds ?_
  unfold bolterlaw01_NatRoots.f
  refine Ev.bind alive_ev ?_
  simp only [if_true]
  by_cases hc : chk a = 0
  case neg =>
    refine Ev.bind (a := (([] : List Int), chk a)) ?_ ?_
    · unfold nat_Root.f
      rw [check_f a (by omega)]
      simp only [Option.bind_some, if_neg hc]
      exact Ev.now _
    · simp only [bolterlaw01_num.f, Option.bind_some, if_neg hc]
      refine Ev.step (f := fun _ => some true) (fun k => ?_) (Ev.now _)
      rw [bolterlaw01_NatRoots.j0.eq_2, if_pos rfl]
      simp only [bolterlaw01_num.f, Option.bind_some, if_neg hc]
      rfl
  obtain ⟨la, ca⟩ := (chk_ok ha).1 hc
  obtain ⟨r, r1, r2, r3⟩ := root_ev a ca la
  refine Ev.bind (a := (limbs r, (0 : Int))) ?_ ?_
  · unfold nat_Root.f
    rw [check_f a (by omega)]
    simp only [Option.bind_some, if_pos hc]
    exact Ev.bind r3 (Ev.now _)
  simp only [bolterlaw01_num.f, Option.bind_some, if_true]
  by_cases hbig : a.length > 250
  · rw [decide_eq_true (show (a.length : Int) > 250 by omega)]
    refine Ev.step (f := fun _ => some true) (fun k => ?_) (Ev.now _)
    rw [bolterlaw01_NatRoots.j0.eq_2, if_pos rfl]
    simp only [bolterlaw01_num.f, Option.bind_some, if_true]
  rw [decide_eq_false (show ¬ (a.length : Int) > 250 by omega)]
  -- the sizes
  have hva : val a < 4294967296 ^ 250 := Nat.lt_of_lt_of_le (val_lt ha) (Nat.pow_le_pow_right (Nat.succ_pos _) (by omega))
  have hrb : r < 4294967296 ^ 125 := by
    rcases Nat.lt_or_ge r (4294967296 ^ 125) with h | h
    · exact h
    · exfalso
      have := Nat.mul_le_mul h h
      rw [← Nat.pow_add] at this
      exact Nat.lt_irrefl _ (Nat.lt_of_lt_of_le hva (Nat.le_trans this r1))
  have hl1 : (limbs r).length ≤ 125 := limbs_len hrb
  have hr1 : r + 1 < 4294967296 ^ 126 := by
    have e : 4294967296 ^ (125 + 1) = 4294967296 ^ 125 * 4294967296 := Nat.pow_succ ..
    generalize 4294967296 ^ 125 = Z at *
    rw [show 126 = 125 + 1 from rfl, e]
    omega
  have hl2 : (limbs (r + 1)).length ≤ 126 := limbs_len hr1
  have hl3 : (limbs (r * r)).length ≤ 256 := Nat.le_trans (limbs_mono2 r1) (by rw [ca]; omega)
  have hl4 : (limbs ((r + 1) * (r + 1))).length ≤ 252 := limbs_len (by
    have := Nat.mul_lt_mul'' hr1 hr1
    rw [← Nat.pow_add] at this
    exact this)
  have h1 : limbs 1 = [1] := by rw [limbs_pos (by omega), limbs_zero]; rfl
  have hl0 : (limbs 1).length ≤ 1 := by rw [h1]; simp
  have hs : addV (limbs r) (limbs 1) = (limbs (r + 1), 0) := by
    unfold addV fitsV
    rw [if_pos (canon_tw (canon_limbs _) (canon_limbs _) (by omega) (by omega)), val_limbs, val_limbs, if_neg (by omega)]
  have hm1 : mulV (limbs r) (limbs r) = (limbs (r * r), 0) := by
    unfold mulV fitsV
    rw [if_pos (canon_tw (canon_limbs _) (canon_limbs _) (by omega) (by omega)), val_limbs, if_neg (by omega)]
  have hm2 : mulV (limbs (r + 1)) (limbs (r + 1)) = (limbs ((r + 1) * (r + 1)), 0) := by
    unfold mulV fitsV
    rw [if_pos (canon_tw (canon_limbs _) (canon_limbs _) (by omega) (by omega)), val_limbs, if_neg (by omega)]
  have hc1 : cmpV (limbs (r * r)) a = (cmpI (r * r : Nat) (val a), 0) := by
    unfold cmpV
    rw [if_pos (canon_tw (canon_limbs _) ca hl3 la), val_limbs]
  have hc2 : cmpV (limbs ((r + 1) * (r + 1))) a = (cmpI ((r + 1) * (r + 1) : Nat) (val a), 0) := by
    unfold cmpV
    rw [if_pos (canon_tw (canon_limbs _) ca (by omega) la), val_limbs]
  have k1 : cmpI ((r * r : Nat) : Int) (val a : Int) ≤ 0 := by unfold cmpI; split <;> (try split) <;> omega
  have k2 : cmpI (((r + 1) * (r + 1) : Nat) : Int) (val a : Int) > 0 := by
    generalize (r + 1) * (r + 1) = Y at *
    unfold cmpI; split <;> (try split) <;> omega
  refine Ev.step (fun k => by rw [bolterlaw01_NatRoots.j0.eq_2, if_neg (by simp)]) ?_
  have hf : nat_From.f 1 = some (limbs 1) := from_f 1 (by omega)
  rw [hf]
  simp only [Option.bind_some, bolterlaw01_num.f]
  refine Ev.bind (a := addV (limbs r) (limbs 1)) ⟨3, fun k hk => add_f _ _ (okL_limbs _) (okL_limbs _) (by omega) (by omega) k hk⟩ ?_
  rw [hs]
  refine Ev.bind (a := mulV (limbs r) (limbs r)) ⟨70000, fun k hk => mul_f _ _ (okL_limbs _) (okL_limbs _) (by omega) (by omega) k hk⟩ ?_
  rw [hm1]
  refine Ev.bind (a := mulV (limbs (r + 1)) (limbs (r + 1))) ⟨70000, fun k hk => mul_f _ _ (okL_limbs _) (okL_limbs _) (by omega) (by omega) k hk⟩ ?_
  rw [hm2]
  refine Ev.bind (cmp_f (limbs (r * r)) a (okL_limbs _) ha (by omega) (by omega)) ?_
  rw [hc1]
  refine Ev.bind (cmp_f (limbs ((r + 1) * (r + 1))) a (okL_limbs _) ha (by omega) (by omega)) ?_
  rw [hc2]
  have hw : wrap64 (wrap64 (wrap64 (wrap64 (0 + 0) + 0) + 0) + 0) = 0 := by simp [w64]
  simp only [hw, if_true, if_pos k1, decide_eq_true k2]
  exact Ev.now _
end Go.Proofs.Ytdbnpaloalhciaa.Pure

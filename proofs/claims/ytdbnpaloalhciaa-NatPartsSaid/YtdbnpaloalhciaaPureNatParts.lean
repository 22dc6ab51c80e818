/- NatParts: for any two rows of limbs, quotient times divisor and rest is the dividend, and the rest is below the divisor; what may not be is refused. -/
import Derived.Test.YtdbnpaloalhciaaPq
import Derived.Test.YtdbnpaloalhciaaPx25
namespace Go.Proofs.Ytdbnpaloalhciaa.Pure
open Go.RowKit Go.Proofs.Ytdbnpaloalhciaa.P Go.Proofs.YtdbnpaloalhciaaW.PrintWords Go.Proofs.YtdbnpaloalhciaaW.PrintLast
set_option linter.unusedVariables false
set_option linter.unusedSimpArgs false
theorem same_ev (l : List Int) (h : l.length ≤ 4611686018427387904) : Ev (fun k => bolterplain_SameLimbs.f k l l) true := ⟨l.length + 1, fun k hk => by have := same_f l l h k hk; simpa using this⟩
theorem canon_tw {a b : List Int} (ha : canon a) (hb : canon b) (h1 : a.length ≤ 256) (h2 : b.length ≤ 256) : tw a b = 0 := (tw_ok (canon_okL ha) (canon_okL hb)).2 ⟨⟨h1, ha⟩, h2, hb⟩
theorem NatParts : bolterlaw01_NatParts.Pure := by
  intro a b ha1 ha2 ha hb1 hb2 hb
  have ha := okL_of_wf ha
  have hb := okL_of_wf hb
  refine Ev.rounds ?_
  unfold bolterlaw01_NatParts.f
  refine Ev.bind alive_ev ?_
  simp only [if_true]
  refine Ev.bind (a := divV a b) ⟨3, fun k hk => div_f a b ha hb (by omega) (by omega) k hk⟩ ?_
  simp only [bolterlaw01_num.f, Option.bind_some]
  by_cases ht : tw a b = 0
  case neg =>
    have hd : divV a b = ([], [], tw a b) := by unfold divV; rw [if_neg ht]
    rw [hd]
    simp only [if_neg ht]
    exact Ev.now _
  obtain ⟨⟨la, ca⟩, lb, cb⟩ := (tw_ok ha hb).1 ht
  by_cases h0 : b.length = 0
  · have hd : divV a b = ([], [], 53) := by unfold divV; rw [if_pos ht, if_pos h0]
    rw [hd]
    exact Ev.now _
  have hd : divV a b = (limbs (val a / val b), limbs (val a % val b), 0) := by unfold divV; rw [if_pos ht, if_neg h0]
  have hbn : b ≠ [] := by intro e; rw [e] at h0; exact h0 rfl
  have hB : 0 < val b := Nat.lt_of_lt_of_le (Nat.pow_pos (by omega)) (canon_ge cb hbn)
  have hla : (limbs (val a)).length ≤ 256 := by rw [ca]; exact la
  have hlq : (limbs (val a / val b)).length ≤ 256 := Nat.le_trans (limbs_mono2 (Nat.div_le_self _ _)) hla
  have hlr : (limbs (val a % val b)).length ≤ 256 := Nat.le_trans (limbs_mono2 (Nat.mod_le _ _)) hla
  have hlp : (limbs (val a / val b * val b)).length ≤ 256 := Nat.le_trans (limbs_mono2 (Nat.div_mul_le_self _ _)) hla
  rw [hd]
  simp only [if_true]
  have hm : mulV (limbs (val a / val b)) b = (limbs (val a / val b * val b), 0) := by
    unfold mulV fitsV
    rw [if_pos (canon_tw (canon_limbs _) cb hlq lb), val_limbs, if_neg (by omega)]
  have hs : addV (limbs (val a / val b * val b)) (limbs (val a % val b)) = (a, 0) := by
    unfold addV fitsV
    rw [if_pos (canon_tw (canon_limbs _) (canon_limbs _) hlp hlr), val_limbs, val_limbs, Nat.div_add_mod', if_neg (by omega), ca]
  have hc : cmpV (limbs (val a % val b)) b = (-1, 0) := by
    unfold cmpV
    rw [if_pos (canon_tw (canon_limbs _) cb hlr lb), val_limbs, cmp_lt (Nat.mod_lt _ hB)]
  refine Ev.bind (a := mulV (limbs (val a / val b)) b) ⟨70000, fun k hk => mul_f _ b (okL_limbs _) hb (by omega) (by omega) k hk⟩ ?_
  rw [hm]
  refine Ev.bind (a := addV (limbs (val a / val b * val b)) (limbs (val a % val b))) ⟨3, fun k hk => add_f _ _ (okL_limbs _) (okL_limbs _) (by omega) (by omega) k hk⟩ ?_
  rw [hs]
  refine Ev.bind (cmp_f (limbs (val a % val b)) b (okL_limbs _) hb (by omega) (by omega)) ?_
  rw [hc]
  simp only [Option.bind_some]
  have hw : wrap64 (wrap64 (0 + 0) + 0) = 0 := by simp [w64]
  simp only [hw, if_true]
  refine Ev.bind (same_ev a (by omega)) ?_
  simp only [if_true]
  exact Ev.now _
end Go.Proofs.Ytdbnpaloalhciaa.Pure

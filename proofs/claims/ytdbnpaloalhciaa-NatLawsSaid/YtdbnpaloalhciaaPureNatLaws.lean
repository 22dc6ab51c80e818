/- NatLaws: for any limbs, sums and products go either way round, and a product of a sum is the sum of the products; what is too long is refused. -/
import Derived.Test.YtdbnpaloalhciaaPe
namespace Go.Proofs.Ytdbnpaloalhciaa.Pure
open Go.RowKit Go.Proofs.Ytdbnpaloalhciaa.P Go.Proofs.YtdbnpaloalhciaaW.PrintWords Go.Proofs.YtdbnpaloalhciaaW.PrintLast
set_option linter.unusedVariables false
set_option linter.unusedSimpArgs false
theorem limbs_mono {m n : Nat} (h : m ≤ n) : (limbs m).length ≤ (limbs n).length := limbs_len (by
  have := val_lt (okL_limbs n)
  rw [val_limbs] at this
  omega)
theorem fitsV_zero {n : Nat} : (fitsV n).2 = 0 ↔ (limbs n).length ≤ 256 := by
  unfold fitsV
  split
  · simp; omega
  · simp; omega
theorem fitsV_yes {n : Nat} (h : (limbs n).length ≤ 256) : fitsV n = (limbs n, 0) := by unfold fitsV; rw [if_neg (by omega)]
theorem canon_tw {a b : List Int} (ha : canon a) (hb : canon b) (h1 : a.length ≤ 256) (h2 : b.length ≤ 256) : tw a b = 0 := (tw_ok (canon_okL ha) (canon_okL hb)).2 ⟨⟨h1, ha⟩, h2, hb⟩
theorem NatLaws : bolterlaw01_NatLaws.Pure := by
  intro a b c ha1 ha2 ha hb1 hb2 hb hc1 hc2 hc
  have ha := okL_of_wf ha
  have hb := okL_of_wf hb
  have hc := okL_of_wf hc
  obtain ⟨K, hK⟩ := alive_ev
  refine ⟨max K 80000 + 1, ?_⟩
  generalize hk : max K 80000 = k
  have hk1 : K ≤ k + 1 := by omega
  have hk2 : 80000 ≤ k := by omega
  have hs := addV_ok a b
  unfold bolterlaw01_NatLaws.f
  rw [hK _ hk1]
  simp only [Option.bind_some, if_true, bolterlaw01_num.f]
  rw [add_f a b ha hb (by omega) (by omega) _ (by omega)]
  simp only [Option.bind_some]
  rw [mul_f _ c hs.1 hc (by omega) (by omega) _ (by omega)]
  simp only [Option.bind_some]
  have bad : (addV a b).2 ≠ 0 ∨ (mulV (addV a b).1 c).2 ≠ 0 → bolterlaw01_NatLaws.j0 (k + 1) a b c (addV a b).1 (mulV (addV a b).1 c).1 true = some true := by
    intro h
    rw [bolterlaw01_NatLaws.j0.eq_2, if_pos rfl]
    by_cases h0 : ((addV a b).1.length : Int) = 0
    · rw [if_pos h0]
    · rw [if_neg h0]
      have e : (addV a b).2 = 0 := by
        unfold addV at h0 ⊢
        split
        · rename_i ht
          rw [if_pos ht] at h0
          unfold fitsV at h0 ⊢
          split
          · rename_i hl; rw [if_pos hl] at h0; simp at h0
          · rfl
        · rename_i ht; rw [if_neg ht] at h0; simp at h0
      have h := h.resolve_left (fun hh => hh e)
      have : (mulV (addV a b).1 c).1 = [] := by
        unfold mulV at h ⊢
        split
        · rename_i ht
          rw [if_pos ht] at h
          unfold fitsV at h ⊢
          split
          · rfl
          · rename_i hl; rw [if_neg hl] at h; simp at h
        · rfl
      rw [this]
      rfl
  by_cases he : (addV a b).2 = 0
  case neg => rw [if_neg he]; exact bad (.inl he)
  rw [if_pos he]
  by_cases hf : (mulV (addV a b).1 c).2 = 0
  case neg =>
    rw [show ((mulV (addV a b).1 c).2 != 0) = true by simp [hf]]
    exact bad (.inr hf)
  rw [show ((mulV (addV a b).1 c).2 != 0) = false by simp [hf]]
  clear bad
  have t1 : tw a b = 0 := by
    by_cases h : tw a b = 0
    · exact h
    · unfold addV at he; rw [if_neg h] at he; exact he
  obtain ⟨⟨la, ca⟩, lb, cb⟩ := (tw_ok ha hb).1 t1
  have f1 : (limbs (val a + val b)).length ≤ 256 := by
    unfold addV at he; rw [if_pos t1] at he; exact fitsV_zero.1 he
  have s1 : addV a b = (limbs (val a + val b), 0) := by unfold addV; rw [if_pos t1, fitsV_yes f1]
  rw [s1] at hf ⊢
  have t2 : tw (limbs (val a + val b)) c = 0 := by
    by_cases h : tw (limbs (val a + val b)) c = 0
    · exact h
    · unfold mulV at hf; rw [if_neg h] at hf; exact hf
  obtain ⟨_, lc, cc⟩ := (tw_ok (okL_limbs _) hc).1 t2
  have f2 : (limbs ((val a + val b) * val c)).length ≤ 256 := by
    unfold mulV at hf; rw [if_pos t2, val_limbs] at hf; exact fitsV_zero.1 hf
  have s2 : mulV (limbs (val a + val b)) c = (limbs ((val a + val b) * val c), 0) := by unfold mulV; rw [if_pos t2, val_limbs, fitsV_yes f2]
  have s3 : addV b a = (limbs (val a + val b), 0) := by unfold addV; rw [if_pos (canon_tw cb ca lb la), Nat.add_comm, fitsV_yes f1]
  have l4 : (limbs (val a * val c)).length ≤ 256 := Nat.le_trans (limbs_mono (by rw [Nat.add_mul]; omega)) f2
  have l5 : (limbs (val c * val b)).length ≤ 256 := Nat.le_trans (limbs_mono (by rw [Nat.add_mul, Nat.mul_comm (val c)]; omega)) f2
  have s4 : mulV a c = (limbs (val a * val c), 0) := by unfold mulV; rw [if_pos (canon_tw ca cc la lc), fitsV_yes l4]
  have s5 : mulV c b = (limbs (val c * val b), 0) := by unfold mulV; rw [if_pos (canon_tw cc cb lc lb), fitsV_yes l5]
  have s6 : addV (limbs (val a * val c)) (limbs (val c * val b)) = (limbs ((val a + val b) * val c), 0) := by
    unfold addV
    rw [if_pos (canon_tw (canon_limbs _) (canon_limbs _) l4 l5), val_limbs, val_limbs, Nat.mul_comm (val c), ← Nat.add_mul, fitsV_yes f2]
  rw [s2, bolterlaw01_NatLaws.j0.eq_2]
  rw [if_neg (by simp), add_f b a hb ha (by omega) (by omega) _ (by omega)]
  simp only [Option.bind_some]
  rw [mul_f a c ha hc (by omega) (by omega) _ (by omega)]
  simp only [Option.bind_some]
  rw [mul_f c b hc hb (by omega) (by omega) _ (by omega)]
  simp only [Option.bind_some]
  rw [s3, s4, s5]
  simp only [Option.bind_some]
  rw [add_f _ _ (okL_limbs _) (okL_limbs _) (by omega) (by omega) _ (by omega), s6]
  simp only [Option.bind_some, bolterlaw01_num.f]
  rw [if_pos (by simp [w64]), same_f _ _ (by omega) _ (by omega)]
  simp only [Option.bind_some, decide_true, if_true]
  rw [same_f _ _ (by omega) _ (by omega)]
  simp
end Go.Proofs.Ytdbnpaloalhciaa.Pure

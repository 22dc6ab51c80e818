/- NatBack: for any limbs and any text, a number comes back from its digits, and digits come back from their number but for 0 at the beginning. -/
import Derived.Test.YtdbnpaloalhciaaPh
import Derived.Test.YtdbnpaloalhciaaPx12
namespace Go.Proofs.Ytdbnpaloalhciaa.Pure
open Go.RowKit Go.Proofs.Ytdbnpaloalhciaa.P Go.Proofs.YtdbnpaloalhciaaW.PrintWords Go.Proofs.YtdbnpaloalhciaaW.PrintLast
set_option linter.unusedVariables false
set_option linter.unusedSimpArgs false
theorem parse_len (s : ByteArray) (h : (parseV s).2 = 0) : 0 < s.size ∧ s.size ≤ 2400 ∧ digB (bytesOf s) = true ∧ parseV s = (limbs (dnum (bytesOf s)), 0) := by
  unfold parseV at h ⊢
  by_cases h0 : s.size = 0
  · rw [if_pos h0] at h; simp at h
  · rw [if_neg h0] at h ⊢
    by_cases h1 : s.size > 2400
    · rw [if_pos h1] at h; simp at h
    · rw [if_neg h1] at h ⊢
      by_cases h2 : digB (bytesOf s) = true
      · rw [if_pos h2]; exact ⟨by omega, by omega, h2, rfl⟩
      · rw [if_neg h2] at h; simp at h
theorem parse_text (n : Nat) (h : (text n).size ≤ 2400) : parseV (text n) = (limbs n, 0) := by
  have h0 : (text n).size ≠ 0 := by
    rw [text_size]
    split
    · omega
    · rename_i hn; rw [decs_pos hn]; simp
  unfold parseV
  rw [if_neg h0, if_neg (by omega), if_pos (text_dig n), text_num]
theorem parseV_okL (s : ByteArray) : okL (parseV s).1 := by
  unfold parseV
  split
  · exact okL_nil
  · split
    · exact okL_nil
    · split
      · exact okL_limbs _
      · exact okL_nil
theorem parseV_len (s : ByteArray) : (parseV s).1.length ≤ 2400 := by
  unfold parseV
  split
  · simp
  · split
    · simp
    · split
      · rename_i h
        exact Nat.le_trans (parse_bound (dnum_lt _ h)) (by rw [bytesOf_length]; omega)
      · simp
theorem NatBack : bolterlaw01_NatBack.Pure := by
  intro a s ha1 ha2 ha hs
  have ha := okL_of_wf ha
  refine Ev.rounds ?_
  unfold bolterlaw01_NatBack.f
  refine Ev.bind alive_ev ?_
  simp only [if_true]
  refine Ev.bind (print_f a ha (by omega)) ?_
  simp only [parse_f, Option.bind_some]
  have hp := parseV_len s
  refine Ev.bind (print_f _ (parseV_okL s) (by omega)) ?_
  simp only [bolterlaw01_num.f, Option.bind_some]
  have last : Ev (fun k => bolterlaw01_NatBack.j0 k s (parseV s).2 (printV (parseV s).1).1 (printV (parseV s).1).2 false) true := by
    by_cases hg : (parseV s).2 = 0
    · obtain ⟨h0, h1, h2, h3⟩ := parse_len s hg
      have hl : (limbs (dnum (bytesOf s))).length ≤ 256 := limbs_len (Nat.lt_of_lt_of_le (dnum_lt _ h2) (Nat.le_trans (top_ge (by rw [bytesOf_length]; exact h1)) (Nat.le_of_lt ten_bound)))
      have hc : chk (limbs (dnum (bytesOf s))) = 0 := (chk_ok (okL_limbs _)).2 ⟨hl, canon_limbs _⟩
      have hu : printV (limbs (dnum (bytesOf s))) = (text (dnum (bytesOf s)), 0) := by unfold printV; rw [if_pos hc, val_limbs]
      rw [h3]
      simp only []
      rw [hu]
      refine Ev.step (f := fun _ => some true) (fun k => ?_) (Ev.now _)
      rw [bolterlaw01_NatBack.j0.eq_2, if_neg (by simp)]
      simp only [bolterlaw01_num.f, Option.bind_some, if_true]
      by_cases hf : (bytesOf s).getD 0 0 = 48
      · have hb : bt s 0 = 48 := by have := bt_bytes s 0; rw [hf] at this; exact this
        split
        · rfl
        · rw [if_pos (by omega)]
          have := text_short h2 h0
          simp
          exact this
      · rw [text_back h2 h0 hf, if_pos rfl]
    · refine Ev.step (f := fun _ => some true) (fun k => ?_) (Ev.now _)
      rw [bolterlaw01_NatBack.j0.eq_2, if_neg (by simp)]
      simp only [bolterlaw01_num.f, Option.bind_some, if_neg hg]
  by_cases hc : chk a = 0
  · obtain ⟨h1, h2⟩ := (chk_ok ha).1 hc
    have hu : printV a = (text (val a), 0) := by unfold printV; rw [if_pos hc]
    rw [hu]
    simp only [if_true]
    by_cases hz : (text (val a)).size ≤ 2400
    · simp only [if_pos (show ((text (val a)).size : Int) ≤ 2400 by omega)]
      rw [parse_text _ hz]
      simp only [if_true]
      rw [h2]
      refine Ev.bind (a := true) ⟨a.length + 1, fun k hk => by have := same_f a a (by omega) k hk; simpa using this⟩ ?_
      exact last
    · simp only [if_neg (show ¬ ((text (val a)).size : Int) ≤ 2400 by omega)]
      exact last
  · have hu : printV a = (⟨#[]⟩, chk a) := by unfold printV; rw [if_neg hc]
    rw [hu]
    simp only [if_neg hc]
    exact last
end Go.Proofs.Ytdbnpaloalhciaa.Pure

/- NatTexts: for any text, limbs and whole number, the text's number, the limbs' digits, and the power of ten are as the page tells them by decimal digits. -/
import Derived.Test.YtdbnpaloalhciaaPh
import Derived.Test.YtdbnpaloalhciaaPx11
namespace Go.Proofs.Ytdbnpaloalhciaa.Pure
open Go.RowKit Go.Proofs.Ytdbnpaloalhciaa.P Go.Proofs.YtdbnpaloalhciaaW.PrintWords Go.Proofs.YtdbnpaloalhciaaW.PrintLast
set_option linter.unusedVariables false
set_option linter.unusedSimpArgs false
theorem same_ev (l : List Int) (h : l.length ≤ 4611686018427387904) : Ev (fun k => bolterplain_SameLimbs.f k l l) true := ⟨l.length + 1, fun k hk => by have := same_f l l h k hk; simpa using this⟩
theorem parseV_len (s : ByteArray) : (parseV s).1.length ≤ 2400 := by
  unfold parseV
  split
  · simp
  · split
    · simp
    · split
      · rename_i h
        exact Nat.le_trans (parse_bound (dnum_lt _ h)) (by rw [bytesOf_length]; omega)
      · simp
theorem powV_len (n : Int) : (powV n).1.length ≤ 256 := by
  unfold powV
  split
  · exact limbs_len (Nat.lt_of_le_of_lt (top_ge (by omega)) ten_bound)
  · simp
theorem NatTexts : bolterlaw01_NatTexts.Pure := by
  intro s a n hs ha1 ha2 ha hn
  have ha := okL_of_wf ha
  refine Ev.rounds ?_
  unfold bolterlaw01_NatTexts.f
  rw [parse_f]
  simp only [Option.bind_some]
  refine Ev.bind (ref_parse s) (Ev.bind (print_f a ha (by omega)) (Ev.bind (ref_print a ha (by omega)) ?_))
  refine Ev.bind (a := powV n) ⟨80000, fun k hk => pow_f n k hk⟩ (Ev.bind (ref_pow n) ?_)
  have h1 := parseV_len s
  have h2 := powV_len n
  refine Ev.bind (same_ev _ (by omega)) ?_
  simp only [if_true, bolterlaw01_num.f, Option.bind_some]
  refine Ev.bind (same_ev _ (by omega)) ?_
  simp only [if_true]
  exact Ev.bind alive_ev (Ev.now _)
end Go.Proofs.Ytdbnpaloalhciaa.Pure

/- NatOwn: for any two rows of limbs, sum and rest are as the page says by decimal digits, whatever becomes of what was handed in. -/
import Derived.Test.YtdbnpaloalhciaaPq
import Derived.Test.YtdbnpaloalhciaaPx24
namespace Go.Proofs.Ytdbnpaloalhciaa.Pure
open Go.RowKit Go.Proofs.Ytdbnpaloalhciaa.P Go.Proofs.YtdbnpaloalhciaaW.PrintWords Go.Proofs.YtdbnpaloalhciaaW.PrintLast
set_option linter.unusedVariables false
set_option linter.unusedSimpArgs false
theorem same_ev (l : List Int) (h : l.length ≤ 4611686018427387904) : Ev (fun k => bolterplain_SameLimbs.f k l l) true := ⟨l.length + 1, fun k hk => by have := same_f l l h k hk; simpa using this⟩
theorem NatOwn : bolterlaw01_NatOwn.Pure := by
  intro a b ha1 ha2 ha hb1 hb2 hb
  have ha := okL_of_wf ha
  have hb := okL_of_wf hb
  obtain ⟨ra, hra⟩ := spoil_ev a (by omega)
  obtain ⟨rb, hrb⟩ := spoil_ev b (by omega)
  refine Ev.rounds ?_
  unfold bolterlaw01_NatOwn.f
  refine Ev.bind alive_ev ?_
  simp only [if_true]
  rw [copy_f a (by omega), copy_f b (by omega)]
  simp only [Option.bind_some]
  refine Ev.bind (a := addV a b) ⟨3, fun k hk => add_f a b ha hb (by omega) (by omega) k hk⟩ ?_
  refine Ev.bind (a := divV a b) ⟨3, fun k hk => div_f a b ha hb (by omega) (by omega) k hk⟩ ?_
  refine Ev.bind hra (Ev.bind hrb (Ev.bind (ref_add a b ha hb (by omega) (by omega)) (Ev.bind (ref_div a b ha hb (by omega) (by omega)) ?_)))
  have h1 := (addV_ok a b).2
  have h2 := (divV_len a b ha hb).2
  refine Ev.bind (same_ev _ (by omega)) ?_
  simp only [if_true, bolterlaw01_num.f, Option.bind_some]
  refine Ev.bind (same_ev _ (by omega)) ?_
  simp only [if_true, beq_self_eq_true]
  exact Ev.now _
end Go.Proofs.Ytdbnpaloalhciaa.Pure

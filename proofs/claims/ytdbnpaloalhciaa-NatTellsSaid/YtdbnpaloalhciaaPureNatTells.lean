/- NatTells: for any limbs, whether they may be, their order, sum, difference and product, and the limbs of any number, are as the page tells them by decimal digits; what was handed in stays. -/
import Derived.Test.YtdbnpaloalhciaaPf
import Derived.Test.YtdbnpaloalhciaaPx19
namespace Go.Proofs.Ytdbnpaloalhciaa.Pure
open Go.RowKit Go.Proofs.Ytdbnpaloalhciaa.P Go.Proofs.YtdbnpaloalhciaaW.PrintWords Go.Proofs.YtdbnpaloalhciaaW.PrintLast
set_option linter.unusedVariables false
set_option linter.unusedSimpArgs false
theorem u64_wf {x : Int} (h : (Lit.int .u64 x).wf = true) : 0 ≤ x ∧ x < 18446744073709551616 := by
  simp [Lit.wf, IntKind.min, IntKind.max, IntKind.signed, IntKind.bits] at h
  omega
theorem same_ev (l : List Int) (h : l.length ≤ 4611686018427387904) : Ev (fun k => bolterplain_SameLimbs.f k l l) true := ⟨l.length + 1, fun k hk => by have := same_f l l h k hk; simpa using this⟩
theorem subV_len (a b : List Int) (ha : okL a) (hb : okL b) : (subV a b).1.length ≤ 256 := by
  unfold subV
  split
  · rename_i h
    obtain ⟨⟨h1, h2⟩, h3, h4⟩ := (tw_ok ha hb).1 h
    split
    · simp
    · exact Nat.le_trans (limbs_len (Nat.lt_of_le_of_lt (Nat.sub_le _ _) (val_lt ha))) h1
  · simp
theorem NatTells : bolterlaw01_NatTells.Pure := by
  intro a b n ha1 ha2 ha hb1 hb2 hb hn
  have ha := okL_of_wf ha
  have hb := okL_of_wf hb
  have hn := u64_wf hn
  obtain ⟨m, rfl⟩ : ∃ m : Nat, n = m := ⟨n.toNat, by omega⟩
  refine Ev.rounds ?_
  unfold bolterlaw01_NatTells.f
  rw [copy_f a (by omega), copy_f b (by omega)]
  simp only [Option.bind_some]
  refine Ev.bind (cmp_f a b ha hb (by omega) (by omega)) (Ev.bind (ref_cmp a b ha hb (by omega) (by omega)) ?_)
  refine Ev.bind (a := addV a b) ⟨3, fun k hk => add_f a b ha hb (by omega) (by omega) k hk⟩ (Ev.bind (ref_add a b ha hb (by omega) (by omega)) ?_)
  refine Ev.bind (sub_f a b ha hb (by omega) (by omega)) (Ev.bind (ref_sub a b ha hb (by omega) (by omega)) ?_)
  refine Ev.bind (a := mulV a b) ⟨70000, fun k hk => mul_f a b ha hb (by omega) (by omega) k hk⟩ (Ev.bind (ref_mul a b ha hb (by omega) (by omega)) ?_)
  simp only [if_true, bolterlaw01_num.f, Option.bind_some]
  have h1 := (addV_ok a b).2
  have h2 := subV_len a b ha hb
  have h3 := (mulV_ok a b).2
  refine Ev.bind (same_ev _ (by omega)) ?_
  simp only [if_true]
  refine Ev.bind (same_ev _ (by omega)) ?_
  simp only [if_true]
  refine Ev.bind (same_ev _ (by omega)) ?_
  simp only [if_true, bne_self_eq_false]
  refine Ev.step (fun k => by rw [bolterlaw01_NatTells.j0.eq_2, if_neg (by simp)]) ?_
  rw [check_f a (by omega), ref_check a (by omega), from_f m (by omega), ref_from m (by omega)]
  simp only [if_true, bolterlaw01_num.f, Option.bind_some]
  have h4 : (limbs m).length ≤ 2 := limbs_len (by omega)
  refine Ev.bind (same_ev _ (by omega)) ?_
  simp only [if_true]
  refine Ev.bind (same_ev _ (by omega)) ?_
  simp only [if_true]
  refine Ev.bind (same_ev _ (by omega)) ?_
  simp only [if_true]
  exact Ev.bind alive_ev (Ev.now _)
end Go.Proofs.Ytdbnpaloalhciaa.Pure

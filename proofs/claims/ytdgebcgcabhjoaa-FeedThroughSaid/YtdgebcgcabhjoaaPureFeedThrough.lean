/- FeedThrough: what comes out of the queue, step by step, is what the page's two lists tell. -/
import Derived.Test.YtdgebcgcabhjoaaPx2
namespace Go.Proofs.Ytdgebcgcabhjoaa.Pure
open Go.RowKit Go.Proofs.Ytdgebcgcabhjoaa.P Go.Proofs.YtdgebcgcabhjoaaW.PrintWords Go.Proofs.YtdgebcgcabhjoaaW.PrintLast
set_option linter.unusedVariables false
set_option linter.unusedSimpArgs false

theorem wr64 {x : Int} (h : -9223372036854775808 ≤ x ∧ x ≤ 9223372036854775807) : wrap64 x = x := by unfold wrap64; omega

theorem same_loop (l : List Int) (hz : l.length ≤ 4611686018427387904) : ∀ (m i : Nat), i + m = l.length → Ev (fun k => bolterplain_SameInts.l0 k l l i) true
  | 0, i, h => by
    refine Ev.step (fun k => by rw [bolterplain_SameInts.l0.eq_2, if_neg (by omega)]) (Ev.now _)
  | m + 1, i, h => by
    have ih := same_loop l hz m (i + 1) (by omega)
    refine Ev.step (fun k => ?_) ih
    rw [bolterplain_SameInts.l0.eq_2, if_pos (by omega), if_pos (by omega), if_pos (by omega), if_pos rfl, wr64 (by omega)]
    rfl
theorem same_f (l : List Int) (hz : l.length ≤ 4611686018427387904) : Ev (fun k => bolterplain_SameInts.f k l l) true := by
  unfold bolterplain_SameInts.f
  simp only [if_true]
  exact same_loop l hz l.length 0 (by omega)

def bigB (l : List Int) : Bool := l.any fun x => decide (x > 4096)
theorem small_big (u v : List Int) : smallB (u ++ v) = !(bigB u || bigB v) := by
  unfold smallB bigB
  rw [← List.any_append]
  induction u ++ v with
  | nil => rfl
  | cons x l ih =>
    rw [List.all_cons, List.any_cons, ih]
    by_cases h : x ≤ 4096
    · rw [decide_eq_true h, decide_eq_false (by omega)]; rfl
    · rw [decide_eq_false h, decide_eq_true (by omega)]; rfl
theorem big_drop {l : List Int} {i : Nat} (h : i < l.length) : bigB (l.drop i) = (decide (rd l i > 4096) || bigB (l.drop (i + 1))) := by
  rw [rd_getD, List.drop_eq_getElem_cons h]
  unfold bigB
  rw [List.any_cons, List.getD_eq_getElem?_getD, List.getElem?_eq_getElem h]
  rfl
section
variable (a0 : Int) (u v x7 : List Int) (x8 x9 : Int)
theorem first_loop (hu : u.length ≤ 4611686018427387904) : ∀ (m i : Nat) (bad : Bool), i + m = u.length → Ev (fun k => bolterlaw34_FeedThrough.l1 k a0 u v x7 x8 x9 (bad || bigB (u.drop i)) 0) true →
    Ev (fun k => bolterlaw34_FeedThrough.l0 k a0 u v x7 x8 x9 bad i) true
  | 0, i, bad, h, H => by
    rw [List.drop_of_length_le (by omega), show bigB [] = false from rfl, Bool.or_false] at H
    exact Ev.step (fun k => by rw [bolterlaw34_FeedThrough.l0.eq_2, if_neg (by omega)]) H
  | m + 1, i, bad, h, H => by
    rw [big_drop (by omega)] at H
    cases bad with
    | true =>
      have ih := first_loop hu m (i + 1) true (by omega) (by simpa using H)
      refine Ev.step (fun k => ?_) ih
      rw [bolterlaw34_FeedThrough.l0.eq_2, if_pos (by omega), if_pos rfl, wr64 (by omega)]
      rfl
    | false =>
      have ih := first_loop hu m (i + 1) (decide (rd u i > 4096)) (by omega) (by simpa using H)
      refine Ev.step (fun k => ?_) ih
      rw [bolterlaw34_FeedThrough.l0.eq_2, if_pos (by omega), if_neg (by simp), if_pos (by omega), wr64 (by omega)]
      rfl
theorem second_loop (hv : v.length ≤ 4611686018427387904) : ∀ (m i : Nat) (bad : Bool), i + m = v.length → Ev (fun k => bolterlaw34_FeedThrough.j3 k a0 u v x7 x8 x9 (bad || bigB (v.drop i)) (decide (a0 < 1 ∨ 4096 < a0))) true →
    Ev (fun k => bolterlaw34_FeedThrough.l1 k a0 u v x7 x8 x9 bad i) true
  | 0, i, bad, h, H => by
    rw [List.drop_of_length_le (by omega), show bigB [] = false from rfl, Bool.or_false] at H
    refine Ev.step (fun k => ?_) H
    rw [bolterlaw34_FeedThrough.l1.eq_2, if_neg (by omega)]
    by_cases h0 : a0 < 1
    · rw [if_pos h0, decide_eq_true (.inl h0)]
    · rw [if_neg h0]
      congr 1
      simp [h0]
  | m + 1, i, bad, h, H => by
    rw [big_drop (by omega)] at H
    cases bad with
    | true =>
      have ih := second_loop hv m (i + 1) true (by omega) (by simpa using H)
      refine Ev.step (fun k => ?_) ih
      rw [bolterlaw34_FeedThrough.l1.eq_2, if_pos (by omega), if_pos rfl, wr64 (by omega)]
      rfl
    | false =>
      have ih := second_loop hv m (i + 1) (decide (rd v i > 4096)) (by omega) (by simpa using H)
      refine Ev.step (fun k => ?_) ih
      rw [bolterlaw34_FeedThrough.l1.eq_2, if_pos (by omega), if_neg (by simp), if_pos (by omega), wr64 (by omega)]
      rfl
theorem puts_end (i : Nat) (q out : List Int) (nx ms : Int) (kk : Int) (H : Ev (fun k => bolterlaw34_FeedThrough.l4 k a0 u v x7 x8 x9 q out nx ms i 0) true) (h : ¬ ((i : Int) < u.length ∧ kk < rd u i)) :
    Ev (fun k => bolterlaw34_FeedThrough.l3 k a0 u v x7 x8 x9 q out nx ms i kk) true := by
  have hj : Ev (fun k => bolterlaw34_FeedThrough.j7 k a0 u v x7 x8 x9 q out nx ms i kk false) true := Ev.step (fun k => by rw [bolterlaw34_FeedThrough.j7.eq_2, if_neg (by simp)]) H
  refine Ev.step (fun k => ?_) hj
  rw [bolterlaw34_FeedThrough.l3.eq_2]
  by_cases hi : (i : Int) < u.length
  · rw [if_pos hi, if_pos (by omega), decide_eq_false (fun hk => h ⟨hi, hk⟩)]
  · rw [if_neg hi]
theorem puts_loop (n : Nat) (ha : a0 = n) (hn : n ≤ 4096) (i : Nat) (hs : smallB (u ++ v) = true) (s : List Int × Nat × Nat) (hq : s.1.length ≤ n) (hx : s.2.1 ≤ 2000000) (hm : s.2.2 ≤ 2000000) (out : List Int) : ∀ (m k : Nat), k + m = (u.getD i 0).toNat →
    Ev (fun f => bolterlaw34_FeedThrough.l4 f a0 u v x7 x8 x9 (putsS n (u.getD i 0).toNat s).1 out (putsS n (u.getD i 0).toNat s).2.1 (putsS n (u.getD i 0).toNat s).2.2 i 0) true →
    Ev (fun f => bolterlaw34_FeedThrough.l3 f a0 u v x7 x8 x9 (putsS n k s).1 out (putsS n k s).2.1 (putsS n k s).2.2 i k) true
  | 0, k, h, H => by
    obtain rfl : k = (u.getD i 0).toNat := by omega
    refine puts_end a0 u v x7 x8 x9 i _ _ _ _ _ H ?_
    rintro ⟨h1, h2⟩
    rw [rd_getD] at h2
    omega
  | m + 1, k, h, H => by
    have ih := puts_loop n ha hn i hs s hq hx hm out m (k + 1) (by omega) H
    have hb := (small_at hs i).1
    obtain ⟨b1, b2, b3⟩ := putsS_bd n s hq k
    have hi : i < u.length := by
      rcases Nat.lt_or_ge i u.length with hi | hi
      · exact hi
      · rw [List.getD_eq_getElem?_getD, List.getElem?_eq_none hi] at h
        simp at h
    have hk : (k : Int) < rd u i := by rw [rd_getD]; omega
    have hsu : putsS n (k + 1) s = putS n (putsS n k s) := rfl
    rw [hsu] at ih
    unfold putS at ih
    generalize putsS n k s = p at *
    obtain ⟨q, nx, ms⟩ := p
    simp only at b1 b2 b3 ih ⊢
    refine Ev.step (f := fun f => bolterlaw34_FeedThrough.j7 f a0 u v x7 x8 x9 q out nx ms i k true) (fun f => by rw [bolterlaw34_FeedThrough.l3.eq_2, if_pos (by omega), if_pos (by omega), decide_eq_true hk]) ?_
    by_cases hr : q.length < n
    · rw [if_pos hr] at ih
      refine Ev.step (fun f => ?_) ih
      rw [bolterlaw34_FeedThrough.j7.eq_2, if_pos rfl, if_pos (by omega), if_pos (by omega), wr64 (by omega), wr64 (by omega)]
      rfl
    · rw [if_neg hr] at ih
      refine Ev.step (fun f => ?_) ih
      rw [bolterlaw34_FeedThrough.j7.eq_2, if_pos rfl, if_neg (by omega), wr64 (by omega), wr64 (by omega), wr64 (by omega)]
      rfl
theorem takes_none (s : List Int × List Int) (k : Nat) (h : (takesS k s).1 = []) : ∀ m, takesS (k + m) s = takesS k s
  | 0 => rfl
  | m + 1 => by
    have ih := takes_none s k h m
    show takeS (takesS (k + m) s) = _
    rw [ih]
    unfold takeS
    rw [h]
theorem takes_end (i : Nat) (hi : i ≤ 4611686018427387904) (q out : List Int) (nx ms : Int) (kk : Int) (H : Ev (fun k => bolterlaw34_FeedThrough.l2 k a0 u v x7 x8 x9 q out nx ms ((i + 1 : Nat) : Int)) true) (h : ¬ ((i : Int) < v.length ∧ kk < rd v i) ∨ q = []) :
    Ev (fun k => bolterlaw34_FeedThrough.l4 k a0 u v x7 x8 x9 q out nx ms i kk) true := by
  refine Ev.step (fun k => ?_) H
  have hw : wrap64 ((i : Int) + 1) = ((i + 1 : Nat) : Int) := by rw [wr64 (by omega)]; omega
  rw [bolterlaw34_FeedThrough.l4.eq_2, hw]
  by_cases h1 : (i : Int) < v.length
  · rw [if_pos h1, if_pos (by omega)]
    by_cases h2 : kk < rd v i
    · rcases h with h | rfl
      · exact absurd ⟨h1, h2⟩ h
      · rw [if_pos h2, if_neg (by simp)]
    · rw [if_neg h2]
  · rw [if_neg h1]
theorem takes_loop (i : Nat) (hil : i ≤ 4611686018427387904) (hs : smallB (u ++ v) = true) (s : List Int × List Int) (ho : s.2.length ≤ 2000000) (nx ms : Int) : ∀ (m k : Nat), k + m = (v.getD i 0).toNat →
    Ev (fun f => bolterlaw34_FeedThrough.l2 f a0 u v x7 x8 x9 (takesS (v.getD i 0).toNat s).1 (takesS (v.getD i 0).toNat s).2 nx ms ((i + 1 : Nat) : Int)) true →
    Ev (fun f => bolterlaw34_FeedThrough.l4 f a0 u v x7 x8 x9 (takesS k s).1 (takesS k s).2 nx ms i k) true
  | 0, k, h, H => by
    obtain rfl : k = (v.getD i 0).toNat := by omega
    refine takes_end a0 u v x7 x8 x9 i hil _ _ _ _ _ H (.inl ?_)
    rintro ⟨h1, h2⟩
    rw [rd_getD] at h2
    omega
  | m + 1, k, h, H => by
    by_cases he : (takesS k s).1 = []
    · rw [← h, takes_none s k he] at H
      exact takes_end a0 u v x7 x8 x9 i hil _ _ _ _ _ H (.inr he)
    have ih := takes_loop i hil hs s ho nx ms m (k + 1) (by omega) H
    have hb := (small_at hs i).2
    obtain ⟨b1, b2⟩ := takesS_bd s k
    have hi : i < v.length := by
      rcases Nat.lt_or_ge i v.length with hi | hi
      · exact hi
      · rw [List.getD_eq_getElem?_getD, List.getElem?_eq_none hi] at h
        simp at h
    have hk : (k : Int) < rd v i := by rw [rd_getD]; omega
    have hsu : takesS (k + 1) s = takeS (takesS k s) := rfl
    rw [hsu] at ih
    generalize takesS k s = p at *
    obtain ⟨q, o⟩ := p
    cases q with
    | nil => exact absurd rfl he
    | cons x q =>
      simp only at b1 b2 ⊢
      refine Ev.step (fun f => ?_) ih
      rw [bolterlaw34_FeedThrough.l4.eq_2, if_pos (by omega), if_pos (by omega), if_pos hk, if_pos (by rw [List.length_cons]; omega), if_pos (by rw [List.length_cons]; omega), if_pos (by omega), if_pos (by rw [List.length_cons]; omega), wr64 (by omega)]
      rfl
end
theorem steps_loop (n : Nat) (hn : n ≤ 4096) (u v : List Int) (hu : u.length ≤ 256) (hv : v.length ≤ 256) (hs : smallB (u ++ v) = true) : ∀ (m i : Nat), i + m = max u.length v.length →
    Ev (fun f => bolterlaw34_FeedThrough.l2 f n u v (stepsS n u v (max u.length v.length)).2.2.2 ((stepsS n u v (max u.length v.length)).2.2.1 : Nat) 0 (stepsS n u v i).1 (stepsS n u v i).2.2.2 ((stepsS n u v i).2.1 : Nat) ((stepsS n u v i).2.2.1 : Nat) i) true
  | 0, i, h => by
    obtain rfl : i = max u.length v.length := by omega
    obtain ⟨b1, b2, b3, b4⟩ := stepsS_bd n u v hs (max u.length v.length)
    have hL : (stepsS n u v (max u.length v.length)).2.2.2.length ≤ 4611686018427387904 := by omega
    generalize stepsS n u v (max u.length v.length) = s at *
    refine Ev.step (f := fun f => bolterlaw34_FeedThrough.j5 f n u v s.2.2.2 (s.2.2.1 : Nat) 0 s.1 s.2.2.2 (s.2.1 : Nat) (s.2.2.1 : Nat) (max u.length v.length : Nat) false) (fun f => by rw [bolterlaw34_FeedThrough.l2.eq_2, if_neg (by omega), decide_eq_false (by omega)]) ?_
    refine Ev.step (f := fun f => (bolterplain_SameInts.f f s.2.2.2 s.2.2.2).bind fun t112 => (if t112 = true then (if ((s.2.2.1 : Nat) : Int) = (s.2.2.1 : Nat) then ((bolterlaw34_alive.f).bind fun t113 => (some t113)) else (some false)) else (some false))) (fun f => by rw [bolterlaw34_FeedThrough.j5.eq_2, if_neg (by simp), if_pos rfl]) ?_
    exact Ev.bind (same_f _ hL) (Ev.congr (fun f => by rw [if_pos rfl, if_pos rfl]; rfl) (Ev.now _))
  | m + 1, i, h => by
    have ih := steps_loop n hn u v hu hv hs m (i + 1) (by omega)
    obtain ⟨b1, b2, b3, b4⟩ := stepsS_bd n u v hs i
    have hsu : stepsS n u v (i + 1) = stepS n (u.getD i 0).toNat (v.getD i 0).toNat (stepsS n u v i) := rfl
    rw [hsu] at ih
    generalize (stepsS n u v (max u.length v.length)).2.2.2 = x7 at *
    generalize (stepsS n u v (max u.length v.length)).2.2.1 = x8 at *
    generalize stepsS n u v i = s at *
    obtain ⟨q, nx, ms, out⟩ := s
    unfold stepS at ih
    simp only at ih b1 b2 b3 b4 ⊢
    have h4 := takes_loop n u v x7 x8 0 i (by omega) hs ((putsS n (u.getD i 0).toNat (q, nx, ms)).1, out) (by simp only; omega) _ _ (v.getD i 0).toNat 0 (by omega) ih
    have h3 := puts_loop n u v x7 x8 0 n rfl hn i hs (q, nx, ms) b1 (by simp only; omega) (by simp only; omega) out (u.getD i 0).toNat 0 (by omega) h4
    refine Ev.step (f := fun f => bolterlaw34_FeedThrough.j5 f n u v x7 x8 0 q out nx ms i true) (fun f => ?_) (Ev.step (fun f => by rw [bolterlaw34_FeedThrough.j5.eq_2, if_pos rfl]; rfl) h3)
    rw [bolterlaw34_FeedThrough.l2.eq_2]
    by_cases hi : (i : Int) < u.length
    · rw [if_pos hi]
    · rw [if_neg hi, decide_eq_true (by omega)]

theorem main_loop (a0 : Int) (u v x7 : List Int) (x8 x9 : Int) (hu : u.length ≤ 4611686018427387904) (hv : v.length ≤ 4611686018427387904) (bad : Bool)
    (H : Ev (fun k => bolterlaw34_FeedThrough.j3 k a0 u v x7 x8 x9 ((bad || bigB u) || bigB v) (decide (a0 < 1 ∨ 4096 < a0))) true) : Ev (fun k => bolterlaw34_FeedThrough.j0 k a0 u v x7 x8 x9 bad) true := by
  have h2 := second_loop a0 u v x7 x8 x9 hv v.length 0 (bad || bigB u) (by omega) (by simpa using H)
  have h1 := first_loop a0 u v x7 x8 x9 hu u.length 0 bad (by omega) (by simpa using h2)
  exact Ev.step (fun k => by rw [bolterlaw34_FeedThrough.j0.eq_2]; rfl) h1
theorem through_ev (a0 : Int) (u v : List Int) (T : List Int × Int × Int) (hu : u.length ≤ 4611686018427387904) (hv : v.length ≤ 4611686018427387904) (hT : feed_Through.f a0 u v = some T)
    (H : Ev (fun k => bolterlaw34_FeedThrough.j3 k a0 u v T.1 T.2.1 T.2.2 ((decide (256 < u.length ∨ 256 < v.length) || bigB u) || bigB v) (decide (a0 < 1 ∨ 4096 < a0))) true) : Ev (fun k => bolterlaw34_FeedThrough.f k a0 u v) true := by
  unfold bolterlaw34_FeedThrough.f
  simp only [hT, Option.bind_some]
  by_cases hl : (u.length : Int) > 256
  · simp only [if_pos hl]
    rw [decide_eq_true (.inl (by omega))] at H
    exact main_loop a0 u v _ _ _ hu hv true H
  · simp only [if_neg hl]
    have e : decide (256 < u.length ∨ 256 < v.length) = decide ((v.length : Int) > 256) := decide_eq_decide.2 (by omega)
    rw [e] at H
    exact main_loop a0 u v _ _ _ hu hv _ H
theorem FeedThrough : bolterlaw34_FeedThrough.Pure := by
  intro a0 u v ha hu1 hu2 hu hv1 hv2 hv
  unfold maxLen at hu1 hv1
  refine Ev.rounds ?_
  have hT : feed_Through.f a0 u v = some _ := rfl
  by_cases h0 : a0 < 1 ∨ 4096 < a0
  · rw [if_pos h0] at hT
    refine through_ev a0 u v _ (by omega) (by omega) hT (Ev.step (fun k => ?_) (Ev.now _))
    rw [decide_eq_true h0, bolterlaw34_FeedThrough.j3.eq_2, if_pos rfl, if_pos rfl]
    rfl
  · rw [if_neg h0] at hT
    by_cases h1 : 256 < u.length ∨ 256 < v.length ∨ smallB (u ++ v) = false
    · rw [if_pos h1] at hT
      refine through_ev a0 u v _ (by omega) (by omega) hT (Ev.step (fun k => ?_) (Ev.now _))
      have e : ((decide (256 < u.length ∨ 256 < v.length) || bigB u) || bigB v) = true := by
        rw [small_big] at h1
        rcases h1 with h | h | h
        · rw [decide_eq_true (.inl h)]; rfl
        · rw [decide_eq_true (.inr h)]; rfl
        · rw [Bool.or_assoc, (by cases h' : bigB u || bigB v <;> simp_all : (bigB u || bigB v) = true), Bool.or_true]
      rw [decide_eq_false h0, e, bolterlaw34_FeedThrough.j3.eq_2, if_neg (by simp), if_pos rfl, if_pos rfl]
      rfl
    · rw [if_neg h1] at hT
      have hs : smallB (u ++ v) = true := by cases h : smallB (u ++ v) <;> simp_all
      have e : ((decide (256 < u.length ∨ 256 < v.length) || bigB u) || bigB v) = false := by
        rw [small_big] at hs
        rw [decide_eq_false (by omega), Bool.or_assoc, Bool.false_or]
        simpa using hs
      refine through_ev a0 u v _ (by omega) (by omega) hT ?_
      rw [decide_eq_false h0, e]
      obtain ⟨n, rfl⟩ : ∃ n : Nat, a0 = n := ⟨a0.toNat, by omega⟩
      have h := steps_loop n (by omega) u v (by omega) (by omega) hs (max u.length v.length) 0 (by omega)
      refine Ev.step (fun k => ?_) h
      rw [bolterlaw34_FeedThrough.j3.eq_2, if_neg (by simp), if_neg (by simp), Int.toNat_natCast]
      rfl
end Go.Proofs.Ytdgebcgcabhjoaa.Pure

/- Digits and their number: plain. -/
import Derived.Test.YtdbnpaloalhciaaNs
namespace Go.Proofs.Ytdbnpaloalhciaa.P
set_option linter.unusedVariables false
set_option linter.unusedSimpArgs false
open Go.RowKit Go.Proofs.YtdbnpaloalhciaaW.PrintWords
/-- Digits. -/
def okD (l : List Int) : Prop := ∀ x ∈ l, 0 ≤ x ∧ x < 10
instance (l : List Int) : Decidable (okD l) := by unfold okD; infer_instance
/-- Their number. -/
def dval : List Int → Nat
  | [] => 0
  | x :: l => x.toNat + 10 * dval l
/-- A number's decs. -/
def decs (n : Nat) : List Int := if h : n = 0 then [] else ((n % 10 : Nat) : Int) :: decs (n / 10)
termination_by n
decreasing_by omega
theorem decs_zero : decs 0 = [] := by rw [decs, dif_pos rfl]
theorem decs_pos {n : Nat} (h : n ≠ 0) : decs n = ((n % 10 : Nat) : Int) :: decs (n / 10) := by rw [decs, dif_neg h]
theorem okD_nil : okD [] := fun x hx => by simp at hx
theorem okD_cons {x : Int} {l : List Int} : okD (x :: l) ↔ (0 ≤ x ∧ x < 10) ∧ okD l := by unfold okD; simp
theorem okD_app {l r : List Int} : okD (l ++ r) ↔ okD l ∧ okD r := by
  unfold okD
  constructor
  · intro h; exact ⟨fun x hx => h x (List.mem_append_left _ hx), fun x hx => h x (List.mem_append_right _ hx)⟩
  · rintro ⟨h, k⟩ x hx; exact (List.mem_append.1 hx).elim (h x) (k x)
theorem okD_take {l : List Int} (h : okD l) (n : Nat) : okD (l.take n) := fun x hx => h x (List.mem_of_mem_take hx)
theorem okD_drop {l : List Int} (h : okD l) (n : Nat) : okD (l.drop n) := fun x hx => h x (List.mem_of_mem_drop hx)
theorem okD_getD {l : List Int} (h : okD l) (i : Nat) : 0 ≤ l.getD i 0 ∧ l.getD i 0 < 10 := by
  rw [List.getD_eq_getElem?_getD]
  by_cases hi : i < l.length
  · rw [List.getElem?_eq_getElem hi]; exact h _ (List.getElem_mem hi)
  · rw [List.getElem?_eq_none (by omega)]; simp
theorem okD_decs : ∀ n, okD (decs n) := by
  intro n
  induction n using Nat.strongRecOn with
  | _ n ih =>
    by_cases h : n = 0
    · subst h; rw [decs_zero]; exact okD_nil
    · rw [decs_pos h, okD_cons]; exact ⟨by omega, ih _ (by omega)⟩
theorem dval_decs : ∀ n, dval (decs n) = n := by
  intro n
  induction n using Nat.strongRecOn with
  | _ n ih =>
    by_cases h : n = 0
    · subst h; rw [decs_zero]; rfl
    · rw [decs_pos h, dval, ih _ (by omega)]; omega
/-- Digits as they may be: the last one not 0. -/
def dcanon (l : List Int) : Prop := decs (dval l) = l
instance (l : List Int) : Decidable (dcanon l) := by unfold dcanon; infer_instance
theorem dcanon_decs (n : Nat) : dcanon (decs n) := by unfold dcanon; rw [dval_decs]
theorem dcanon_okD {l : List Int} (h : dcanon l) : okD l := by have := okD_decs (dval l); rwa [h] at this
theorem dval_app : ∀ (l r : List Int), dval (l ++ r) = dval l + 10 ^ l.length * dval r
  | [], r => by simp [dval]
  | x :: l, r => by
    rw [List.cons_append, dval, dval_app l r, dval, List.length_cons, Nat.pow_succ, Nat.mul_add, Nat.mul_comm (10 ^ l.length) 10, Nat.mul_assoc, Nat.add_assoc]
theorem dval_lt : ∀ {l : List Int}, okD l → dval l < 10 ^ l.length
  | [], _ => by simp [dval]
  | x :: l, h => by
    rw [okD_cons] at h
    have := dval_lt h.2
    rw [dval, List.length_cons, Nat.pow_succ]
    omega
theorem dval_zero : ∀ {l : List Int}, okD l → (dval l = 0 ↔ ∀ x ∈ l, x = 0)
  | [], _ => by simp [dval]
  | x :: l, h => by
    rw [okD_cons] at h
    have := dval_zero h.2
    rw [dval]
    constructor
    · intro hv y hy
      rcases List.mem_cons.1 hy with rfl | hy
      · omega
      · exact (this.1 (by omega)) y hy
    · intro hv
      have h1 := hv x List.mem_cons_self
      have h2 := this.2 fun y hy => hv y (List.mem_cons_of_mem _ hy)
      rw [h1, h2]; rfl
/-- Digits whose last one is not 0 are their number's. -/
theorem dcanon_of_last : ∀ {l : List Int}, okD l → (∀ h : l ≠ [], l.getLast h ≠ 0) → dcanon l
  | [], _, _ => by unfold dcanon; rw [dval, decs_zero]
  | [x], h, hl => by
    rw [okD_cons] at h
    have := hl (by simp)
    simp at this
    unfold dcanon
    have hv : dval [x] = x.toNat := by simp [dval]
    rw [hv, decs_pos (by omega), show x.toNat / 10 = 0 by omega, decs_zero, show ((x.toNat % 10 : Nat) : Int) = x by omega]
  | x :: y :: l, h, hl => by
    have h0 := okD_cons.1 h
    have ih := dcanon_of_last (l := y :: l) h0.2 (fun hn => by have := hl (by simp); rwa [List.getLast_cons hn] at this)
    have hp : dval (y :: l) ≠ 0 := by
      intro e
      unfold dcanon at ih
      rw [e, decs_zero] at ih
      simp at ih
    unfold dcanon at ih ⊢
    rw [dval, decs_pos (by omega), show (x.toNat + 10 * dval (y :: l)) % 10 = x.toNat by omega, show (x.toNat + 10 * dval (y :: l)) / 10 = dval (y :: l) by omega, ih, show ((x.toNat : Nat) : Int) = x by omega]
theorem dcanon_last {l : List Int} (h : dcanon l) (hn : l ≠ []) : l.getLast hn ≠ 0 := by
  have key : ∀ n (hn : decs n ≠ []), (decs n).getLast hn ≠ 0 := by
    intro n
    induction n using Nat.strongRecOn with
    | _ n ih =>
      intro hn
      have h0 : n ≠ 0 := by intro e; subst e; exact hn decs_zero
      by_cases h1 : n / 10 = 0
      · have e : decs n = [((n % 10 : Nat) : Int)] := by rw [decs_pos h0, h1, decs_zero]
        simp only [e, List.getLast_singleton]
        omega
      · have hm : decs (n / 10) ≠ [] := by rw [decs_pos h1]; simp
        have := ih (n / 10) (by omega) hm
        simp only [decs_pos h0]
        rw [List.getLast_cons hm]
        exact this
  have e : decs (dval l) = l := h
  have hm : decs (dval l) ≠ [] := by rw [e]; exact hn
  have := key (dval l) hm
  simp only [e] at this
  exact this
theorem dval_take_succ {l : List Int} {n : Nat} (h : n < l.length) : dval (l.take (n + 1)) = dval (l.take n) + 10 ^ n * (l.getD n 0).toNat := by
  rw [take_succ_getD h, dval_app, List.length_take, Nat.min_eq_left (by omega)]
  simp [dval]
theorem dval_take_step (l : List Int) (i : Nat) : dval (l.take (i + 1)) = dval (l.take i) + 10 ^ i * (l.getD i 0).toNat := by
  by_cases h : i < l.length
  · exact dval_take_succ h
  · rw [List.take_of_length_le (by omega), List.take_of_length_le (by omega), List.getD_eq_getElem?_getD, List.getElem?_eq_none (by omega)]; simp
/-- Digits without 0 at their end. -/
theorem dtrim_done {l : List Int} (h : okD l) {m : Nat} (hm : m ≤ l.length) (hv : dval (l.take m) = dval l) (hl : m = 0 ∨ l.getD (m - 1) 0 ≠ 0) : l.take m = decs (dval l) := by
  have hc : dcanon (l.take m) := by
    refine dcanon_of_last (okD_take h m) fun hn => ?_
    rcases hl with rfl | hl
    · simp at hn
    · obtain ⟨j, rfl⟩ : ∃ j, m = j + 1 := ⟨m - 1, by rcases m with _ | m; simp at hn; omega⟩
      have e := take_succ_getD (l := l) (n := j) (by omega)
      simp only [e, List.getLast_concat]
      simpa using hl
  rw [← hv]
  exact hc.symm
theorem dtrim_step {l : List Int} {m : Nat} (hm : m + 1 ≤ l.length) (hv : dval (l.take (m + 1)) = dval l) (h0 : l.getD m 0 = 0) : dval (l.take m) = dval l := by
  rw [dval_take_succ (by omega), h0] at hv
  simpa using hv
theorem dcanon_len {l : List Int} (h : dcanon l) {k : Nat} (hk : dval l < 10 ^ k) : l.length ≤ k := by
  rcases Nat.lt_or_ge k l.length with hlt | hge
  · exfalso
    have hn : l ≠ [] := by intro e; subst e; simp at hlt
    have hl := dcanon_last h hn
    have hok := dcanon_okD h
    obtain ⟨j, hj⟩ : ∃ j, l.length = j + 1 := ⟨l.length - 1, by omega⟩
    have e := dval_take_succ (l := l) (n := j) (by omega)
    rw [show j + 1 = l.length by omega, List.take_length] at e
    have hg : l.getD j 0 = l.getLast hn := by
      rw [List.getLast_eq_getElem, List.getD_eq_getElem?_getD, List.getElem?_eq_getElem (show j < l.length by omega)]
      simp only [Option.getD_some]
      congr 1
      omega
    have hb := okD_getD hok j
    rw [hg] at hb
    have h1 : 1 ≤ (l.getD j 0).toNat := by rw [hg]; omega
    have h2 : 10 ^ k ≤ 10 ^ j := Nat.pow_le_pow_right (by omega) (by omega)
    have h3 : 10 ^ j ≤ 10 ^ j * (l.getD j 0).toNat := Nat.le_mul_of_pos_right _ h1
    omega
  · exact hge
theorem dcanon_ge {l : List Int} (h : dcanon l) (hn : l ≠ []) : 10 ^ (l.length - 1) ≤ dval l := by
  rcases Nat.lt_or_ge (dval l) (10 ^ (l.length - 1)) with hlt | hge
  · have := dcanon_len h hlt
    have := List.length_pos_iff.2 hn
    omega
  · exact hge
theorem dcanon_inj {a b : List Int} (ha : dcanon a) (hb : dcanon b) (h : dval a = dval b) : a = b := by rw [← ha, ← hb, h]
end Go.Proofs.Ytdbnpaloalhciaa.P

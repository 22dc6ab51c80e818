/- Limbs and their number: plain. -/
import Derived.Test.YtdbnpaloalhciaaWWords
namespace Go.Proofs.Ytdbnpaloalhciaa.P
set_option linter.unusedVariables false
set_option linter.unusedSimpArgs false
open Go.RowKit Go.Proofs.YtdbnpaloalhciaaW.PrintWords
/-- Limbs. -/
def okL (l : List Int) : Prop := ∀ x ∈ l, 0 ≤ x ∧ x < 4294967296
instance (l : List Int) : Decidable (okL l) := by unfold okL; infer_instance
/-- Their number. -/
def val : List Int → Nat
  | [] => 0
  | x :: l => x.toNat + 4294967296 * val l
/-- A number's limbs. -/
def limbs (n : Nat) : List Int := if h : n = 0 then [] else ((n % 4294967296 : Nat) : Int) :: limbs (n / 4294967296)
termination_by n
decreasing_by omega
theorem limbs_zero : limbs 0 = [] := by rw [limbs, dif_pos rfl]
theorem limbs_pos {n : Nat} (h : n ≠ 0) : limbs n = ((n % 4294967296 : Nat) : Int) :: limbs (n / 4294967296) := by rw [limbs, dif_neg h]
theorem okL_nil : okL [] := fun x hx => by simp at hx
theorem okL_cons {x : Int} {l : List Int} : okL (x :: l) ↔ (0 ≤ x ∧ x < 4294967296) ∧ okL l := by unfold okL; simp
theorem okL_app {l r : List Int} : okL (l ++ r) ↔ okL l ∧ okL r := by
  unfold okL
  constructor
  · intro h; exact ⟨fun x hx => h x (List.mem_append_left _ hx), fun x hx => h x (List.mem_append_right _ hx)⟩
  · rintro ⟨h, k⟩ x hx; exact (List.mem_append.1 hx).elim (h x) (k x)
theorem okL_take {l : List Int} (h : okL l) (n : Nat) : okL (l.take n) := fun x hx => h x (List.mem_of_mem_take hx)
theorem okL_drop {l : List Int} (h : okL l) (n : Nat) : okL (l.drop n) := fun x hx => h x (List.mem_of_mem_drop hx)
theorem okL_getD {l : List Int} (h : okL l) (i : Nat) : 0 ≤ l.getD i 0 ∧ l.getD i 0 < 4294967296 := by
  rw [List.getD_eq_getElem?_getD]
  by_cases hi : i < l.length
  · rw [List.getElem?_eq_getElem hi]; exact h _ (List.getElem_mem hi)
  · rw [List.getElem?_eq_none (by omega)]; simp
theorem okL_limbs : ∀ n, okL (limbs n) := by
  intro n
  induction n using Nat.strongRecOn with
  | _ n ih =>
    by_cases h : n = 0
    · subst h; rw [limbs_zero]; exact okL_nil
    · rw [limbs_pos h, okL_cons]; exact ⟨by omega, ih _ (by omega)⟩
theorem val_limbs : ∀ n, val (limbs n) = n := by
  intro n
  induction n using Nat.strongRecOn with
  | _ n ih =>
    by_cases h : n = 0
    · subst h; rw [limbs_zero]; rfl
    · rw [limbs_pos h, val, ih _ (by omega)]; omega
/-- Limbs as they may be: the last one not 0. -/
def canon (l : List Int) : Prop := limbs (val l) = l
instance (l : List Int) : Decidable (canon l) := by unfold canon; infer_instance
theorem canon_limbs (n : Nat) : canon (limbs n) := by unfold canon; rw [val_limbs]
theorem canon_okL {l : List Int} (h : canon l) : okL l := by have := okL_limbs (val l); rwa [h] at this
theorem val_app : ∀ (l r : List Int), val (l ++ r) = val l + 4294967296 ^ l.length * val r
  | [], r => by simp [val]
  | x :: l, r => by
    rw [List.cons_append, val, val_app l r, val, List.length_cons, Nat.pow_succ, Nat.mul_add, Nat.mul_comm (4294967296 ^ l.length) 4294967296, Nat.mul_assoc, Nat.add_assoc]
theorem val_lt : ∀ {l : List Int}, okL l → val l < 4294967296 ^ l.length
  | [], _ => by simp [val]
  | x :: l, h => by
    rw [okL_cons] at h
    have := val_lt h.2
    rw [val, List.length_cons, Nat.pow_succ]
    omega
theorem val_zero : ∀ {l : List Int}, okL l → (val l = 0 ↔ ∀ x ∈ l, x = 0)
  | [], _ => by simp [val]
  | x :: l, h => by
    rw [okL_cons] at h
    have := val_zero h.2
    rw [val]
    constructor
    · intro hv y hy
      rcases List.mem_cons.1 hy with rfl | hy
      · omega
      · exact (this.1 (by omega)) y hy
    · intro hv
      have h1 := hv x List.mem_cons_self
      have h2 := this.2 fun y hy => hv y (List.mem_cons_of_mem _ hy)
      rw [h1, h2]; rfl
/-- Limbs whose last one is not 0 are their number's. -/
theorem canon_of_last : ∀ {l : List Int}, okL l → (∀ h : l ≠ [], l.getLast h ≠ 0) → canon l
  | [], _, _ => by unfold canon; rw [val, limbs_zero]
  | [x], h, hl => by
    rw [okL_cons] at h
    have := hl (by simp)
    simp at this
    unfold canon
    have hv : val [x] = x.toNat := by simp [val]
    rw [hv, limbs_pos (by omega), show x.toNat / 4294967296 = 0 by omega, limbs_zero, show ((x.toNat % 4294967296 : Nat) : Int) = x by omega]
  | x :: y :: l, h, hl => by
    have h0 := okL_cons.1 h
    have ih := canon_of_last (l := y :: l) h0.2 (fun hn => by have := hl (by simp); rwa [List.getLast_cons hn] at this)
    have hp : val (y :: l) ≠ 0 := by
      intro e
      unfold canon at ih
      rw [e, limbs_zero] at ih
      simp at ih
    unfold canon at ih ⊢
    rw [val, limbs_pos (by omega), show (x.toNat + 4294967296 * val (y :: l)) % 4294967296 = x.toNat by omega, show (x.toNat + 4294967296 * val (y :: l)) / 4294967296 = val (y :: l) by omega, ih, show ((x.toNat : Nat) : Int) = x by omega]
theorem canon_last {l : List Int} (h : canon l) (hn : l ≠ []) : l.getLast hn ≠ 0 := by
  have key : ∀ n (hn : limbs n ≠ []), (limbs n).getLast hn ≠ 0 := by
    intro n
    induction n using Nat.strongRecOn with
    | _ n ih =>
      intro hn
      have h0 : n ≠ 0 := by intro e; subst e; exact hn limbs_zero
      by_cases h1 : n / 4294967296 = 0
      · have e : limbs n = [((n % 4294967296 : Nat) : Int)] := by rw [limbs_pos h0, h1, limbs_zero]
        simp only [e, List.getLast_singleton]
        omega
      · have hm : limbs (n / 4294967296) ≠ [] := by rw [limbs_pos h1]; simp
        have := ih (n / 4294967296) (by omega) hm
        simp only [limbs_pos h0]
        rw [List.getLast_cons hm]
        exact this
  have e : limbs (val l) = l := h
  have hm : limbs (val l) ≠ [] := by rw [e]; exact hn
  have := key (val l) hm
  simp only [e] at this
  exact this
theorem take_succ_getD {l : List Int} {n : Nat} (h : n < l.length) : l.take (n + 1) = l.take n ++ [l.getD n 0] := by
  rw [List.take_succ_eq_append_getElem h, List.getD_eq_getElem?_getD, List.getElem?_eq_getElem h]
  rfl
theorem val_take_succ {l : List Int} {n : Nat} (h : n < l.length) : val (l.take (n + 1)) = val (l.take n) + 4294967296 ^ n * (l.getD n 0).toNat := by
  rw [take_succ_getD h, val_app, List.length_take, Nat.min_eq_left (by omega)]
  simp [val]
theorem val_take_step (l : List Int) (i : Nat) : val (l.take (i + 1)) = val (l.take i) + 4294967296 ^ i * (l.getD i 0).toNat := by
  by_cases h : i < l.length
  · exact val_take_succ h
  · rw [List.take_of_length_le (by omega), List.take_of_length_le (by omega), List.getD_eq_getElem?_getD, List.getElem?_eq_none (by omega)]; simp
/-- Limbs without 0 at their end. -/
theorem trim_done {l : List Int} (h : okL l) {m : Nat} (hm : m ≤ l.length) (hv : val (l.take m) = val l) (hl : m = 0 ∨ l.getD (m - 1) 0 ≠ 0) : l.take m = limbs (val l) := by
  have hc : canon (l.take m) := by
    refine canon_of_last (okL_take h m) fun hn => ?_
    rcases hl with rfl | hl
    · simp at hn
    · obtain ⟨j, rfl⟩ : ∃ j, m = j + 1 := ⟨m - 1, by rcases m with _ | m; simp at hn; omega⟩
      have e := take_succ_getD (l := l) (n := j) (by omega)
      simp only [e, List.getLast_concat]
      simpa using hl
  rw [← hv]
  exact hc.symm
theorem trim_step {l : List Int} {m : Nat} (hm : m + 1 ≤ l.length) (hv : val (l.take (m + 1)) = val l) (h0 : l.getD m 0 = 0) : val (l.take m) = val l := by
  rw [val_take_succ (by omega), h0] at hv
  simpa using hv
theorem canon_len {l : List Int} (h : canon l) {k : Nat} (hk : val l < 4294967296 ^ k) : l.length ≤ k := by
  rcases Nat.lt_or_ge k l.length with hlt | hge
  · exfalso
    have hn : l ≠ [] := by intro e; subst e; simp at hlt
    have hl := canon_last h hn
    have hok := canon_okL h
    obtain ⟨j, hj⟩ : ∃ j, l.length = j + 1 := ⟨l.length - 1, by omega⟩
    have e := val_take_succ (l := l) (n := j) (by omega)
    rw [show j + 1 = l.length by omega, List.take_length] at e
    have hg : l.getD j 0 = l.getLast hn := by
      rw [List.getLast_eq_getElem, List.getD_eq_getElem?_getD, List.getElem?_eq_getElem (show j < l.length by omega)]
      simp only [Option.getD_some]
      congr 1
      omega
    have hb := okL_getD hok j
    rw [hg] at hb
    have h1 : 1 ≤ (l.getD j 0).toNat := by rw [hg]; omega
    have h2 : 4294967296 ^ k ≤ 4294967296 ^ j := Nat.pow_le_pow_right (by omega) (by omega)
    have h3 : 4294967296 ^ j ≤ 4294967296 ^ j * (l.getD j 0).toNat := Nat.le_mul_of_pos_right _ h1
    omega
  · exact hge
theorem canon_ge {l : List Int} (h : canon l) (hn : l ≠ []) : 4294967296 ^ (l.length - 1) ≤ val l := by
  rcases Nat.lt_or_ge (val l) (4294967296 ^ (l.length - 1)) with hlt | hge
  · have := canon_len h hlt
    have := List.length_pos_iff.2 hn
    omega
  · exact hge
theorem canon_inj {a b : List Int} (ha : canon a) (hb : canon b) (h : val a = val b) : a = b := by rw [← ha, ← hb, h]
end Go.Proofs.Ytdbnpaloalhciaa.P

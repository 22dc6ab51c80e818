/- The queue in feed.Through, step by step: the world (St), and what is computed (stepsS). -/
import Derived.Test.YtdgebcgcabhjoaaFt
namespace Go.Proofs.Ytdgebcgcabhjoaa.P
open Go.RowKit Go.Proofs.YtdgebcgcabhjoaaW.PrintWords Go.Proofs.YtdgebcgcabhjoaaW.PrintLast Go.Proofs.YtdgebcgcabhjoaaW.PrintMore
set_option linter.unusedVariables false
set_option linter.unusedSimpArgs false

/-- The queue's channel is block c, the queue block c + 1; what was told lies at vo, in a row of its own, behind both. -/
structure St (w : World) (c cap : Nat) (q : List Int) (vo : Value) (out : List Int) (wr : World) : Prop where
  below : Below w.heap.size w wr
  hc : w.heap.size ≤ c
  qc : QC wr c cap (iv q).toArray
  c0 : wr.cell? ⟨c + 1, 0, none⟩ = some (.chan (some c))
  c1 : wr.cell? ⟨c + 1, 1, none⟩ = some (.bool false)
  own : wr.ownsRow (c + 2) 3 1 vo out.length (out.map (Value.int .i64))

section
variable {w wr w' : World} {c cap : Nat} {q q' : List Int} {vo vo' : Value} {out out' : List Int}
theorem St.size (h : St w c cap q vo out wr) : c + 2 ≤ wr.heap.size := by
  have := World.block_lt_of_cell? _ _ h.c1
  simp at this
  omega
theorem St.far (h : St w c cap q vo out wr) (hb : Below (c + 2) wr w') (ho : w'.ownsRow (c + 2) 3 1 vo' out'.length (out'.map (Value.int .i64))) : St w c cap q vo' out' w' where
  below := h.below.trans (hb.mono (by have := h.hc; omega))
  hc := h.hc
  qc := by obtain ⟨s, r, hh⟩ := h.qc; exact ⟨s, r, by rw [hb.block c (by omega)]; exact hh⟩
  c0 := (World.cell?_of_block (a := ⟨c + 1, 0, none⟩) (hb.block (c + 1) (by omega))).trans h.c0
  c1 := (World.cell?_of_block (a := ⟨c + 1, 1, none⟩) (hb.block (c + 1) (by omega))).trans h.c1
  own := ho
theorem St.alloc (h : St w c cap q vo out wr) (o : Obj) : St w c cap q vo out (wr.alloc o) := h.far ((Below.refl _ _).alloc h.size o) (h.own.alloc o)
theorem St.drewN (h : St w c cap q vo out wr) (n : Nat) : St w c cap q vo out (wr.drewN n) := h.far (pw_below_drewN (Below.refl _ _) n) (pw_own_drewN h.own n)
theorem St.qw (h : St w c cap q vo out wr) (hq : QW wr c cap (iv q').toArray w') : St w c cap q' vo out w' where
  below := hq.below h.below h.hc
  hc := h.hc
  qc := hq.chan h.qc.lt
  c0 := hq.cells (by omega) h.c0
  c1 := hq.cells (by omega) h.c1
  own := own_move h.own fun k hk => by
    have := own_base h.own k hk
    obtain ⟨s, r, rfl⟩ := hq
    simp only [World.setChan]
    exact Array.getElem?_setIfInBounds_ne (by omega)
theorem St.start (w : World) (n : Nat) : St w w.heap.size n [] (.slice none 0 0) [] (mkW_int n w) where
  below := mkW_int_below n w
  hc := Nat.le_refl _
  qc := mkW_int_chan n w
  c0 := mkW_int_cell0 n w
  c1 := mkW_int_cell1 n w
  own := ⟨rfl, .inl ⟨rfl, rfl⟩⟩

set_option maxHeartbeats 1000000 in
theorem put_one (hS : St w c cap q vo out wr) (hq : q.length ≤ cap) (x : Int) :
    Calls Try.prog 9 #[.pointer (some ⟨c + 1, 0, none⟩), .slice (some ⟨wr.heap.size, 0, none⟩) 1 1] (wr.alloc (.cells #[.int .i64 x] 3 (0, 0))) fun e w' => e = .returned (.int .i64 (if q.length < cap then 1 else 0)) ∧ St w c cap (if q.length < cap then q ++ [x] else q) vo out w' := by
  have hA := hS.alloc (.cells #[.int .i64 x] 3 (0, 0))
  refine (Put_int_open (c + 1) c cap (iv q).toArray (some ⟨wr.heap.size, 0, none⟩) 1 1 [.int .i64 x] _ rfl (by omega) (by simpa [iv] using hq) hA.c0 hA.c1 hA.qc (by omega) (.inr ⟨_, _, rfl, by have := hS.size; omega, ?_⟩)).mono ?_
  · intro k hk
    rcases k with _ | k
    · go_simp
    · simp at hk
  · rintro e w' ⟨rfl, hQ⟩
    by_cases h : q.length < cap
    · have hp : putn cap (iv q).toArray [Value.int .i64 x] = 1 := by simp [putn, iv]; omega
      rw [hp] at hQ ⊢
      rw [if_pos h, if_pos h]
      refine ⟨rfl, hA.qw ?_⟩
      have e : (iv (q ++ [x])).toArray = (iv q).toArray ++ (List.take 1 [Value.int .i64 x]).toArray := by simp [iv]
      rw [e]
      exact hQ
    · have hp : putn cap (iv q).toArray [Value.int .i64 x] = 0 := by simp [putn, iv]; omega
      rw [hp] at hQ ⊢
      rw [if_neg h, if_neg h]
      refine ⟨rfl, hA.qw ?_⟩
      simpa using hQ
theorem take_one (hS : St w c cap q vo out wr) :
    Calls Try.prog 10 #[.pointer (some ⟨c + 1, 0, none⟩)] wr fun e w' => e = .returned (.tuple #[.int .i64 (q.headD 0), .bool (!q.isEmpty)]) ∧ St w c cap q.tail vo out w' := by
  cases q with
  | nil =>
    refine (take_int_none (c + 1) c cap wr hS.c0 hS.qc).mono ?_
    rintro e w' ⟨rfl, rfl⟩
    exact ⟨rfl, hS⟩
  | cons x q =>
    refine (take_int_some (c + 1) c cap (iv (x :: q)).toArray wr hS.c0 hS.qc (by simp [iv])).mono ?_
    rintro e w' ⟨rfl, hQ⟩
    refine ⟨rfl, hS.qw ?_⟩
    have e : (iv (x :: q)).toArray.extract 1 (iv (x :: q)).toArray.size = (iv q).toArray := by
      apply Array.toList_inj.1
      rw [Array.toList_extract]
      simp [iv, List.extract_eq_take_drop]
      exact List.take_of_length_le (by simp)
    rw [e] at hQ
    exact hQ
end

/-! ### What is computed -/
def putS (cap : Nat) (s : List Int × Nat × Nat) : List Int × Nat × Nat := if s.1.length < cap then (s.1 ++ [(s.2.1 : Int)], s.2.1 + 1, s.2.2) else (s.1, s.2.1 + 1, s.2.2 + 1)
def putsS (cap : Nat) : Nat → List Int × Nat × Nat → List Int × Nat × Nat
  | 0, s => s
  | k + 1, s => putS cap (putsS cap k s)
def takeS (s : List Int × List Int) : List Int × List Int := match s.1 with
  | [] => s
  | x :: q => (q, s.2 ++ [x])
def takesS : Nat → List Int × List Int → List Int × List Int
  | 0, s => s
  | k + 1, s => takeS (takesS k s)
def stepS (cap n m : Nat) (s : List Int × Nat × Nat × List Int) : List Int × Nat × Nat × List Int :=
  ((takesS m ((putsS cap n (s.1, s.2.1, s.2.2.1)).1, s.2.2.2)).1, (putsS cap n (s.1, s.2.1, s.2.2.1)).2.1, (putsS cap n (s.1, s.2.1, s.2.2.1)).2.2, (takesS m ((putsS cap n (s.1, s.2.1, s.2.2.1)).1, s.2.2.2)).2)
def stepsS (cap : Nat) (l1 l2 : List Int) : Nat → List Int × Nat × Nat × List Int
  | 0 => ([], 1, 0, [])
  | i + 1 => stepS cap (l1.getD i 0).toNat (l2.getD i 0).toNat (stepsS cap l1 l2 i)
theorem putsS_bd (cap : Nat) (s : List Int × Nat × Nat) (h : s.1.length ≤ cap) : ∀ k, (putsS cap k s).1.length ≤ cap ∧ (putsS cap k s).2.1 = s.2.1 + k ∧ (putsS cap k s).2.2 ≤ s.2.2 + k := by
  intro k
  induction k with
  | zero => exact ⟨h, rfl, Nat.le_refl _⟩
  | succ k ih =>
    obtain ⟨h1, h2, h3⟩ := ih
    unfold putsS putS
    split
    · refine ⟨by simp; omega, by simp; omega, by simp; omega⟩
    · refine ⟨h1, by simp; omega, by simp; omega⟩
theorem takesS_bd (s : List Int × List Int) : ∀ k, (takesS k s).1.length ≤ s.1.length ∧ (takesS k s).2.length ≤ s.2.length + k := by
  intro k
  induction k with
  | zero => exact ⟨Nat.le_refl _, Nat.le_refl _⟩
  | succ k ih =>
    obtain ⟨h1, h2⟩ := ih
    unfold takesS takeS
    split
    · exact ⟨h1, by omega⟩
    · rename_i x q e
      rw [e] at h1
      simp at h1 ⊢
      omega
theorem small_at {l1 l2 : List Int} (h : smallB (l1 ++ l2) = true) (i : Nat) : l1.getD i 0 ≤ 4096 ∧ l2.getD i 0 ≤ 4096 := by
  have key : ∀ (l : List Int), (∀ x ∈ l, x ≤ 4096) → l.getD i 0 ≤ 4096 := fun l hl => by
    by_cases hi : i < l.length
    · rw [List.getD_eq_getElem?_getD, List.getElem?_eq_getElem hi]; exact hl _ (List.getElem_mem hi)
    · rw [List.getD_eq_getElem?_getD, List.getElem?_eq_none (by omega)]; simp
  unfold smallB at h
  simp only [List.all_append, Bool.and_eq_true, List.all_eq_true, decide_eq_true_eq] at h
  exact ⟨key l1 h.1, key l2 h.2⟩
theorem stepsS_bd (cap : Nat) (l1 l2 : List Int) (h : smallB (l1 ++ l2) = true) : ∀ i, (stepsS cap l1 l2 i).1.length ≤ cap ∧ (stepsS cap l1 l2 i).2.1 ≤ 1 + 4096 * i ∧ (stepsS cap l1 l2 i).2.2.1 ≤ 4096 * i ∧ (stepsS cap l1 l2 i).2.2.2.length ≤ 4096 * i := by
  intro i
  induction i with
  | zero => exact ⟨Nat.zero_le _, Nat.le_refl _, Nat.le_refl _, Nat.le_refl _⟩
  | succ i ih =>
    obtain ⟨h1, h2, h3, h4⟩ := ih
    obtain ⟨s1, s2⟩ := small_at h i
    unfold stepsS stepS
    have p := putsS_bd cap ((stepsS cap l1 l2 i).1, (stepsS cap l1 l2 i).2.1, (stepsS cap l1 l2 i).2.2.1) h1 (l1.getD i 0).toNat
    have t := takesS_bd ((putsS cap (l1.getD i 0).toNat ((stepsS cap l1 l2 i).1, (stepsS cap l1 l2 i).2.1, (stepsS cap l1 l2 i).2.2.1)).1, (stepsS cap l1 l2 i).2.2.2) (l2.getD i 0).toNat
    simp only at p t ⊢
    omega
end Go.Proofs.Ytdgebcgcabhjoaa.P

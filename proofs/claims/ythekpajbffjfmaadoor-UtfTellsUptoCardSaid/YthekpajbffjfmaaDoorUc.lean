/- utf.Bounds: contract. -/
import Derived.Test.YthekpajbffjfmaaDoorLaid
import Derived.WalkKit
import Derived.WalkSpells
import Derived.Lib.Hide
namespace Go.Proofs.YthekpajbffjfmaaDoor.P
set_option linter.unusedVariables false
set_option linter.unusedSimpArgs false
open Go.RowKit
/-- A place of a list of n: counted from the end if below 0, put into bounds. -/
def uplace (n p : Int) : Int := if p < 0 then (if p < -n then -n else p) + n else (if n < p then n else p)
def utf_Bounds.f (a0 a1 a2 : Int) : Option (Int × Int) :=
  if 0 ≤ a0 ∧ a0 ≤ 1152921504606846976 then some (uplace a0 a1, max (uplace a0 a2) (uplace a0 a1)) else none
theorem ret_i {a b : Int} (h : a = b) : Ending.returned (.int .i64 a) = .returned (.int .i64 b) := by rw [h]
theorem uplace_bd (n p : Int) (h0 : 0 ≤ n) : 0 ≤ uplace n p ∧ uplace n p ≤ n := by
  unfold uplace
  split <;> split <;> omega
set_option maxHeartbeats 1000000 in
theorem place_any (n p : Int) (B : Nat) (w : World) (h0 : 0 ≤ n) (h1 : n ≤ 1152921504606846976) (hc : w.cell? ⟨B, 0, none⟩ = some (.int .i64 n)) :
    Calls Tryd.prog 36 #[.int .i64 p, .pointer (some ⟨B, 0, none⟩)] w fun e w' => e = .returned (.int .i64 (uplace n p)) ∧ w = w' := by
  by_cases hp : p < 0
  · by_cases hq : p < -n
    · have hx : uplace n p = 0 := by unfold uplace; rw [if_pos hp, if_pos hq]; omega
      have HX := Lib.hid hx
      clear hx
      go_enter Tryd.func36, Tryd.ntmps36
      go_wp2
      go_ret
      exact ⟨ret_i (by rw [HX.out]; omega), rfl⟩
    · have hx : uplace n p = p + n := by unfold uplace; rw [if_pos hp, if_neg hq]
      have HX := Lib.hid hx
      clear hx
      go_enter Tryd.func36, Tryd.ntmps36
      go_wp2
      go_ret
      exact ⟨ret_i (by rw [HX.out]; omega), rfl⟩
  · by_cases hq : n < p
    · have hx : uplace n p = n := by unfold uplace; rw [if_neg hp, if_pos hq]
      have HX := Lib.hid hx
      clear hx
      go_enter Tryd.func36, Tryd.ntmps36
      go_wp2
      go_ret
      exact ⟨ret_i (by rw [HX.out]; omega), rfl⟩
    · have hx : uplace n p = p := by unfold uplace; rw [if_neg hp, if_neg hq]
      have HX := Lib.hid hx
      clear hx
      go_enter Tryd.func36, Tryd.ntmps36
      go_wp2
      go_ret
      exact ⟨ret_i (by rw [HX.out]; omega), rfl⟩
set_option maxHeartbeats 1000000 in
theorem utf_Bounds.calls (a0 a1 a2 : Int) (r1 r2 : Int) (w : World) (hLD : LaidW w) (h : utf_Bounds.f a0 a1 a2 = some (r1, r2)) :
    Calls Tryd.prog 16 #[.int .i64 a0, .int .i64 a1, .int .i64 a2] w fun e w' => e = .returned (.tuple #[.int .i64 r1, .int .i64 r2]) ∧ Below w.heap.size w w' := by
  unfold utf_Bounds.f at h
  by_cases hb : 0 ≤ a0 ∧ a0 ≤ 1152921504606846976
  · rw [if_pos hb] at h
    simp only [Option.some.injEq, Prod.mk.injEq] at h
    obtain ⟨h1, h2⟩ := h
    obtain ⟨p1, hp1⟩ : ∃ p, p = uplace a0 a1 := ⟨_, rfl⟩
    obtain ⟨p2, hp2⟩ : ∃ p, p = uplace a0 a2 := ⟨_, rfl⟩
    have c1 := fun (w : World) => place_any a0 a1 w.heap.size (w.alloc (.cells #[.int .i64 a0] 3)) hb.1 hb.2 (by go_simp)
    have c2 := fun (w : World) => place_any a0 a2 w.heap.size (w.alloc (.cells #[.int .i64 a0] 3)) hb.1 hb.2 (by go_simp)
    rw [← hp1] at c1
    rw [← hp2] at c2
    rw [← hp1] at h1 h2
    rw [← hp2] at h2
    subst h1
    subst h2
    have C1 := Lib.hid c1
    have C2 := Lib.hid c2
    clear c1 c2 hp1 hp2 hb
    go_enter Tryd.func16, Tryd.ntmps16
    go_wp2_with fail
    refine (C1.out w).mono ?_
    rintro e w' ⟨rfl, rfl⟩
    go_wp2_with fail
    refine (C2.out w).mono ?_
    rintro e w' ⟨rfl, rfl⟩
    go_wp2
    go_ret2
    exact ⟨rfl, (Below.refl _ _).alloc (Nat.le_refl _) _⟩
  · rw [if_neg hb] at h; cases h
end Go.Proofs.YthekpajbffjfmaaDoor.P

/- bits.Add32, bits.Div32, cmp.Compare: contracts. -/
import Derived.Test.YtdbnpaloalhciaaProg
import Derived.Test.YtdbnpaloalhciaaWWords
import Derived.Test.YtdbnpaloalhciaaWMore
import Derived.Test.YtdbnpaloalhciaaWLast
import Derived.WalkKit
import Derived.WalkSpells
import Derived.Lib.Hide
import Derived.Laws.BitsLemmas
import Derived.Laws.BitsAllLaws
namespace Go.Proofs.Ytdbnpaloalhciaa.P
set_option linter.unusedVariables false
set_option linter.unusedSimpArgs false
open Go.RowKit Go.Proofs.YtdbnpaloalhciaaW.PrintWords Go.Proofs.YtdbnpaloalhciaaW.PrintMore Go.Proofs.YtdbnpaloalhciaaW.PrintLast
def bits_Add32.f (x y b : Int) : Option (Int × Int) :=
  if (0 ≤ x ∧ x < 4294967296) ∧ (0 ≤ y ∧ y < 4294967296) ∧ (0 ≤ b ∧ b ≤ 1) then some ((x + y + b) % 4294967296, (x + y + b) / 4294967296) else none
set_option maxHeartbeats 4000000 in
set_option maxRecDepth 100000 in
theorem bits_Add32.calls (x y b : Int) (r1 r2 : Int) (w : World) (h : bits_Add32.f x y b = some (r1, r2)) :
    Calls Try.prog 64 #[.int .u32 x, .int .u32 y, .int .u32 b] w fun e w' => e = .returned (.tuple #[.int .u32 r1, .int .u32 r2]) ∧ Drawn0 w w' := by
  unfold bits_Add32.f at h
  by_cases hc : (0 ≤ x ∧ x < 4294967296) ∧ (0 ≤ y ∧ y < 4294967296) ∧ (0 ≤ b ∧ b ≤ 1)
  case neg => rw [if_neg hc] at h; cases h
  rw [if_pos hc] at h
  obtain ⟨hx, hy, hb⟩ := hc
  simp only [Option.some.injEq, Prod.mk.injEq] at h
  obtain ⟨rfl, rfl⟩ := h
  go_enter Try.func64, Try.ntmps64
  go_wp2
  go_ret2
  refine ⟨?_, Drawn0.refl _⟩
  simp
def cmpI (x y : Int) : Int := if x < y then -1 else if x > y then 1 else 0
theorem cmpI_cases (x y : Int) : (x < y ∧ cmpI x y = -1) ∨ (¬ x < y ∧ x > y ∧ cmpI x y = 1) ∨ (¬ x < y ∧ ¬ x > y ∧ cmpI x y = 0) := by
  unfold cmpI
  by_cases h1 : x < y
  · rw [if_pos h1]; omega
  · rw [if_neg h1]
    by_cases h2 : x > y
    · rw [if_pos h2]; omega
    · rw [if_neg h2]; omega
def cmp_Compare_int.f (x y : Int) : Option Int := some (cmpI x y)
def cmp_Compare_uint32.f (x y : Int) : Option Int := some (cmpI x y)
theorem nan_int (x : Int) (w : World) : Calls Try.prog 81 #[.int .i64 x] w fun e w' => e = .returned (.bool false) ∧ w' = w := by
  go_enter Try.func81, Try.ntmps81
  go_wp2
  go_ret
  exact ⟨by simp, rfl⟩
theorem nan_u32 (x : Int) (w : World) : Calls Try.prog 82 #[.int .u32 x] w fun e w' => e = .returned (.bool false) ∧ w' = w := by
  go_enter Try.func82, Try.ntmps82
  go_wp2
  go_ret
  exact ⟨by simp, rfl⟩
set_option maxHeartbeats 4000000 in
set_option maxRecDepth 100000 in
theorem cmp_int (x y : Int) (w : World) : Calls Try.prog 70 #[.int .i64 x, .int .i64 y] w fun e w' => e = .returned (.int .i64 (cmpI x y)) ∧ w' = w := by
  have h3 := cmpI_cases x y
  go_enter Try.func70, Try.ntmps70
  rcases h3 with ⟨h1, h2⟩ | ⟨h1, h3, h2⟩ | ⟨h1, h3, h2⟩
  all_goals
    have H := Lib.hid h2
    clear h2
    go_wp2_with (first | (go_at_call 81; refine (nan_int _ _).mono ?_; rintro e w' ⟨rfl, rfl⟩))
    go_ret
    exact ⟨by simp [H.out], rfl⟩
set_option maxHeartbeats 4000000 in
set_option maxRecDepth 100000 in
theorem cmp_u32 (x y : Int) (w : World) : Calls Try.prog 71 #[.int .u32 x, .int .u32 y] w fun e w' => e = .returned (.int .i64 (cmpI x y)) ∧ w' = w := by
  have h3 := cmpI_cases x y
  go_enter Try.func71, Try.ntmps71
  rcases h3 with ⟨h1, h2⟩ | ⟨h1, h3, h2⟩ | ⟨h1, h3, h2⟩
  all_goals
    have H := Lib.hid h2
    clear h2
    go_wp2_with (first | (go_at_call 82; refine (nan_u32 _ _).mono ?_; rintro e w' ⟨rfl, rfl⟩))
    go_ret
    exact ⟨by simp [H.out], rfl⟩
theorem cmp_Compare_int.calls (a0 a1 r : Int) (w : World) (h : cmp_Compare_int.f a0 a1 = some r) : Calls Try.prog 70 #[.int .i64 a0, .int .i64 a1] w fun e w' => e = .returned (.int .i64 r) ∧ Drawn0 w w' := by
  obtain rfl := Option.some.inj h
  exact (cmp_int a0 a1 w).mono fun e w' h => ⟨h.1, h.2 ▸ Drawn0.refl _⟩
theorem cmp_Compare_uint32.calls (a0 a1 r : Int) (w : World) (h : cmp_Compare_uint32.f a0 a1 = some r) : Calls Try.prog 71 #[.int .u32 a0, .int .u32 a1] w fun e w' => e = .returned (.int .i64 r) ∧ Drawn0 w w' := by
  obtain rfl := Option.some.inj h
  exact (cmp_u32 a0 a1 w).mono fun e w' h => ⟨h.1, h.2 ▸ Drawn0.refl _⟩
end Go.Proofs.Ytdbnpaloalhciaa.P
namespace Go.Proofs.Ytdbnpaloalhciaa.P
set_option linter.unusedVariables false
set_option linter.unusedSimpArgs false
open Go.RowKit Go.Proofs.YtdbnpaloalhciaaW.PrintWords Go.Proofs.YtdbnpaloalhciaaW.PrintMore Go.Proofs.YtdbnpaloalhciaaW.PrintLast
def bits_Sub32.f (x y b : Int) : Option (Int × Int) :=
  if (0 ≤ x ∧ x < 4294967296) ∧ (0 ≤ y ∧ y < 4294967296) ∧ (0 ≤ b ∧ b ≤ 1) then some ((x - y - b) % 4294967296, if x < y + b then 1 else 0) else none
theorem borrow_nat (x y d : Nat) : (((4294967295 ^^^ x) &&& y) ||| ((4294967295 ^^^ (x ^^^ y)) &&& d)) / 2147483648 = (((1 ^^^ x / 2147483648) &&& (y / 2147483648)) ||| ((1 ^^^ (x / 2147483648 ^^^ y / 2147483648)) &&& (d / 2147483648))) := by
  have e : ∀ n : Nat, n / 2147483648 = n >>> 31 := fun n => (Nat.shiftRight_eq_div_pow n 31).symm
  simp only [e, Nat.shiftRight_or_distrib, Nat.shiftRight_and_distrib, Nat.shiftRight_xor_distrib]
  rfl
theorem borrow_eq (x y b : Int) (hx : 0 ≤ x ∧ x < 4294967296) (hy : 0 ≤ y ∧ y < 4294967296) (hb : 0 ≤ b ∧ b ≤ 1) :
    bits .or .u32 (bits .and .u32 (bits .xor .u32 IntKind.u32.max x) y) (bits .and .u32 (bits .xor .u32 IntKind.u32.max (bits .xor .u32 x y)) ((x - y - b) % 4294967296)) / 2147483648 = if x < y + b then 1 else 0 := by
  have hm : IntKind.u32.max = 4294967295 := by decide
  obtain ⟨d, hd⟩ : ∃ d : Int, (x - y - b) % 4294967296 = d := ⟨_, rfl⟩
  have hd0 : 0 ≤ d ∧ d < 4294967296 := by omega
  have e0 : ∀ a b : Nat, a < 4294967296 → b < 4294967296 → a ^^^ b < 4294967296 := fun a b ha hb => Nat.xor_lt_two_pow (n := 32) (by omega) (by omega)
  have e1 : ∀ a b : Nat, a < 4294967296 → a &&& b < 4294967296 := fun a b ha => Nat.lt_of_le_of_lt Nat.and_le_left ha
  rw [hd, hm, u32_xor 4294967295 x (by omega) (by omega) hx.1 hx.2, u32_xor x y hx.1 hx.2 hy.1 hy.2]
  have x1 := e0 (4294967295 : Int).toNat x.toNat (by decide) (by omega)
  have x2 := e0 x.toNat y.toNat (by omega) (by omega)
  have x3 := e0 (4294967295 : Int).toNat (x.toNat ^^^ y.toNat) (by decide) x2
  rw [u32_xor 4294967295 _ (by omega) (by omega) (by omega) (by omega), u32_and _ y (by omega) (by omega) hy.1 hy.2]
  simp only [Int.toNat_natCast]
  rw [u32_and _ d (by omega) (by omega) hd0.1 hd0.2]
  simp only [Int.toNat_natCast]
  have x4 := e1 ((4294967295 : Int).toNat ^^^ x.toNat) y.toNat x1
  have x5 := e1 ((4294967295 : Int).toNat ^^^ (x.toNat ^^^ y.toNat)) d.toNat x3
  rw [u32_or _ _ (by omega) (by omega) (by omega) (by omega)]
  simp only [Int.toNat_natCast]
  rw [show (2147483648 : Int) = ((2147483648 : Nat) : Int) from rfl, ← Int.natCast_ediv, show (4294967295 : Int).toNat = 4294967295 from rfl, borrow_nat]
  have hx3 : x.toNat / 2147483648 = 0 ∨ x.toNat / 2147483648 = 1 := by omega
  have hy3 : y.toNat / 2147483648 = 0 ∨ y.toNat / 2147483648 = 1 := by omega
  have hd3 : d.toNat / 2147483648 = 0 ∨ d.toNat / 2147483648 = 1 := by omega
  rcases hx3 with hx3 | hx3 <;> rcases hy3 with hy3 | hy3 <;> rcases hd3 with hd3 | hd3 <;> rw [hx3, hy3, hd3]
  all_goals split
  all_goals first | rfl | (exfalso; omega)
set_option maxHeartbeats 4000000 in
set_option maxRecDepth 100000 in
theorem bits_Sub32.calls (x y b : Int) (r1 r2 : Int) (w : World) (h : bits_Sub32.f x y b = some (r1, r2)) :
    Calls Try.prog 72 #[.int .u32 x, .int .u32 y, .int .u32 b] w fun e w' => e = .returned (.tuple #[.int .u32 r1, .int .u32 r2]) ∧ Drawn0 w w' := by
  unfold bits_Sub32.f at h
  by_cases hc : (0 ≤ x ∧ x < 4294967296) ∧ (0 ≤ y ∧ y < 4294967296) ∧ (0 ≤ b ∧ b ≤ 1)
  case neg => rw [if_neg hc] at h; cases h
  rw [if_pos hc] at h
  obtain ⟨hx, hy, hb⟩ := hc
  simp only [Option.some.injEq, Prod.mk.injEq] at h
  obtain ⟨h1, h2⟩ := h
  have e := Lib.hid ((borrow_eq x y b hx hy hb).trans h2)
  have H1 := Lib.hid h1
  clear h1 h2
  clear hx hy hb
  go_enter Try.func72, Try.ntmps72
  go_wp2
  go_ret2
  refine ⟨?_, Drawn0.refl _⟩
  simp only [e.out]
  simp only [H1.out]
  rfl
end Go.Proofs.Ytdbnpaloalhciaa.P

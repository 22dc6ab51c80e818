/- nat's left: contract. -/
import Derived.Test.YtdbnpaloalhciaaNa
import Derived.Laws.BitsAllLaws
namespace Go.Proofs.Ytdbnpaloalhciaa.P
set_option linter.unusedVariables false
set_option linter.unusedSimpArgs false
open Go.RowKit Go.Proofs.YtdbnpaloalhciaaW.PrintWords Go.Proofs.YtdbnpaloalhciaaW.PrintMore Go.Proofs.YtdbnpaloalhciaaW.PrintLast
/-- What comes up from below place i, and the first limbs. -/
def moAt (a : List Int) (n : Nat) : Nat → Int
  | 0 => 0
  | i + 1 => a.getD i 0 / 2 ^ (32 - n)
def shAt (a : List Int) (n : Nat) : Nat → List Int
  | 0 => []
  | i + 1 => shAt a n i ++ [a.getD i 0 * 2 ^ n % 4294967296 + moAt a n i]
def nat_num_left.f (l0 : List Int) (a1 : Int) : Option (List Int) := if okL l0 ∧ l0.length ≤ 1073741824 ∧ 0 ≤ a1 ∧ a1 < 32 then some (shAt l0 a1.toNat l0.length ++ [moAt l0 a1.toNat l0.length]) else none
theorem moAt_bd {a : List Int} (ha : okL a) {n : Nat} (hn : n < 32) : ∀ i, 0 ≤ moAt a n i ∧ moAt a n i < 2 ^ n
  | 0 => by
    have : (0 : Int) < 2 ^ n := Int.pow_pos (by omega)
    exact ⟨Int.le_refl _, this⟩
  | i + 1 => by
    have h1 := okL_getD ha i
    unfold moAt
    have hp : (0 : Int) < 2 ^ (32 - n) := Int.pow_pos (by omega)
    refine ⟨Int.ediv_nonneg h1.1 (by omega), Int.ediv_lt_of_lt_mul hp ?_⟩
    have : (2 : Int) ^ n * 2 ^ (32 - n) = 4294967296 := by rw [← Int.pow_add, show n + (32 - n) = 32 by omega]; rfl
    omega
theorem shAt_len (a : List Int) (n : Nat) : ∀ i, (shAt a n i).length = i
  | 0 => rfl
  | i + 1 => by rw [shAt, List.length_append, shAt_len a n i]; rfl

theorem wrap_u64 (n : Int) : IntKind.u64.wrap n = n % 18446744073709551616 := by simp [IntKind.wrap, IntKind.bits, IntKind.signed]
theorem or_join (x : Int) (y : Int) (n : Nat) (hx : 0 ≤ x) (hn : n < 32) (h0 : 0 ≤ y) (h1 : y < 2 ^ n) : bits .or .u32 (x * 2 ^ n % 4294967296) y = x * 2 ^ n % 4294967296 + y := by
  have hp : (2 : Int) ^ n ≤ 2 ^ 31 := by
    have := Nat.pow_le_pow_right (show 0 < 2 by omega) (show n ≤ 31 by omega)
    have e : ∀ k : Nat, (2 : Int) ^ k = ((2 ^ k : Nat) : Int) := fun k => by rw [Int.natCast_pow]; rfl
    rw [e, e]; omega
  have hp2 : (2 : Int) ^ 31 = 2147483648 := rfl
  obtain ⟨xn, rfl⟩ : ∃ k : Nat, x = k := ⟨x.toNat, by omega⟩
  obtain ⟨yn, rfl⟩ : ∃ k : Nat, y = k := ⟨y.toNat, by omega⟩
  have e : ((xn : Int) * 2 ^ n % 4294967296) = ((xn * 2 ^ n % 4294967296 : Nat) : Int) := by
    rw [Int.natCast_emod, Int.natCast_mul, Int.natCast_pow]; rfl
  have h2 : yn < 2 ^ n := by
    have e2 : (2 : Int) ^ n = ((2 ^ n : Nat) : Int) := by rw [Int.natCast_pow]; rfl
    rw [e2] at h1; omega
  rw [e, u32_or_nat _ _ (by omega) (by omega), nat_join n _ _ ?_ h2]
  · rw [Int.natCast_add]
  · have hd : 2 ^ n ∣ 4294967296 := ⟨2 ^ (32 - n), by rw [← Nat.pow_add, show n + (32 - n) = 32 by omega]⟩
    rw [Nat.mod_mod_of_dvd _ hd]
    exact Nat.mul_mod_left _ _
set_option maxHeartbeats 8000000 in
set_option maxRecDepth 100000 in
theorem left_at (A : Option Addr) (ca : Nat) (a : List Int) (n : Nat) (w : World) (hCa : Kd.C (Kd.int .u32) w A a.length a) (hca : a.length ≤ ca) (hab : okL a) (hz : a.length ≤ 1073741824) (hn : n < 32) :
    Calls Try.prog 75 #[.slice A a.length ca, .int .i64 n] w fun e w' => ∃ v0_ : Value, e = .returned (v0_) ∧ Kd.R (Kd.int .u32) 59 w' w.heap.size (fun _ => True) v0_ (shAt a n a.length ++ [moAt a n a.length]) ∧ Below w.heap.size w w' := by
  obtain ⟨i0, hi, hz0, hz1, hz2⟩ := info_parts infoU
  have HCa := Lib.hid hCa
  have HAB := Lib.hid hab
  clear hCa hab
  go_enter Try.func75, Try.ntmps75
  have hw1 : IntKind.i64.wrap ((a.length : Int) + 1) = ((a.length + 1 : Nat) : Int) := by rw [wrap_in _ (by omega)]; omega
  go_wp2_with (first | (at_make; refine wpList_make_own _ rfl _ _ 62 rfl w.heap.size 59 i0 (.int .u32 0) 1 Try.underlying62 hi hz0 hz1 _ _ _ (a.length + 1) rfl rfl (by omega) ?bytes ?maxLen ?base ?_))
  case bytes => rw [hz2]; omega
  case maxLen => unfold maxLen; omega
  case base => exact Nat.le_refl _
  intro w1 hown hg1
  have hB1 : Below w.heap.size w w1 := (Below.refl _ w).grown hg1 (Nat.le_refl _) (fun k e => by cases e)
  go_wp2
  go_loopw [5, 6, 15] (fun vo vc vi wr => ∃ i : Nat, i ≤ a.length ∧ vi = .int .i64 i ∧ vc = .int .u32 (moAt a n i) ∧ wr.ownsRow w.heap.size 59 1 vo i ((shAt a n i).map (Value.int .u32)) ∧ Below w.heap.size w wr) (fun _ _ vi _ => a.length - (intOf vi).toNat)
  case atStart => exact ⟨0, Nat.zero_le _, rfl, rfl, hown, hB1⟩
  case round =>
    clear hown hg1 hB1
    obtain ⟨i, hi', rfl, rfl, hrow, hB⟩ := hrel
    have HROW := Lib.hid hrow
    have HB := Lib.hid hB
    clear hrow hB
    by_cases hlt : i < a.length
    · obtain ⟨ada, rfl, hxa⟩ := Kd.at_int (Kd.C_below HCa.out HB.out) (i : Int) (by omega) (by omega)
      rw [Int.toNat_natCast, rd_nat] at hxa
      have hw2 : IntKind.i64.wrap ((i : Int) + 1) = ((i + 1 : Nat) : Int) := by rw [wrap_in _ (by omega)]; omega
      have bxa := okL_getD HAB.out i
      have bc := moAt_bd HAB.out hn i
      have hor : Hid (bits .or .u32 (a.getD i 0 * 2 ^ n % 4294967296) (moAt a n i) = a.getD i 0 * 2 ^ n % 4294967296 + moAt a n i) := Lib.hid (or_join _ _ n bxa.1 hn bc.1 bc.2)
      have hs1 : Hid (moAt a n (i + 1) = a.getD i 0 / 2 ^ (32 - n)) := Lib.hid rfl
      have hs2 : Hid ((shAt a n (i + 1)).map (Value.int .u32) = (shAt a n i).map (Value.int .u32) ++ [.int .u32 (a.getD i 0 * 2 ^ n % 4294967296 + moAt a n i)]) := Lib.hid (by rw [shAt, List.map_append]; rfl)
      have bm := moAt_bd HAB.out hn (i + 1)
      have hv : Hid (IntKind.u64.wrap (a.getD i 0) / 2 ^ (32 - n) % 4294967296 = moAt a n (i + 1)) := Lib.hid (by
        have e : IntKind.u64.wrap (a.getD i 0) = a.getD i 0 := by rw [wrap_u64]; omega
        have hp : (2 : Int) ^ n ≤ 4294967296 := by
          have := Nat.pow_le_pow_right (show 0 < 2 by omega) (show n ≤ 32 by omega)
          have e : ∀ k : Nat, (2 : Int) ^ k = ((2 ^ k : Nat) : Int) := fun k => by rw [Int.natCast_pow]; rfl
          rw [e]; omega
        rw [e, ← hs1.out]; omega)
      clear bm
      clear bxa bc
      generalize a.getD i 0 = xa at *
      generalize moAt a n i = cy at *
      have hw3 : IntKind.i64.wrap (32 - (n : Int)) = ((32 - n : Nat) : Int) := by rw [wrap_in _ (by omega)]; omega
      go_wp2_with (first | (at_builtin; refine wpList_append_own _ rfl _ _ 62 rfl w.heap.size 59 i0 (.int .u32 0) 1 4 Try.underlying62 hi hz0 hz1 hz2 rfl (by decide) _ _ _ rfl (HROW.out.alloc _) ⟨_, 0, none⟩ 1 1 [_] rfl rfl (cell_one_new _ _ _) (by simp [Value.oneCell']) (by unfold maxLen; omega) (by omega) (by have := HB.out.size; simp; omega) ?_; intro v2 w2 hown2 hgrow2 _))
      have hB2 : Below w.heap.size w w2 := (HB.out.alloc HB.out.size _).grown hgrow2 (by have := HB.out.size; simp; omega) (own_base HROW.out)
      refine ⟨⟨i + 1, by omega, by rw [Int.natCast_add]; rfl, by rw [hv.out], by rw [hs2.out, ← hor.out]; exact hown2, hB2⟩, by simp [intOf]; omega⟩
    · obtain rfl : i = a.length := by omega
      have hs2 : Hid ((shAt a n a.length ++ [moAt a n a.length]).map (Value.int .u32) = (shAt a n a.length).map (Value.int .u32) ++ [.int .u32 (moAt a n a.length)]) := Lib.hid (by rw [List.map_append]; rfl)
      have HLN : Hid ((shAt a n a.length ++ [moAt a n a.length]).length = a.length + 1) := Lib.hid (by rw [List.length_append, shAt_len]; rfl)
      generalize hcy : moAt a n a.length = cy at *
      have HCY := Lib.hid hcy
      clear hcy
      go_wp2_with (first | (at_builtin; refine wpList_append_own _ rfl _ _ 62 rfl w.heap.size 59 i0 (.int .u32 0) 1 4 Try.underlying62 hi hz0 hz1 hz2 rfl (by decide) _ _ _ rfl (HROW.out.alloc _) ⟨_, 0, none⟩ 1 1 [_] rfl rfl (cell_one_new _ _ _) (by simp [Value.oneCell']) (by unfold maxLen; omega) (by omega) (by have := HB.out.size; simp; omega) ?_; intro v2 w2 hown2 hgrow2 _))
      have hB2 : Below w.heap.size w w2 := (HB.out.alloc HB.out.size _).grown hgrow2 (by have := HB.out.size; simp; omega) (own_base HROW.out)
      go_ret
      refine ⟨v2, rfl, ?_, hB2⟩
      rw [HCY.out]
      exact Kd.R_of_own (enc := Value.int .u32) (by rw [HLN.out]; rw [← hs2.out] at hown2; exact hown2) (fun _ _ => trivial)
theorem nat_num_left.calls (A0 : Option Addr) (c0 : Nat) (l0 : List Int) (a1 : Int) (r : List Int) (w : World) (hr0 : Kd.C (Kd.int .u32) w A0 l0.length l0) (hc0 : l0.length ≤ c0) (h : nat_num_left.f l0 a1 = some r) :
    Calls Try.prog 75 #[.slice A0 l0.length c0, .int .i64 a1] w fun e w' => ∃ v0_ : Value, e = .returned (v0_) ∧ Kd.R (Kd.int .u32) 59 w' w.heap.size (fun _ => True) v0_ r ∧ Below w.heap.size w w' := by
  unfold nat_num_left.f at h
  by_cases hc : okL l0 ∧ l0.length ≤ 1073741824 ∧ 0 ≤ a1 ∧ a1 < 32
  case neg => rw [if_neg hc] at h; cases h
  rw [if_pos hc] at h
  obtain rfl := Option.some.inj h
  obtain ⟨h1, h2, h3, h4⟩ := hc
  have := left_at A0 c0 l0 a1.toNat w hr0 hc0 h1 h2 (by omega)
  rw [show ((a1.toNat : Nat) : Int) = a1 by omega] at this
  exact this
end Go.Proofs.Ytdbnpaloalhciaa.P

/- nat's trim: contract, of a row of the call's own. -/
import Derived.Test.YtdbnpaloalhciaaNs
import Derived.Test.YtdbnpaloalhciaaProg
import Derived.Test.YtdbnpaloalhciaaWWords
import Derived.Test.YtdbnpaloalhciaaWKept
import Derived.Test.YtdbnpaloalhciaaWMore
import Derived.Test.YtdbnpaloalhciaaWLast
import Derived.WalkKit
import Derived.WalkSpells
import Derived.Maps.AppendAt
import Derived.Lib.Hide
namespace Go.Proofs.Ytdbnpaloalhciaa.P
set_option linter.unusedVariables false
set_option linter.unusedSimpArgs false
open Go.RowKit Go.Proofs.YtdbnpaloalhciaaW.PrintWords Go.Proofs.YtdbnpaloalhciaaW.PrintMore Go.Proofs.YtdbnpaloalhciaaW.PrintLast
theorem infoU : (Try.prog.info? 59).map (fun i => (i.zero, i.size, i.bytes)) = some (some (.int .u32 0), 1, 4) := by kernel_rfl
def nat_num_trim.f (l0 : List Int) : Option (List Int) := if okL l0 ∧ l0.length ≤ 1152921504606846976 then some (limbs (val l0)) else none

theorem rd_nat (l : List Int) (j : Nat) : rd l (j : Int) = l.getD j 0 := by unfold rd; rw [Int.toNat_natCast]
def lenOf : Value → Nat
  | .slice _ n _ => n
  | _ => 0
theorem wrap_in (x : Int) (h : -9223372036854775808 ≤ x ∧ x ≤ 9223372036854775807) : IntKind.i64.wrap x = x := by rw [i64_w]; unfold wrap64; omega
set_option maxHeartbeats 4000000 in
set_option maxRecDepth 100000 in
theorem trim_in (A : Option Addr) (c : Nat) (l : List Int) (w : World) (hC : Kd.C (Kd.int .u32) w A l.length l) (hc : l.length ≤ c) (hl : okL l) (hz : l.length ≤ 1152921504606846976) :
    Calls Try.prog 43 #[.slice A l.length c] w fun e w' => w' = w ∧ ∃ m, m ≤ l.length ∧ l.take m = limbs (val l) ∧ ((m = 0 ∧ e = .returned (.slice none 0 0)) ∨ (0 < m ∧ e = .returned (.slice A m c))) := by
  obtain ⟨i0, hi, _, _, _⟩ := info_parts infoU
  have HC := Lib.hid hC
  have HL := Lib.hid hl
  clear hC hl
  go_enter Try.func43, Try.ntmps43
  go_wp2
  go_loopw [0] (fun i wr => ∃ m : Nat, m ≤ l.length ∧ i = .slice A m c ∧ Hid (val (l.take m) = val l) ∧ wr = w) (fun i _ => lenOf i)
  case atStart => exact ⟨l.length, Nat.le_refl _, rfl, Lib.hid (by rw [List.take_length]), rfl⟩
  case round =>
    obtain ⟨m, hm, rfl, hv, rfl⟩ := hrel
    rcases m with _ | j
    · go_wp2
      go_ret
      exact ⟨rfl, 0, by omega, trim_done HL.out (by omega) hv.out (.inl rfl), .inl ⟨rfl, rfl⟩⟩
    · obtain ⟨ad, rfl, hx⟩ := Kd.at_int HC.out (j : Int) (by omega) (by omega)
      rw [Int.toNat_natCast] at hx
      have hw : IntKind.i64.wrap (((j + 1 : Nat) : Int) - 1) = (j : Int) := by rw [wrap_in _ (by omega)]; omega
      have hcut := cut_to (P := Try.prog) 62 59 .i64 Try.underlying62 hi (some ad) (j + 1) c (j : Int) (by omega) (by omega) (by omega) wr
      by_cases h0 : rd l (j : Int) = 0
      · have hv2 := trim_step (by omega) hv.out (by rw [← rd_nat]; exact h0)
        go_wp2
        exact ⟨⟨j, by omega, rfl, Lib.hid hv2, trivial⟩, by simp [lenOf]⟩
      · go_wp2
        go_ret
        exact ⟨rfl, j + 1, hm, trim_done HL.out hm hv.out (.inr (by rw [← rd_nat]; exact h0)), .inr ⟨by omega, rfl⟩⟩
/-- What trim hands back. -/
def trimV (A : Option Addr) (c : Nat) (l : List Int) : Value := if (limbs (val l)).length = 0 then .slice none 0 0 else .slice A (limbs (val l)).length c
theorem trim_det (A : Option Addr) (c : Nat) (l : List Int) (w : World) (hC : Kd.C (Kd.int .u32) w A l.length l) (hc : l.length ≤ c) (hl : okL l) (hz : l.length ≤ 1152921504606846976) :
    Calls Try.prog 43 #[.slice A l.length c] w fun e w' => e = .returned (trimV A c l) ∧ w' = w := by
  refine (trim_in A c l w hC hc hl hz).mono ?_
  rintro e w' ⟨hw, m, hm, hr, he⟩
  refine ⟨?_, hw⟩
  have hlen : (limbs (val l)).length = m := by rw [← hr, List.length_take]; omega
  unfold trimV
  rw [hlen]
  rcases he with ⟨rfl, rfl⟩ | ⟨h, rfl⟩
  · rw [if_pos rfl]
  · rw [if_neg (by omega)]
theorem trimV_R {A : Option Addr} {c base : Nat} {l : List Int} {w : World} {ok : Nat → Prop} (h : Kd.R (Kd.int .u32) 59 w base ok (.slice A l.length c) l) (hl : okL l) (hlen : (limbs (val l)).length ≤ l.length) (ht : l.take (limbs (val l)).length = limbs (val l)) : Kd.R (Kd.int .u32) 59 w base ok (trimV A c l) (limbs (val l)) := by
  unfold trimV
  split
  · rename_i h0
    rw [List.eq_nil_of_length_eq_zero h0]
    exact Kd.R_nil _ _ _ _ _
  · have := Kd.R_take h hlen
    rwa [ht] at this
theorem limbs_take : ∀ {l : List Int}, okL l → (limbs (val l)).length ≤ l.length ∧ l.take (limbs (val l)).length = limbs (val l) := by
  intro l
  have key : ∀ (k : Nat) (l : List Int), l.length = k → okL l → (limbs (val l)).length ≤ l.length ∧ l.take (limbs (val l)).length = limbs (val l) := by
    intro k
    induction k with
    | zero =>
      intro l hk hl
      have : l = [] := List.eq_nil_of_length_eq_zero hk
      subst this
      rw [val, limbs_zero]
      exact ⟨Nat.le_refl _, rfl⟩
    | succ k ih =>
      intro l hk hl
      by_cases h0 : l.getD k 0 = 0
      · have hv : val (l.take k) = val l := trim_step (l := l) (m := k) (by omega) (by rw [← hk, List.take_length]) h0
        obtain ⟨i1, i2⟩ := ih (l.take k) (by rw [List.length_take]; omega) (okL_take hl k)
        rw [hv] at i1 i2
        rw [List.length_take] at i1
        refine ⟨by omega, ?_⟩
        rw [List.take_take, Nat.min_eq_left (by omega)] at i2
        exact i2
      · have := trim_done hl (m := k + 1) (by omega) (by rw [← hk, List.take_length]) (.inr (by simpa using h0))
        rw [← hk, List.take_length] at this
        rw [← this]
        exact ⟨Nat.le_refl _, List.take_length⟩
  exact key l.length l rfl
theorem nat_num_trim.calls (P0_ : Nat → Prop) (u9000_ : Value) (l0 : List Int) (r : List Int) (w0 w : World) (hB : Below w0.heap.size w0 w) (ho0 : Kd.R (Kd.int .u32) 59 w w0.heap.size P0_ u9000_ l0) (h : nat_num_trim.f l0 = some r) :
    Calls Try.prog 43 #[u9000_] w fun e w' => ∃ v0_ : Value, e = .returned (v0_) ∧ Kd.R (Kd.int .u32) 59 w' w0.heap.size (fun k_ => (P0_ k_ ∨ w.heap.size ≤ k_)) v0_ r ∧ Below w0.heap.size w0 w' ∧ Kept w w' (fun k_ => P0_ k_) := by
  unfold nat_num_trim.f at h
  by_cases hc : okL l0 ∧ l0.length ≤ 1152921504606846976
  · rw [if_pos hc] at h
    obtain rfl := Option.some.inj h
    obtain ⟨A, c, rfl⟩ := Kd.R_slice ho0
    refine (trim_in A c l0 w (Kd.R_reads' ho0).2.2 (Kd.R_reads' ho0).2.1 hc.1 hc.2).mono ?_
    rintro e w' ⟨rfl, m, hm, hr, he⟩
    rcases he with ⟨rfl, rfl⟩ | ⟨_, rfl⟩
    · refine ⟨_, rfl, ?_, hB, Kept.refl _ _⟩
      rw [← hr, List.take_zero]
      exact Kd.R_nil _ _ _ _ _
    · refine ⟨_, rfl, ?_, hB, Kept.refl _ _⟩
      rw [← hr]
      exact Kd.R_mono (Kd.R_take ho0 hm) (fun k hk => .inl hk)
  · rw [if_neg hc] at h; cases h
end Go.Proofs.Ytdbnpaloalhciaa.P

/- What feed.Through calls of the library: slices.IndexFunc, ContainsFunc, Grow, Concat at int; alive. -/
import Derived.Test.YtdgebcgcabhjoaaPx1
import Derived.Test.YtdgebcgcabhjoaaFo
import Derived.Lib.AppendZeros
namespace Go.Proofs.Ytdgebcgcabhjoaa.P
open Go.RowKit Go.Proofs.YtdgebcgcabhjoaaW.PrintWords Go.Proofs.YtdgebcgcabhjoaaW.PrintLast Go.Proofs.YtdgebcgcabhjoaaW.PrintMore
set_option linter.unusedVariables false
set_option linter.unusedSimpArgs false

def bolterlaw34_alive.f : Option Bool := some true
theorem bolterlaw34_alive.calls (r : Bool) (w : World) (h : bolterlaw34_alive.f = some r) : Calls Try.prog 7 #[] w fun e w' => e = .returned (.bool r) ∧ Below w.heap.size w w' := by
  obtain rfl := Option.some.inj h
  exact alive_any w

theorem wrap_in (x : Int) (h : -9223372036854775808 ≤ x ∧ x ≤ 9223372036854775807) : IntKind.i64.wrap x = x := by rw [IntKind.wrap_i64]; omega
theorem info_int : (Try.prog.info? 3).map (fun i => (i.zero, i.size, i.bytes)) = some (some (.int .i64 0), 1, 8) := by kernel_rfl
def smallB (l : List Int) : Bool := l.all fun x => decide (x ≤ 4096)

set_option maxHeartbeats 400000 in
theorem big_in (x : Int) (w : World) : Calls Try.prog 26 #[.int .i64 x] w fun e w' => e = .returned (.bool (decide (4096 < x))) ∧ w = w' := by
  go_enter Try.func26, Try.ntmps26
  go_wp2
  go_ret
  exact ⟨rfl, rfl⟩

theorem rd_getD (l : List Int) (k : Nat) : rd l (k : Int) = l.getD k 0 := by
  unfold rd; simp
theorem take_succ_getD {l : List Int} {k : Nat} (h : k < l.length) : l.take (k + 1) = l.take k ++ [l.getD k 0] := by
  rw [List.take_succ_eq_append_getElem h]; simp [List.getD_eq_getElem?_getD, h]

set_option maxHeartbeats 1000000 in
theorem index_in (A : Option Addr) (c : Nat) (l : List Int) (w : World) (hC : ReadsInt w .i64 A l.length l) (hz : l.length ≤ 4611686018427387904) :
    Calls Try.prog 28 #[.slice A l.length c, .func (.func 26) #[] #[]] w fun e w' => w = w' ∧ ∃ r : Int, e = .returned (.int .i64 r) ∧ (r ≥ 0 ↔ smallB l = false) := by
  have HC := Lib.hid hC
  clear hC
  go_enter Try.func28, Try.ntmps28
  go_wp2
  go_loopw [8] (fun i wr => ∃ k : Nat, k ≤ l.length ∧ i = .int .i64 k ∧ Hid (smallB (l.take k) = true) ∧ wr = w) (fun i _ => l.length - (intOf i).toNat)
  case atStart => exact ⟨0, Nat.zero_le _, rfl, Lib.hid rfl, rfl⟩
  case round =>
    obtain ⟨k, hk, rfl, hd, rfl⟩ := hrel
    by_cases hlt : k < l.length
    · obtain ⟨ad, rfl, hx⟩ := HC.out.at_ (k : Int) (by omega) (by omega)
      rw [Int.toNat_natCast] at hx
      have hw : IntKind.i64.wrap ((k : Int) + 1) = ((k + 1 : Nat) : Int) := by rw [wrap_in _ (by omega)]; omega
      have ht : Hid (smallB (l.take (k + 1)) = decide (rd l k ≤ 4096)) := Lib.hid (by
        rw [take_succ_getD hlt, ← rd_getD]
        have := hd.out
        unfold smallB at this ⊢
        rw [List.all_append, this]
        simp)
      by_cases hc : 4096 < rd l k
      · have hbad : Hid (smallB l = false) := Lib.hid (by
          have := ht.out
          have e : l = l.take (k + 1) ++ l.drop (k + 1) := (List.take_append_drop _ _).symm
          rw [e]
          unfold smallB at this ⊢
          rw [List.all_append, this]
          simp; omega)
        have hb : decide (4096 < rd l k) = true := decide_eq_true hc
        clear hc
        go_wp2_with (first | (go_at_call 26; refine (big_in _ _).mono ?_; rw [hb]; rintro e w' ⟨rfl, rfl⟩))
        go_ret
        exact ⟨rfl, _, rfl, by rw [hbad.out]; simp⟩
      · rw [decide_eq_true (by omega : rd l k ≤ 4096)] at ht
        have hb : decide (4096 < rd l k) = false := decide_eq_false hc
        clear hc
        go_wp2_with (first | (go_at_call 26; refine (big_in _ _).mono ?_; rw [hb]; rintro e w' ⟨rfl, rfl⟩))
        go_roundw
        case rel => exact ⟨k + 1, by omega, by go_num, ht, trivial⟩
        case measure => simp [intOf]; omega
    · obtain rfl : k = l.length := by omega
      rw [List.take_length] at hd
      go_wp2
      go_ret
      exact ⟨rfl, _, rfl, by rw [hd.out]; simp⟩
set_option maxHeartbeats 1000000 in
theorem contains_in (A : Option Addr) (c : Nat) (l : List Int) (w : World) (hC : ReadsInt w .i64 A l.length l) (hz : l.length ≤ 4611686018427387904) :
    Calls Try.prog 24 #[.slice A l.length c, .func (.func 26) #[] #[]] w fun e w' => w = w' ∧ e = .returned (.bool (!smallB l)) := by
  have HC := Lib.hid hC
  clear hC
  go_enter Try.func24, Try.ntmps24
  go_wp2_with fail
  refine (index_in A c l _ HC.out hz).mono ?_
  rintro e w' ⟨rfl, r, rfl, hr⟩
  have hb : (decide (r ≥ 0)) = !smallB l := by
    cases h : smallB l with
    | true => simp [h] at hr ⊢; exact hr
    | false => simp [h] at hr ⊢; exact hr
  go_wp2
  go_ret
  exact ⟨rfl, by rw [← hb]; rfl⟩

set_option maxHeartbeats 1000000 in
theorem grow_nil (n : Nat) (hn : n ≤ 1000000) (w : World) :
    Calls Try.prog 29 #[.slice none 0 0, .int .i64 n] w fun e w' => ∃ v, e = .returned v ∧ w'.ownsRow w.heap.size 3 1 v 0 [] ∧ Below w.heap.size w w' := by
  obtain ⟨i0, hi, hz0, hz1, hz2⟩ := info_parts info_int
  by_cases h0 : n = 0
  · subst h0
    go_enter Try.func29, Try.ntmps29
    go_wp2
    go_ret
    exact ⟨_, rfl, ⟨rfl, .inl ⟨rfl, rfl⟩⟩, Below.refl _ _⟩
  · have happ := Lib.run_append_nil_zeros (P := Try.prog) w 22 3 22 3 i0 (.int .i64 0) .i64 .i64 Try.underlying22 Try.underlying3 hi hz0 n (by omega) (by omega) (by omega) (by rw [hz2]; omega)
    have hge := grownCap_ge w n 0 3
    have hmx := grownCap_le_maxLen w n 0 3 (by unfold maxLen; omega)
    obtain ⟨C, hC⟩ : ∃ C, C = grownCap w n 0 3 := ⟨_, rfl⟩
    rw [← hC] at happ hge hmx
    obtain ⟨M, hM⟩ : ∃ M, M = Builtin.zeroCells (Value.int .i64 0).cells n ++ Builtin.zeroCells (Value.int .i64 0).cells (C - n) := ⟨_, rfl⟩
    rw [← hM] at happ
    have hMs : M.size = C := by rw [hM, Array.size_append, size_zeroCells, size_zeroCells]; simp [Value.cells]; omega
    have HM := Lib.hid hMs
    clear hC hM hMs
    have hpos : (0 : Int) < n := by omega
    go_enter Try.func29, Try.ntmps29
    go_wp2_with (first | (at_builtin; refine Lib.wpList_append_run _ rfl _ _ 22 3 rfl _ _ rfl rfl _ _ happ ?_))
    go_ret
    refine ⟨_, rfl, ⟨rfl, .inr ⟨w.heap.size, C, M, rfl, Nat.le_refl _, ?_, Nat.zero_le _, hmx, by rw [HM.out]; omega, by simp⟩⟩, ((Below.refl _ _).drew).alloc (Nat.le_refl _) _⟩
    exact blk_new _ _
theorem at_in (A : Option Addr) (c : Nat) (l : List Int) (i : Nat) (w : World) (hC : ReadsInt w .i64 A l.length l) : Calls Try.prog 27 #[.slice A l.length c, .int .i64 i] w fun e w' => e = .returned (.int .i64 (l.getD i 0)) ∧ w = w' := by
  by_cases h : i < l.length
  · obtain ⟨ad, rfl, hx⟩ := hC.at_ (i : Int) (by omega) (by omega)
    rw [Int.toNat_natCast] at hx
    rw [← rd_getD]
    have h' : (i : Int) < l.length := by omega
    go_enter Try.func27, Try.ntmps27
    go_wp2
    go_ret
    exact ⟨rfl, rfl⟩
  · have h' : ¬ (i : Int) < l.length := by omega
    rw [List.getD_eq_getElem?_getD, List.getElem?_eq_none (by omega)]
    go_enter Try.func27, Try.ntmps27
    go_wp2
    go_ret
    exact ⟨rfl, rfl⟩

def csz (a b : Nat) : Nat → Nat
  | 0 => 0
  | 1 => a
  | _ => a + b
def cxs (l1 l2 : List Int) : Nat → List Int
  | 0 => []
  | 1 => l1
  | _ => l1 ++ l2

set_option maxHeartbeats 4000000 in
set_option maxRecDepth 100000 in
theorem concat_two (A1 : Option Addr) (c1 : Nat) (l1 : List Int) (A2 : Option Addr) (c2 : Nat) (l2 : List Int) (b : Nat) (w : World) (hC1 : Kd.C (Kd.int .i64) w A1 l1.length l1) (hC2 : Kd.C (Kd.int .i64) w A2 l2.length l2)
    (hn1 : l1.length ≤ 256) (hn2 : l2.length ≤ 256) (hb0 : w.cell? ⟨b, 0, none⟩ = some (.slice A1 l1.length c1)) (hb1 : w.cell? ⟨b, 1, none⟩ = some (.slice A2 l2.length c2)) :
    Calls Try.prog 25 #[.slice (some ⟨b, 0, none⟩) 2 2] w fun e w' => ∃ v, e = .returned v ∧ Kd.R (Kd.int .i64) 3 w' w.heap.size (fun _ => True) v (l1 ++ l2) ∧ Below w.heap.size w w' := by
  have HC1 := Lib.hid hC1
  have HC2 := Lib.hid hC2
  clear hC1 hC2
  have hblt := World.block_lt_of_cell? _ _ hb0
  go_enter Try.func25, Try.ntmps25
  go_wp2
  go_loopw [3, 11] (fun vs vi wr => ∃ k : Nat, k ≤ 2 ∧ vi = .int .i64 k ∧ vs = .int .i64 (csz l1.length l2.length k) ∧ wr = w) (fun _ vi _ => 2 - (intOf vi).toNat)
  case atStart => exact ⟨0, by omega, rfl, rfl, rfl⟩
  case round =>
    obtain ⟨k, hk, rfl, rfl, hw⟩ := hrel
    obtain rfl := hw.symm
    clear hw
    rcases k with _ | _ | k
    · have hs : IntKind.i64.wrap (l1.length : Int) = (l1.length : Int) := wrap_in _ (by omega)
      have hng : ¬ (l1.length : Int) < 0 := by omega
      rw [show csz l1.length l2.length 0 = 0 from rfl]
      go_wp2
      go_roundw
      case rel => exact ⟨1, by omega, rfl, rfl, trivial⟩
      case measure => simp [intOf]
    · rw [show csz l1.length l2.length (0 + 1) = l1.length from rfl]
      have hng : ¬ ((l1.length + l2.length : Nat) : Int) < 0 := by omega
      have hs : IntKind.i64.wrap ((l1.length : Int) + l2.length) = ((l1.length + l2.length : Nat) : Int) := by rw [wrap_in _ (by omega)]; omega
      go_wp2
      go_roundw
      case rel => exact ⟨2, by omega, rfl, rfl, trivial⟩
      case measure => simp [intOf]
    · obtain rfl : k = 0 := by omega
      go_wp2_with fail
      refine (grow_nil (l1.length + l2.length) (by omega) _).mono ?_
      rintro e w2 ⟨v, rfl, hown, hB⟩
      have HO : Hid (Kd.R (Kd.int .i64) 3 w2 w.heap.size (fun _ => True) v []) := Lib.hid (Kd.R_of_own (enc := Value.int .i64) hown (fun _ _ => trivial))
      have HB := Lib.hid hB
      clear hown hB
      go_wp2
      go_loopw [6, 27] (fun vs vi wq => ∃ k : Nat, k ≤ 2 ∧ vi = .int .i64 k ∧ Hid (Kd.R (Kd.int .i64) 3 wq w.heap.size (fun _ => True) vs (cxs l1 l2 k)) ∧ Hid (Below w.heap.size w wq)) (fun _ vi _ => 2 - (intOf vi).toNat)
      case atStart => exact ⟨0, by omega, rfl, HO, HB⟩
      case round =>
        obtain ⟨k, hk, rfl, HR, HBq⟩ := hrel
        have hc0 := cell_later HBq.out hb0
        have hc1 := cell_later HBq.out hb1
        rcases k with _ | _ | k
        · have hR0 : Kd.R (Kd.int .i64) 3 wr w.heap.size (fun _ => True) u6 [] := HR.out
          go_wp2_with (first | (at_builtin; refine Kd.R_append_row (Value.int .i64) (0 : Int) w.heap.size rfl (.tmp 31) (.tmp 32) 22 3 (.int .i64 0) 8 rfl Try.underlying22 info_int rfl (by decide) _ _ _ _ _ _ _ rfl rfl (fun _ _ => trivial) hR0 (Kd.C_below HC1.out HBq.out) HBq.out HBq.out.size (by first | omega | (simp; omega)) ?_; intro v1 w1 hR1 hB1 _ _))
          go_roundw
          case rel => exact ⟨1, by omega, rfl, Lib.hid hR1, Lib.hid hB1⟩
          case measure => simp [intOf]
        · have hR0 : Kd.R (Kd.int .i64) 3 wr w.heap.size (fun _ => True) u6 l1 := HR.out
          go_wp2_with (first | (at_builtin; refine Kd.R_append_row (Value.int .i64) (0 : Int) w.heap.size rfl (.tmp 31) (.tmp 32) 22 3 (.int .i64 0) 8 rfl Try.underlying22 info_int rfl (by decide) _ _ _ _ _ _ _ rfl rfl (fun _ _ => trivial) hR0 (Kd.C_below HC2.out HBq.out) HBq.out HBq.out.size (by first | omega | (simp; omega)) ?_; intro v1 w1 hR1 hB1 _ _))
          go_roundw
          case rel => exact ⟨2, by omega, rfl, Lib.hid hR1, Lib.hid hB1⟩
          case measure => simp [intOf]
        · obtain rfl : k = 0 := by omega
          go_wp2
          go_ret
          exact ⟨_, rfl, HR.out, HBq.out⟩
end Go.Proofs.Ytdgebcgcabhjoaa.P

/- feed.Through: the walk. -/
import Derived.Test.YtdgebcgcabhjoaaFs
namespace Go.Proofs.Ytdgebcgcabhjoaa.P
open Go.RowKit Go.Proofs.YtdgebcgcabhjoaaW.PrintWords Go.Proofs.YtdgebcgcabhjoaaW.PrintLast Go.Proofs.YtdgebcgcabhjoaaW.PrintMore
attribute [local go_sem] max_two   -- for this text's walks alone
set_option linter.unusedVariables false
set_option linter.unusedSimpArgs false

def feed_Through.f (a0 : Int) (l1 l2 : List Int) : Option (List Int × Int × Int) :=
  some (if a0 < 1 ∨ 4096 < a0 then ([], 0, 4) else if 256 < l1.length ∨ 256 < l2.length ∨ smallB (l1 ++ l2) = false then ([], 0, 3)
    else ((stepsS a0.toNat l1 l2 (max l1.length l2.length)).2.2.2, ((stepsS a0.toNat l1 l2 (max l1.length l2.length)).2.2.1 : Int), 0))

set_option maxHeartbeats 8000000 in
set_option maxRecDepth 100000 in
theorem through_yes (n : Nat) (h1 : 1 ≤ n) (h4 : n ≤ 4096) (A1 : Option Addr) (c1 : Nat) (l1 : List Int) (A2 : Option Addr) (c2 : Nat) (l2 : List Int) (w : World) (hr1 : Kd.C (Kd.int .i64) w A1 l1.length l1) (hr2 : Kd.C (Kd.int .i64) w A2 l2.length l2)
    (hl1 : l1.length ≤ 256) (hl2 : l2.length ≤ 256) (hs : smallB (l1 ++ l2) = true) :
    Calls Try.prog 18 #[.int .i64 n, .slice A1 l1.length c1, .slice A2 l2.length c2] w fun e w' => ∃ v0_ : Value, e = .returned (.tuple #[v0_, .int .i64 ((stepsS n l1 l2 (max l1.length l2.length)).2.2.1 : Int), .int .i64 0]) ∧ Kd.R (Kd.int .i64) 3 w' w.heap.size (fun _ => True) v0_ (stepsS n l1 l2 (max l1.length l2.length)).2.2.2 ∧ Below w.heap.size w w' := by
  obtain ⟨i0, hi, hz0, hz1, hz2⟩ := info_parts info_int
  have HR1 := Lib.hid hr1
  have HR2 := Lib.hid hr2
  have HS := Lib.hid hs
  clear hr1 hr2 hs
  obtain ⟨M, hM⟩ : ∃ M, M = max l1.length l2.length := ⟨_, rfl⟩
  rw [← hM]
  have hmx : Builtin.max2 (.int .i64 (l1.length : Int)) (.int .i64 (l2.length : Int)) = pure (.int .i64 (M : Int)) := by
    rw [max2_int]
    congr 2
    split <;> omega
  have hM2 : M ≤ 256 := by omega
  have hng : ¬ 256 < (M : Int) := by omega
  clear hM
  go_enter Try.func18, Try.ntmps18
  go_wp2_with fail
  refine (new_int_yes n w h1 h4).mono ?_
  rintro e W ⟨rfl, hW⟩
  have hst : St w w.heap.size n [] (.slice none 0 0) [] W := by rw [hW]; exact St.start w n
  have HST := Lib.hid hst
  clear hst hW
  go_wp2_with fail
  refine (concat_two A1 c1 l1 A2 c2 l2 W.heap.size _ (Kd.C_alloc (Kd.C_below HR1.out HST.out.below) _) (Kd.C_alloc (Kd.C_below HR2.out HST.out.below) _) hl1 hl2 (by go_simp) (by go_simp)).mono ?_
  rintro e w2 ⟨v, rfl, hR, hB⟩
  have hst2 : St w w.heap.size n [] (.slice none 0 0) [] w2 := (HST.out.alloc _).far (hB.mono (HST.out.alloc _).size) ⟨rfl, .inl ⟨rfl, rfl⟩⟩
  obtain ⟨L, hL⟩ : ∃ L, L = l1 ++ l2 := ⟨_, rfl⟩
  have hsL := HS.out
  have hLl : L.length ≤ 512 := by rw [hL]; simp; omega
  rw [← hL] at hR hsL
  have HSL := Lib.hid hsL
  clear hL hsL
  obtain ⟨A, c, rfl, hc, hC⟩ := Kd.R_reads hR
  have HST2 := Lib.hid hst2
  have HC := Lib.hid hC
  clear hst2 hC hR hB hc HST
  go_wp2_with fail
  refine (contains_in A c L _ (Kd.reads_of_C (enc := Value.int .i64) (d := (0 : Int)) (h1 := fun _ => rfl) HC.out) (by omega)).mono ?_
  rintro e w3 ⟨rfl, rfl⟩
  rw [HSL.out]
  clear HC
  go_wp2
  go_loopw [12, 13, 14, 41] (fun vo vn vm vi wr => ∃ i : Nat, i ≤ M ∧ vi = .int .i64 i ∧ vn = .int .i64 ((stepsS n l1 l2 i).2.1 : Nat) ∧ vm = .int .i64 ((stepsS n l1 l2 i).2.2.1 : Nat) ∧ Hid (St w w.heap.size n (stepsS n l1 l2 i).1 vo (stepsS n l1 l2 i).2.2.2 wr)) (fun _ _ _ vi _ => M - (intOf vi).toNat)
  case atStart => exact ⟨0, Nat.zero_le _, rfl, rfl, rfl, HST2⟩
  case round =>
    clear HST2
    obtain ⟨i, hi', rfl, rfl, rfl, hst⟩ := hrel
    by_cases hlt : i < M
    · obtain ⟨b1, b2, b3, b4⟩ := stepsS_bd n l1 l2 HS.out i
      obtain ⟨sm1, sm2⟩ := small_at HS.out i
      have hnx : Hid (stepsS n l1 l2 (i + 1) = stepS n (l1.getD i 0).toNat (l2.getD i 0).toNat (stepsS n l1 l2 i)) := Lib.hid rfl
      generalize stepsS n l1 l2 i = s at *
      obtain ⟨q, nx, ms, out⟩ := s
      simp only at b1 b2 b3 b4 hst
      generalize hB1 : l1.getD i 0 = B1 at *
      generalize hB2 : l2.getD i 0 = B2 at *
      have HB1 := Lib.hid hB1
      have HB2 := Lib.hid hB2
      clear hB1 hB2
      go_wp2_with (first | (go_at_call 27; refine (at_in A1 c1 l1 i _ (Kd.reads_of_C (enc := Value.int .i64) (d := (0 : Int)) (h1 := fun _ => rfl) (Kd.C_below HR1.out hst.out.below))).mono ?_; rw [HB1.out]; rintro e w' ⟨rfl, rfl⟩))
      go_loopw [13, 14, 47] (fun vn vm vk wq => ∃ k : Nat, k ≤ B1.toNat ∧ vk = .int .i64 k ∧ vn = .int .i64 ((putsS n k (q, nx, ms)).2.1 : Nat) ∧ vm = .int .i64 ((putsS n k (q, nx, ms)).2.2 : Nat) ∧ Hid (St w w.heap.size n (putsS n k (q, nx, ms)).1 u12 out wq)) (fun _ _ vk _ => B1.toNat - (intOf vk).toNat)
      case atStart => exact ⟨0, Nat.zero_le _, rfl, rfl, rfl, hst⟩
      case round =>
        clear hst
        obtain ⟨k, hk, rfl, rfl, rfl, hst⟩ := hrel
        have bd := putsS_bd n (q, nx, ms) b1 k
        have hsu : Hid (putsS n (k + 1) (q, nx, ms) = putS n (putsS n k (q, nx, ms))) := Lib.hid rfl
        by_cases hk2 : k < B1.toNat
        · generalize putsS n k (q, nx, ms) = p at *
          obtain ⟨q1, nx1, ms1⟩ := p
          simp only at bd hst
          have hkB : (k : Int) < B1 := by omega
          obtain ⟨d1, d2, d3⟩ := bd
          have e1 : nx1 ≤ 2000000 := by omega
          have e2 : ms1 ≤ 2000000 := by omega
          have e3 : k ≤ 4096 := by omega
          clear d2 d3
          by_cases hroom : q1.length < n
          · have E : Hid (putsS n (k + 1) (q, nx, ms) = (q1 ++ [(nx1 : Int)], nx1 + 1, ms1)) := Lib.hid (by rw [hsu.out]; unfold putS; rw [if_pos hroom])
            go_wp2_with (first | (go_at_call 9; refine (put_one hst.out (by omega) _).mono ?_; rw [if_pos hroom, if_pos hroom]; rintro e w' ⟨rfl, hst2⟩))
            go_roundw
            case rel => exact ⟨k + 1, by omega, by go_num, by rw [E.out]; go_num, by rw [E.out], by rw [E.out]; exact Lib.hid hst2⟩
            case measure => simp [intOf]; omega
          · have E : Hid (putsS n (k + 1) (q, nx, ms) = (q1, nx1 + 1, ms1 + 1)) := Lib.hid (by rw [hsu.out]; unfold putS; rw [if_neg hroom])
            go_wp2_with (first | (go_at_call 9; refine (put_one hst.out (by omega) _).mono ?_; rw [if_neg hroom, if_neg hroom]; rintro e w' ⟨rfl, hst2⟩))
            go_roundw
            case rel => exact ⟨k + 1, by omega, by go_num, by rw [E.out]; go_num, by rw [E.out]; go_num, by rw [E.out]; exact Lib.hid hst2⟩
            case measure => simp [intOf]; omega
        · obtain rfl : k = B1.toNat := by omega
          have hkB : ¬ ((B1.toNat : Int) < B1) := by omega
          have hn := hnx.out
          unfold stepS at hn
          simp only at hn
          clear hnx hsu
          generalize putsS n B1.toNat (q, nx, ms) = p at *
          obtain ⟨q1, nx1, ms1⟩ := p
          simp only at bd hst hn
          have HN := Lib.hid hn
          clear hn
          obtain ⟨d1, d2, d3⟩ := bd
          have e1 : nx1 ≤ 2000000 := by omega
          have e2 : ms1 ≤ 2000000 := by omega
          clear d2 d3
          go_wp2_with (first | (go_at_call 27; refine (at_in A2 c2 l2 i _ (Kd.reads_of_C (enc := Value.int .i64) (d := (0 : Int)) (h1 := fun _ => rfl) (Kd.C_below HR2.out hst.out.below))).mono ?_; rw [HB2.out]; rintro e w' ⟨rfl, rfl⟩))
          go_loopw [12, 62] (fun vo vk wq => ∃ k : Nat, k ≤ B2.toNat ∧ vk = .int .i64 k ∧ Hid (St w w.heap.size n (takesS k (q1, out)).1 vo (takesS k (q1, out)).2 wq)) (fun _ vk _ => B2.toNat - (intOf vk).toNat)
          case atStart => exact ⟨0, Nat.zero_le _, rfl, hst⟩
          case round =>
            clear hst
            obtain ⟨k, hk, rfl, hst⟩ := hrel
            have bd := takesS_bd (q1, out) k
            have hsu : Hid (takesS (k + 1) (q1, out) = takeS (takesS k (q1, out))) := Lib.hid rfl
            by_cases hk2 : k < B2.toNat
            · generalize takesS k (q1, out) = p at *
              obtain ⟨q2, out2⟩ := p
              simp only at bd hst
              have hkB : (k : Int) < B2 := by omega
              have e3 : k ≤ 4096 := by omega
              have e4 : out2.length ≤ 2000000 := by omega
              clear bd
              cases q2 with
              | nil =>
                have E : Hid (takesS (k + 1) (q1, out) = ([], out2)) := hsu
                go_wp2_with (first | (go_at_call 10; refine (take_one hst.out).mono ?_; simp only [List.headD_nil, List.isEmpty_nil, Bool.not_true, List.tail_nil]; rintro e w' ⟨rfl, hst2⟩))
                go_roundw
                case rel => exact ⟨k + 1, by omega, by go_num, by rw [E.out]; exact Lib.hid hst2⟩
                case measure => simp [intOf]; omega
              | cons x q2 =>
                have E : Hid (takesS (k + 1) (q1, out) = (q2, out2 ++ [x])) := hsu
                go_wp2_with (first | (go_at_call 10; refine (take_one hst.out).mono ?_; simp only [List.headD_cons, List.isEmpty_cons, Bool.not_false, List.tail_cons]; rintro e w' ⟨rfl, hst2⟩) | (at_builtin; refine wpList_append_own _ rfl _ _ 22 rfl (w.heap.size + 2) 3 i0 (.int .i64 0) 1 8 Try.underlying22 hi hz0 hz1 hz2 rfl (by decide) _ _ _ rfl (hst2.own.alloc _) ⟨_, 0, none⟩ 1 1 [.int .i64 x] rfl rfl (cell_one_new _ _ _) (by simp [Value.oneCell']) (by unfold maxLen; omega) (by omega) (by have := hst2.size; simp; omega) ?_; intro v2 w3 hown3 hgrow3 _))
                have hst3 : St w w.heap.size n q2 v2 (out2 ++ [x]) w3 := (hst2.alloc _).far ((Below.refl _ _).grown hgrow3 (hst2.alloc _).size (own_base hst2.own)) (by simpa using hown3)
                go_roundw
                case rel => exact ⟨k + 1, by omega, by go_num, by rw [E.out]; exact Lib.hid hst3⟩
                case measure => simp [intOf]; omega
            · obtain rfl : k = B2.toNat := by omega
              have hkB : ¬ ((B2.toNat : Int) < B2) := by omega
              have hn := HN.out
              clear HN hsu
              generalize takesS B2.toNat (q1, out) = p at *
              obtain ⟨q2, out2⟩ := p
              simp only at bd hst hn
              have HN := Lib.hid hn
              clear hn
              go_wp2
              go_roundw
              case rel => exact ⟨i + 1, by omega, by go_num, by rw [HN.out], by rw [HN.out], by rw [HN.out]; exact hst⟩
              case measure => simp [intOf]; omega
    · obtain rfl : i = M := by omega
      go_wp2
      go_ret3
      exact ⟨_, rfl, Kd.R_lower (Kd.R_of_own (enc := Value.int .i64) hst.out.own (fun _ _ => trivial)) (Nat.le_add_right w.heap.size 2), hst.out.below⟩

set_option maxHeartbeats 4000000 in
set_option maxRecDepth 100000 in
theorem through_no (a0 : Int) (v1 v2 : Value) (w : World) (h : a0 < 1 ∨ 4096 < a0) :
    Calls Try.prog 18 #[.int .i64 a0, v1, v2] w fun e w' => e = .returned (.tuple #[.slice none 0 0, .int .i64 0, .int .i64 4]) ∧ Below w.heap.size w w' := by
  go_enter Try.func18, Try.ntmps18
  go_wp2_with (first | (go_at_call 8; refine (new_int_no a0 w h).mono ?_; rintro e w' ⟨rfl, rfl⟩))
  go_ret3
  exact ⟨rfl, Below.refl _ _⟩
set_option maxHeartbeats 4000000 in
set_option maxRecDepth 100000 in
theorem through_long (n : Nat) (h1 : 1 ≤ n) (h4 : n ≤ 4096) (A1 : Option Addr) (c1 : Nat) (l1 : List Int) (A2 : Option Addr) (c2 : Nat) (l2 : List Int) (w : World) (hl : 256 < l1.length ∨ 256 < l2.length) :
    Calls Try.prog 18 #[.int .i64 n, .slice A1 l1.length c1, .slice A2 l2.length c2] w fun e w' => e = .returned (.tuple #[.slice none 0 0, .int .i64 0, .int .i64 3]) ∧ Below w.heap.size w w' := by
  obtain ⟨M, hM⟩ : ∃ M, M = max l1.length l2.length := ⟨_, rfl⟩
  have hmx : Builtin.max2 (.int .i64 (l1.length : Int)) (.int .i64 (l2.length : Int)) = pure (.int .i64 (M : Int)) := by
    rw [max2_int]
    congr 2
    split <;> omega
  have hng : 256 < (M : Int) := by omega
  clear hM
  go_enter Try.func18, Try.ntmps18
  go_wp2_with (first | (go_at_call 8; refine (new_int_yes n w h1 h4).mono ?_; rintro e W ⟨rfl, rfl⟩))
  go_ret3
  exact ⟨rfl, mkW_int_below n w⟩
set_option maxHeartbeats 4000000 in
set_option maxRecDepth 100000 in
theorem through_bad (n : Nat) (h1 : 1 ≤ n) (h4 : n ≤ 4096) (A1 : Option Addr) (c1 : Nat) (l1 : List Int) (A2 : Option Addr) (c2 : Nat) (l2 : List Int) (w : World) (hr1 : Kd.C (Kd.int .i64) w A1 l1.length l1) (hr2 : Kd.C (Kd.int .i64) w A2 l2.length l2)
    (hl1 : l1.length ≤ 256) (hl2 : l2.length ≤ 256) (hs : smallB (l1 ++ l2) = false) :
    Calls Try.prog 18 #[.int .i64 n, .slice A1 l1.length c1, .slice A2 l2.length c2] w fun e w' => e = .returned (.tuple #[.slice none 0 0, .int .i64 0, .int .i64 3]) ∧ Below w.heap.size w w' := by
  have HR1 := Lib.hid hr1
  have HR2 := Lib.hid hr2
  have HS := Lib.hid hs
  clear hr1 hr2 hs
  obtain ⟨M, hM⟩ : ∃ M, M = max l1.length l2.length := ⟨_, rfl⟩
  have hmx : Builtin.max2 (.int .i64 (l1.length : Int)) (.int .i64 (l2.length : Int)) = pure (.int .i64 (M : Int)) := by
    rw [max2_int]
    congr 2
    split <;> omega
  have hM2 : M ≤ 256 := by omega
  have hng : ¬ 256 < (M : Int) := by omega
  clear hM
  go_enter Try.func18, Try.ntmps18
  go_wp2_with fail
  refine (new_int_yes n w h1 h4).mono ?_
  rintro e W ⟨rfl, hW⟩
  have hst : St w w.heap.size n [] (.slice none 0 0) [] W := by rw [hW]; exact St.start w n
  have HST := Lib.hid hst
  clear hst hW
  go_wp2_with fail
  refine (concat_two A1 c1 l1 A2 c2 l2 W.heap.size _ (Kd.C_alloc (Kd.C_below HR1.out HST.out.below) _) (Kd.C_alloc (Kd.C_below HR2.out HST.out.below) _) hl1 hl2 (by go_simp) (by go_simp)).mono ?_
  rintro e w2 ⟨v, rfl, hR, hB⟩
  have hst2 : St w w.heap.size n [] (.slice none 0 0) [] w2 := (HST.out.alloc _).far (hB.mono (HST.out.alloc _).size) ⟨rfl, .inl ⟨rfl, rfl⟩⟩
  obtain ⟨L, hL⟩ : ∃ L, L = l1 ++ l2 := ⟨_, rfl⟩
  have hsL := HS.out
  have hLl : L.length ≤ 512 := by rw [hL]; simp; omega
  rw [← hL] at hR hsL
  have HSL := Lib.hid hsL
  clear hL hsL
  obtain ⟨A, c, rfl, hc, hC⟩ := Kd.R_reads hR
  have HST2 := Lib.hid hst2
  have HC := Lib.hid hC
  clear hst2 hC hR hB hc HST
  go_wp2_with fail
  refine (contains_in A c L _ (Kd.reads_of_C (enc := Value.int .i64) (d := (0 : Int)) (h1 := fun _ => rfl) HC.out) (by omega)).mono ?_
  rintro e w3 ⟨rfl, rfl⟩
  rw [HSL.out]
  clear HC
  go_wp2
  go_ret3
  exact ⟨rfl, HST2.out.below⟩

theorem feed_Through.calls (a0 : Int) (A1 : Option Addr) (c1 : Nat) (l1 : List Int) (A2 : Option Addr) (c2 : Nat) (l2 : List Int) (r1 : List Int) (r2 r3 : Int) (w : World) (hr1 : Kd.C (Kd.int .i64) w A1 l1.length l1) (hc1 : l1.length ≤ c1) (hr2 : Kd.C (Kd.int .i64) w A2 l2.length l2) (hc2 : l2.length ≤ c2)
    (h : feed_Through.f a0 l1 l2 = some (r1, r2, r3)) :
    Calls Try.prog 18 #[.int .i64 a0, .slice A1 l1.length c1, .slice A2 l2.length c2] w fun e w' => ∃ v0_ : Value, e = .returned (.tuple #[v0_, .int .i64 r2, .int .i64 r3]) ∧ Kd.R (Kd.int .i64) 3 w' w.heap.size (fun _ => True) v0_ r1 ∧ Below w.heap.size w w' := by
  unfold feed_Through.f at h
  have h := Option.some.inj h
  by_cases h0 : a0 < 1 ∨ 4096 < a0
  · rw [if_pos h0] at h
    obtain ⟨rfl, rfl, rfl⟩ : [] = r1 ∧ 0 = r2 ∧ 4 = r3 := ⟨congrArg (·.1) h, congrArg (·.2.1) h, congrArg (·.2.2) h⟩
    refine (through_no a0 _ _ w h0).mono ?_
    rintro e w' ⟨rfl, hb⟩
    exact ⟨_, rfl, Kd.R_nil _ _ _ _ _, hb⟩
  · rw [if_neg h0] at h
    obtain ⟨n, rfl⟩ : ∃ n : Nat, a0 = n := ⟨a0.toNat, by omega⟩
    rw [Int.toNat_natCast] at h
    by_cases hl : 256 < l1.length ∨ 256 < l2.length
    · rw [if_pos (by rcases hl with h | h <;> simp [h])] at h
      obtain ⟨rfl, rfl, rfl⟩ : [] = r1 ∧ 0 = r2 ∧ 3 = r3 := ⟨congrArg (·.1) h, congrArg (·.2.1) h, congrArg (·.2.2) h⟩
      refine (through_long n (by omega) (by omega) A1 c1 l1 A2 c2 l2 w hl).mono ?_
      rintro e w' ⟨rfl, hb⟩
      exact ⟨_, rfl, Kd.R_nil _ _ _ _ _, hb⟩
    · cases hs : smallB (l1 ++ l2) with
      | false =>
        rw [if_pos (.inr (.inr hs))] at h
        obtain ⟨rfl, rfl, rfl⟩ : [] = r1 ∧ 0 = r2 ∧ 3 = r3 := ⟨congrArg (·.1) h, congrArg (·.2.1) h, congrArg (·.2.2) h⟩
        refine (through_bad n (by omega) (by omega) A1 c1 l1 A2 c2 l2 w hr1 hr2 (by omega) (by omega) hs).mono ?_
        rintro e w' ⟨rfl, hb⟩
        exact ⟨_, rfl, Kd.R_nil _ _ _ _ _, hb⟩
      | true =>
        rw [if_neg (by simp [hs]; omega)] at h
        obtain ⟨rfl, rfl, rfl⟩ := (⟨congrArg (·.1) h, congrArg (·.2.1) h, congrArg (·.2.2) h⟩ : _ = r1 ∧ _ = r2 ∧ _ = r3)
        exact through_yes n (by omega) (by omega) A1 c1 l1 A2 c2 l2 w hr1 hr2 (by omega) (by omega) hs
end Go.Proofs.Ytdgebcgcabhjoaa.P

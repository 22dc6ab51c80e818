/- utf8.AppendRune onto a row of the call's own, for each character that may be: contract. -/
import Derived.Test.YthekpajbffjfmaaDoorLaid
import Derived.Test.YthekpajbffjfmaaDoorWWords
import Derived.Test.YthekpajbffjfmaaDoorWKept
import Derived.Test.YthekpajbffjfmaaDoorWMore
import Derived.WalkKit
import Derived.WalkSpells
import Derived.Maps.AppendAt
import Derived.Lib.Hide
import Derived.Laws.BitsLemmas
namespace Go.Proofs.YthekpajbffjfmaaDoor.P
set_option linter.unusedVariables false
set_option linter.unusedSimpArgs false
open Go.RowKit Go.Proofs.YthekpajbffjfmaaDoorW.PrintWords
theorem infoB : (Tryd.prog.info? 5).map (fun i => (i.zero, i.size, i.bytes)) = some (some (.int .u8 0), 1, 1) := by kernel_rfl
/-- A character's octets. -/
def encR (c : Int) : List Int :=
  if c < 128 then [c] else if c < 2048 then [192 + c / 64, 128 + c % 64]
  else if c < 65536 then [224 + c / 4096, 128 + c / 64 % 64, 128 + c % 64]
  else [240 + c / 262144, 128 + c / 4096 % 64, 128 + c / 64 % 64, 128 + c % 64]
/-- May a number be a character? -/
def rune (c : Int) : Prop := 0 ≤ c ∧ c ≤ 1114111 ∧ ¬ (55296 ≤ c ∧ c ≤ 57343)
instance (c : Int) : Decidable (rune c) := by unfold rune; infer_instance
def utf8_AppendRune.f (l0 : List Int) (a1 : Int) : Option (List Int) := if rune a1 ∧ l0.length + 4 ≤ 140737488355327 then some (l0 ++ encR a1) else none
/-- What an append onto v at world w leaves. -/
def AppPost (B : Nat) (v : Value) (n : Nat) (xs : List Value) (l : List Value) (w : World) (e : Ending) (w' : World) : Prop :=
  ∃ v', e = .returned v' ∧ w'.ownsRow B 5 1 v' (n + l.length) (xs ++ l) ∧ (∃ o, (w.alloc o).grownBy w' v.ownBlock) ∧ (v'.ownBlock = v.ownBlock ∨ ∃ b, v'.ownBlock = some b ∧ w.heap.size ≤ b)


set_option maxHeartbeats 4000000 in
set_option maxRecDepth 100000 in
theorem app_one (B : Nat) (v : Value) (n : Nat) (xs : List Value) (r : Int) (h0 : 0 ≤ r) (h1 : r ≤ 127) (w : World) (hown : w.ownsRow B 5 1 v n xs) (hlen : n + 4 ≤ 140737488355328) (hBw : B ≤ w.heap.size) :
    Calls Tryd.prog 33 #[v, .int .i32 r] w fun e w' => AppPost B v n xs [.int .u8 (r)] w e w' := by
  obtain ⟨i0, hi, hz0, hz1, hz2⟩ := info_parts infoB
  go_enter Tryd.func33, Tryd.ntmps33
  go_wp2_with (at_builtin; refine wpList_append_own_at _ rfl _ _ 38 rfl B 5 i0 (.int .u8 0) 1 1 Tryd.underlying38 hi hz0 hz1 hz2 rfl (by decide) _ _ _ rfl (hown.alloc _) ⟨w.heap.size, 0, none⟩ 1 1 [.int .u8 (r)] rfl rfl ?c1 ?c2 ?c3 ?c4 ?c5 ?_)
  case c1 =>
    intro j u hj
    match j, hj with
    | 0, hj => simp at hj; subst hj; simp [Addr.add]
    | (j + 1), hj => simp at hj
  case c2 => intro u hu; simp at hu; subst hu; rfl
  case c3 => unfold maxLen; omega
  case c4 => omega
  case c5 => simp; omega
  intro v' w2 hown' hgrow _ hat
  go_wp2
  go_ret
  exact ⟨_, rfl, hown', ⟨_, hgrow⟩, hat.imp id (fun h => ⟨_, h, by simp⟩)⟩


set_option maxHeartbeats 4000000 in
set_option maxRecDepth 100000 in
theorem app_two (B : Nat) (v : Value) (n : Nat) (xs : List Value) (r : Int) (h0 : 128 ≤ r) (h1 : r ≤ 2047) (w : World) (hown : w.ownsRow B 5 1 v n xs) (hlen : n + 4 ≤ 140737488355328) (hBw : B ≤ w.heap.size) :
    Calls Tryd.prog 42 #[v, .int .i32 r] w fun e w' => AppPost B v n xs [.int .u8 (192 + r / 64), .int .u8 (128 + r % 64)] w e w' := by
  obtain ⟨i0, hi, hz0, hz1, hz2⟩ := info_parts infoB
  go_enter Tryd.func42, Tryd.ntmps42
  go_wp2_with (at_builtin; refine wpList_append_own_at _ rfl _ _ 38 rfl B 5 i0 (.int .u8 0) 1 1 Tryd.underlying38 hi hz0 hz1 hz2 rfl (by decide) _ _ _ rfl (hown.alloc _) ⟨w.heap.size, 0, none⟩ 2 2 [.int .u8 (192 + r / 64), .int .u8 (128 + r % 64)] rfl rfl ?c1 ?c2 ?c3 ?c4 ?c5 ?_)
  case c1 =>
    intro j u hj
    match j, hj with
    | 0, hj => simp at hj; subst hj; simp [Addr.add]
    | 1, hj => simp at hj; subst hj; simp [Addr.add]
    | (j + 2), hj => simp at hj
  case c2 => intro u hu; simp at hu; rcases hu with rfl | rfl <;> rfl
  case c3 => unfold maxLen; omega
  case c4 => omega
  case c5 => simp; omega
  intro v' w2 hown' hgrow _ hat
  go_wp2
  go_ret
  exact ⟨_, rfl, hown', ⟨_, hgrow⟩, hat.imp id (fun h => ⟨_, h, by simp⟩)⟩


set_option maxHeartbeats 4000000 in
set_option maxRecDepth 100000 in
theorem app_lo (B : Nat) (v : Value) (n : Nat) (xs : List Value) (r : Int) (h0 : 2048 ≤ r) (h1 : r < 55296) (w : World) (hown : w.ownsRow B 5 1 v n xs) (hlen : n + 4 ≤ 140737488355328) (hBw : B ≤ w.heap.size) :
    Calls Tryd.prog 42 #[v, .int .i32 r] w fun e w' => AppPost B v n xs [.int .u8 (224 + r / 4096), .int .u8 (128 + r / 64 % 64), .int .u8 (128 + r % 64)] w e w' := by
  obtain ⟨i0, hi, hz0, hz1, hz2⟩ := info_parts infoB
  go_enter Tryd.func42, Tryd.ntmps42
  go_wp2_with (at_builtin; refine wpList_append_own_at _ rfl _ _ 38 rfl B 5 i0 (.int .u8 0) 1 1 Tryd.underlying38 hi hz0 hz1 hz2 rfl (by decide) _ _ _ rfl (hown.alloc _) ⟨w.heap.size, 0, none⟩ 3 3 [.int .u8 (224 + r / 4096), .int .u8 (128 + r / 64 % 64), .int .u8 (128 + r % 64)] rfl rfl ?c1 ?c2 ?c3 ?c4 ?c5 ?_)
  case c1 =>
    intro j u hj
    match j, hj with
    | 0, hj => simp at hj; subst hj; simp [Addr.add]
    | 1, hj => simp at hj; subst hj; simp [Addr.add]
    | 2, hj => simp at hj; subst hj; simp [Addr.add]
    | (j + 3), hj => simp at hj
  case c2 => intro u hu; simp at hu; rcases hu with rfl | rfl | rfl <;> rfl
  case c3 => unfold maxLen; omega
  case c4 => omega
  case c5 => simp; omega
  intro v' w2 hown' hgrow _ hat
  go_wp2
  go_ret
  exact ⟨_, rfl, hown', ⟨_, hgrow⟩, hat.imp id (fun h => ⟨_, h, by simp⟩)⟩


set_option maxHeartbeats 4000000 in
set_option maxRecDepth 100000 in
theorem app_hi (B : Nat) (v : Value) (n : Nat) (xs : List Value) (r : Int) (h0 : 57343 < r) (h1 : r ≤ 65535) (w : World) (hown : w.ownsRow B 5 1 v n xs) (hlen : n + 4 ≤ 140737488355328) (hBw : B ≤ w.heap.size) :
    Calls Tryd.prog 42 #[v, .int .i32 r] w fun e w' => AppPost B v n xs [.int .u8 (224 + r / 4096), .int .u8 (128 + r / 64 % 64), .int .u8 (128 + r % 64)] w e w' := by
  obtain ⟨i0, hi, hz0, hz1, hz2⟩ := info_parts infoB
  go_enter Tryd.func42, Tryd.ntmps42
  go_wp2_with (at_builtin; refine wpList_append_own_at _ rfl _ _ 38 rfl B 5 i0 (.int .u8 0) 1 1 Tryd.underlying38 hi hz0 hz1 hz2 rfl (by decide) _ _ _ rfl (hown.alloc _) ⟨w.heap.size, 0, none⟩ 3 3 [.int .u8 (224 + r / 4096), .int .u8 (128 + r / 64 % 64), .int .u8 (128 + r % 64)] rfl rfl ?c1 ?c2 ?c3 ?c4 ?c5 ?_)
  case c1 =>
    intro j u hj
    match j, hj with
    | 0, hj => simp at hj; subst hj; simp [Addr.add]
    | 1, hj => simp at hj; subst hj; simp [Addr.add]
    | 2, hj => simp at hj; subst hj; simp [Addr.add]
    | (j + 3), hj => simp at hj
  case c2 => intro u hu; simp at hu; rcases hu with rfl | rfl | rfl <;> rfl
  case c3 => unfold maxLen; omega
  case c4 => omega
  case c5 => simp; omega
  intro v' w2 hown' hgrow _ hat
  go_wp2
  go_ret
  exact ⟨_, rfl, hown', ⟨_, hgrow⟩, hat.imp id (fun h => ⟨_, h, by simp⟩)⟩


set_option maxHeartbeats 4000000 in
set_option maxRecDepth 100000 in
theorem app_four (B : Nat) (v : Value) (n : Nat) (xs : List Value) (r : Int) (h0 : 65536 ≤ r) (h1 : r ≤ 1114111) (w : World) (hown : w.ownsRow B 5 1 v n xs) (hlen : n + 4 ≤ 140737488355328) (hBw : B ≤ w.heap.size) :
    Calls Tryd.prog 42 #[v, .int .i32 r] w fun e w' => AppPost B v n xs [.int .u8 (240 + r / 262144), .int .u8 (128 + r / 4096 % 64), .int .u8 (128 + r / 64 % 64), .int .u8 (128 + r % 64)] w e w' := by
  obtain ⟨i0, hi, hz0, hz1, hz2⟩ := info_parts infoB
  go_enter Tryd.func42, Tryd.ntmps42
  go_wp2_with (at_builtin; refine wpList_append_own_at _ rfl _ _ 38 rfl B 5 i0 (.int .u8 0) 1 1 Tryd.underlying38 hi hz0 hz1 hz2 rfl (by decide) _ _ _ rfl (hown.alloc _) ⟨w.heap.size, 0, none⟩ 4 4 [.int .u8 (240 + r / 262144), .int .u8 (128 + r / 4096 % 64), .int .u8 (128 + r / 64 % 64), .int .u8 (128 + r % 64)] rfl rfl ?c1 ?c2 ?c3 ?c4 ?c5 ?_)
  case c1 =>
    intro j u hj
    match j, hj with
    | 0, hj => simp at hj; subst hj; simp [Addr.add]
    | 1, hj => simp at hj; subst hj; simp [Addr.add]
    | 2, hj => simp at hj; subst hj; simp [Addr.add]
    | 3, hj => simp at hj; subst hj; simp [Addr.add]
    | (j + 4), hj => simp at hj
  case c2 => intro u hu; simp at hu; rcases hu with rfl | rfl | rfl | rfl <;> rfl
  case c3 => unfold maxLen; omega
  case c4 => omega
  case c5 => simp; omega
  intro v' w2 hown' hgrow _ hat
  go_wp2
  go_ret
  exact ⟨_, rfl, hown', ⟨_, hgrow⟩, hat.imp id (fun h => ⟨_, h, by simp⟩)⟩


theorem app_slow (B : Nat) (v : Value) (n : Nat) (xs l : List Value) (r : Int) (h0 : 128 ≤ r) (h1 : r ≤ 1114111) (w : World)
    (h : Calls Tryd.prog 42 #[v, .int .i32 r] w fun e w' => AppPost B v n xs l w e w') :
    Calls Tryd.prog 33 #[v, .int .i32 r] w fun e w' => AppPost B v n xs l w e w' := by
  have H := Lib.hid h
  clear h
  go_enter Tryd.func33, Tryd.ntmps33
  go_wp2_with fail
  refine H.out.mono ?_
  rintro e w' ⟨v', rfl, h1, h2, h3⟩
  have H1 := Lib.hid h1
  have H2 := Lib.hid h2
  have H3 := Lib.hid h3
  clear h1 h2 h3
  go_wp2
  go_ret
  exact ⟨v', rfl, H1.out, H2.out, H3.out⟩

theorem app_any (B : Nat) (v : Value) (n : Nat) (xs : List Value) (r : Int) (hr : rune r) (w : World) (hown : w.ownsRow B 5 1 v n xs) (hlen : n + 4 ≤ 140737488355328) (hBw : B ≤ w.heap.size) :
    Calls Tryd.prog 33 #[v, .int .i32 r] w fun e w' => AppPost B v n xs ((encR r).map (Value.int .u8)) w e w' := by
  obtain ⟨h0, h1, h2⟩ := hr
  unfold encR
  by_cases c1 : r < 128
  · rw [if_pos c1]; exact app_one B v n xs r h0 (by omega) w hown hlen hBw
  rw [if_neg c1]
  refine app_slow B v n xs _ r (by omega) h1 w ?_
  by_cases c2 : r < 2048
  · rw [if_pos c2]; exact app_two B v n xs r (by omega) (by omega) w hown hlen hBw
  rw [if_neg c2]
  by_cases c3 : r < 65536
  · rw [if_pos c3]
    by_cases c4 : r < 55296
    · exact app_lo B v n xs r (by omega) c4 w hown hlen hBw
    · exact app_hi B v n xs r (by omega) (by omega) w hown hlen hBw
  · rw [if_neg c3]; exact app_four B v n xs r (by omega) h1 w hown hlen hBw

theorem utf8_AppendRune.calls (P0_ : Nat → Prop) (u9000_ : Value) (l0 : List Int) (a1 : Int) (r : List Int) (w0 w : World) (hLD : LaidW w0) (hB : Below w0.heap.size w0 w) (ho0 : Kd.R (Kd.int .u8) 5 w w0.heap.size P0_ u9000_ l0) (h : utf8_AppendRune.f l0 a1 = some r) :
    Calls Tryd.prog 33 #[u9000_, .int .i32 a1] w fun e w' => ∃ v0_ : Value, e = .returned (v0_) ∧ Kd.R (Kd.int .u8) 5 w' w0.heap.size (fun k_ => (P0_ k_ ∨ w.heap.size ≤ k_)) v0_ r ∧ Below w0.heap.size w0 w' ∧ Kept w w' (fun k_ => P0_ k_) := by
  unfold utf8_AppendRune.f at h
  by_cases hc : rune a1 ∧ l0.length + 4 ≤ 140737488355327
  · rw [if_pos hc] at h
    simp only [Option.some.injEq] at h
    subst h
    have hown := Kd.own_of_R ho0
    refine (app_any w0.heap.size u9000_ l0.length _ a1 hc.1 w hown (by omega) hB.size).mono ?_
    rintro e w' ⟨v', rfl, h1, ⟨o, h2⟩, h3⟩
    have h2w : ∀ k, k < w.heap.size → ¬ P0_ k → w'.heap[k]? = w.heap[k]? := fun k hk hn =>
      (h2.block k (by simp; omega) (fun e => hn (ho0.1 k e.symm))).trans (Below.heap_alloc _ _ _ hk)
    refine ⟨v', rfl, Kd.R_of_own (enc := Value.int .u8) ?_ ?_, ?_, ?_⟩
    · rw [List.length_append]
      simpa [encs] using h1
    · intro k hk
      rcases h3 with h3 | ⟨b, h3, hb⟩
      · exact .inl (ho0.1 k (by rw [← h3]; exact hk))
      · rw [h3] at hk; cases hk; exact .inr hb
    · refine hB.trans ⟨h2.os, h2.tape, h2.output, Nat.le_trans (by simp) h2.size, fun k hk => ?_⟩
      have hk' : k < w.heap.size := Nat.lt_of_lt_of_le hk hB.size
      refine (h2.block k (by simp; omega) (fun e => ?_)).trans (Below.heap_alloc _ _ _ hk')
      have := own_base hown k e.symm
      omega
    · exact ⟨Nat.le_trans (by simp) h2.size, h2w⟩
  · rw [if_neg hc] at h; cases h
end Go.Proofs.YthekpajbffjfmaaDoor.P

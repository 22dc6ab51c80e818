/- The iterator over a text's characters (utf.runes): its contract for every loop body. -/
import Derived.RangeFuncBox
import Derived.RangeFuncLeaves
import Derived.RangeFuncFrom
import Derived.Shelf.Abstract
import Derived.WalkKit
import Derived.OwnWalkIn
import Derived.TacticsInMore
import Derived.LoopNIn
import Derived.LoopIn
import Derived.Maps.AppendAt
import Derived.Lib.Hide
import Derived.Test.YthekpajbffjfmaaDoorShelf
import Derived.Test.YthekpajbffjfmaaDoorLaid
import Derived.Test.YthekpajbffjfmaaDoorUs
namespace Go.Proofs.YthekpajbffjfmaaDoor.P
set_option linter.unusedVariables false
set_option linter.unusedSimpArgs false
open Go.RowKit Go.Shelf
attribute [local go_sem] Oper.semAt_some
theorem laid_at {n₀ : Nat} {w W : World} (h : LaidW w) (hn : w.heap.size ≤ n₀) (hb : Below n₀ w W) : LaidW W := h.below (hb.mono hn)
theorem grown_of {w w1 : World} (h : Below w.heap.size w w1) : w.grownBy w1 none := ⟨h.os, h.tape, h.output, h.size, fun i hi _ => h.block i hi⟩

/-- The decoder at a place of a text. -/
theorem dec_at (s : ByteArray) (p : Nat) (hp : p < s.size) (w : World) (hL : LaidW w) :
    Calls Tryd.prog 40 #[.string (s.extract p s.size)] w fun e w' => e = .returned (.tuple #[.int .i32 ((Utf8.decode s p).1 : Int), .int .i64 (un s p : Int)]) ∧ Below w.heap.size w w' := by
  have h := Tryd.utf8_DecodeRuneInString (s.extract p s.size) w hL
  rw [decodeGo_extract s p hp] at h
  exact h

theorem usub_step (s : ByteArray) (hs : s.size ≤ 1152921504606846976) (f p : Nat) (hp : p < s.size) (hf : s.size - p ≤ f) : ∃ g, s.size - (p + un s p) ≤ g ∧ usub s hs f p = ⟨(p, uc s p), by omega, (uc_bd s p hp).1, (uc_bd s p hp).2⟩ :: usub s hs g (p + un s p) := by
  obtain ⟨g, rfl⟩ : ∃ g, f = g + 1 := ⟨f - 1, by omega⟩
  have := un_pos s p
  refine ⟨g, by omega, ?_⟩
  rw [usub, dif_pos hp]
theorem usub_end (s : ByteArray) (hs : s.size ≤ 1152921504606846976) (f p : Nat) (hp : ¬ p < s.size) : usub s hs f p = [] := by
  cases f with
  | zero => rfl
  | succ f => rw [usub, dif_neg hp]

/-- What a round keeps: what lay below n₀, and the box that holds the text. -/
def KpS (n₀ Bn : Nat) (W W' : World) : Prop := Below n₀ W W' ∧ W'.cell? ⟨Bn, 0, none⟩ = W.cell? ⟨Bn, 0, none⟩
theorem kpS_t {n₀ Bn : Nat} {A B C : World} (h : KpS n₀ Bn A B) (k : KpS n₀ Bn B C) : KpS n₀ Bn A C := ⟨h.1.trans k.1, k.2.trans h.2⟩
theorem kpS_b {n₀ Bn : Nat} {w : World} (hn : n₀ ≤ w.heap.size) (hB : Bn < w.heap.size) (W : World) (l : Nat) (o o' : Obj) (hl : w.heap.size ≤ l) (h : W.heap[l]? = some o) (h1 : o.isCells = false) (h2 : o.isWalk = false) : KpS n₀ Bn W (W.putObj l o') :=
  ⟨belowK_b hn W l o o' hl h h1 h2, World.cell?_of_block (w := W) (World.putObj_heap_other (by simp; omega))⟩
theorem kpS_refl (n₀ Bn : Nat) (W : World) : KpS n₀ Bn W W := ⟨Below.refl _ _, rfl⟩

set_option maxRecDepth 100000 in
set_option maxHeartbeats 4000000 in
theorem runes1_in (n : Nat) (hn : 2 ≤ n) (l Bn n₀ : Nat) (s : ByteArray) (hs : s.size ≤ 1152921504606846976) (J Jx : List UItem → World → Prop) (hJA : ∀ x A B, J x A → A.grownBy B none → J x B)
    (hY : ∀ pre x W, J pre W → pre.length < (usub s hs s.size 0).length → YieldAt Fence.wide (n - 1) Tryd.prog l #[.int .i64 x.1.1, .int .i32 x.1.2] W fun e W' =>
      (e = .returned (.bool true) ∧ J (pre ++ [x]) W' ∧ KpS n₀ Bn W W') ∨ (e = .returned (.bool false) ∧ Jx (pre ++ [x]) W'))
    (W : World) (hc : W.cell? ⟨Bn, 0, none⟩ = some (.string s)) (w0 : World) (hL : LaidW w0) (hLn : w0.heap.size ≤ n₀) (hLb : Below n₀ w0 W) (hWn : n₀ ≤ W.heap.size) (h0 : J [] W) :
    CallsIn Fence.wide n Tryd.prog 39 #[.func (.yield l) #[] #[], .pointer (some ⟨Bn, 0, none⟩)] W fun e W' => (∃ v, e = .returned v) ∧
      ((∃ ys, ys = usub s hs s.size 0 ∧ J ys W') ∨ (∃ pre, pre <+: usub s hs s.size 0 ∧ Jx pre W')) := by
  have hn1 : 1 ≤ n := by omega
  have hn2 : 1 ≤ n - 1 := by omega
  have HS := Lib.hid hs
  have HLB := Lib.hid hLb
  have HWN := Lib.hid hWn
  have H0 := Lib.hid hc
  clear hLb hc
  refine callsIn_of_wp Tryd.func39 rfl trivial ?_ rfl
  simp only [Tryd.ntmps39, List.size_toArray, List.length_cons, List.length_nil, Nat.reduceAdd, Nat.reduceSub, Array.replicate_succ, Array.replicate_zero, List.push_toArray, List.append_toArray, List.nil_append, List.cons_append]
  gi_wp2
  gi_loopw [3] (fun i wr => ∃ (pre : List UItem) (f p : Nat), p ≤ s.size ∧ i = .int .i64 p ∧ s.size - p ≤ f ∧ Hid (usub s hs s.size 0 = pre ++ usub s hs f p) ∧ Below n₀ W wr ∧ wr.cell? ⟨Bn, 0, none⟩ = some (.string s) ∧ J pre wr) (fun i _ => s.size - (intOf i).toNat)
  case atStart => exact ⟨[], s.size, 0, Nat.zero_le _, rfl, by omega, Lib.hid (by simp), Below.refl _ _, H0.out, h0⟩
  case round =>
    obtain ⟨pre, f, p, hp, rfl, hf, hU, hB, hcell, hJs⟩ := hrel
    have HB := Lib.hid hB
    have HJ := Lib.hid hJs
    have hbn : Bn < wr.heap.size := World.block_lt_of_cell? _ _ hcell
    have hld : LaidW wr := laid_at hL hLn (HLB.out.trans hB)
    have HLD := Lib.hid hld
    clear hB hJs hld
    by_cases hlt : p < s.size
    · obtain ⟨g, hg, hu⟩ := usub_step s hs f p hlt hf
      have HU2 := Lib.hid hu
      clear hu
      have hup := un_pos s p
      have hul := un_le s p hlt
      obtain ⟨K, hK⟩ : ∃ K, K = un s p := ⟨_, rfl⟩
      obtain ⟨R, hR⟩ : ∃ R, R = (Utf8.decode s p).1 := ⟨_, rfl⟩
      have HK := Lib.hid hK
      have HR := Lib.hid hR
      rw [← hK] at hup hul
      clear hK hR
      have hx : uc s p = if R = 65533 ∧ K = 1 then -1 else (R : Int) := by rw [HR.out, HK.out]; rfl
      have HX := Lib.hid hx
      clear hx
      gi_wp2_with fail
      refine ⟨trivial, ?_⟩
      refine (callsIn_wide.2 (dec_at s p hlt _ HLD.out)).mono ?_
      rintro e w2 ⟨rfl, hb2⟩
      rw [← HK.out, ← HR.out]
      have hwr : n₀ ≤ wr.heap.size := Nat.le_trans HWN.out HB.out.size
      have hJ2 : J pre w2 := hJA pre wr w2 HJ.out (grown_of hb2)
      have hB2 : Below n₀ W w2 := HB.out.trans (hb2.mono hwr)
      have hcell2 : w2.cell? ⟨Bn, 0, none⟩ = some (.string s) := (hb2.cell (p := ⟨Bn, 0, none⟩) hbn).trans hcell
      obtain ⟨fn, tmps, assign, body, hy, hRd⟩ := hY pre ⟨(p, uc s p), by omega, (uc_bd s p hlt).1, (uc_bd s p hlt).2⟩ w2 hJ2 (by rw [hU.out, HU2.out]; simp)
      dsimp only at hy
      rw [HX.out] at hy
      have HB2 := Lib.hid hB2
      have HRD := Lib.hid hRd
      clear hB2 hJ2 hb2 hcell hRd
      have c1 : (((R : Int) == 65533) = true ∧ ((K : Int) == 1) = true ∧ (R = 65533 ∧ K = 1)) ∨ (((R : Int) == 65533) = true ∧ ((K : Int) == 1) = false ∧ ¬ (R = 65533 ∧ K = 1)) ∨ (((R : Int) == 65533) = false ∧ ¬ (R = 65533 ∧ K = 1)) := by
        by_cases h1 : R = 65533
        · by_cases h2 : K = 1
          · exact .inl ⟨by simp; omega, by simp; omega, h1, h2⟩
          · exact .inr (.inl ⟨by simp; omega, by simp; omega, fun h => h2 h.2⟩)
        · exact .inr (.inr ⟨by simp; omega, fun h => h1 h.1⟩)
      have Hrel : Hid (∀ W3, J (pre ++ [⟨(p, uc s p), by omega, (uc_bd s p hlt).1, (uc_bd s p hlt).2⟩]) W3 → KpS n₀ Bn w2 W3 → ∃ (pre : List UItem) (f q : Nat), q ≤ s.size ∧ Value.int .i64 ((p : Int) + (K : Int)) = .int .i64 q ∧ s.size - q ≤ f ∧ Hid (usub s hs s.size 0 = pre ++ usub s hs f q) ∧ Below n₀ W W3 ∧ W3.cell? ⟨Bn, 0, none⟩ = some (.string s) ∧ J pre W3) := by
        refine Lib.hid (fun W3 h3 hb3 => ⟨_, g, p + K, hul, by rw [Int.natCast_add], by rw [HK.out]; exact hg, ?_, HB2.out.trans hb3.1, hb3.2.trans hcell2, h3⟩)
        exact Lib.hid (by rw [hU.out, HU2.out, show usub s hs g (p + un s p) = usub s hs g (p + K) from congrArg (fun z => usub s hs g (p + z)) HK.out.symm]; simp)
      rcases c1 with ⟨c1, c2, c3⟩ | ⟨c1, c2, c3⟩ | ⟨c1, c3⟩
      all_goals
        first | rw [if_pos c3] at hy | rw [if_neg c3] at hy
        clear c3
        gi_wp2
        refine HRD.out.mono ?_
        rintro e W3 (⟨rfl, hJ3, hk3⟩ | ⟨rfl, hJx3⟩)
        · have HJ3 := Lib.hid hJ3
          have HK3 := Lib.hid hk3
          clear hJ3 hk3
          gi_wp2
          go_roundw
          case rel => exact Hrel.out _ HJ3.out HK3.out
          case measure => simp [intOf]; omega
        · gi_wp2
          refine bodyPost_ret (results_none rfl _ _ _) rfl ?_
          exact ⟨⟨_, rfl⟩, .inr ⟨_, ⟨usub s hs g (p + un s p), by rw [hU.out, HU2.out]; simp⟩, hJx3⟩⟩
    · have e := usub_end s hs f p hlt
      have HE := Lib.hid e
      clear e
      gi_wp2
      go_end0
      exact ⟨⟨_, rfl⟩, .inl ⟨pre, by rw [hU.out, HE.out]; simp, HJ.out⟩⟩
end Go.Proofs.YthekpajbffjfmaaDoor.P

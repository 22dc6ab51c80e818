/- slices.Backward of limbs: the iterator's contract for every loop body. -/
import Derived.RangeFuncBox
import Derived.RangeFuncLeaves
import Derived.RangeFuncFrom
import Derived.RangeFuncNested
import Derived.WalkKit
import Derived.OwnWalkIn
import Derived.TacticsInMore
import Derived.LoopNIn
import Derived.LoopIn
import Derived.Maps.AppendAt
import Derived.Lib.Hide
import Derived.Test.YtdbnpaloalhciaaNt
namespace Go.Proofs.Ytdbnpaloalhciaa.P
set_option linter.unusedVariables false
set_option linter.unusedSimpArgs false
open Go.RowKit Go.Proofs.YtdbnpaloalhciaaW.PrintWords Go.Proofs.YtdbnpaloalhciaaW.PrintMore Go.Proofs.YtdbnpaloalhciaaW.PrintLast
attribute [local go_sem] Oper.semAt_some
/-- The places from the last one down. -/
def down : Nat → List Nat
  | 0 => []
  | n + 1 => n :: down n
theorem down_len : ∀ n, (down n).length = n
  | 0 => rfl
  | n + 1 => by rw [down, List.length_cons, down_len n]
abbrev BIt (n : Nat) := { x : Nat × Int // x.1 < n }
def plc {n : Nat} (l : List (BIt n)) : List Nat := l.map fun x => x.1.1
theorem plc_snoc {n : Nat} (l : List (BIt n)) (x : BIt n) : plc (l ++ [x]) = plc l ++ [x.1.1] := by simp [plc]
theorem plc_len {n : Nat} (l : List (BIt n)) : (plc l).length = l.length := by simp [plc]
/-- Each place of a row of limbs is read. -/
def Readable (A : Option Addr) (n : Nat) (W : World) : Prop := ∀ ad, A = some ad → ∀ j, j < n → ∃ v, W.cell? (ad.add j) = some (.int .u32 v)
/-- What a round keeps. -/
def KpB (n₀ Bn : Nat) (A : Option Addr) (n : Nat) (W W' : World) : Prop := Below n₀ W W' ∧ W'.cell? ⟨Bn, 0, none⟩ = W.cell? ⟨Bn, 0, none⟩ ∧ (Readable A n W → Readable A n W')
theorem kpB_t {n₀ Bn : Nat} {A : Option Addr} {n : Nat} {X Y Z : World} (h : KpB n₀ Bn A n X Y) (k : KpB n₀ Bn A n Y Z) : KpB n₀ Bn A n X Z := ⟨h.1.trans k.1, k.2.1.trans h.2.1, fun r => k.2.2 (h.2.2 r)⟩
theorem kpB_b {n₀ Bn : Nat} {A : Option Addr} {n : Nat} {w : World} (hn : n₀ ≤ w.heap.size) (hB : Bn < w.heap.size) (hr : Readable A n w) (W : World) (l : Nat) (o o' : Obj) (hl : w.heap.size ≤ l) (h : W.heap[l]? = some o) (h1 : o.isCells = false) (h2 : o.isWalk = false) : KpB n₀ Bn A n W (W.putObj l o') := by
  refine ⟨belowK_b hn W l o o' hl h h1 h2, World.cell?_of_block (w := W) (World.putObj_heap_other (by simp; omega)), fun hrd ad e j hj => ?_⟩
  obtain ⟨v, hv⟩ := hrd ad e j hj
  exact ⟨v, (World.cell?_of_block (w := W) (World.putObj_heap_other (by
    intro el
    obtain ⟨v0, hv0⟩ := hr ad e j hj
    have := World.block_lt_of_cell? _ _ hv0
    omega))).trans hv⟩
theorem kpB_refl (n₀ Bn : Nat) (A : Option Addr) (n : Nat) (W : World) : KpB n₀ Bn A n W W := ⟨Below.refl _ _, rfl, id⟩

theorem backward_in (n : Nat) (A : Option Addr) (len c : Nat) (w : World) :
    CallsIn Fence.wide n Try.prog 67 #[.slice A len c] w fun e w' => e = .returned (.func (.func 80) #[] #[.pointer (some ⟨w.heap.size, 0, none⟩)]) ∧ w' = w.alloc (.cells #[.slice A len c] 62) := by
  refine callsIn_of_wp Try.func67 rfl trivial ?_ rfl
  simp only [Try.ntmps67, List.size_toArray, List.length_cons, List.length_nil, Nat.reduceAdd, Nat.reduceSub, Array.replicate_succ, Array.replicate_zero, List.push_toArray, List.append_toArray, List.nil_append, List.cons_append]
  gi_wp2
  go_ret
  exact ⟨rfl, rfl⟩

set_option maxRecDepth 100000 in
set_option maxHeartbeats 4000000 in
theorem backward1_in (n : Nat) (hn : 2 ≤ n) (l Bn n₀ : Nat) (A : Option Addr) (len c : Nat) (hl : len ≤ 1152921504606846976) (J Jx : List (BIt len) → World → Prop)
    (hY : ∀ pre x W, J pre W → pre.length < len → YieldAt Fence.wide (n - 1) Try.prog l #[.int .i64 x.1.1, .int .u32 x.1.2] W fun e W' =>
      (e = .returned (.bool true) ∧ J (pre ++ [x]) W' ∧ KpB n₀ Bn A len W W') ∨ (e = .returned (.bool false) ∧ Jx (pre ++ [x]) W'))
    (W : World) (hc : W.cell? ⟨Bn, 0, none⟩ = some (.slice A len c)) (hA : 0 < len → ∃ ad, A = some ad) (hr : Readable A len W) (h0 : J [] W) :
    CallsIn Fence.wide n Try.prog 80 #[.func (.yield l) #[] #[], .pointer (some ⟨Bn, 0, none⟩)] W fun e W' => (∃ v, e = .returned v) ∧
      ((∃ ys : List (BIt len), plc ys = down len ∧ J ys W') ∨ (∃ pre : List (BIt len), plc pre <+: down len ∧ Jx pre W')) := by
  have hn1 : 1 ≤ n := by omega
  have hn2 : 1 ≤ n - 1 := by omega
  have H0 := Lib.hid hc
  clear hc
  refine callsIn_of_wp Try.func80 rfl trivial ?_ rfl
  simp only [Try.ntmps80, List.size_toArray, List.length_cons, List.length_nil, Nat.reduceAdd, Nat.reduceSub, Array.replicate_succ, Array.replicate_zero, List.push_toArray, List.append_toArray, List.nil_append, List.cons_append]
  have hcell := H0.out
  have hw1 : IntKind.i64.wrap ((len : Int) - 1) = (len : Int) - 1 := wrap_in _ (by omega)
  gi_wp2
  gi_loopw [3] (fun i wr => ∃ (pre : List (BIt len)) (m : Nat), m ≤ len ∧ i = .int .i64 ((m : Int) - 1) ∧ Hid (plc pre ++ down m = down len) ∧ wr.cell? ⟨Bn, 0, none⟩ = some (.slice A len c) ∧ Hid (Readable A len wr) ∧ Hid (J pre wr)) (fun i _ => (intOf i + 1).toNat)
  case atStart => exact ⟨[], len, Nat.le_refl _, rfl, Lib.hid rfl, H0.out, Lib.hid hr, Lib.hid h0⟩
  case round =>
    clear hcell
    obtain ⟨pre, m, hm, rfl, hU, hcell, hR, hJ⟩ := hrel
    rcases m with _ | j
    · gi_wp2
      go_end0
      exact ⟨⟨_, rfl⟩, .inl ⟨pre, by simpa [down] using hU.out, hJ.out⟩⟩
    · obtain ⟨ad, rfl⟩ := hA (by omega)
      obtain ⟨v, hv⟩ := hR.out ad rfl j (by omega)
      have hpl : pre.length < len := by
        have := congrArg List.length hU.out
        rw [List.length_append, plc_len, down_len, down_len] at this
        omega
      have ej : (((j + 1 : Nat) : Int) - 1) = (j : Int) := by omega
      have hw2 : IntKind.i64.wrap ((j : Int) - 1) = (j : Int) - 1 := wrap_in _ (by omega)
      obtain ⟨fn, tmps, assign, body, hy, hRd⟩ := hY pre ⟨(j, v), by omega⟩ wr hJ.out hpl
      dsimp only at hy
      have HRD := Lib.hid hRd
      have hU2 : Hid (plc (pre ++ [(⟨(j, v), by omega⟩ : BIt len)]) ++ down j = down len) := Lib.hid (by have := hU.out; rw [down] at this; rw [plc_snoc]; simpa using this)
      clear hRd hpl
      simp only [ej]
      gi_wp2
      refine HRD.out.mono ?_
      rintro e W3 (⟨rfl, hJ3, hk3⟩ | ⟨rfl, hJx3⟩)
      · have HJ3 := Lib.hid hJ3
        have hcell3 : Hid (W3.cell? ⟨Bn, 0, none⟩ = some (.slice (some ad) len c)) := Lib.hid (hk3.2.1.trans hcell)
        have hR3 : Hid (Readable (some ad) len W3) := Lib.hid (hk3.2.2 hR.out)
        clear hJ3 hk3
        gi_wp2
        go_roundw
        case rel => exact ⟨_, j, by omega, rfl, hU2, hcell3.out, hR3, HJ3⟩
        case measure => simp [intOf]
      · gi_wp2
        refine bodyPost_ret (results_none rfl _ _ _) rfl ?_
        exact ⟨⟨_, rfl⟩, .inr ⟨_, ⟨down j, hU2.out⟩, hJx3⟩⟩
/-- slices.Backward's value hands over all places, the last one first, or, where a round has said 'no more', a beginning of them. -/
theorem backward_stops (n : Nat) (hn : 2 ≤ n) (Bn n₀ : Nat) (A : Option Addr) (len c : Nat) (hl : len ≤ 1152921504606846976) (w : World)
    (hc : w.cell? ⟨Bn, 0, none⟩ = some (.slice A len c)) (hA : 0 < len → ∃ ad, A = some ad) (hr : Readable A len w) :
    SeqStopsK Fence.wide n Try.prog 80 #[.pointer (some ⟨Bn, 0, none⟩)] (fun x : BIt len => #[Value.int .i64 x.1.1, .int .u32 x.1.2]) (KpB n₀ Bn A len) (fun ys => plc ys = down len) (fun pre => plc pre <+: down len) len w := fun l J Jx W hW hJ _ hY h0 =>
  backward1_in n hn l Bn n₀ A len c hl J Jx hY W ((hW.cell (p := ⟨Bn, 0, none⟩) (World.block_lt_of_cell? _ _ hc)).trans hc) hA (fun ad e j hj => by
    obtain ⟨v, hv⟩ := hr ad e j hj
    exact ⟨v, pw_cell_below hW hv⟩) h0
end Go.Proofs.Ytdbnpaloalhciaa.P

import Derived.Sort.BigQuietIn
import Derived.Shelf.RegionOpen
import Derived.RangeFuncCalls
import Derived.TacticsIn
import Derived.Test.YthigbklhngihkaaGreatDoorMOrderOwnf
import Derived.Laws.Small
set_option linter.unusedVariables false
set_option linter.unusedSimpArgs false
set_option maxRecDepth 100000
namespace Go.Proofs.YthigbklhngihkaaGreatDoor.P
open Go.RowKit Go.Proofs.YthigbklhngihkaaGreatDoorW.PrintWords Go.Proofs.YthigbklhngihkaaGreatDoorW.PrintMore Go.Proofs.YthigbklhngihkaaGreatDoorW.PrintLast
attribute [local go_sem] Oper.semAt_some
def down : Nat → List Nat
 | 0 => []
 | n + 1 => n :: down n
theorem down_len : ∀ n, (down n).length = n
 | 0 => rfl
 | n + 1 => by rw [down, List.length_cons, down_len n]
abbrev BIt (n : Nat) := { x : Nat × Int // x.1 < n }
def plc {n : Nat} (l : List (BIt n)) : List Nat := l.map fun x => x.1.1
theorem plc_snoc {n : Nat} (l : List (BIt n)) (x : BIt n) : plc (l ++ [x]) = plc l ++ [x.1.1] := by simp [plc]
theorem plc_len {n : Nat} (l : List (BIt n)) : (plc l).length = l.length := by simp [plc]
def Readable (A : Option Addr) (n : Nat) (W : World) : Prop := ∀ ad, A = some ad → ∀ j, j < n → ∃ v, W.cell? (ad.add j) = some (.int .u32 v)
def KpB (n₀ Bn : Nat) (A : Option Addr) (n : Nat) (W W' : World) : Prop := Below n₀ W W' ∧ W'.cell? ⟨Bn, 0, none⟩ = W.cell? ⟨Bn, 0, none⟩ ∧ (Readable A n W → Readable A n W')
theorem kpB_t {n₀ Bn : Nat} {A : Option Addr} {n : Nat} {X Y Z : World} (h : KpB n₀ Bn A n X Y) (k : KpB n₀ Bn A n Y Z) : KpB n₀ Bn A n X Z := ⟨h.1.trans k.1, k.2.1.trans h.2.1, fun r => k.2.2 (h.2.2 r)⟩
theorem kpB_b {n₀ Bn : Nat} {A : Option Addr} {n : Nat} {w : World} (hn : n₀ ≤ w.heap.size) (hB : Bn < w.heap.size) (hr : Readable A n w) (W : World) (l : Nat) (o o' : Obj) (hl : w.heap.size ≤ l) (h : W.heap[l]? = some o) (h1 : o.isCells = false) (h2 : o.isWalk = false) : KpB n₀ Bn A n W (W.putObj l o') := by
 refine ⟨belowK_b hn W l o o' hl h h1 h2, World.cell?_of_block (w := W) (World.putObj_heap_other (by simp; omega)), fun hrd ad e j hj => ?_⟩
 obtain ⟨v, hv⟩ := hrd ad e j hj
 exact ⟨v, (World.cell?_of_block (w := W) (World.putObj_heap_other (by
  intro el
  obtain ⟨v0, hv0⟩ := hr ad e j hj
  have := World.block_lt_of_cell? _ _ hv0
  omega))).trans hv⟩
theorem backward_in (n : Nat) (A : Option Addr) (len c : Nat) (w : World) :
 CallsIn Fence.wide n Tryz.prog 270 #[.slice A len c] w fun e w' => e = .returned (.func (.func 298) #[] #[.pointer (some ⟨w.heap.size, 0, none⟩)]) ∧ w' = w.alloc (.cells #[.slice A len c] 171) := by
 refine callsIn_of_wp Tryz.func270 rfl trivial ?_ rfl
 simp only [Tryz.ntmps270, List.size_toArray, List.length_cons, List.length_nil, Nat.reduceAdd, Nat.reduceSub, Array.replicate_succ, Array.replicate_zero, List.push_toArray, List.append_toArray, List.nil_append, List.cons_append]
 gi_wp2
 go_ret
 exact ⟨rfl, rfl⟩
set_option maxHeartbeats 4000000 in
theorem backward1_in (n : Nat) (hn : 2 ≤ n) (l Bn n₀ : Nat) (A : Option Addr) (len c : Nat) (hl : len ≤ 1152921504606846976) (J Jx : List (BIt len) → World → Prop)
 (hY : ∀ pre x W, J pre W → pre.length < len → YieldAt Fence.wide (n - 1) Tryz.prog l #[.int .i64 x.1.1, .int .u32 x.1.2] W fun e W' =>
  (e = .returned (.bool true) ∧ J (pre ++ [x]) W' ∧ KpB n₀ Bn A len W W') ∨ (e = .returned (.bool false) ∧ Jx (pre ++ [x]) W'))
 (W : World) (hc : W.cell? ⟨Bn, 0, none⟩ = some (.slice A len c)) (hA : 0 < len → ∃ ad, A = some ad) (hr : Readable A len W) (h0 : J [] W) :
 CallsIn Fence.wide n Tryz.prog 298 #[.func (.yield l) #[] #[], .pointer (some ⟨Bn, 0, none⟩)] W fun e W' => (∃ v, e = .returned v) ∧
  ((∃ ys : List (BIt len), plc ys = down len ∧ J ys W') ∨ (∃ pre : List (BIt len), plc pre <+: down len ∧ Jx pre W')) := by
 have hn1 : 1 ≤ n := by omega
 have hn2 : 1 ≤ n - 1 := by omega
 have H0 := Lib.hid hc
 clear hc
 refine callsIn_of_wp Tryz.func298 rfl trivial ?_ rfl
 simp only [Tryz.ntmps298, List.size_toArray, List.length_cons, List.length_nil, Nat.reduceAdd, Nat.reduceSub, Array.replicate_succ, Array.replicate_zero, List.push_toArray, List.append_toArray, List.nil_append, List.cons_append]
 have hcell := H0.out
 have hw1 : IntKind.i64.wrap ((len : Int) - 1) = (len : Int) - 1 := wrap_in _ (by omega)
 gi_wp2
 gi_loopw [3] (fun i wr => ∃ (pre : List (BIt len)) (m : Nat), m ≤ len ∧ i = .int .i64 ((m : Int) - 1) ∧ Hid (plc pre ++ down m = down len) ∧ wr.cell? ⟨Bn, 0, none⟩ = some (.slice A len c) ∧ Hid (Readable A len wr) ∧ Hid (J pre wr)) (fun i _ => (intOf i + 1).toNat)
 case atStart => exact ⟨[], len, Nat.le_refl _, rfl, Lib.hid rfl, H0.out, Lib.hid hr, Lib.hid h0⟩
 case round =>
  clear hcell
  obtain ⟨pre, m, hm, rfl, hU, hcell, hR, hJ⟩ := hrel
  rcases m with _ | j
  · gi_wp2
    go_end0
    exact ⟨⟨_, rfl⟩, .inl ⟨pre, by simpa [down] using hU.out, hJ.out⟩⟩
  · obtain ⟨ad, rfl⟩ := hA (by omega)
    obtain ⟨v, hv⟩ := hR.out ad rfl j (by omega)
    have hpl : pre.length < len := by
     have := congrArg List.length hU.out
     rw [List.length_append, plc_len, down_len, down_len] at this
     omega
    have ej : (((j + 1 : Nat) : Int) - 1) = (j : Int) := by omega
    have hw2 : IntKind.i64.wrap ((j : Int) - 1) = (j : Int) - 1 := wrap_in _ (by omega)
    obtain ⟨fn, tmps, assign, body, hy, hRd⟩ := hY pre ⟨(j, v), by omega⟩ wr hJ.out hpl
    dsimp only at hy
    have HRD := Lib.hid hRd
    have hU2 : Hid (plc (pre ++ [(⟨(j, v), by omega⟩ : BIt len)]) ++ down j = down len) := Lib.hid (by have := hU.out; rw [down] at this; rw [plc_snoc]; simpa using this)
    clear hRd hpl
    simp only [ej]
    gi_wp2
    refine HRD.out.mono ?_
    rintro e W3 (⟨rfl, hJ3, hk3⟩ | ⟨rfl, hJx3⟩)
    · have HJ3 := Lib.hid hJ3
      have hcell3 : Hid (W3.cell? ⟨Bn, 0, none⟩ = some (.slice (some ad) len c)) := Lib.hid (hk3.2.1.trans hcell)
      have hR3 : Hid (Readable (some ad) len W3) := Lib.hid (hk3.2.2 hR.out)
      clear hJ3 hk3
      gi_wp2
      go_roundw
      case rel => exact ⟨_, j, by omega, rfl, hU2, hcell3.out, hR3, HJ3⟩
      case measure => simp [intOf]
    · gi_wp2
      refine bodyPost_ret (results_none rfl _ _ _) rfl ?_
      exact ⟨⟨_, rfl⟩, .inr ⟨_, ⟨down j, hU2.out⟩, hJx3⟩⟩
theorem backward_stops (n : Nat) (hn : 2 ≤ n) (Bn n₀ : Nat) (A : Option Addr) (len c : Nat) (hl : len ≤ 1152921504606846976) (w : World)
 (hc : w.cell? ⟨Bn, 0, none⟩ = some (.slice A len c)) (hA : 0 < len → ∃ ad, A = some ad) (hr : Readable A len w) :
 SeqStopsK Fence.wide n Tryz.prog 298 #[.pointer (some ⟨Bn, 0, none⟩)] (fun x : BIt len => #[Value.int .i64 x.1.1, .int .u32 x.1.2]) (KpB n₀ Bn A len) (fun ys => plc ys = down len) (fun pre => plc pre <+: down len) len w := fun l J Jx W hW hJ _ hY h0 =>
 backward1_in n hn l Bn n₀ A len c hl J Jx hY W ((hW.cell (p := ⟨Bn, 0, none⟩) (World.block_lt_of_cell? _ _ hc)).trans hc) hA (fun ad e j hj => by
  obtain ⟨v, hv⟩ := hr ad e j hj
  exact ⟨v, pw_cell_below hW hv⟩) h0
end Go.Proofs.YthigbklhngihkaaGreatDoor.P
namespace Go.Proofs.YthigbklhngihkaaGreatDoor.P
open Go.RowKit Go
def noDeferB (l : List Oper) : Bool := l.all fun o => match o.op with | .defer _ => false | _ => true
theorem noDefer_spec {l : List Oper} (h : noDeferB l = true) : ∀ o ∈ l, ∀ c, o.op ≠ .defer c := by
 intro o ho c e
 have := List.all_eq_true.1 h o ho
 rw [e] at this
 cases this
section
variable {F : Fence} {n : Nat} {P : Program} {ops : Array Oper} {C : World → Prop} {md : Region.Mode}
theorem oper_of_quiet {o : Oper} {a : Act} {K : Act → Prop} {K' : Act → World → Prop} {Q' : Exit → Act → World → Prop} {w : World} (hd : ∀ c, o.op ≠ .defer c) (hw : C w) (h : ∀ a w', C w' → K a → K' a w')
 (ha : o.askedIn F P a C) (hh : o.quietIn F n P a C K) : o.wpIn F n P a w K' Q' := by
 obtain ⟨v, h1, h2⟩ := hh
 have h3 := h1 w hw
 unfold Oper.quietAtIn at h3
 unfold Oper.wpIn
 refine ⟨ha w hw, ?_⟩
 have e : Oper.semAt F.round a.eval o = execOp a.eval o := by
  cases hr : F.round with
  | none => exact Oper.semAt_none _ _
  | some l => exact Oper.semAt_some l _ _ hd
 rw [e]
 generalize (execOp a.eval o).run P w = r at *
 cases r with
 | ok x w' =>
  cases x <;> simp only [Oper.quietUponIn] at h3 <;> simp only [Oper.uponIn]
  case value u =>
   obtain ⟨e1, e2⟩ := h3
   rw [e1, e2]
   exact h _ _ hw h2
  case skip =>
   obtain ⟨e1, e2⟩ := h3
   rw [e1, ← e2]
   exact h _ _ hw h2
  case enter f args =>
   obtain ⟨e1, hd, hc⟩ := h3
   rw [e1]
   exact ⟨hd, hc.mono fun e w'' ⟨he, hw''⟩ => by subst he; exact h _ _ hw'' h2⟩
 | halt x w' => simp only [Oper.quietUponIn] at h3
theorem op_of_quiet {i : Nat} {a : Act} {K : Act → Prop} {K' : Act → World → Prop} {Q' : Exit → Act → World → Prop} {w : World} (hd : ∀ (i : Nat) o, ops[i]? = some o → ∀ c, o.op ≠ .defer c) (hC : C w) (h : ∀ a w', C w' → K a → K' a w')
 (hh : qOpIn F n P ops C i K a) : wpOpIn F n P ops Q' i K' a w := by
 unfold qOpIn at hh
 unfold wpOpIn
 split
 · rename_i ho; simp only [ho] at hh; exact h _ _ hC hh
 · rename_i o ho
   simp only [ho] at hh
   obtain ⟨ha, hh⟩ := hh
   split
   · rename_i hw; simp only [hw, if_true] at hh; exact oper_of_quiet (hd i o ho) hC h ha hh
   · rename_i hw; simp only [hw] at hh; exact ⟨ha w hC, h _ _ hC hh⟩
theorem any_of_quiet {Q : Act → Prop} {Q' : Exit → Act → World → Prop} (hd : ∀ (i : Nat) o, ops[i]? = some o → ∀ c, o.op ≠ .defer c) (hQ : ∀ a w, C w → Q a → Q' .normal a w) : ∀ (fuel : Nat) (listed : Array Bool) (a : Act) (w : World), C w →
 wpAnyQIn F n P md ops C Q fuel listed a → wpAnyIn F n P md ops Q' fuel listed a w
 | 0, _, _, _, hw, h => ⟨h.1, hQ _ _ hw h.2⟩
 | fuel + 1, _, _, _, hw, h => ⟨fun h0 => hQ _ _ hw (h.1 h0), fun i hi => op_of_quiet hd hw (fun a' w' hw' => any_of_quiet hd hQ fuel _ a' w' hw') (h.2 i hi)⟩
theorem region_quiet_round {id : Nat} {Q : Exit → Act → World → Prop} {a : Act} {w : World} {l : List Oper} (hd : noDeferB l = true) (hm : P.follows .mixedOrders = true) (hB : Region.lexB .any l.toArray = true)
 (h : wpQuietIn F n P l.toArray (fun w' => ∃ n, w' = w.drewN n) (fun a' => ∀ w', (∃ n, w' = w.drewN n) → Q .normal a' w') l a) : (Code.region id l.toArray true).wpIn F n P Q a w := by
 have hd' : ∀ (i : Nat) o, l.toArray[i]? = some o → ∀ c, o.op ≠ .defer c := by
  intro i o ho
  have : l[i]? = some o := by simpa using ho
  exact noDefer_spec hd o (List.mem_of_getElem? this)
 simp only [Region.lexB, Bool.and_eq_true] at hB
 refine wpIn_region_any hm (any_of_quiet (C := fun w' => ∃ n, w' = w.drewN n) (Q := fun a' => ∀ w', (∃ n, w' = w.drewN n) → Q .normal a' w') hd' (fun _ w' hw' h => h w' hw') _ _ _ _ ⟨1, rfl⟩ ?_)
 have := wpAnyQIn_lex (F := F) (n := n) (C := fun w' => ∃ n, w' = w.drewN n) (md := .any) hB.1 l.toArray.toList 0 (Array.replicate l.toArray.size false) a (by simp) (by simpa using hB.2) (by simpa using h)
 simpa using this
end
end Go.Proofs.YthigbklhngihkaaGreatDoor.P
namespace Go.Proofs.YthigbklhngihkaaGreatDoor.P
open Go.RowKit Go
section
variable {F : Fence} {n : Nat} {P : Program} {ops : Array Oper} {C : World → Prop} {md : Region.Mode}
def wpTwo (F : Fence) (n : Nat) (P : Program) (md : Region.Mode) (ops : Array Oper) (C : World → Prop) (m : Nat) (M1 M2 : Array Bool) (E1 E2 : Act → Prop) : Nat → Array Bool → Act → Prop
 | 0, listed, a => listed = M2 ∧ E2 a
 | fuel + 1, listed, a => (listed = M1 → fuel = 0 ∧ E1 a ∧ qOpIn F n P ops C m E2 a) ∧ (listed ≠ M1 → Region.ready md ops listed ≠ [] ∧ ∀ i ∈ Region.ready md ops listed, qOpIn F n P ops C i (wpTwo F n P md ops C m M1 M2 E1 E2 fuel (listed.setIfInBounds i true)) a)
theorem any_of_two {m : Nat} {M1 M2 : Array Bool} {E1 E2 : Act → Prop} {k : Nat} {Q' : Exit → Act → World → Prop} (hd : ∀ (i : Nat) o, ops[i]? = some o → ∀ c, o.op ≠ .defer c) (hE1 : ∀ a w, C w → E1 a → wpAnyIn F n P md ops Q' (k + 1) M1 a w) (hE2 : ∀ a w, C w → E2 a → wpAnyIn F n P md ops Q' k M2 a w) :
 ∀ (fuel : Nat) (listed : Array Bool) (a : Act) (w : World), C w → wpTwo F n P md ops C m M1 M2 E1 E2 fuel listed a → wpAnyIn F n P md ops Q' (fuel + k) listed a w
 | 0, _, _, _, hw, h => by rw [Nat.zero_add, h.1]; exact hE2 _ _ hw h.2
 | fuel + 1, listed, a, w, hw, h => by
  by_cases hl : listed = M1
  · obtain ⟨rfl, h1, _⟩ := h.1 hl
    rw [hl, show 0 + 1 + k = k + 1 by omega]
    exact hE1 _ _ hw h1
  · obtain ⟨h0, h1⟩ := h.2 hl
    rw [show fuel + 1 + k = (fuel + k) + 1 by omega]
    exact ⟨fun h2 => absurd h2 h0, fun i hi => op_of_quiet hd hw (fun a' w' hw' => any_of_two hd hE1 hE2 fuel _ a' w' hw') (h1 i hi)⟩
def waitsB (md : Region.Mode) (ops : Array Oper) (m : Nat) : Bool := (List.range ops.size).all fun j => decide (j ≤ m) || match ops[j]? with
 | none => true
 | some o => (List.range m).all fun i => o.after.any fun e => Region.binds md e && e.on == i
theorem waits_spec {m : Nat} (h : waitsB md ops m = true) {j : Nat} {o : Oper} (ho : ops[j]? = some o) (hj : m < j) {i : Nat} (hi : i < m) : ∃ e ∈ o.after, Region.binds md e = true ∧ e.on = i := by
 unfold waitsB at h
 have h1 := List.all_eq_true.1 h j (List.mem_range.2 (Array.getElem?_eq_some_iff.1 ho).1)
 simp only [ho, Bool.or_eq_true, decide_eq_true_eq] at h1
 rcases h1 with h1 | h1
 · omega
 · have h2 := List.all_eq_true.1 h1 i (List.mem_range.2 hi)
   rw [Array.any_eq_true'] at h2
   obtain ⟨e, he, h3⟩ := h2
   simp only [Bool.and_eq_true, beq_iff_eq] at h3
   exact ⟨e, he, h3.1, h3.2⟩
theorem not_behind {m i j : Nat} {listed : Array Bool} (hwt : waitsB md ops m = true) (him : i < m) (hr : i ∈ Region.ready md ops listed) (hj : j ∈ Region.ready md ops listed) : j ≤ m := by
 obtain ⟨hjun, oj, hoj, hall⟩ := mem_ready.1 hj
 have hnl := (mem_ready.1 hr).1
 rcases Nat.lt_or_ge m j with h | h
 · exfalso
   obtain ⟨e, he, hb, hon⟩ := waits_spec hwt hoj h him
   have h1 := hall e he hb
   rw [hon] at h1
   rcases Nat.lt_or_ge i listed.size with h' | h'
   · simp [h'] at hnl h1; rw [hnl] at h1; cases h1
   · simp [Array.getElem?_eq_none h'] at h1
 · exact h
theorem listed_not {j : Nat} {listed M : Array Bool} (h : listed = M) (hj : j < M.size) (hun : listed.getD j false = false) (hM : M.getD j true = true) : False := by
 subst h
 simp [hj] at hun hM
 rw [hun] at hM
 cases hM
theorem two_first {m : Nat} {M1 M2 : Array Bool} {E1 E2 : Act → Prop} (hM1 : ∀ j, j < m → M1.getD j true = true) (hs1 : m < M1.size) (hM2 : M2 = M1.setIfInBounds m true) (hwt : waitsB md ops m = true) {i : Nat} {oi : Oper} {v : Value} (him : i < m) (hi : ops[i]? = some oi) (hsel : ∀ (j : Nat) (o : Oper) cs b, ops[j]? = some o → o.op ≠ .select cs b) :
 ∀ (fuel : Nat) (listed : Array Bool) (a : Act),
  (∀ j oj, ops[j]? = some oj → j ≠ i → listed.getD j true = false → (∀ e ∈ oj.after, Region.binds md e = true → e.on ≠ i) → oi.apart ops oj = true) →
  i ∈ Region.ready md ops listed → YieldsQuiet F n P ops C oi v a →
  wpTwo F n P md ops C m M1 M2 E1 E2 fuel (listed.setIfInBounds i true) (a.put oi.dst v) → wpTwo F n P md ops C m M1 M2 E1 E2 (fuel + 1) listed a := by
 have hM2s : M2.size = M1.size := by rw [hM2]; simp
 have hM2l : ∀ j, j ≤ m → M2.getD j true = true := by
  intro j hj
  rw [hM2]
  by_cases h : j = m
  · subst h; simp [hs1]
  · rw [getD_set_ne true (Ne.symm h)]; exact hM1 j (by omega)
 have un : ∀ (listed : Array Bool) (j : Nat), j ∈ Region.ready md ops listed → listed.getD j false = false := fun listed j hj => by
  have := (mem_ready.1 hj).1
  rcases Nat.lt_or_ge j listed.size with h' | h'
  · simp [h'] at this ⊢; exact this
  · simp [Array.getElem?_eq_none h']
 have unset : ∀ (listed : Array Bool) (j : Nat), j ≠ i → j ∈ Region.ready md ops listed → (listed.setIfInBounds i true).getD j false = false := fun listed j hj h => by
  rw [getD_set_ne false (Ne.symm hj)]; exact un listed j h
 intro fuel
 induction fuel with
 | zero =>
  intro listed a _ hr hy H
  refine ⟨fun h => (listed_not h (by omega) (un _ _ hr) (hM1 i him)).elim, fun _ => ⟨fun h => (by rw [h] at hr; cases hr), fun j hj => ?_⟩⟩
  by_cases hji : j = i
  · subst hji; exact hy.qOpIn hi H
  · have hjm := not_behind hwt him hr hj
    exact (listed_not H.1 (by omega) (unset _ _ hji hj) (hM2l j hjm)).elim
 | succ fuel ih =>
  intro listed a hfree hr hy H
  refine ⟨fun h => (listed_not h (by omega) (un _ _ hr) (hM1 i him)).elim, fun _ => ⟨fun h => (by rw [h] at hr; cases hr), fun j hj => ?_⟩⟩
  by_cases hji : j = i
  · subst hji; exact hy.qOpIn hi H
  · obtain ⟨hjun, oj, hoj, hall⟩ := mem_ready.1 hj
    have hnot : ∀ e ∈ oj.after, Region.binds md e = true → e.on ≠ i := fun e he hb heq => by
     have h1 := hall e he hb
     have h0 := (mem_ready.1 hr).1
     rw [heq] at h1
     rcases Nat.lt_or_ge i listed.size with h' | h'
     · simp [h'] at h0 h1; rw [h0] at h1; cases h1
     · simp [Array.getElem?_eq_none h'] at h1
    have hap := hfree j oj hoj hji hjun hnot
    have hfree' : ∀ k ok, ops[k]? = some ok → k ≠ i → (listed.setIfInBounds j true).getD k true = false →
     (∀ e ∈ ok.after, Region.binds md e = true → e.on ≠ i) → oi.apart ops ok = true := fun k ok hk hki hun hno => by
     refine hfree k ok hk hki ?_ hno
     by_cases hjk : j = k
     · subst hjk; exact hjun
     · rw [getD_set_ne true hjk] at hun; exact hun
    by_cases hl : listed.setIfInBounds i true = M1
    · obtain ⟨rfl, _, hq⟩ := H.1 hl
      have hjm := not_behind hwt him hr hj
      have hjm2 : j = m := by
       rcases Nat.lt_or_ge j m with h | h
       · exact (listed_not hl (by omega) (unset _ _ hji hj) (hM1 j h)).elim
       · omega
      subst hjm2
      have h2 := qOpIn_put hoj hap (fun cs b => hsel i oi cs b hi) (fun cs b => hsel j oj cs b hoj) hy hq
      refine qOpIn_mono (fun a' h3 => ih (listed.setIfInBounds j true) a' hfree' (ready_mono hr (Ne.symm hji)) h3.1 ?_) h2
      refine ⟨?_, h3.2⟩
      rw [Array.setIfInBounds_comm _ _ hji, hl, hM2]
    · have h1 := (H.2 hl).2 j (ready_mono hj hji)
      have h2 := qOpIn_put hoj hap (fun cs b => hsel i oi cs b hi) (fun cs b => hsel j oj cs b hoj) hy h1
      refine qOpIn_mono (fun a' h3 => ih (listed.setIfInBounds j true) a' hfree' (ready_mono hr (Ne.symm hji)) h3.1 ?_) h2
      rw [Array.setIfInBounds_comm _ _ hji]
      exact h3.2
theorem qop_want {i : Nat} {o : Oper} {a : Act} {K : Act → Prop} (ho : ops[i]? = some o) (ha : o.askedIn F P a C) (hw : Region.wanted o (yielded ops a.tmps) = true) (h : ∀ K' : Act → Prop, (∀ a, K a → K' a) → o.quietIn F n P a C K') : qOpIn F n P ops C i K a := by
 unfold qOpIn
 simp only [ho, hw, if_true]
 exact ⟨ha, h K fun _ h => h⟩
def lexTwo (md : Region.Mode) (ops : Array Oper) (M1 : Array Bool) : Nat → Nat → Array Bool → Bool
 | 0, _, listed => listed == M1
 | l + 1, k, listed => (Region.ready md ops listed).contains k && Region.free md ops listed k && !(listed == M1) && lexTwo md ops M1 l (k + 1) (listed.setIfInBounds k true)
theorem two_lex {m : Nat} {M1 M2 : Array Bool} {E1 E2 : Act → Prop} (hM1 : ∀ j, j < m → M1.getD j true = true) (hs1 : m < M1.size) (hM2 : M2 = M1.setIfInBounds m true) (hwt : waitsB md ops m = true) (hs : Region.noSelect ops = true) : ∀ (l : List Oper) (k : Nat) (listed : Array Bool) (a : Act), k + l.length ≤ m → (∀ j, j < l.length → l[j]? = ops[k + j]?) →
 lexTwo md ops M1 l.length k listed = true → wpQuietIn F n P ops C (fun a => E1 a ∧ qOpIn F n P ops C m E2 a) l a → wpTwo F n P md ops C m M1 M2 E1 E2 (l.length + 1) listed a
 | [], k, listed, a, _, hl, hB, h => ⟨fun _ => ⟨rfl, h⟩, fun hne => absurd (by simpa [lexTwo] using hB) hne⟩
 | o :: l, k, listed, a, hk, hl, hB, h => by
  have h0 : ops[k]? = some o := by simpa using (hl 0 (by simp)).symm
  simp only [List.length_cons, lexTwo, Bool.and_eq_true] at hB
  obtain ⟨⟨⟨hr, hf⟩, _⟩, hB'⟩ := hB
  have hst : qOpIn F n P ops C k (wpQuietIn F n P ops C (fun a => E1 a ∧ qOpIn F n P ops C m E2 a) l) a := by unfold qOpIn; simp only [h0]; exact h
  obtain ⟨v, hy, hK⟩ := yieldsQuiet_of_qOpIn h0 hst
  exact two_first hM1 hs1 hM2 hwt (by simp at hk; omega) h0 (Region.noSelect_spec hs) (l.length + 1) listed a (Region.free_spec h0 hf) (by simpa using hr) hy
   (two_lex hM1 hs1 hM2 hwt hs l (k + 1) _ _ (by simp at hk; omega) (fun j hj => by have := hl (j + 1) (by simp; omega); simpa [Nat.add_assoc, Nat.add_comm 1 j] using this) hB' hK)
def mask1 (m k : Nat) : Array Bool := Array.replicate m true ++ Array.replicate k false
def twoB (ops : Array Oper) (m : Nat) : Bool := lexTwo .any ops (mask1 m (ops.size - m)) m 0 (Array.replicate ops.size false) && waitsB .any ops m && Region.noSelect ops && decide (m < ops.size) && noDeferB ops.toList
theorem region_two_round {id : Nat} {Q : Exit → Act → World → Prop} {a : Act} {w : World} (m : Nat) (hm : P.follows .mixedOrders = true) (hB : twoB ops m = true)
 (h : wpQuietIn F n P ops (fun w' => ∃ n, w' = w.drewN n) (fun a' => (∀ w', (∃ n, w' = w.drewN n) → wpAnyIn F n P .any ops Q (ops.size - m) (mask1 m (ops.size - m)) a' w') ∧
  qOpIn F n P ops (fun w' => ∃ n, w' = w.drewN n) m (fun a' => ∀ w', (∃ n, w' = w.drewN n) → wpAnyIn F n P .any ops Q (ops.size - m - 1) ((mask1 m (ops.size - m)).setIfInBounds m true) a' w') a') (ops.toList.take m) a) : (Code.region id ops true).wpIn F n P Q a w := by
 unfold twoB at hB
 simp only [Bool.and_eq_true, decide_eq_true_eq] at hB
 obtain ⟨⟨⟨⟨h1, h2⟩, h3⟩, h4⟩, h5⟩ := hB
 have hd' : ∀ (i : Nat) o, ops[i]? = some o → ∀ c, o.op ≠ .defer c := by
  intro i o ho
  have : ops.toList[i]? = some o := by simpa using ho
  exact noDefer_spec h5 o (List.mem_of_getElem? this)
 have hl : (ops.toList.take m).length = m := by rw [List.length_take]; simp; omega
 have hM : ∀ j, j < m → (mask1 m (ops.size - m)).getD j true = true := by
  intro j hj
  unfold mask1
  rw [Array.getD_eq_getD_getElem?, Array.getElem?_append_left (by simpa using hj)]
  simp [hj]
 have hM' : m < (mask1 m (ops.size - m)).size := by
  unfold mask1
  simp
  omega
 have hp := two_lex (F := F) (n := n) (P := P) (C := fun w' => ∃ n, w' = w.drewN n) hM hM' rfl h2 h3 (ops.toList.take m) 0 (Array.replicate ops.size false) a (by rw [hl]; omega) (fun j hj => by
  rw [hl] at hj
  rw [List.getElem?_take_of_lt hj]
  simp) (by rw [hl]; exact h1) h
 rw [hl] at hp
 refine wpIn_region_any hm ?_
 have := any_of_two (F := F) (n := n) (P := P) (md := .any) (ops := ops) (C := fun w' => ∃ n, w' = w.drewN n) (Q' := Q) (k := ops.size - m - 1) hd' (fun a' w' hw' he => by rw [show ops.size - m - 1 + 1 = ops.size - m by omega]; exact he w' hw') (fun a' w' hw' he => he w' hw') (m + 1) _ a { w with drawn := w.drawn + 1 } ⟨1, rfl⟩ hp
 rw [show m + 1 + (ops.size - m - 1) = ops.size by omega] at this
 exact this
end
end Go.Proofs.YthigbklhngihkaaGreatDoor.P
namespace Go.Proofs.YthigbklhngihkaaGreatDoor.P
open Go.RowKit Go.Shelf Go.Proofs.YthigbklhngihkaaGreatDoorW.PrintWords Go.Proofs.YthigbklhngihkaaGreatDoorW.PrintMore Go.Proofs.YthigbklhngihkaaGreatDoorW.PrintLast
attribute [local go_sem] Oper.semAt_some
def nat_num_compare.f (l0 l1 : List Int) : Option Int := if (canon l0 ∧ canon l1) ∧ l0.length ≤ 1073741824 ∧ l1.length ≤ 1073741824 then some (cmpI (val l0) (val l1)) else none
theorem readable_of_C {A : Option Addr} {l : List Int} {w : World} (h : Kd.C (Kd.int .u32) w A l.length l) : Readable A l.length w := by
 intro ad e j hj
 subst e
 obtain ⟨ad', e', hx⟩ := Kd.at_int h (j : Int) (by omega) (by omega)
 cases e'
 rw [Int.toNat_natCast] at hx
 exact ⟨_, hx⟩
theorem addr_of_C {A : Option Addr} {l : List Int} {w : World} (h : Kd.C (Kd.int .u32) w A l.length l) : 0 < l.length → ∃ ad, A = some ad := by
 intro hp
 obtain ⟨ad', e', hx⟩ := Kd.at_int h (0 : Int) (by omega) (by omega)
 exact ⟨ad', e'⟩
theorem val_differ {a b : List Int} (ha : okL a) (hb : okL b) (hl : a.length = b.length) {x : Nat} (hx : x < a.length) (he : ∀ j, x < j → j < a.length → a.getD j 0 = b.getD j 0) (hd : a.getD x 0 < b.getD x 0) : val a < val b := by
 have key : ∀ k, x + 1 + k ≤ a.length → val (a.take (x + 1 + k)) < val (b.take (x + 1 + k)) := by
  intro k
  induction k with
  | zero =>
   intro _
   rw [Nat.add_zero, val_take_step a x, val_take_step b x]
   have h1 := okL_getD ha x
   have h2 := okL_getD hb x
   have h3 := val_lt (okL_take ha x)
   rw [List.length_take, Nat.min_eq_left (by omega)] at h3
   have h4 : (a.getD x 0).toNat + 1 ≤ (b.getD x 0).toNat := by omega
   have h5 := Nat.mul_le_mul_left (4294967296 ^ x) h4
   rw [Nat.mul_add] at h5
   omega
  | succ k ih =>
   intro hk
   have := ih (by omega)
   rw [show x + 1 + (k + 1) = (x + 1 + k) + 1 by omega, val_take_step a, val_take_step b, he (x + 1 + k) (by omega) (by omega)]
   omega
 have := key (a.length - (x + 1)) (by omega)
 rw [show x + 1 + (a.length - (x + 1)) = a.length by omega, List.take_of_length_le (Nat.le_refl _), List.take_of_length_le (by omega)] at this
 exact this
theorem down_mem : ∀ (n j : Nat), j ∈ down n ↔ j < n
 | 0, j => by simp [down]
 | n + 1, j => by rw [down, List.mem_cons, down_mem n]; omega
theorem down_split : ∀ (n : Nat) (l : List Nat) (x : Nat), l ++ [x] <+: down n → x < n ∧ (∀ j, j ∈ l ↔ x < j ∧ j < n)
 | 0, l, x, h => by
  obtain ⟨t, ht⟩ := h
  simp [down] at ht
 | n + 1, [], x, h => by
  obtain ⟨t, ht⟩ := h
  rw [down] at ht
  simp at ht
  obtain ⟨rfl, _⟩ := ht
  exact ⟨by omega, fun j => by simp; omega⟩
 | n + 1, y :: l, x, h => by
  obtain ⟨t, ht⟩ := h
  rw [down] at ht
  simp only [List.cons_append, List.cons.injEq] at ht
  obtain ⟨rfl, ht⟩ := ht
  obtain ⟨h1, h2⟩ := down_split y l x ⟨t, ht⟩
  refine ⟨by omega, fun j => ?_⟩
  rw [List.mem_cons, h2]
  omega
def sameAt (a b : List Int) (l : List Nat) : Prop := ∀ j ∈ l, a.getD j 0 = b.getD j 0
theorem cmpI_lt {x y : Int} (h : x < y) : cmpI x y = -1 := by unfold cmpI; rw [if_pos h]
theorem cmpI_gt {x y : Int} (h : y < x) : cmpI x y = 1 := by unfold cmpI; rw [if_neg (by omega), if_pos h]
theorem cmpI_eq (x : Int) : cmpI x x = 0 := by unfold cmpI; rw [if_neg (by omega), if_neg (by omega)]
theorem cmpI_zero {x y : Int} (h : cmpI x y = 0) : x = y := by
 unfold cmpI at h
 split at h
 · omega
 · split at h <;> omega
theorem cmp_len {a b : List Int} (ha : canon a) (hb : canon b) (hl : cmpI a.length b.length ≠ 0) : cmpI a.length b.length = cmpI (val a) (val b) := by
 have lt : ∀ {a b : List Int}, canon a → canon b → a.length < b.length → val a < val b := by
  intro a b ha hb h
  have h1 := val_lt (canon_okL ha)
  have h2 := canon_ge hb (by intro e; subst e; simp at h)
  have h3 : 4294967296 ^ a.length ≤ 4294967296 ^ (b.length - 1) := Nat.pow_le_pow_right (by omega) (by omega)
  omega
 rcases Nat.lt_trichotomy a.length b.length with h | h | h
 · have := lt ha hb h
   rw [cmpI_lt (by omega), cmpI_lt (by omega)]
 · rw [h, cmpI_eq] at hl; exact absurd rfl hl
 · have := lt hb ha h
   rw [cmpI_gt (by omega), cmpI_gt (by omega)]
theorem cmp_stop {a b : List Int} (ha : okL a) (hb : okL b) (hl : a.length = b.length) {l : List Nat} {x : Nat} (h : l ++ [x] <+: down a.length) (hs : sameAt a b l) (hd : cmpI (a.getD x 0) (b.getD x 0) ≠ 0) : cmpI (a.getD x 0) (b.getD x 0) = cmpI (val a) (val b) := by
 obtain ⟨h1, h2⟩ := down_split _ _ _ h
 have he : ∀ j, x < j → j < a.length → a.getD j 0 = b.getD j 0 := fun j hj hk => hs j ((h2 j).2 ⟨hj, hk⟩)
 rcases Int.lt_trichotomy (a.getD x 0) (b.getD x 0) with h | h | h
 · have := val_differ ha hb hl h1 he h
   rw [cmpI_lt h, cmpI_lt (by omega)]
 · rw [h, cmpI_eq] at hd; exact absurd rfl hd
 · have := val_differ hb ha hl.symm (by omega) (fun j hj hk => (he j hj (by omega)).symm) h
   rw [cmpI_gt h, cmpI_gt (by omega)]
theorem cmp_done {a b : List Int} (hl : a.length = b.length) {l : List Nat} (h : l = down a.length) (hs : sameAt a b l) : cmpI (val a) (val b) = 0 := by
 have e : a = b := by
  apply List.ext_getElem hl
  intro j h1 h2
  have := hs j (by rw [h]; exact (down_mem _ _).2 h1)
  rw [List.getD_eq_getElem?_getD, List.getD_eq_getElem?_getD, List.getElem?_eq_getElem h1, List.getElem?_eq_getElem h2] at this
  exact this
 rw [e, cmpI_eq]
set_option maxHeartbeats 4000000 in
theorem compare_ne (A B : Option Addr) (ca cb : Nat) (a b : List Int) (w : World) (hl : ¬ cmpI a.length b.length = 0) :
 Calls Tryz.prog 227 #[.slice A a.length ca, .slice B b.length cb] w fun e W' => e = .returned (.int .i64 (cmpI a.length b.length)) ∧ Below w.heap.size w W' := by
 go_enter Tryz.func227, Tryz.ntmps227
 go_wp2_with fail
 refine (cmp_int a.length b.length _).mono ?_
 rintro e w' ⟨rfl, rfl⟩
 go_wp2
 refine bodyPost_ret (v := .int .i64 (cmpI a.length b.length)) (by simp [results, Tryz.f227, go_sem]) rfl ?_
 exact ⟨rfl, (((Below.refl _ w).alloc (Nat.le_refl _) _).alloc (by simp) _).alloc (by simp; omega) _⟩
set_option maxHeartbeats 4000000 in
theorem compare_in (n : Nat) (hn : 4 ≤ n) (A B : Option Addr) (ca cb : Nat) (a b : List Int) (w : World) (hCa : Kd.C (Kd.int .u32) w A a.length a) (hca : a.length ≤ ca) (hCb : Kd.C (Kd.int .u32) w B b.length b) (hcb : b.length ≤ cb) (hab : canon a ∧ canon b) (hz : a.length ≤ 1073741824) (hz' : b.length ≤ 1073741824) (hl : cmpI a.length b.length = 0) :
 CallsIn Fence.wide n Tryz.prog 227 #[.slice A a.length ca, .slice B b.length cb] w fun e W' => e = .returned (.int .i64 (cmpI (val a) (val b))) ∧ Below w.heap.size w W' := by
 have h1 : 1 ≤ n := by omega
 have HCa := Lib.hid hCa
 have HCb := Lib.hid hCb
 have HAB := Lib.hid hab
 clear hCa hCb hab
 refine callsIn_of_wp_marks Tryz.func227 rfl trivial ?_ rfl
 simp only [Tryz.ntmps227, List.size_toArray, List.length_cons, List.length_nil, Nat.reduceAdd, Nat.reduceSub, Array.replicate_succ, Array.replicate_zero, List.push_toArray, List.append_toArray, List.nil_append, List.cons_append]
 gi_wp2_with fail
 refine ⟨trivial, (callsIn_wide.2 (cmp_int a.length b.length _)).mono ?_⟩
 rintro e w' ⟨rfl, rfl⟩
 have hlen : a.length = b.length := by
  rcases Nat.lt_trichotomy a.length b.length with h | h | h
  · rw [cmpI_lt (by omega)] at hl; omega
  · exact h
  · rw [cmpI_gt (by omega)] at hl; omega
 have HLEN := Lib.hid hlen
 clear hlen
 have hA := addr_of_C HCa.out
 gi_wp2_with (refine ⟨trivial, ?_⟩; gi_at_call 270; refine (backward_in (n - 1) _ _ _ _).mono ?_; rintro e w' ⟨rfl, rfl⟩)
 have b1 := Boxed.new w 171 (.slice A a.length ca)
 have b2 := Boxed.new (w.alloc (.cells #[.slice A a.length ca] 171)) 171 (.slice B b.length cb)
 have b3 := Boxed.new ((w.alloc (.cells #[.slice A a.length ca] 171)).alloc (.cells #[.slice B b.length cb] 171)) 3 (.int .i64 0)
 have bS := Boxed.new (((w.alloc (.cells #[.slice A a.length ca] 171)).alloc (.cells #[.slice B b.length cb] 171)).alloc (.cells #[.int .i64 0] 3)) 171 (.slice A a.length ca)
 have hB0 : Below w.heap.size w ((((w.alloc (.cells #[.slice A a.length ca] 171)).alloc (.cells #[.slice B b.length cb] 171)).alloc (.cells #[.int .i64 0] 3)).alloc (.cells #[.slice A a.length ca] 171)) := ((((Below.refl _ w).alloc (Nat.le_refl _) _).alloc (by simp) _).alloc (by simp; omega) _).alloc (by simp; omega) _
 simp only [World.size_alloc] at b2 b3 bS
 have b1' := ((b1.alloc (.cells #[.slice B b.length cb] 171)).alloc (.cells #[.int .i64 0] 3)).alloc (.cells #[.slice A a.length ca] 171)
 have b2' := (b2.alloc (.cells #[.int .i64 0] 3)).alloc (.cells #[.slice A a.length ca] 171)
 have b3' := b3.alloc (.cells #[.slice A a.length ca] 171)
 obtain ⟨W0, hW0⟩ : ∃ W0, W0 = (((w.alloc (.cells #[.slice A a.length ca] 171)).alloc (.cells #[.slice B b.length cb] 171)).alloc (.cells #[.int .i64 0] 3)).alloc (.cells #[.slice A a.length ca] 171) := ⟨_, rfl⟩
 have hz0 : W0.heap.size = w.heap.size + 4 := by rw [hW0]; simp
 rw [← hW0] at hB0 b1' b2' b3' bS ⊢
 have hr : Readable A a.length W0 := readable_of_C (Kd.C_below HCa.out hB0)
 have HZ := Lib.hid hz0
 have HB0 := Lib.hid hB0
 have C1 := Lib.hid b1'.cell
 have C2 := Lib.hid b2'.cell
 have C3 := Lib.hid b3'.cell
 have F3 := Lib.hid b3'.frozen
 clear b1 b2 b3 hz0 hB0 hW0 b1' b2' b3'
 refine wpIn_rangeFunc_ownF rfl h1 (gf := 298) (lb := #[.pointer (some ⟨w.heap.size + 1 + 1 + 1, 0, none⟩)]) rfl trivial (enters_of Tryz.func298 (by kernel_rfl) rfl)
  (backward_stops (n - 1) (by omega) (w.heap.size + 1 + 1 + 1) W0.heap.size A a.length ca (by omega) W0 bS.cell hA hr) kpB_t (kpB_b (Nat.le_refl _) (by have := HZ.out; omega) hr) (Below.refl _ _) (fun _ => rfl)
  (fun (pre : List (BIt a.length)) W => sameAt a b (plc pre) ∧ Below W0.heap.size W0 W)
  (fun c (pre : List (BIt a.length)) W => (c = .ret ∧ (∃ (l : List (BIt a.length)) (x : BIt a.length), pre = l ++ [x] ∧ sameAt a b (plc l) ∧ cmpI (a.getD x.1.1 0) (b.getD x.1.1 0) ≠ 0 ∧ W.cell? ⟨w.heap.size + 1 + 1, 0, none⟩ = some (.int .i64 (cmpI (a.getD x.1.1 0) (b.getD x.1.1 0))))) ∧ Below w.heap.size w W)
  (OwnFrom.and (fun _ _ _ _ hs _ _ => hs) (ownFrom_below (Nat.le_refl _) (Nat.le_refl _)))
  (fun c => OwnFrom.and (Own.from (fun s X Y row hs hg hr => by
   obtain ⟨h0, l, x, hl, hg0, hx, hc1⟩ := hs
   exact ⟨h0, l, x, hl, hg0, hx, cell_kept hc1 hg hr⟩) _) (ownFrom_below (Nat.le_refl _) (by have := HZ.out; omega)))
  ⟨(fun _ h => by cases h), Below.refl _ _⟩
  (fun x => { tmps := #[.slice A a.length ca, .slice B b.length cb, .pointer (some ⟨w.heap.size, 0, none⟩), .pointer (some ⟨w.heap.size + 1, 0, none⟩), .pointer (some ⟨w.heap.size + 1 + 1, 0, none⟩), .int .i64 0, .int .i64 x.1.1, undef, .slice A a.length ca, .int .i64 a.length, .slice B b.length cb, .int .i64 b.length, .int .i64 0, .int .i64 0, .bool false, undef, .slice A a.length ca, .func (.func 298) #[] #[.pointer (some ⟨w.heap.size + 1 + 1 + 1, 0, none⟩)], .int .i64 x.1.1, .int .u32 x.1.2, undef, undef, undef, undef, undef, undef, undef, undef, undef, undef, undef, undef], defers := [] }) ?assign ?body ?done ?stop
 case assign =>
  intro l x W K hK
  gi_wp2
  exact hK
 case body =>
  rintro l pre x W ⟨hsame, hB⟩ _
  have hb0 := HB0.out.trans (hB.mono HB0.out.size)
  have hb1 : W0.heap.size ≤ W.heap.size := hB.size
  have hxl := x.2
  have hc1 : W.cell? ⟨w.heap.size, 0, none⟩ = some (.slice A a.length ca) := (hB.cell (p := ⟨w.heap.size, 0, none⟩) (by have := HZ.out; simp; omega)).trans C1.out
  have hc2 : W.cell? ⟨w.heap.size + 1, 0, none⟩ = some (.slice B b.length cb) := (hB.cell (p := ⟨w.heap.size + 1, 0, none⟩) (by have := HZ.out; simp; omega)).trans C2.out
  have hc3 : W.cell? ⟨w.heap.size + 1 + 1, 0, none⟩ = some (.int .i64 0) := (hB.cell (p := ⟨w.heap.size + 1 + 1, 0, none⟩) (by have := HZ.out; simp; omega)).trans C3.out
  have hf3 : W.frozen? ⟨w.heap.size + 1 + 1, 0, none⟩ = false := (hB.frozen (p := ⟨w.heap.size + 1 + 1, 0, none⟩) (by have := HZ.out; simp; omega)).trans F3.out
  obtain ⟨ada, rfl, hxa⟩ := Kd.at_int (Kd.C_below HCa.out hb0) (x.1.1 : Int) (by omega) (by omega)
  obtain ⟨adb, rfl, hxb⟩ := Kd.at_int (Kd.C_below HCb.out hb0) (x.1.1 : Int) (by omega) (by have := HLEN.out; omega)
  rw [Int.toNat_natCast, rd_nat] at hxa hxb
  have hlb : x.1.1 < b.length := by have := HLEN.out; omega
  have HSAME := Lib.hid hsame
  have HB := Lib.hid hB
  have HBB := Lib.hid hb0
  have hd : 1 ≤ n - 1 - 1 := by omega
  have hmx : Tryz.prog.follows .mixedOrders = true := by kernel_rfl
  clear hsame hB hb0
  obtain ⟨xa, hxa'⟩ : ∃ v, a.getD x.1.1 0 = v := ⟨_, rfl⟩
  obtain ⟨xb, hxb'⟩ : ∃ v, b.getD x.1.1 0 = v := ⟨_, rfl⟩
  rw [hxa'] at hxa
  rw [hxb'] at hxb
  have HXA := Lib.hid hxa'
  have HXB := Lib.hid hxb'
  clear hxa' hxb'
  have hcm : cmpI xa xb = 0 ∨ ¬ cmpI xa xb = 0 := by omega
  gi_wp2
  rcases hcm with hcm | hcm
  · refine region_quiet_round (by kernel_rfl) (by assumption) (by kernel_rfl) ?_
    repeat (gi_big_quiet_step (fail))
    refine BigFrame.wpQuietIn_want (fun _ _ _ _ => trivial) rfl ?_
    intro K hK
    gi_big_quiet_op
    gi_big_quiet_call (first | (gi_at_call 271; refine CallsIn.quiet_of_same (CallsIn.inRound l (callsIn_wide.2 (cmp_u32 _ _ _)))))
    repeat (gi_big_quiet_step (fail))
    refine wpQuietIn_nil ?_
    intro _ hw'
    obtain ⟨nq, hw2⟩ := hw'
    subst hw2
    gi_wp2
    refine ⟨⟨Nat.le_refl _, fun _ _ h _ => h⟩, ⟨pw_below_drewN (Below.refl _ _) nq, rfl, id⟩, ?_, pw_below_drewN HB.out nq⟩
    intro j hj
    rw [plc_snoc] at hj
    rcases List.mem_append.1 hj with hj | hj
    · exact HSAME.out j hj
    · simp at hj
      subst hj
      rw [HXA.out, HXB.out]
      exact cmpI_zero hcm
  · refine region_quiet_round (by kernel_rfl) (by assumption) (by kernel_rfl) ?_
    repeat (gi_big_quiet_step (fail))
    refine BigFrame.wpQuietIn_want (fun _ _ _ _ => trivial) rfl ?_
    intro K hK
    gi_big_quiet_op
    gi_big_quiet_call (first | (gi_at_call 271; refine CallsIn.quiet_of_same (CallsIn.inRound l (callsIn_wide.2 (cmp_u32 _ _ _)))))
    repeat (gi_big_quiet_step (fail))
    refine wpQuietIn_nil ?_
    intro _ hw'
    obtain ⟨nq, hw2⟩ := hw'
    subst hw2
    gi_wp2
    refine ⟨(show KeepsOthers W (W.drewN nq) from ⟨Nat.le_refl _, fun _ _ h _ => h⟩).trans (KeepsOthers.setCell _ _ _), ⟨rfl, pre, x, rfl, HSAME.out, by rw [HXA.out, HXB.out]; exact hcm, by rw [HXA.out, HXB.out]; go_simp⟩, (pw_below_drewN HBB.out nq).setCell (p := ⟨w.heap.size + 1 + 1, 0, none⟩) (by simp; omega) _⟩
 case done =>
  rintro D ys W hD hys ⟨hsame, hB⟩ hK
  have hb0 := HB0.out.trans (hB.mono HB0.out.size)
  have hb1 : W0.heap.size ≤ W.heap.size := hB.size
  have hc3 : W.cell? ⟨w.heap.size + 1 + 1, 0, none⟩ = some (.int .i64 0) := (hB.cell (p := ⟨w.heap.size + 1 + 1, 0, none⟩) (by have := HZ.out; simp; omega)).trans C3.out
  have hf3 : W.frozen? ⟨w.heap.size + 1 + 1, 0, none⟩ = false := (hB.frozen (p := ⟨w.heap.size + 1 + 1, 0, none⟩) (by have := HZ.out; simp; omega)).trans F3.out
  have HV := Lib.hid (cmp_done HLEN.out hys hsame)
  have HBB := Lib.hid hb0
  have HK := Lib.hid hK
  clear hsame hB hb0 hK
  gi_wp2
  have hK' := (KeepsOthers.setCell W ⟨w.heap.size + 1 + 1, 0, none⟩ (.int .i64 0)).same D _ HK.out rfl
  refine ⟨by simp, .inl ⟨_, _, rfl, run_takeDeferred hK', ?_⟩⟩
  have e3 : (W.setCell ⟨w.heap.size + 1 + 1, 0, none⟩ (.int .i64 0)).cell? ⟨w.heap.size + 1 + 1, 0, none⟩ = some (.int .i64 0) := by go_simp
  have k3 := cell_kept e3 (grownBy_putObj' _ D (.deferred none)) (fun r e => by cases e; exact ⟨_, hK', rfl⟩)
  refine ⟨.int .i64 0, ?_, ?_, (HBB.out.setCell (p := ⟨w.heap.size + 1 + 1, 0, none⟩) (by simp; omega) _).trans (belowK_b (w := w) (Nat.le_refl _) _ D _ _ (by have := HZ.out; omega) hK' rfl rfl)⟩
  · simp [results, Tryz.f227, go_sem, k3]
  · rw [HV.out]
 case stop =>
  rintro D c pre W hD hpre ⟨⟨rfl, l, x, rfl, hl2, hx, e2⟩, hB⟩ hK
  rw [plc_snoc] at hpre
  have HV := Lib.hid (cmp_stop (canon_okL HAB.out.1) (canon_okL HAB.out.2) HLEN.out hpre hl2 hx)
  have HB := Lib.hid hB
  have HK := Lib.hid hK
  clear hB hK hl2
  gi_wp2
  refine ⟨by simp, .inl ⟨_, _, rfl, run_takeDeferred HK.out, ?_⟩⟩
  have k2 := cell_kept e2 (grownBy_putObj' _ D (.deferred none)) (fun r e => by cases e; exact ⟨_, HK.out, rfl⟩)
  refine ⟨.int .i64 (cmpI (a.getD x.1.1 0) (b.getD x.1.1 0)), ?_, ?_, HB.out.trans (belowK_b (w := w) (Nat.le_refl _) W D _ _ (by have := HZ.out; omega) HK.out rfl rfl)⟩
  · simp [results, Tryz.f227, go_sem, k2]
  · rw [HV.out]
theorem nat_num_compare.calls (A0 : Option Addr) (c0 : Nat) (l0 : List Int) (A1 : Option Addr) (c1 : Nat) (l1 : List Int) (r : Int) (w : World) (hr0 : Kd.C (Kd.int .u32) w A0 l0.length l0) (hc0 : l0.length ≤ c0) (hr1 : Kd.C (Kd.int .u32) w A1 l1.length l1) (hc1 : l1.length ≤ c1) (h : nat_num_compare.f l0 l1 = some r) :
 Calls Tryz.prog 227 #[.slice A0 l0.length c0, .slice A1 l1.length c1] w fun e w' => e = .returned (.int .i64 r) ∧ Below w.heap.size w w' := by
 unfold nat_num_compare.f at h
 by_cases hc : (canon l0 ∧ canon l1) ∧ l0.length ≤ 1073741824 ∧ l1.length ≤ 1073741824
 case neg => rw [if_neg hc] at h; cases h
 rw [if_pos hc] at h
 obtain rfl := Option.some.inj h
 obtain ⟨h1, h2, h3⟩ := hc
 by_cases hl : cmpI l0.length l1.length = 0
 · exact callsIn_wide.1 (compare_in 4 (Nat.le_refl _) A0 A1 c0 c1 l0 l1 w hr0 hc0 hr1 hc1 h1 h2 h3 hl)
 · rw [← cmp_len h1.1 h1.2 hl]
   exact compare_ne A0 A1 c0 c1 l0 l1 w hl
end Go.Proofs.YthigbklhngihkaaGreatDoor.P
namespace Go.Proofs.YthigbklhngihkaaGreatDoor.P
open Go.RowKit Go.Proofs.YthigbklhngihkaaGreatDoorW.PrintWords Go.Proofs.YthigbklhngihkaaGreatDoorW.PrintLast Go.Proofs.YthigbklhngihkaaGreatDoorW.PrintMore
attribute [local go_sem] max2_int min2_int max_two min_two max_three min_three max_four min_four   -- for this text's walks alone
def bits_Div32.f (a0 : Int) (a1 : Int) (a2 : Int) : Option (Int × Int) := if a2 = 0 then (if (IntKind.u64.wrap (a2)) = 0 then (none) else (some ((IntKind.u64.wrap (Int.tdiv (Go.bits .or .u64 (IntKind.u64.wrap ((IntKind.u64.wrap (a0)) * 4294967296)) (IntKind.u64.wrap (a1))) (IntKind.u64.wrap (a2)))) % 4294967296, (Int.tmod (Go.bits .or .u64 (IntKind.u64.wrap ((IntKind.u64.wrap (a0)) * 4294967296)) (IntKind.u64.wrap (a1))) (IntKind.u64.wrap (a2))) % 4294967296))) else (if a2 ≤ a0 then (none) else (if (IntKind.u64.wrap (a2)) = 0 then (none) else (some ((IntKind.u64.wrap (Int.tdiv (Go.bits .or .u64 (IntKind.u64.wrap ((IntKind.u64.wrap (a0)) * 4294967296)) (IntKind.u64.wrap (a1))) (IntKind.u64.wrap (a2)))) % 4294967296, (Int.tmod (Go.bits .or .u64 (IntKind.u64.wrap ((IntKind.u64.wrap (a0)) * 4294967296)) (IntKind.u64.wrap (a1))) (IntKind.u64.wrap (a2))) % 4294967296))))
set_option maxHeartbeats 8000000 in
theorem bits_Div32.calls (a0 : Int) (a1 : Int) (a2 : Int) (r1 : Int) (r2 : Int) (w : World) (h : bits_Div32.f a0 a1 a2 = some (r1, r2)) :
 Calls Tryz.prog 273 #[.int .u32 a0, .int .u32 a1, .int .u32 a2] w fun e w' => e = .returned (.tuple #[.int .u32 r1, .int .u32 r2]) ∧ Drawn0 w w' := by
 have H : (if a2 = 0 then (if (IntKind.u64.wrap (a2)) = 0 then (none) else (some ((IntKind.u64.wrap (Int.tdiv (Go.bits .or .u64 (IntKind.u64.wrap ((IntKind.u64.wrap (a0)) * 4294967296)) (IntKind.u64.wrap (a1))) (IntKind.u64.wrap (a2)))) % 4294967296, (Int.tmod (Go.bits .or .u64 (IntKind.u64.wrap ((IntKind.u64.wrap (a0)) * 4294967296)) (IntKind.u64.wrap (a1))) (IntKind.u64.wrap (a2))) % 4294967296))) else (if a2 ≤ a0 then (none) else (if (IntKind.u64.wrap (a2)) = 0 then (none) else (some ((IntKind.u64.wrap (Int.tdiv (Go.bits .or .u64 (IntKind.u64.wrap ((IntKind.u64.wrap (a0)) * 4294967296)) (IntKind.u64.wrap (a1))) (IntKind.u64.wrap (a2)))) % 4294967296, (Int.tmod (Go.bits .or .u64 (IntKind.u64.wrap ((IntKind.u64.wrap (a0)) * 4294967296)) (IntKind.u64.wrap (a1))) (IntKind.u64.wrap (a2))) % 4294967296))))) = some (r1, r2) := h
 clear h
 by_cases c4 : a2 = 0
 · rw [if_pos c4] at H
   have c4b0 : (a2 == 0) = true := beq_iff_eq.mpr c4
   have c4b1 : (a2 != 0) = false := bne_eq_false_iff_eq.mpr c4
   clear c4
   by_cases c5 : (IntKind.u64.wrap (a2)) = 0
   · rw [if_pos c5] at H
     exact absurd H (by simp)
   · rw [if_neg c5] at H
     have c5b0 : ((IntKind.u64.wrap (a2)) == 0) = false := beq_eq_false_iff_ne.mpr c5
     have c5b1 : ((IntKind.u64.wrap (a2)) != 0) = true := bne_iff_ne.mpr c5
     simp only [Option.some.injEq, Prod.mk.injEq] at H
     obtain ⟨rfl, rfl⟩ := H
     go_enter Tryz.func273, Tryz.ntmps273
     go_wp2
     repeat (go_quiet (fail); try go_wp2)
     go_ret2
     exact ⟨by first | rfl | (simp; done) | (simp [*]; done), by repeat (first | exact Drawn0.refl _ | apply Drawn0.step)⟩
 · rw [if_neg c4] at H
   have c4b0 : (a2 == 0) = false := beq_eq_false_iff_ne.mpr c4
   have c4b1 : (a2 != 0) = true := bne_iff_ne.mpr c4
   by_cases c6 : a2 ≤ a0
   · rw [if_pos c6] at H
     exact absurd H (by simp)
   · rw [if_neg c6] at H
     have c6b0 : decide (a2 ≤ a0) = false := decide_eq_false c6
     clear c6
     by_cases c7 : (IntKind.u64.wrap (a2)) = 0
     · rw [if_pos c7] at H
       exact absurd H (by simp)
     · rw [if_neg c7] at H
       have c7b0 : ((IntKind.u64.wrap (a2)) == 0) = false := beq_eq_false_iff_ne.mpr c7
       have c7b1 : ((IntKind.u64.wrap (a2)) != 0) = true := bne_iff_ne.mpr c7
       simp only [Option.some.injEq, Prod.mk.injEq] at H
       obtain ⟨rfl, rfl⟩ := H
       go_enter Tryz.func273, Tryz.ntmps273
       go_wp2
       repeat (go_quiet (fail); try go_wp2)
       go_ret2
       exact ⟨by first | rfl | (simp; done) | (simp [*]; done), by repeat (first | exact Drawn0.refl _ | apply Drawn0.step)⟩
end Go.Proofs.YthigbklhngihkaaGreatDoor.P
namespace Go.Proofs.YthigbklhngihkaaGreatDoor.P
open Go.RowKit Go.Shelf Go.Proofs.YthigbklhngihkaaGreatDoorW.PrintWords Go.Proofs.YthigbklhngihkaaGreatDoorW.PrintMore Go.Proofs.YthigbklhngihkaaGreatDoorW.PrintLast
attribute [local go_sem] Oper.semAt_some
def smStep (a : List Int) (y : Int) (s : List Int × Int) (i : Nat) : List Int × Int := (s.1.set i ((s.2 * 4294967296 + a.getD i 0) / y), (s.2 * 4294967296 + a.getD i 0) % y)
def smF (a : List Int) (y : Int) (l : List Nat) : List Int × Int := l.foldl (smStep a y) (List.replicate a.length 0, 0)
theorem smF_snoc (a : List Int) (y : Int) (l : List Nat) (i : Nat) : smF a y (l ++ [i]) = smStep a y (smF a y l) i := by simp [smF]
theorem u64_w {x : Int} (h0 : 0 ≤ x) (h1 : x < 18446744073709551616) : IntKind.u64.wrap x = x := by rw [wrap_u64]; omega
theorem or64 {h l : Int} (h0 : 0 ≤ h) (h1 : h < 4294967296) (l0 : 0 ≤ l) (l1 : l < 4294967296) : bits .or .u64 (h * 4294967296) l = h * 4294967296 + l := by
 obtain ⟨hn, rfl⟩ : ∃ k : Nat, h = k := ⟨h.toNat, by omega⟩
 obtain ⟨ln, rfl⟩ : ∃ k : Nat, l = k := ⟨l.toNat, by omega⟩
 have e : ((hn : Int) * 4294967296) = ((hn * 4294967296 : Nat) : Int) := by rw [Int.natCast_mul]; rfl
 rw [e, u64_or_nat _ _ (by omega) (by omega), nat_join 32 _ _ (by omega) (by omega), Int.natCast_add]
theorem div32_eq {h l y : Int} (h0 : 0 ≤ h) (h1 : h < y) (hy : y < 4294967296) (l0 : 0 ≤ l) (l1 : l < 4294967296) : bits_Div32.f h l y = some ((h * 4294967296 + l) / y, (h * 4294967296 + l) % y) := by
 have e1 : IntKind.u64.wrap h = h := u64_w h0 (by omega)
 have e2 : IntKind.u64.wrap l = l := u64_w l0 (by omega)
 have e3 : IntKind.u64.wrap y = y := u64_w (by omega) (by omega)
 have e4 : IntKind.u64.wrap (h * 4294967296) = h * 4294967296 := u64_w (by omega) (by omega)
 have hx : 0 ≤ h * 4294967296 + l := by omega
 have hq0 : 0 ≤ (h * 4294967296 + l) / y := Int.ediv_nonneg hx (by omega)
 have hq1 : (h * 4294967296 + l) / y < 4294967296 := Int.ediv_lt_of_lt_mul (by omega) (by
  have := Int.mul_le_mul_of_nonneg_right (show h + 1 ≤ y by omega) (show (0 : Int) ≤ 4294967296 by omega)
  rw [Int.mul_comm 4294967296 y]
  omega)
 have hr0 := Int.emod_nonneg (h * 4294967296 + l) (show y ≠ 0 by omega)
 have hr1 := Int.emod_lt_of_pos (h * 4294967296 + l) (show 0 < y by omega)
 unfold bits_Div32.f
 rw [if_neg (by omega), if_neg (by omega), e1, e2, e3, e4, if_neg (by omega), or64 h0 (by omega) l0 l1, tdiv_eq_if, if_pos hx, tmod_eq_if, if_pos hx, u64_w hq0 (by omega)]
 rw [Int.emod_eq_of_lt hq0 hq1, Int.emod_eq_of_lt hr0 (by omega)]
theorem smF_ok {a : List Int} (ha : okL a) {y : Int} (h0 : 0 < y) (h1 : y < 4294967296) : ∀ (l : List Nat), okL (smF a y l).1 ∧ 0 ≤ (smF a y l).2 ∧ (smF a y l).2 < y := by
 intro l
 have key : ∀ (l : List Nat) (s : List Int × Int), (okL s.1 ∧ 0 ≤ s.2 ∧ s.2 < y) → (okL (l.foldl (smStep a y) s).1 ∧ 0 ≤ (l.foldl (smStep a y) s).2 ∧ (l.foldl (smStep a y) s).2 < y) := by
  intro l
  induction l with
  | nil => intro s h; exact h
  | cons i l ih =>
   intro s h
   refine ih _ ?_
   obtain ⟨h2, h3, h4⟩ := h
   have hb := okL_getD ha i
   have hx : 0 ≤ s.2 * 4294967296 + a.getD i 0 := by omega
   unfold smStep
   refine ⟨fun z hz => ?_, Int.emod_nonneg _ (by omega), Int.emod_lt_of_pos _ h0⟩
   rcases List.mem_or_eq_of_mem_set hz with hz | rfl
   · exact h2 z hz
   · refine ⟨Int.ediv_nonneg hx (by omega), Int.ediv_lt_of_lt_mul h0 ?_⟩
     have := Int.mul_le_mul_of_nonneg_right (show s.2 + 1 ≤ y by omega) (show (0 : Int) ≤ 4294967296 by omega)
     rw [Int.mul_comm 4294967296 y]
     omega
 exact key l _ ⟨fun z hz => by rw [List.eq_of_mem_replicate hz]; omega, Int.le_refl _, h0⟩
theorem smF_len (a : List Int) (y : Int) (l : List Nat) : (smF a y l).1.length = a.length := by
 have key : ∀ (l : List Nat) (s : List Int × Int), (l.foldl (smStep a y) s).1.length = s.1.length := by
  intro l
  induction l with
  | nil => intro s; rfl
  | cons i l ih => intro s; rw [List.foldl_cons, ih, smStep, List.length_set]
 rw [smF, key, List.length_replicate]
theorem sm_fold {a : List Int} (ha : okL a) {y : Int} (h0 : 0 < y) : ∀ (m : Nat) (s : List Int × Int), m ≤ a.length → s.1.length = a.length → okL s.1 → 0 ≤ s.2 → s.2 < y → y < 4294967296 →
 ((down m).foldl (smStep a y) s).1.drop m = s.1.drop m ∧ val (((down m).foldl (smStep a y) s).1.take m) * y.toNat + ((down m).foldl (smStep a y) s).2.toNat = s.2.toNat * 4294967296 ^ m + val (a.take m)
 | 0, s, _, _, _, _, _, _ => by simp [down, val]
 | m + 1, s, hm, hs, hok, hr0, hr1, hy => by
  have hb := okL_getD ha m
  have hx : 0 ≤ s.2 * 4294967296 + a.getD m 0 := by omega
  have hq0 : 0 ≤ (s.2 * 4294967296 + a.getD m 0) / y := Int.ediv_nonneg hx (by omega)
  have hq1 : (s.2 * 4294967296 + a.getD m 0) / y < 4294967296 := Int.ediv_lt_of_lt_mul h0 (by
   have := Int.mul_le_mul_of_nonneg_right (show s.2 + 1 ≤ y by omega) (show (0 : Int) ≤ 4294967296 by omega)
   rw [Int.mul_comm 4294967296 y]
   omega)
  have hg0 := Int.emod_nonneg (s.2 * 4294967296 + a.getD m 0) (show y ≠ 0 by omega)
  have hg1 := Int.emod_lt_of_pos (s.2 * 4294967296 + a.getD m 0) h0
  have hqr := Int.mul_ediv_add_emod (s.2 * 4294967296 + a.getD m 0) y
  have hok1 : okL (smStep a y s m).1 := fun z hz => by
   rcases List.mem_or_eq_of_mem_set hz with hz | rfl
   · exact hok z hz
   · exact ⟨hq0, hq1⟩
  obtain ⟨i1, i2⟩ := sm_fold ha h0 m (smStep a y s m) (by omega) (by rw [smStep, List.length_set, hs]) hok1 hg0 hg1 hy
  rw [down, List.foldl_cons]
  generalize (down m).foldl (smStep a y) (smStep a y s m) = f at *
  have hq : f.1.getD m 0 = (s.2 * 4294967296 + a.getD m 0) / y := by
   have h1 := congrArg (fun l => l.getD 0 0) i1
   simp only [List.getD_eq_getElem?_getD, List.getElem?_drop, Nat.add_zero] at h1
   rw [List.getD_eq_getElem?_getD, h1, smStep]
   simp [List.getElem?_set_self (show m < s.1.length by omega)]
  refine ⟨?_, ?_⟩
  · have h1 := congrArg (List.drop 1) i1
    rw [List.drop_drop, List.drop_drop] at h1
    rw [h1, smStep]
    exact List.drop_set_of_lt (by omega)
  · rw [val_take_step, val_take_step a, hq, Nat.pow_succ, Nat.add_mul]
    generalize hQ : ((s.2 * 4294967296 + a.getD m 0) / y).toNat = Q at *
    have hgr : (smStep a y s m).2 = (s.2 * 4294967296 + a.getD m 0) % y := rfl
    rw [hgr] at i2
    have e : Q * y.toNat + ((s.2 * 4294967296 + a.getD m 0) % y).toNat = s.2.toNat * 4294967296 + (a.getD m 0).toNat := by
     obtain ⟨yn, rfl⟩ : ∃ k : Nat, y = k := ⟨y.toNat, by omega⟩
     have hQ2 : (Q : Int) = (s.2 * 4294967296 + a.getD m 0) / (yn : Int) := by omega
     rw [← hQ2] at hqr
     have : ((yn * Q : Nat) : Int) = (yn : Int) * (Q : Int) := Int.natCast_mul _ _
     rw [Int.toNat_natCast, Nat.mul_comm Q yn]
     omega
    have e2 := congrArg (4294967296 ^ m * ·) e
    simp only [Nat.mul_add] at e2
    rw [show 4294967296 ^ m * Q * y.toNat = 4294967296 ^ m * (Q * y.toNat) from Nat.mul_assoc _ _ _]
    rw [show s.2.toNat * (4294967296 ^ m * 4294967296) = 4294967296 ^ m * (s.2.toNat * 4294967296) by rw [← Nat.mul_assoc, Nat.mul_comm s.2.toNat, Nat.mul_assoc]]
    rw [show ((s.2 * 4294967296 + a.getD m 0) % y).toNat * 4294967296 ^ m = 4294967296 ^ m * ((s.2 * 4294967296 + a.getD m 0) % y).toNat from Nat.mul_comm _ _] at i2
    omega
theorem sm_val {a : List Int} (ha : okL a) {y : Int} (h0 : 0 < y) (h1 : y < 4294967296) : val (smF a y (down a.length)).1 = val a / y.toNat ∧ (smF a y (down a.length)).2 = ((val a % y.toNat : Nat) : Int) := by
 have hf := (sm_fold ha h0 a.length (List.replicate a.length 0, 0) (Nat.le_refl _) (by simp) (fun z hz => by rw [List.eq_of_mem_replicate hz]; omega) (Int.le_refl _) h0 h1).2
 have hl := smF_len a y (down a.length)
 obtain ⟨g1, g2, g3⟩ := smF_ok ha h0 h1 (down a.length)
 have e : (down a.length).foldl (smStep a y) (List.replicate a.length 0, 0) = smF a y (down a.length) := rfl
 rw [e, List.take_of_length_le (by omega), List.take_of_length_le (Nat.le_refl _)] at hf
 simp only [Int.toNat_zero, Nat.zero_mul, Nat.zero_add] at hf
 generalize smF a y (down a.length) = f at *
 have hy : 0 < y.toNat := by omega
 rw [← hf]
 refine ⟨?_, ?_⟩
 · rw [Nat.mul_comm, Nat.mul_add_div hy, Nat.div_eq_of_lt (by omega)]; omega
 · rw [Nat.mul_comm, Nat.mul_add_mod, Nat.mod_eq_of_lt (by omega)]; omega
theorem made_zero (n : Nat) : (madeCells (Value.int IntKind.u32 0).cells (n * 1)).toList = (List.replicate n (0 : Int)).map (Value.int .u32) := by
 apply List.ext_getElem
 · simp [madeCells]
 · intro i h1 h2
   simp [madeCells, Value.cells, Nat.mod_one]
theorem quiet_of_drawn {F : Fence} {n : Nat} {P : Program} {f : FuncId} {args : Array Value} {w : World} {k : Nat} {v : Value} (h : CallsIn F n P f args (w.drewN k) fun e w' => e = .returned v ∧ Drawn0 (w.drewN k) w') : CallsIn F n P f args (w.drewN k) fun e w'' => e = .returned v ∧ ∃ m, w'' = w.drewN m :=
 h.mono fun e w' ⟨h1, m, h2⟩ => ⟨h1, k + m, by rw [h2]; simp⟩
def nat_num_small.f (l0 : List Int) (a1 : Int) : Option (List Int × Int) := if okL l0 ∧ l0.length ≤ 1073741824 ∧ 0 < a1 ∧ a1 < 4294967296 then some (limbs (val l0 / a1.toNat), ((val l0 % a1.toNat : Nat) : Int)) else none
set_option maxHeartbeats 4000000 in
theorem small_in (n : Nat) (hn : 6 ≤ n) (A : Option Addr) (ca : Nat) (a : List Int) (y : Int) (w : World) (hCa : Kd.C (Kd.int .u32) w A a.length a) (hca : a.length ≤ ca) (hab : okL a) (hz : a.length ≤ 1073741824) (hy0 : 0 < y) (hy1 : y < 4294967296) :
 CallsIn Fence.wide n Tryz.prog 229 #[.slice A a.length ca, .int .u32 y] w fun e W' => ∃ v, e = .returned (.tuple #[v, .int .u32 (smF a y (down a.length)).2]) ∧ Kd.R (Kd.int .u32) 131 W' w.heap.size (fun _ => True) v (limbs (val (smF a y (down a.length)).1)) ∧ Below w.heap.size w W' := by
 have h1 : 1 ≤ n := by omega
 obtain ⟨i0, hi, hz0, hz1, hz2⟩ := info_parts infoU
 have HCa := Lib.hid hCa
 have HAB := Lib.hid hab
 clear hCa hab
 have hA := addr_of_C HCa.out
 refine callsIn_of_wp_marks Tryz.func229 rfl trivial ?_ rfl
 simp only [Tryz.ntmps229, List.size_toArray, List.length_cons, List.length_nil, Nat.reduceAdd, Nat.reduceSub, Array.replicate_succ, Array.replicate_zero, List.push_toArray, List.append_toArray, List.nil_append, List.cons_append]
 obtain ⟨w3, hrun, hown, hgrow⟩ := run_make_full (P := Tryz.prog) ((w.alloc (.cells #[.slice A a.length ca] 171)).alloc (.cells #[.int .u32 y] 131)) w.heap.size 171 131 i0 (.int .u32 0) 1 Tryz.underlying171 hi hz0 hz1 .i64 .i64 a.length (by rw [hz2]; omega) (by unfold maxLen; omega) (by simp; omega)
 simp only [World.size_alloc] at hrun hown
 have b1 := ((Boxed.new w 171 (.slice A a.length ca)).alloc (.cells #[.int .u32 y] 131)).kept hgrow (by simp)
 have b2 := (Boxed.new (w.alloc (.cells #[.slice A a.length ca] 171)) 131 (.int .u32 y)).kept hgrow (by simp)
 simp only [World.size_alloc] at b2
 have hB3 : Below w.heap.size w w3 := (((Below.refl _ w).alloc (Nat.le_refl _) _).alloc (by simp) _).grown hgrow (by simp; omega) (fun k e => by cases e)
 have hs3 : w.heap.size + 2 ≤ w3.heap.size := by have := hgrow.size; simp at this; omega
 have b1c := ((b1.alloc (.cells #[.slice (some ⟨w.heap.size + 1 + 1, 0, none⟩) a.length a.length] 171)).alloc (.cells #[.int .u32 0] 131)).cell
 have B1 := Lib.hid b1
 have B2 := Lib.hid b2
 have HB3 := Lib.hid hB3
 have HO := Lib.hid hown
 clear hgrow hown b1 b2 hB3
 gi_wp2_with (refine ⟨trivial, ?_⟩; gi_at_call 270; refine (backward_in (n - 1) _ _ _ _).mono ?_; rintro e w' ⟨rfl, rfl⟩)
 clear b1c hrun
 have bO := ((Boxed.new w3 171 (.slice (some ⟨w.heap.size + 1 + 1, 0, none⟩) a.length a.length)).alloc (.cells #[.int .u32 0] 131)).alloc (.cells #[.slice A a.length ca] 171)
 have bR := (Boxed.new (w3.alloc (.cells #[.slice (some ⟨w.heap.size + 1 + 1, 0, none⟩) a.length a.length] 171)) 131 (.int .u32 0)).alloc (.cells #[.slice A a.length ca] 171)
 have bS := Boxed.new ((w3.alloc (.cells #[.slice (some ⟨w.heap.size + 1 + 1, 0, none⟩) a.length a.length] 171)).alloc (.cells #[.int .u32 0] 131)) 171 (.slice A a.length ca)
 have b1 := ((B1.out.alloc (.cells #[.slice (some ⟨w.heap.size + 1 + 1, 0, none⟩) a.length a.length] 171)).alloc (.cells #[.int .u32 0] 131)).alloc (.cells #[.slice A a.length ca] 171)
 have b2 := ((B2.out.alloc (.cells #[.slice (some ⟨w.heap.size + 1 + 1, 0, none⟩) a.length a.length] 171)).alloc (.cells #[.int .u32 0] 131)).alloc (.cells #[.slice A a.length ca] 171)
 have ho := ((HO.out.alloc (.cells #[.slice (some ⟨w.heap.size + 1 + 1, 0, none⟩) a.length a.length] 171)).alloc (.cells #[.int .u32 0] 131)).alloc (.cells #[.slice A a.length ca] 171)
 have hB := ((HB3.out.alloc (by omega) (.cells #[.slice (some ⟨w.heap.size + 1 + 1, 0, none⟩) a.length a.length] 171)).alloc (by simp; omega) (.cells #[.int .u32 0] 131)).alloc (by simp; omega) (.cells #[.slice A a.length ca] 171)
 simp only [World.size_alloc] at bR bS
 obtain ⟨W0, hW0⟩ : ∃ W0, W0 = ((w3.alloc (.cells #[.slice (some ⟨w.heap.size + 1 + 1, 0, none⟩) a.length a.length] 171)).alloc (.cells #[.int .u32 0] 131)).alloc (.cells #[.slice A a.length ca] 171) := ⟨_, rfl⟩
 have hzz : W0.heap.size = w3.heap.size + 3 := by rw [hW0]; simp
 rw [← hW0] at bO bR bS b1 b2 ho hB ⊢
 have hr : Readable A a.length W0 := readable_of_C (Kd.C_below HCa.out hB)
 have HZ := Lib.hid hzz
 have HB0 := Lib.hid hB
 have BS := Lib.hid bS
 have HGL : Hid (w.heap.size + 1 + 1 < w3.heap.size) := Lib.hid (by
  rcases HO.out.2 with ⟨h, _⟩ | ⟨g, cap, cur, h, _, hgb, _⟩
  · cases h
  · injection h with h1; injection h1 with h1; injection h1 with h1
    subst h1
    exact (Array.getElem?_eq_some_iff.1 hgb).1)
 clear hW0 hzz hB
 have hmk : (madeCells (Value.int IntKind.u32 0).cells (a.length * 1)).toList = ((smF a y []).1).map (Value.int .u32) := made_zero a.length
 rw [hmk] at ho
 refine wpIn_rangeFunc_ownG rfl h1 (gf := 298) (lb := #[.pointer (some ⟨w3.heap.size + 1 + 1, 0, none⟩)]) rfl trivial (enters_of Tryz.func298 (by kernel_rfl) rfl)
  (backward_stops (n - 1) (by omega) (w3.heap.size + 1 + 1) w.heap.size A a.length ca (by omega) W0 BS.out.cell hA hr) kpB_t (kpB_b HB0.out.size (by have := HZ.out; omega) hr) (Below.refl _ _) (fun _ => rfl)
  (fun (pre : List (BIt a.length)) W => ((((∃ v, Boxed W w3.heap.size 171 v ∧ W.ownsRow w.heap.size 131 1 v a.length ((smF a y (plc pre)).1.map (Value.int .u32)) ∧ v = .slice (some ⟨w.heap.size + 1 + 1, 0, none⟩) a.length a.length) ∧ Boxed W (w3.heap.size + 1) 131 (.int .u32 (smF a y (plc pre)).2)) ∧ Boxed W w.heap.size 171 (.slice A a.length ca)) ∧ Boxed W (w.heap.size + 1) 131 (.int .u32 y)) ∧ Below w.heap.size w W)
  (fun _ _ _ => False)
  (OwnFrom.and (OwnFrom.and (OwnFrom.and (OwnFrom.and (Own.from (holdsRow_own w.heap.size w3.heap.size 171 131 1 (fun pre => a.length) (fun pre => (smF a y (plc pre)).1.map (Value.int .u32)) (fun _ v => v = .slice (some ⟨w.heap.size + 1 + 1, 0, none⟩) a.length a.length)) _) (Own.from (boxed_own _ _ (fun pre => .int .u32 (smF a y (plc pre)).2)) _)) (Own.from (boxed_own _ _ _) _)) (Own.from (boxed_own _ _ _) _)) (ownFrom_below (Nat.le_refl _) (by have := HB0.out.size; exact this)))
  (fun _ _ _ _ _ hs _ _ => hs)
  ⟨⟨⟨⟨⟨_, bO, ho, rfl⟩, bR⟩, b1⟩, b2⟩, HB0.out⟩
  (fun x => { tmps := #[.slice A a.length ca, .int .u32 y, .pointer (some ⟨w.heap.size, 0, none⟩), .pointer (some ⟨w.heap.size + 1, 0, none⟩), .slice none 0 0, .int .u32 0, .pointer (some ⟨w3.heap.size, 0, none⟩), .pointer (some ⟨w3.heap.size + 1, 0, none⟩), .int .i64 x.1.1, .slice A a.length ca, .int .i64 a.length, .slice (some ⟨w.heap.size + 1 + 1, 0, none⟩) a.length a.length, .slice A a.length ca, .func (.func 298) #[] #[.pointer (some ⟨w3.heap.size + 1 + 1, 0, none⟩)], .int .i64 x.1.1, .int .u32 x.1.2, undef, undef, undef, undef, undef, undef, undef, undef, undef, undef, undef, undef, undef, undef, undef, undef], defers := [] }) ?assign ?body ?done ?stop
 case assign =>
  intro l x W K hK
  gi_wp2
  exact hK
 case body =>
  rintro l pre x W ⟨⟨⟨⟨⟨v, hv, hrow, rfl⟩, hbr⟩, hba⟩, hby⟩, hB⟩ hlt
  have hxl := x.2
  have hc1 := hv.cell
  have hc2 := hbr.cell
  have hc3 := hba.cell
  have hc4 := hby.cell
  obtain ⟨ada, rfl, hxa⟩ := Kd.at_int (Kd.C_below HCa.out hB) (x.1.1 : Int) (by omega) (by omega)
  rw [Int.toNat_natCast, rd_nat] at hxa
  have hd : 1 ≤ n - 1 - 1 := by omega
  have hmx : Tryz.prog.follows .mixedOrders = true := by kernel_rfl
  have hst := smF_ok HAB.out hy0 hy1 (plc pre)
  have hdv := div32_eq hst.2.1 hst.2.2 hy1 (okL_getD HAB.out x.1.1).1 (okL_getD HAB.out x.1.1).2
  have HST := Lib.hid hst
  have HDV := Lib.hid hdv
  have HSN := Lib.hid (smF_snoc a y (plc pre) x.1.1)
  clear hst hdv
  unfold smStep at HSN
  obtain ⟨xa, hxa'⟩ : ∃ v, a.getD x.1.1 0 = v := ⟨_, rfl⟩
  obtain ⟨rr, hrr⟩ : ∃ v, (smF a y (plc pre)).2 = v := ⟨_, rfl⟩
  rw [hxa'] at hxa HDV HSN
  rw [hrr] at hbr hc2 HDV HSN
  have hcell : W.cell? ⟨w.heap.size + 1 + 1, x.1.1, none⟩ = some (.int .u32 ((smF a y (plc pre)).1.getD x.1.1 0)) := by
   rw [hrow.cellAt x.1.1 (by omega), List.getElem?_map, List.getD_eq_getElem?_getD, List.getElem?_eq_getElem (show x.1.1 < (smF a y (plc pre)).1.length by rw [smF_len]; exact hxl)]
   rfl
  have hfrz := hrow.frozenAt x.1.1
  have hfr := hbr.frozen
  have HFIN : Hid (∀ nq : Nat, KeepsFrom W0.heap.size W (((W.drewN nq).setCell ⟨w.heap.size + 1 + 1, x.1.1, none⟩ (.int .u32 ((rr * 4294967296 + xa) / y))).setCell ⟨w3.heap.size + 1, 0, none⟩ (.int .u32 ((rr * 4294967296 + xa) % y))) ∧ KpB w.heap.size (w3.heap.size + 1 + 1) (some ada) a.length W (((W.drewN nq).setCell ⟨w.heap.size + 1 + 1, x.1.1, none⟩ (.int .u32 ((rr * 4294967296 + xa) / y))).setCell ⟨w3.heap.size + 1, 0, none⟩ (.int .u32 ((rr * 4294967296 + xa) % y))) ∧
   ((((∃ v, Boxed (((W.drewN nq).setCell ⟨w.heap.size + 1 + 1, x.1.1, none⟩ (.int .u32 ((rr * 4294967296 + xa) / y))).setCell ⟨w3.heap.size + 1, 0, none⟩ (.int .u32 ((rr * 4294967296 + xa) % y))) w3.heap.size 171 v ∧ (((W.drewN nq).setCell ⟨w.heap.size + 1 + 1, x.1.1, none⟩ (.int .u32 ((rr * 4294967296 + xa) / y))).setCell ⟨w3.heap.size + 1, 0, none⟩ (.int .u32 ((rr * 4294967296 + xa) % y))).ownsRow w.heap.size 131 1 v a.length ((smF a y (plc (pre ++ [x]))).1.map (Value.int .u32)) ∧ v = .slice (some ⟨w.heap.size + 1 + 1, 0, none⟩) a.length a.length) ∧ Boxed (((W.drewN nq).setCell ⟨w.heap.size + 1 + 1, x.1.1, none⟩ (.int .u32 ((rr * 4294967296 + xa) / y))).setCell ⟨w3.heap.size + 1, 0, none⟩ (.int .u32 ((rr * 4294967296 + xa) % y))) (w3.heap.size + 1) 131 (.int .u32 (smF a y (plc (pre ++ [x]))).2)) ∧ Boxed (((W.drewN nq).setCell ⟨w.heap.size + 1 + 1, x.1.1, none⟩ (.int .u32 ((rr * 4294967296 + xa) / y))).setCell ⟨w3.heap.size + 1, 0, none⟩ (.int .u32 ((rr * 4294967296 + xa) % y))) w.heap.size 171 (.slice (some ada) a.length ca)) ∧ Boxed (((W.drewN nq).setCell ⟨w.heap.size + 1 + 1, x.1.1, none⟩ (.int .u32 ((rr * 4294967296 + xa) / y))).setCell ⟨w3.heap.size + 1, 0, none⟩ (.int .u32 ((rr * 4294967296 + xa) % y))) (w.heap.size + 1) 131 (.int .u32 y)) ∧
   Below w.heap.size w (((W.drewN nq).setCell ⟨w.heap.size + 1 + 1, x.1.1, none⟩ (.int .u32 ((rr * 4294967296 + xa) / y))).setCell ⟨w3.heap.size + 1, 0, none⟩ (.int .u32 ((rr * 4294967296 + xa) % y)))) := Lib.hid (by
   intro nq
   have hgl := HGL.out
   have hB3 := HB3.out.size
   have hv1 : Boxed (W.drewN nq) w3.heap.size 171 (.slice (some ⟨w.heap.size + 1 + 1, 0, none⟩) a.length a.length) := hv
   have hr1 : Boxed (W.drewN nq) (w3.heap.size + 1) 131 (.int .u32 rr) := hbr
   have ha1 : Boxed (W.drewN nq) w.heap.size 171 (.slice (some ada) a.length ca) := hba
   have hby1 : Boxed (W.drewN nq) (w.heap.size + 1) 131 (.int .u32 y) := hby
   have ho1 : (W.drewN nq).ownsRow w.heap.size 131 1 (.slice (some ⟨w.heap.size + 1 + 1, 0, none⟩) a.length a.length) a.length ((smF a y (plc pre)).1.map (Value.int .u32)) := pw_own_drewN hrow nq
   obtain ⟨ho2, hg2⟩ := ho1.stored x.1.1 (.int .u32 ((rr * 4294967296 + xa) / y))
   have hv2 := hv1.kept hg2 (by intro e; injection e with e; omega)
   have hr2 := hr1.kept hg2 (by intro e; injection e with e; omega)
   have ha2 := ha1.kept hg2 (by intro e; injection e with e; omega)
   have hy2 := hby1.kept hg2 (by intro e; injection e with e; omega)
   have hbel : Below w.heap.size W (((W.drewN nq).setCell ⟨w.heap.size + 1 + 1, x.1.1, none⟩ (.int .u32 ((rr * 4294967296 + xa) / y))).setCell ⟨w3.heap.size + 1, 0, none⟩ (.int .u32 ((rr * 4294967296 + xa) % y))) := ((pw_below_drewN (Below.refl _ _) nq).setCell (by simp <;> omega) _).setCell (by simp <;> omega) _
   refine ⟨(((show KeepsOthers W (W.drewN nq) from ⟨Nat.le_refl _, fun _ _ h _ => h⟩).trans (KeepsOthers.setCell _ _ _)).trans (KeepsOthers.setCell _ _ _)).from _, ⟨hbel, ?_, fun _ => readable_of_C (Kd.C_below HCa.out (hB.trans hbel))⟩, ⟨⟨⟨⟨_, hv2.other (by omega) _, ?_, rfl⟩, ?_⟩, ha2.other (by omega) _⟩, hy2.other (by omega) _⟩, hB.trans hbel⟩
   · exact (World.cell?_setCell_other _ _ _ _ (by simp)).trans ((World.cell?_setCell_other _ _ _ _ (by simp <;> omega)).trans rfl)
   · have := own_setCell ho2 (p := ⟨w3.heap.size + 1, 0, none⟩) (by simp [Value.ownBlock]; omega) (.int .u32 ((rr * 4294967296 + xa) % y))
     rw [plc_snoc, HSN.out]
     simpa [List.map_set] using this
   · rw [plc_snoc, HSN.out]
     exact hr2.set _)
  gi_wp2
  refine region_two_round 11 (by assumption) (by kernel_rfl) ?_
  simp only [List.toList_toArray, List.take_succ_cons, List.take_zero]
  repeat (gi_big_quiet_step (fail))
  refine BigFrame.wpQuietIn_want (fun _ _ _ _ => trivial) rfl ?_
  intro K hK
  gi_big_quiet_op
  gi_big_quiet_call (first | (gi_at_call 273; exact quiet_of_drawn (CallsIn.inRound l (callsIn_wide.2 (bits_Div32.calls _ _ _ _ _ _ HDV.out)))))
  repeat (gi_big_quiet_step (fail))
  refine wpQuietIn_nil ⟨?_, ?_⟩
  · rintro w' ⟨nq, rfl⟩
    refine wpAnyIn_ready (rs := [11, 12]) (by kernel_rfl) (by decide) (BigFrame.allReadyIn_want rfl rfl (fun K hK => ?_) (BigFrame.allReadyIn_want rfl rfl (fun K hK => ?_) AllReadyIn.nil))
    · gi_wp2
      refine wpAnyIn_ready (rs := [12]) (by kernel_rfl) (by decide) (BigFrame.allReadyIn_want rfl rfl (fun K hK => ?_) AllReadyIn.nil)
      gi_wp2
      refine wpAnyIn_ready (rs := [13]) (by kernel_rfl) (by decide) (BigFrame.allReadyIn_want rfl rfl (fun K hK => ?_) AllReadyIn.nil)
      gi_wp2
      refine wpAnyIn_ready (rs := [14]) (by kernel_rfl) (by decide) (BigFrame.allReadyIn_want rfl rfl (fun K hK => ?_) AllReadyIn.nil)
      gi_wp2
      refine wpAnyIn_done (by kernel_rfl) ?_ _
      gi_wp2
      exact HFIN.out nq
    · gi_wp2
      refine wpAnyIn_ready (rs := [11, 13]) (by kernel_rfl) (by decide) (BigFrame.allReadyIn_want rfl rfl (fun K hK => ?_) (BigFrame.allReadyIn_want rfl rfl (fun K hK => ?_) AllReadyIn.nil))
      · gi_wp2
        refine wpAnyIn_ready (rs := [13]) (by kernel_rfl) (by decide) (BigFrame.allReadyIn_want rfl rfl (fun K hK => ?_) AllReadyIn.nil)
        gi_wp2
        refine wpAnyIn_ready (rs := [14]) (by kernel_rfl) (by decide) (BigFrame.allReadyIn_want rfl rfl (fun K hK => ?_) AllReadyIn.nil)
        gi_wp2
        refine wpAnyIn_done (by kernel_rfl) ?_ _
        gi_wp2
        exact HFIN.out nq
      · gi_wp2
        refine wpAnyIn_ready (rs := [11]) (by kernel_rfl) (by decide) (BigFrame.allReadyIn_want rfl rfl (fun K hK => ?_) AllReadyIn.nil)
        gi_wp2
        refine wpAnyIn_ready (rs := [14]) (by kernel_rfl) (by decide) (BigFrame.allReadyIn_want rfl rfl (fun K hK => ?_) AllReadyIn.nil)
        gi_wp2
        refine wpAnyIn_done (by kernel_rfl) ?_ _
        gi_wp2
        exact HFIN.out nq
  · refine qop_want rfl (fun _ _ _ _ => trivial) rfl (fun K hK => ?_)
    refine ⟨.int .u32 ((rr * 4294967296 + xa) % y), fun w1 _ => ⟨rfl, rfl⟩, hK _ ?_⟩
    rintro w' ⟨nq, rfl⟩
    refine wpAnyIn_ready (rs := [12]) (by kernel_rfl) (by decide) (BigFrame.allReadyIn_want rfl rfl (fun K hK => ?_) AllReadyIn.nil)
    gi_wp2
    refine wpAnyIn_ready (rs := [13]) (by kernel_rfl) (by decide) (BigFrame.allReadyIn_want rfl rfl (fun K hK => ?_) AllReadyIn.nil)
    gi_wp2
    refine wpAnyIn_ready (rs := [14]) (by kernel_rfl) (by decide) (BigFrame.allReadyIn_want rfl rfl (fun K hK => ?_) AllReadyIn.nil)
    gi_wp2
    refine wpAnyIn_done (by kernel_rfl) ?_ _
    gi_wp2
    exact HFIN.out nq
 case done =>
  rintro D ys W hD hys ⟨⟨⟨⟨⟨v, hv, hrow, rfl⟩, hbr⟩, hba⟩, hby⟩, hB⟩ hK
  have hc1 := hv.cell
  have hc2 := hbr.cell
  have hmx : Tryz.prog.follows .mixedOrders = true := by kernel_rfl
  have HRW := Lib.hid hrow
  have HK := Lib.hid hK
  have HB := Lib.hid hB
  have hdn : plc ys = down a.length := hys
  have hlen := smF_len a y (down a.length)
  have hok := smF_ok HAB.out hy0 hy1 (down a.length)
  have hR : Kd.R (Kd.int .u32) 131 W w.heap.size (fun _ => True) (.slice (some ⟨w.heap.size + 1 + 1, 0, none⟩) (smF a y (down a.length)).1.length a.length) (smF a y (down a.length)).1 := Kd.R_of_own (enc := Value.int .u32) (by rw [hlen, ← hdn]; exact hrow) (fun _ _ => trivial)
  have hlt := limbs_take hok.1
  have HOK := Lib.hid hok.1
  have HLT := Lib.hid hlt
  have HLEN := Lib.hid hlen
  have HDN := Lib.hid hdn
  have HT : Hid (∀ k, Calls Tryz.prog 149 #[.slice (some ⟨w.heap.size + 1 + 1, 0, none⟩) a.length a.length] (W.drewN k) fun e w' => e = .returned (trimV (some ⟨w.heap.size + 1 + 1, 0, none⟩) a.length (smF a y (down a.length)).1) ∧ w' = W.drewN k) := Lib.hid (fun k => by
   have := trim_det (some ⟨w.heap.size + 1 + 1, 0, none⟩) a.length (smF a y (down a.length)).1 (W.drewN k) (Kd.C_drewN (Kd.R_reads' hR).2.2 k) (by omega) hok.1 (by omega)
   rw [hlen] at this
   exact this)
  have hrr : Hid ((smF a y (plc ys)).2 = (smF a y (down a.length)).2) := Lib.hid (by rw [hdn])
  clear hR hrow hB hK hok hlt
  gi_wp2
  refine region_quiet_round (by kernel_rfl) (by assumption) (by kernel_rfl) ?_
  repeat (gi_big_quiet_step (fail))
  refine BigFrame.wpQuietIn_want (fun _ _ _ _ => trivial) rfl ?_
  intro K hK
  gi_big_quiet_op
  gi_big_quiet_call (first | (gi_at_call 149; exact CallsIn.quiet_of_same (callsIn_wide.2 (HT.out _))))
  repeat (gi_big_quiet_step (fail))
  refine wpQuietIn_nil ?_
  rintro w' ⟨nq, rfl⟩
  gi_wp2
  refine ⟨by simp, .inl ⟨_, _, rfl, run_takeDeferred (show (W.drewN nq).heap[D]? = _ from HK.out), ?_⟩⟩
  have hof := ownsRow_putObj (pw_own_drewN HRW.out nq) (.deferred none) (show (W.drewN nq).heap[D]? = _ from HK.out) rfl
  rw [HDN.out] at hof
  refine ⟨_, results_tmp2 rfl _ _ _, _, rfl, trimV_R (Kd.R_of_own (enc := Value.int .u32) ?_ (fun _ _ => trivial)) HOK.out HLT.out.1 HLT.out.2, (pw_below_drewN HB.out nq).trans (belowK_b (w := w) (Nat.le_refl _) _ D _ _ (by have := HB0.out.size; omega) (show (W.drewN nq).heap[D]? = _ from HK.out) rfl rfl)⟩
  rw [HLEN.out]
  exact hof
 case stop =>
  rintro D c pre W _ _ h _
  exact h.elim
theorem nat_num_small.calls (A0 : Option Addr) (c0 : Nat) (l0 : List Int) (a1 : Int) (r1 : List Int) (r2 : Int) (w : World) (hr0 : Kd.C (Kd.int .u32) w A0 l0.length l0) (hc0 : l0.length ≤ c0) (h : nat_num_small.f l0 a1 = some (r1, r2)) :
 Calls Tryz.prog 229 #[.slice A0 l0.length c0, .int .u32 a1] w fun e w' => ∃ v0_ : Value, e = .returned (.tuple #[v0_, .int .u32 r2]) ∧ Kd.R (Kd.int .u32) 131 w' w.heap.size (fun _ => True) v0_ r1 ∧ Below w.heap.size w w' := by
 unfold nat_num_small.f at h
 by_cases hc : okL l0 ∧ l0.length ≤ 1073741824 ∧ 0 < a1 ∧ a1 < 4294967296
 case neg => rw [if_neg hc] at h; cases h
 rw [if_pos hc] at h
 simp only [Option.some.injEq, Prod.mk.injEq] at h
 obtain ⟨rfl, rfl⟩ := h
 obtain ⟨h1, h2, h3, h4⟩ := hc
 have hv := sm_val h1 h3 h4
 have := callsIn_wide.1 (small_in 6 (Nat.le_refl _) A0 c0 l0 a1 w hr0 hc0 h1 h2 h3 h4)
 rw [hv.1, hv.2] at this
 exact this
end Go.Proofs.YthigbklhngihkaaGreatDoor.P

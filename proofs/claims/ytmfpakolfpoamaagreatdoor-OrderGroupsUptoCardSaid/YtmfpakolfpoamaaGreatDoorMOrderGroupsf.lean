/- Texts of this claim, one behind the other. -/
import Derived.Test.YtmfpakolfpoamaaGreatDoorMOrderGroupse
import Derived.RangeFuncNested
import Derived.Maps.OwnIn
import Derived.Lib.Hide
import Derived.Shelf.Unicode.DecodeSlow
import Derived.Shelf.Unicode.DecodeAny
import Derived.Test.YtmfpakolfpoamaaGreatDoorProg
import Derived.Lib.DecodeN
import Derived.RangeFuncBox
import Derived.RangeFuncLeaves
import Derived.RangeFuncFrom
import Derived.Shelf.Abstract
import Derived.WalkKit
import Derived.OwnWalkIn
import Derived.TacticsInMore
import Derived.LoopNIn
import Derived.LoopIn
import Derived.Maps.AppendAt
import Derived.Test.YtmfpakolfpoamaaGreatDoorMOrderGroupsa
namespace Go.Proofs.YtmfpakolfpoamaaGreatDoor.P
set_option linter.unusedVariables false
set_option linter.unusedSimpArgs false
open Go.RowKit Go.Proofs.YtmfpakolfpoamaaGreatDoorW.PrintWords Go.Proofs.YtmfpakolfpoamaaGreatDoorW.PrintMore Go.Proofs.YtmfpakolfpoamaaGreatDoorW.PrintLast
section
variable {F : Fence} {n m : Nat} {P : Program}
def rndPost (l : Nat) (r : Loop) (R : World → Prop) : Exit → Act → World → Prop
 | .normal, _, W => W.heap[l]? = some (.loop { r with state := .busy }) ∧ R (W.putObj l (.loop { r with state := .ready, pending := none }))
 | .ret, _, _ => False
 | .exit _, _, _ => False
 | .goto _, _, _ => False
 | .panic _, _, _ => False
 | .outgrown, _, _ => False
theorem round_go {l : Nat} {r : Loop} {args : Array Value} {W : World} {R : World → Prop} (hfn : F.fn r.fn) (hl : W.heap[l]? = some (.loop r)) (hr : r.state = .ready) (hs : args.size = r.params.size)
 (h : r.assign.wpIn (F.inRound l) m P (Exit.then (fun a1 w1 => w1.heap[l]? = some (.loop r) ∧ r.body.wpIn (F.inRound l) m P (rndPost l r R) a1 (w1.putObj l (.loop { r with state := .busy }))) (fun _ _ _ => False))
  { tmps := (r.params.zip args).foldl (fun t (p, v) => t.setIfInBounds p v) r.tmps, defers := [] } W) :
 YieldAt F m P l args W (fun e W' => e = .returned (.bool true) ∧ R W') := by
 refine ⟨r.fn, _, r.assign, r.body, run_yield hl hs, roundIn_of_wpIn hfn (wpIn_mono h ?_)⟩
 rintro e a1 w1 hp
 cases e with
 | normal =>
  obtain ⟨hl1, hb⟩ := hp
  refine ⟨_, run_beginRound hl1 hr, wpIn_mono hb ?_⟩
  rintro e2 a2 w2 hq
  cases e2 with
  | normal =>
   obtain ⟨hl2, hR⟩ := hq
   exact ⟨_, _, run_endRound none hl2, rfl, hR⟩
  | ret => exact hq.elim
  | exit id => exact hq.elim
  | goto t => exact hq.elim
  | panic ch => exact hq.elim
  | outgrown => exact hq.elim
 | ret => exact hp.elim
 | exit id => exact hp.elim
 | goto t => exact hp.elim
 | panic ch => exact hp.elim
 | outgrown => exact hp.elim
theorem range_go {g : Operand} {ps : Array Tmp} {assign body : Code} {Q : Exit → Act → World → Prop} {a : Act} {w : World} (hro : F.round = none) (h1 : 1 ≤ n) {gf : Nat} {lb : Array Value} (hg : a.eval g = .func (.func gf) #[] lb) (hFg : F.fn gf) (eg : ∀ args w, (callFunc gf args).run P w = .ok (.enter gf args) w)
 (R : World → Prop)
 (hcall : ∀ fn, F.fn fn → CallsIn F (n - 1) P gf (#[.func (.yield (w.heap.size + 1)) #[] #[]] ++ lb) ((w.alloc (.deferred (some []))).alloc (.loop { state := .ready, pending := none, fn, tmps := a.tmps, params := ps, assign, body, defers := w.heap.size }))
  fun e W' => (∃ v, e = .returned v) ∧ (∃ r, W'.heap[w.heap.size + 1]? = some (.loop r) ∧ r.state = .ready ∧ r.pending = none) ∧ R W')
 (hdone : ∀ W o, R W → (∃ r, W.heap[w.heap.size + 1]? = some (.loop r)) → Q .normal { a with defers := { target := .collected w.heap.size, args := #[] } :: a.defers } (W.putObj (w.heap.size + 1) (.loop o))) :
 (Code.rangeFunc g ps assign body).wpIn F n P Q a w := by
 refine wpIn_rangeFunc ?_
 intro fn hfn
 rw [hro]
 obtain ⟨W1, hW1⟩ : ∃ W1, (w.alloc (.deferred (some []))).alloc (.loop { state := .ready, pending := none, fn, tmps := a.tmps, params := ps, assign, body, defers := w.heap.size }) = W1 := ⟨_, rfl⟩
 have hc := hcall fn hfn
 rw [hW1] at hc
 refine ⟨w.heap.size + 1, [{ target := .collected w.heap.size, args := #[] }], W1, { target := .fn (.func gf) lb, args := #[.func (.yield (w.heap.size + 1)) #[] #[]] }, W1, gf,
  #[.func (.yield (w.heap.size + 1)) #[] #[]] ++ lb, W1, by rw [← hW1]; exact run_enterLoop_outer _ _ _ _ _, ?_, ?_, ?_, fun _ => h1, ?_⟩
 · simp only [resolve, hg]
   simp [go_sem]
 · intro f' hf'; simp [Target.leads] at hf'; subst hf'; exact hFg
 · simp [invoke, go_sem, eg]
 · refine hc.mono ?_
   rintro e W2 ⟨⟨v, rfl⟩, ⟨r, hl, hs, hp⟩, hR⟩
   have := run_endLoop (P := P) hl (by rw [hs]; simp)
   rw [hp] at this
   exact ⟨none, _, this, hdone _ _ hR ⟨r, hl⟩⟩
end
section
variable {F : Fence} {nF : Nat} {P : Program} {α : Type} {o : Oper} {a : Act} {Q : Exit → Act → World → Prop} {K : Act → World → Prop}
theorem kd_append_run (d : Kd α) {W : World} (base : Nat) (t ty e : TypeId) (z : Value) (bytes : Nat)
 (ht : P.underlying t = some (.slice e)) (hinfo : (P.info? e).map (fun i => (i.zero, i.size, i.bytes)) = some (some z, d.sz, bytes)) (hz : z.cells.size = d.sz) (hs0 : 0 < d.sz) (hb0 : 0 < bytes)
 (v : Value) (xs : List α) (p : α) (cs : List Value) (ok okp : Nat → Prop) (hp : d.M W base okp p cs) (hokp : ∀ k, okp k → ok k ∧ some k ≠ v.ownBlock) (hfresh : ∀ k, W.heap.size ≤ k → ok k)
 (HO : d.R e W base ok v xs) (hbase : base ≤ W.heap.size) (hl : (xs.length + 1) * bytes ≤ 140737488355328) :
 ∃ v1 w1, (Builtin.append_ #[t, t] ty #[v, .slice (some ⟨W.heap.size, 0, none⟩) 1 1]).run P (W.alloc (.cells cs.toArray e)) = .ok v1 w1 ∧ d.R e w1 base ok v1 (xs ++ [p]) ∧ W.grownBy w1 v.ownBlock ∧ (v1.ownBlock = v.ownBlock ∨ ∃ b, v1.ownBlock = some b ∧ W.heap.size ≤ b) := by
 obtain ⟨h0, inner, hown, hr⟩ := HO
 obtain ⟨i0, hi, hzz⟩ := Option.map_eq_some_iff.1 hinfo
 simp only [Prod.mk.injEq] at hzz
 obtain ⟨hz0, hz1, hz2⟩ := hzz
 have hys : cs.length = d.sz := d.K_len (d.K_of_M hp)
 have hlen : xs.length + 1 ≤ 140737488355328 := Nat.le_trans (Nat.le_mul_of_pos_right _ hb0) hl
 obtain ⟨v1, w1, hr1, hown1, hg, _, hat⟩ := run_append_own_at (P := P) (W.alloc (.cells cs.toArray e)) base t ty e i0 z d.sz bytes ht hi hz0 hz1 hz2 hz hs0 v xs.length inner (hown.alloc _) ⟨W.heap.size, 0, none⟩ 1 1 cs (by rw [hys]; simp)
  (by simpa using World.news_of_block (cs := cs.toArray) (t := e) (fr := (0, 0)) (heap_alloc_new W (.cells cs.toArray e))) (d.K_one (d.K_of_M hp)) (by simp only [maxLen]; omega) hl (by simp; omega)
 have hgw : W.grownBy w1 v.ownBlock := World.grownBy.trans (World.grownBy_alloc W _ _) hg
 have hat1 : v1.ownBlock = v.ownBlock ∨ ∃ b, v1.ownBlock = some b ∧ W.heap.size ≤ b := by
  rcases hat with hat | hat
  · exact .inl hat
  · exact .inr ⟨_, hat, by simp⟩
 exact ⟨v1, w1, hr1, Kd.R_appended h0 hr hp hokp hfresh hown1 hgw hat1, hgw, hat1⟩
theorem kd_append_in (d : Kd α) {W : World} (base : Nat) (s x : Operand) (t e : TypeId) (z : Value) (bytes : Nat)
 (ho : o.op = .call { callee := .builtin .append, args := #[s, x], argTypes := #[t, t] })
 (ht : P.underlying t = some (.slice e)) (hinfo : (P.info? e).map (fun i => (i.zero, i.size, i.bytes)) = some (some z, d.sz, bytes)) (hz : z.cells.size = d.sz) (hs0 : 0 < d.sz) (hb0 : 0 < bytes)
 (v : Value) (xs : List α) (p : α) (cs : List Value) (ok okp : Nat → Prop) (hs : a.eval s = v) (hx : a.eval x = .slice (some ⟨W.heap.size, 0, none⟩) 1 1) (hp : d.M W base okp p cs) (hokp : ∀ k, okp k → ok k ∧ some k ≠ v.ownBlock) (hfresh : ∀ k, W.heap.size ≤ k → ok k)
 (HO : d.R e W base ok v xs) (hbase : base ≤ W.heap.size) (hl : (xs.length + 1) * bytes ≤ 140737488355328)
 (h : ∀ v1 w1, d.R e w1 base ok v1 (xs ++ [p]) → W.grownBy w1 v.ownBlock → (v1.ownBlock = v.ownBlock ∨ ∃ b, v1.ownBlock = some b ∧ W.heap.size ≤ b) → K (a.put o.dst v1) w1) :
 Oper.wpIn F nF P o a (W.alloc (.cells cs.toArray e)) K Q := by
 obtain ⟨v1, w1, hr, h2, h3, h4⟩ := kd_append_run (P := P) d base t o.type e z bytes ht hinfo hz hs0 hb0 v xs p cs ok okp hp hokp hfresh HO hbase hl
 unfold Oper.wpIn
 refine ⟨by simp [Oper.about, ho, resolve, Target.leads, Sem.run_pure], ?_⟩
 rw [Oper.semAt_plain F _ _ (by rw [ho]; intro c hc'; cases hc')]
 simp [execOp, ho, resolve, invoke, builtin, hs, hx, hr, Result.andThen]
 exact h v1 w1 h2 h3 h4
theorem kd_append_list {ops : Array Oper} {rest : List Oper} (d : Kd α) {W : World} (base : Nat) (hgd : o.guard = none) (s x : Operand) (t e : TypeId) (z : Value) (bytes : Nat)
 (ho : o.op = .call { callee := .builtin .append, args := #[s, x], argTypes := #[t, t] })
 (ht : P.underlying t = some (.slice e)) (hinfo : (P.info? e).map (fun i => (i.zero, i.size, i.bytes)) = some (some z, d.sz, bytes)) (hz : z.cells.size = d.sz) (hs0 : 0 < d.sz) (hb0 : 0 < bytes)
 (v : Value) (xs : List α) (p : α) (cs : List Value) (ok okp : Nat → Prop) (hs : a.eval s = v) (hx : a.eval x = .slice (some ⟨W.heap.size, 0, none⟩) 1 1) (hp : d.M W base okp p cs) (hokp : ∀ k, okp k → ok k ∧ some k ≠ v.ownBlock) (hfresh : ∀ k, W.heap.size ≤ k → ok k)
 (HO : d.R e W base ok v xs) (hbase : base ≤ W.heap.size) (hl : (xs.length + 1) * bytes ≤ 140737488355328)
 (h : ∀ v1 w1, d.R e w1 base ok v1 (xs ++ [p]) → W.grownBy w1 v.ownBlock → (v1.ownBlock = v.ownBlock ∨ ∃ b, v1.ownBlock = some b ∧ W.heap.size ≤ b) → wpListIn F nF P ops Q rest (a.put o.dst v1) w1) :
 wpListIn F nF P ops Q (o :: rest) a (W.alloc (.cells cs.toArray e)) := by
 refine wpListIn_plain hgd fun K hK => ?_
 exact kd_append_in d base s x t e z bytes ho ht hinfo hz hs0 hb0 v xs p cs ok okp hs hx hp hokp hfresh HO hbase hl (fun v1 w1 h1 h2 h3 => hK _ _ (h v1 w1 h1 h2 h3))
end
end Go.Proofs.YtmfpakolfpoamaaGreatDoor.P
namespace Go.Proofs.YtmfpakolfpoamaaGreatDoor.P
set_option linter.unusedVariables false
set_option linter.unusedSimpArgs false
open Go.RowKit Go.Proofs.YtmfpakolfpoamaaGreatDoorW.PrintWords Go.Proofs.YtmfpakolfpoamaaGreatDoorW.PrintMore Go.Proofs.YtmfpakolfpoamaaGreatDoorW.PrintLast
def orL : List Int → Int
 | [] => 0
 | x :: l => if x = 0 then orL l else x
theorem orL_skip : ∀ (l : List Int) (k : Nat), (∀ i, i < k → rd l (i : Int) = 0) → orL (l.drop k) = orL l
 | _, 0, _ => rfl
 | [], k + 1, _ => by simp
 | x :: l, k + 1, h => by
  have h0 := h 0 (by omega)
  have : x = 0 := by simpa [rd] using h0
  subst this
  rw [List.drop_succ_cons, orL_skip l k fun i hi => by have := h (i + 1) (by omega); simpa [rd] using this]
  simp [orL]
set_option maxHeartbeats 1000000 in
theorem or_err (A : Option Addr) (c : Nat) (l : List Int) (w : World) (hC : Kd.C (Kd.int .i64) w A l.length l) :
 Calls Tryz.prog 37 #[.slice A l.length c] w fun e w' => e = .returned (.int .i64 (orL l)) ∧ w = w' := by
 have HC := Lib.hid hC
 have hlen := hC.2.1
 clear hC
 go_enter Tryz.func37, Tryz.ntmps37
 go_wp2
 go_loopw [8] (fun vi wr => ∃ k : Nat, k ≤ l.length ∧ vi = .int .i64 k ∧ Hid (∀ i, i < k → rd l (i : Int) = 0) ∧ wr = w) (fun vi _ => l.length - (intOf vi).toNat)
 case atStart => exact ⟨0, Nat.zero_le _, rfl, Lib.hid (fun i hi => by omega), rfl⟩
 case round =>
  obtain ⟨k, hk, rfl, hz, hw⟩ := hrel
  obtain rfl := hw.symm
  clear hw
  by_cases hlt : k < l.length
  · obtain ⟨ad, rfl, hx⟩ := Kd.at_int HC.out (k : Int) (by omega) (by omega)
    rw [Int.toNat_natCast] at hx
    have hw : wrap64 ((k : Int) + 1) = ((k + 1 : Nat) : Int) := by unfold wrap64; omega
    by_cases h0 : rd l (k : Int) = 0
    · have hn : (rd l (k : Int) != 0) = false := by simp [h0]
      have H0 := Lib.hid h0
      clear h0
      go_wp2
      go_roundw
      case rel => exact ⟨k + 1, by omega, by go_num, Lib.hid (fun i hi => by rcases Nat.lt_or_ge i k with h | h; exact hz.out i h; rw [show i = k by omega]; exact H0.out), trivial⟩
      case measure => simp [intOf]; omega
    · have hn : (rd l (k : Int) != 0) = true := by simp [h0]
      have hr : Hid (orL l = rd l (k : Int)) := Lib.hid (by
       rw [← orL_skip l k hz.out, List.drop_eq_getElem_cons hlt, orL]
       have e : l[k] = rd l (k : Int) := by simp [rd, hlt]
       rw [e, if_neg h0])
      clear h0
      go_wp2
      go_ret
      exact ⟨by rw [hr.out]; rfl, rfl⟩
  · obtain rfl : k = l.length := by omega
    have hr : Hid (orL l = 0) := Lib.hid (by rw [← orL_skip l _ hz.out, List.drop_length]; rfl)
    go_wp2
    go_ret
    exact ⟨by rw [hr.out]; rfl, rfl⟩
theorem two_C (w : World) (a b : Int) (t : Nat) : Kd.C (Kd.int .i64) (w.alloc (.cells #[.int .i64 a, .int .i64 b] t)) (some ⟨w.heap.size, 0, none⟩) [a, b].length [a, b] :=
 ⟨rfl, by simp, fun _ => ⟨_, rfl, fun j p hj => ⟨[.int .i64 p], rfl, rfl, fun i u hu => by
  cases i with
  | succ i => simp at hu
  | zero =>
   simp at hu
   subst hu
   rcases j with _ | _ | j
   · simp at hj; subst hj; rw [add_plain]; exact (blk_cell (blk_new w _) _).trans rfl
   · simp at hj; subst hj; rw [add_plain]; exact (blk_cell (blk_new w _) _).trans rfl
   · simp at hj⟩⟩⟩
theorem or_err2 (a b : Int) (w : World) (t : Nat) : Calls Tryz.prog 37 #[.slice (some ⟨w.heap.size, 0, none⟩) 2 2] (w.alloc (.cells #[.int .i64 a, .int .i64 b] t)) fun e w' => e = .returned (.int .i64 (orL [a, b])) ∧ w.alloc (.cells #[.int .i64 a, .int .i64 b] t) = w' :=
 or_err _ 2 [a, b] _ (two_C w a b t)
end Go.Proofs.YtmfpakolfpoamaaGreatDoor.P
namespace Go.Proofs
open Go.Shelf
def Tryz.lays260_ren : Go.Shelf.Ren := ⟨fun | 260 => 164 | n => n, fun | 9 => 9 | 21 => 21 | 3 => 3 | 4 => 4 | 5 => 5 | 119 => 196 | 0 => 0 | 46 => 108 | 139 => 199 | 138 => 198 | n => n, fun | 3 => 0 | 4 => 1 | n => n⟩
theorem Tryz.lays260 : Go.Proofs.Lays.n260 Tryz.prog Tryz.lays260_ren := {
 mixed := by kernel_rfl
 f260 := Tryz.func164.trans (congrArg some (by kernel_rfl))
 t0 := Tryz.underlying0
 a0 := Tryz.isAgg0
 z0 := Tryz.sizeOf0
 v0 := Tryz.zeroValue0
 t3 := Tryz.underlying3
 a3 := Tryz.isAgg3
 z3 := Tryz.sizeOf3
 v3 := Tryz.zeroValue3
 t4 := Tryz.underlying4
 a4 := Tryz.isAgg4
 z4 := Tryz.sizeOf4
 v4 := Tryz.zeroValue4
 t5 := Tryz.underlying5
 a5 := Tryz.isAgg5
 z5 := Tryz.sizeOf5
 v5 := Tryz.zeroValue5
 t9 := Tryz.underlying9
 a9 := Tryz.isAgg9
 z9 := Tryz.sizeOf9
 v9 := Tryz.zeroValue9
 t21 := Tryz.underlying21
 a21 := Tryz.isAgg21
 z21 := Tryz.sizeOf21
 v21 := Tryz.zeroValue21
 t46 := Tryz.underlying108
 a46 := Tryz.isAgg108
 z46 := Tryz.sizeOf108
 v46 := Tryz.zeroValue108
 t119 := Tryz.underlying196
 a119 := Tryz.isAgg196
 z119 := Tryz.sizeOf196
 t138 := Tryz.underlying198
 a138 := Tryz.isAgg198
 z138 := Tryz.sizeOf198
 v138 := Tryz.zeroValue198
 t139 := Tryz.underlying199
 a139 := Tryz.isAgg199
 z139 := Tryz.sizeOf199
 v139 := Tryz.zeroValue199
 g3 := by kernel_rfl
 g4 := by kernel_rfl }
def Tryz.lays197_ren : Go.Shelf.Ren := ⟨fun | 197 => 156 | 260 => 164 | n => n, fun | 9 => 9 | 21 => 21 | 3 => 3 | 4 => 4 | 5 => 5 | 105 => 181 | 119 => 196 | 0 => 0 | 46 => 108 | 139 => 199 | 138 => 198 | n => n, fun | 3 => 0 | 4 => 1 | n => n⟩
theorem Tryz.lays197 : Go.Proofs.Lays.n197 Tryz.prog Tryz.lays197_ren := {
 mixed := by kernel_rfl
 f197 := Tryz.func156.trans (congrArg some (by kernel_rfl))
 f260 := Tryz.func164.trans (congrArg some (by kernel_rfl))
 t0 := Tryz.underlying0
 a0 := Tryz.isAgg0
 z0 := Tryz.sizeOf0
 v0 := Tryz.zeroValue0
 t3 := Tryz.underlying3
 a3 := Tryz.isAgg3
 z3 := Tryz.sizeOf3
 v3 := Tryz.zeroValue3
 t4 := Tryz.underlying4
 a4 := Tryz.isAgg4
 z4 := Tryz.sizeOf4
 v4 := Tryz.zeroValue4
 t5 := Tryz.underlying5
 a5 := Tryz.isAgg5
 z5 := Tryz.sizeOf5
 v5 := Tryz.zeroValue5
 t9 := Tryz.underlying9
 a9 := Tryz.isAgg9
 z9 := Tryz.sizeOf9
 v9 := Tryz.zeroValue9
 t21 := Tryz.underlying21
 a21 := Tryz.isAgg21
 z21 := Tryz.sizeOf21
 v21 := Tryz.zeroValue21
 t46 := Tryz.underlying108
 a46 := Tryz.isAgg108
 z46 := Tryz.sizeOf108
 v46 := Tryz.zeroValue108
 t105 := Tryz.underlying181
 a105 := Tryz.isAgg181
 z105 := Tryz.sizeOf181
 v105 := Tryz.zeroValue181
 t119 := Tryz.underlying196
 a119 := Tryz.isAgg196
 z119 := Tryz.sizeOf196
 t138 := Tryz.underlying198
 a138 := Tryz.isAgg198
 z138 := Tryz.sizeOf198
 v138 := Tryz.zeroValue198
 t139 := Tryz.underlying199
 a139 := Tryz.isAgg199
 z139 := Tryz.sizeOf199
 v139 := Tryz.zeroValue199
 g3 := by kernel_rfl
 g4 := by kernel_rfl }
open Go.RowKit Go.Lib in
theorem Tryz.utf8_DecodeRuneInString (s : ByteArray) (w : World) (hT : Lib.Utf8Tabs 0 1 w) :
 Calls Tryz.prog 156 #[.string s] w fun e w' => e = .returned (.tuple #[.int .i32 (Lib.decodeGo s).1, .int .i64 (Lib.decodeGo s).2]) ∧ Below w.heap.size w w' := Any.utf8_DecodeRuneInString Tryz.lays197 s w hT
end Go.Proofs
namespace Go.Proofs.YtmfpakolfpoamaaGreatDoor.P
set_option linter.unusedVariables false
set_option linter.unusedSimpArgs false
def uc (s : ByteArray) (p : Nat) : Int := if (Utf8.decode s p).1 = 65533 ∧ (Utf8.decode s p).2 = 1 then -1 else ((Utf8.decode s p).1 : Int)
def un (s : ByteArray) (p : Nat) : Nat := (Utf8.decode s p).2
theorem decodeN_pos (n b0 b1 b2 b3 : Nat) : 1 ≤ (Lib.decodeN n b0 b1 b2 b3).2 := by
 unfold Lib.decodeN
 repeat' split
 all_goals simp
theorem un_pos (s : ByteArray) (p : Nat) : 1 ≤ un s p := by
 unfold un
 rw [Lib.decode_at]
 exact decodeN_pos _ _ _ _ _
def uitems (s : ByteArray) : Nat → Nat → List (Nat × Int)
 | 0, _ => []
 | f + 1, p => if p < s.size then (p, uc s p) :: uitems s f (p + un s p) else []
theorem decodeN_le (n b0 b1 b2 b3 : Nat) (hn : 1 ≤ n) (h0 : b0 < 256) : ((Lib.decodeN n b0 b1 b2 b3).1 ≤ 1114111 ∧ ((Lib.decodeN n b0 b1 b2 b3).1 < 55296 ∨ 57343 < (Lib.decodeN n b0 b1 b2 b3).1)) ∧ (Lib.decodeN n b0 b1 b2 b3).2 ≤ n := by
 unfold Lib.decodeN
 repeat' split
 all_goals (simp; omega)
theorem get_lt (s : ByteArray) (i : Nat) : (s.get! i).toNat < 256 := UInt8.toNat_lt _
theorem uc_bd (s : ByteArray) (p : Nat) (h : p < s.size) : -1 ≤ uc s p ∧ (uc s p ≤ 1114111 ∧ (uc s p < 55296 ∨ 57343 < uc s p)) := by
 unfold uc
 have := decodeN_le (s.size - p) (s.get! p).toNat (s.get! (p + 1)).toNat (s.get! (p + 2)).toNat (s.get! (p + 3)).toNat (by omega) (get_lt _ _)
 rw [← Lib.decode_at] at this
 split <;> omega
theorem un_le (s : ByteArray) (p : Nat) (h : p < s.size) : p + un s p ≤ s.size := by
 have := decodeN_le (s.size - p) (s.get! p).toNat (s.get! (p + 1)).toNat (s.get! (p + 2)).toNat (s.get! (p + 3)).toNat (by omega) (get_lt _ _)
 rw [← Lib.decode_at] at this
 unfold un
 omega
theorem get_extract (s : ByteArray) (p i : Nat) : (s.extract p s.size).get! i = s.get! (p + i) := by
 simp only [ByteArray.get!, ByteArray.data_extract]
 simp only [getElem!_def]
 by_cases h : p + i < s.data.size
 · rw [Array.getElem?_extract_of_lt (by simp only [ByteArray.size_data] at *; omega), Array.getElem?_eq_getElem h]
 · have h1 : ¬ i < (s.data.extract p s.size).size := by simp only [Array.size_extract, ByteArray.size_data] at *; omega
   rw [Array.getElem?_eq_none (by omega), Array.getElem?_eq_none (by omega)]
theorem decodeGo_extract (s : ByteArray) (p : Nat) (h : p < s.size) : Lib.decodeGo (s.extract p s.size) = Utf8.decode s p := by
 have hz : (s.extract p s.size).size = s.size - p := by simp
 unfold Lib.decodeGo
 rw [if_neg (by omega), Lib.decode_at, Lib.decode_at, hz]
 simp only [get_extract, Nat.sub_zero, Nat.add_zero, Nat.zero_add]
abbrev UItem := { x : Nat × Int // x.1 ≤ 1152921504606846976 ∧ -1 ≤ x.2 ∧ (x.2 ≤ 1114111 ∧ (x.2 < 55296 ∨ 57343 < x.2)) }
def usub (s : ByteArray) (hs : s.size ≤ 1152921504606846976) : Nat → Nat → List UItem
 | 0, _ => []
 | f + 1, p => if h : p < s.size then ⟨(p, uc s p), by omega, (uc_bd s p h).1, (uc_bd s p h).2⟩ :: usub s hs f (p + un s p) else []
theorem usub_val (s : ByteArray) (hs : s.size ≤ 1152921504606846976) : ∀ f p, (usub s hs f p).map (·.1) = uitems s f p
 | 0, _ => rfl
 | f + 1, p => by
  unfold usub uitems
  by_cases h : p < s.size
  · rw [dif_pos h, if_pos h]; simp [usub_val s hs f]
  · rw [dif_neg h, if_neg h]; rfl
end Go.Proofs.YtmfpakolfpoamaaGreatDoor.P
namespace Go.Proofs.YtmfpakolfpoamaaGreatDoor.P
set_option linter.unusedVariables false
set_option linter.unusedSimpArgs false
open Go.RowKit Go.Shelf
attribute [local go_sem] Oper.semAt_some
theorem laid_at {n₀ : Nat} {w W : World} (h : LaidW w) (hn : w.heap.size ≤ n₀) (hb : Below n₀ w W) : LaidW W := h.below (hb.mono hn)
theorem grown_of {w w1 : World} (h : Below w.heap.size w w1) : w.grownBy w1 none := ⟨h.os, h.tape, h.output, h.size, fun i hi _ => h.block i hi⟩
theorem dec_at (s : ByteArray) (p : Nat) (hp : p < s.size) (w : World) (hL : LaidW w) :
 Calls Tryz.prog 156 #[.string (s.extract p s.size)] w fun e w' => e = .returned (.tuple #[.int .i32 ((Utf8.decode s p).1 : Int), .int .i64 (un s p : Int)]) ∧ Below w.heap.size w w' := by
 have h := Tryz.utf8_DecodeRuneInString (s.extract p s.size) w hL
 rw [decodeGo_extract s p hp] at h
 exact h
theorem usub_step (s : ByteArray) (hs : s.size ≤ 1152921504606846976) (f p : Nat) (hp : p < s.size) (hf : s.size - p ≤ f) : ∃ g, s.size - (p + un s p) ≤ g ∧ usub s hs f p = ⟨(p, uc s p), by omega, (uc_bd s p hp).1, (uc_bd s p hp).2⟩ :: usub s hs g (p + un s p) := by
 obtain ⟨g, rfl⟩ : ∃ g, f = g + 1 := ⟨f - 1, by omega⟩
 have := un_pos s p
 refine ⟨g, by omega, ?_⟩
 rw [usub, dif_pos hp]
theorem usub_end (s : ByteArray) (hs : s.size ≤ 1152921504606846976) (f p : Nat) (hp : ¬ p < s.size) : usub s hs f p = [] := by
 cases f with
 | zero => rfl
 | succ f => rw [usub, dif_neg hp]
def KpS (n₀ Bn : Nat) (W W' : World) : Prop := Below n₀ W W' ∧ W'.cell? ⟨Bn, 0, none⟩ = W.cell? ⟨Bn, 0, none⟩
theorem kpS_t {n₀ Bn : Nat} {A B C : World} (h : KpS n₀ Bn A B) (k : KpS n₀ Bn B C) : KpS n₀ Bn A C := ⟨h.1.trans k.1, k.2.trans h.2⟩
theorem kpS_b {n₀ Bn : Nat} {w : World} (hn : n₀ ≤ w.heap.size) (hB : Bn < w.heap.size) (W : World) (l : Nat) (o o' : Obj) (hl : w.heap.size ≤ l) (h : W.heap[l]? = some o) (h1 : o.isCells = false) (h2 : o.isWalk = false) : KpS n₀ Bn W (W.putObj l o') :=
 ⟨belowK_b hn W l o o' hl h h1 h2, World.cell?_of_block (w := W) (World.putObj_heap_other (by simp; omega))⟩
theorem kpS_refl (n₀ Bn : Nat) (W : World) : KpS n₀ Bn W W := ⟨Below.refl _ _, rfl⟩
set_option maxRecDepth 100000 in
set_option maxHeartbeats 4000000 in
theorem runes1_in (n : Nat) (hn : 2 ≤ n) (l Bn n₀ : Nat) (s : ByteArray) (hs : s.size ≤ 1152921504606846976) (J Jx : List UItem → World → Prop) (hJA : ∀ x A B, J x A → A.grownBy B none → J x B)
 (hY : ∀ pre x W, J pre W → pre.length < (usub s hs s.size 0).length → YieldAt Fence.wide (n - 1) Tryz.prog l #[.int .i64 x.1.1, .int .i32 x.1.2] W fun e W' =>
  (e = .returned (.bool true) ∧ J (pre ++ [x]) W' ∧ KpS n₀ Bn W W') ∨ (e = .returned (.bool false) ∧ Jx (pre ++ [x]) W'))
 (W : World) (hc : W.cell? ⟨Bn, 0, none⟩ = some (.string s)) (w0 : World) (hL : LaidW w0) (hLn : w0.heap.size ≤ n₀) (hLb : Below n₀ w0 W) (hWn : n₀ ≤ W.heap.size) (h0 : J [] W) :
 CallsIn Fence.wide n Tryz.prog 155 #[.func (.yield l) #[] #[], .pointer (some ⟨Bn, 0, none⟩)] W fun e W' => (∃ v, e = .returned v) ∧
  ((∃ ys, ys = usub s hs s.size 0 ∧ J ys W') ∨ (∃ pre, pre <+: usub s hs s.size 0 ∧ Jx pre W')) := by
 have hn1 : 1 ≤ n := by omega
 have hn2 : 1 ≤ n - 1 := by omega
 have HS := Lib.hid hs
 have HLB := Lib.hid hLb
 have HWN := Lib.hid hWn
 have H0 := Lib.hid hc
 clear hLb hc
 refine callsIn_of_wp Tryz.func155 rfl trivial ?_ rfl
 simp only [Tryz.ntmps155, List.size_toArray, List.length_cons, List.length_nil, Nat.reduceAdd, Nat.reduceSub, Array.replicate_succ, Array.replicate_zero, List.push_toArray, List.append_toArray, List.nil_append, List.cons_append]
 gi_wp2
 gi_loopw [3] (fun i wr => ∃ (pre : List UItem) (f p : Nat), p ≤ s.size ∧ i = .int .i64 p ∧ s.size - p ≤ f ∧ Hid (usub s hs s.size 0 = pre ++ usub s hs f p) ∧ Below n₀ W wr ∧ wr.cell? ⟨Bn, 0, none⟩ = some (.string s) ∧ J pre wr) (fun i _ => s.size - (intOf i).toNat)
 case atStart => exact ⟨[], s.size, 0, Nat.zero_le _, rfl, by omega, Lib.hid (by simp), Below.refl _ _, H0.out, h0⟩
 case round =>
  obtain ⟨pre, f, p, hp, rfl, hf, hU, hB, hcell, hJs⟩ := hrel
  have HB := Lib.hid hB
  have HJ := Lib.hid hJs
  have hbn : Bn < wr.heap.size := World.block_lt_of_cell? _ _ hcell
  have hld : LaidW wr := laid_at hL hLn (HLB.out.trans hB)
  have HLD := Lib.hid hld
  clear hB hJs hld
  by_cases hlt : p < s.size
  · obtain ⟨g, hg, hu⟩ := usub_step s hs f p hlt hf
    have HU2 := Lib.hid hu
    clear hu
    have hup := un_pos s p
    have hul := un_le s p hlt
    obtain ⟨K, hK⟩ : ∃ K, K = un s p := ⟨_, rfl⟩
    obtain ⟨R, hR⟩ : ∃ R, R = (Utf8.decode s p).1 := ⟨_, rfl⟩
    have HK := Lib.hid hK
    have HR := Lib.hid hR
    rw [← hK] at hup hul
    clear hK hR
    have hx : uc s p = if R = 65533 ∧ K = 1 then -1 else (R : Int) := by rw [HR.out, HK.out]; rfl
    have HX := Lib.hid hx
    clear hx
    gi_wp2_with fail
    refine ⟨trivial, ?_⟩
    refine (callsIn_wide.2 (dec_at s p hlt _ HLD.out)).mono ?_
    rintro e w2 ⟨rfl, hb2⟩
    rw [← HK.out, ← HR.out]
    have hwr : n₀ ≤ wr.heap.size := Nat.le_trans HWN.out HB.out.size
    have hJ2 : J pre w2 := hJA pre wr w2 HJ.out (grown_of hb2)
    have hB2 : Below n₀ W w2 := HB.out.trans (hb2.mono hwr)
    have hcell2 : w2.cell? ⟨Bn, 0, none⟩ = some (.string s) := (hb2.cell (p := ⟨Bn, 0, none⟩) hbn).trans hcell
    obtain ⟨fn, tmps, assign, body, hy, hRd⟩ := hY pre ⟨(p, uc s p), by omega, (uc_bd s p hlt).1, (uc_bd s p hlt).2⟩ w2 hJ2 (by rw [hU.out, HU2.out]; simp)
    dsimp only at hy
    rw [HX.out] at hy
    have HB2 := Lib.hid hB2
    have HRD := Lib.hid hRd
    clear hB2 hJ2 hb2 hcell hRd
    have c1 : (((R : Int) == 65533) = true ∧ ((K : Int) == 1) = true ∧ (R = 65533 ∧ K = 1)) ∨ (((R : Int) == 65533) = true ∧ ((K : Int) == 1) = false ∧ ¬ (R = 65533 ∧ K = 1)) ∨ (((R : Int) == 65533) = false ∧ ¬ (R = 65533 ∧ K = 1)) := by
     by_cases h1 : R = 65533
     · by_cases h2 : K = 1
       · exact .inl ⟨by simp; omega, by simp; omega, h1, h2⟩
       · exact .inr (.inl ⟨by simp; omega, by simp; omega, fun h => h2 h.2⟩)
     · exact .inr (.inr ⟨by simp; omega, fun h => h1 h.1⟩)
    have Hrel : Hid (∀ W3, J (pre ++ [⟨(p, uc s p), by omega, (uc_bd s p hlt).1, (uc_bd s p hlt).2⟩]) W3 → KpS n₀ Bn w2 W3 → ∃ (pre : List UItem) (f q : Nat), q ≤ s.size ∧ Value.int .i64 ((p : Int) + (K : Int)) = .int .i64 q ∧ s.size - q ≤ f ∧ Hid (usub s hs s.size 0 = pre ++ usub s hs f q) ∧ Below n₀ W W3 ∧ W3.cell? ⟨Bn, 0, none⟩ = some (.string s) ∧ J pre W3) := by
     refine Lib.hid (fun W3 h3 hb3 => ⟨_, g, p + K, hul, by rw [Int.natCast_add], by rw [HK.out]; exact hg, ?_, HB2.out.trans hb3.1, hb3.2.trans hcell2, h3⟩)
     exact Lib.hid (by rw [hU.out, HU2.out, show usub s hs g (p + un s p) = usub s hs g (p + K) from congrArg (fun z => usub s hs g (p + z)) HK.out.symm]; simp)
    rcases c1 with ⟨c1, c2, c3⟩ | ⟨c1, c2, c3⟩ | ⟨c1, c3⟩
    all_goals
     first | rw [if_pos c3] at hy | rw [if_neg c3] at hy
     clear c3
     gi_wp2
     refine HRD.out.mono ?_
     rintro e W3 (⟨rfl, hJ3, hk3⟩ | ⟨rfl, hJx3⟩)
     · have HJ3 := Lib.hid hJ3
       have HK3 := Lib.hid hk3
       clear hJ3 hk3
       gi_wp2
       go_roundw
       case rel => exact Hrel.out _ HJ3.out HK3.out
       case measure => simp [intOf]; omega
     · gi_wp2
       refine bodyPost_ret (results_none rfl _ _ _) rfl ?_
       exact ⟨⟨_, rfl⟩, .inr ⟨_, ⟨usub s hs g (p + un s p), by rw [hU.out, HU2.out]; simp⟩, hJx3⟩⟩
  · have e := usub_end s hs f p hlt
    have HE := Lib.hid e
    clear e
    gi_wp2
    go_end0
    exact ⟨⟨_, rfl⟩, .inl ⟨pre, by rw [hU.out, HE.out]; simp, HJ.out⟩⟩
end Go.Proofs.YtmfpakolfpoamaaGreatDoor.P
namespace Go.Proofs.YtmfpakolfpoamaaGreatDoor.P
set_option linter.unusedVariables false
set_option linter.unusedSimpArgs false
open Go.RowKit Go.Shelf
attribute [local go_sem] Oper.semAt_some
theorem runes_in (n : Nat) (s : ByteArray) (w : World) :
 CallsIn Fence.wide n Tryz.prog 142 #[.string s] w fun e w' => e = .returned (.func (.func 155) #[] #[.pointer (some ⟨w.heap.size, 0, none⟩)]) ∧ w' = w.alloc (.cells #[.string s] 9) := by
 refine callsIn_of_wp Tryz.func142 rfl trivial ?_ rfl
 simp only [Tryz.ntmps142, List.size_toArray, List.length_cons, List.length_nil, Nat.reduceAdd, Nat.reduceSub, Array.replicate_succ, Array.replicate_zero, List.push_toArray, List.append_toArray, List.nil_append, List.cons_append]
 gi_wp2
 go_ret
 exact ⟨rfl, rfl⟩
theorem runes_stops (n : Nat) (hn : 2 ≤ n) (Bn n₀ : Nat) (s : ByteArray) (hs : s.size ≤ 1152921504606846976) (w w0 : World) (hn₀ : n₀ ≤ w.heap.size) (hL : LaidW w0) (hLn : w0.heap.size ≤ n₀) (hLb : Below n₀ w0 w)
 (hc : w.cell? ⟨Bn, 0, none⟩ = some (.string s)) :
 SeqStopsK Fence.wide n Tryz.prog 155 #[.pointer (some ⟨Bn, 0, none⟩)] (fun x : UItem => #[Value.int .i64 x.1.1, .int .i32 x.1.2]) (KpS n₀ Bn) (fun ys => ys = usub s hs s.size 0) (fun pre => pre <+: usub s hs s.size 0) (usub s hs s.size 0).length w := fun l J Jx W hW hJ _ hY h0 =>
 runes1_in n hn l Bn n₀ s hs J Jx (fun a b c e f => hJ a b c none e f (fun r er => by cases er)) hY W ((hW.cell (p := ⟨Bn, 0, none⟩) (World.block_lt_of_cell? _ _ hc)).trans hc) w0 hL hLn (hLb.trans (hW.mono hn₀)) (Nat.le_trans hn₀ hW.size) h0
def checkL : List (Nat × Int) → Option Nat
 | [] => none
 | (p, c) :: l => if c < 0 then some p else checkL l
def utf_Check.f (s : ByteArray) : Option (Int × Int) :=
 if s.size ≤ 1152921504606846976 then
  match checkL (uitems s s.size 0) with
  | none => some ((s.size : Int), 0)
  | some p => some ((p : Int), 61)
 else none
def allGood (l : List UItem) : Prop := ∀ x ∈ l, 0 ≤ x.1.2
theorem checkL_good : ∀ (l : List UItem), allGood l → checkL (l.map (·.1)) = none
 | [], _ => rfl
 | ⟨(p, c), _⟩ :: l, h => by
  have h1 := h _ (List.mem_cons_self)
  simp only [List.map_cons, checkL]
  rw [if_neg (by simpa using h1)]
  exact checkL_good l (fun x hx => h x (List.mem_cons_of_mem _ hx))
theorem checkL_bad : ∀ (l r : List UItem) (x : UItem), allGood l → x.1.2 < 0 → checkL ((l ++ x :: r).map (·.1)) = some x.1.1
 | [], r, ⟨(p, c), _⟩, _, h => by simp only [List.nil_append, List.map_cons, checkL]; rw [if_pos (by simpa using h)]
 | ⟨(p, c), _⟩ :: l, r, x, h, hx => by
  have h1 := h _ (List.mem_cons_self)
  simp only [List.cons_append, List.map_cons, checkL]
  rw [if_neg (by simpa using h1)]
  exact checkL_bad l r x (fun x hx => h x (List.mem_cons_of_mem _ hx)) hx
set_option maxRecDepth 100000 in
set_option maxHeartbeats 4000000 in
theorem check_in (n : Nat) (hn : 4 ≤ n) (s : ByteArray) (hs : s.size ≤ 1152921504606846976) (w : World) (hLD : LaidW w) :
 CallsIn Fence.wide n Tryz.prog 127 #[.string s] w fun e W' => ∃ p c : Int, e = .returned (.tuple #[.int .i64 p, .int .i64 c]) ∧ utf_Check.f s = some (p, c) ∧ Below w.heap.size w W' := by
 have h1 : 1 ≤ n := by omega
 have HS := Lib.hid hs
 refine callsIn_of_wp_marks Tryz.func127 rfl trivial ?_ rfl
 simp only [Tryz.ntmps127, List.size_toArray, List.length_cons, List.length_nil, Nat.reduceAdd, Nat.reduceSub, Array.replicate_succ, Array.replicate_zero, List.push_toArray, List.append_toArray, List.nil_append, List.cons_append]
 gi_wp2_with (refine ⟨trivial, ?_⟩; gi_at_call 142; refine (runes_in (n - 1) _ _).mono ?_; rintro e w' ⟨rfl, rfl⟩)
 have b2 := Boxed.new w 3 (.int .i64 0)
 have b3 := Boxed.new (w.alloc (.cells #[.int .i64 0] 3)) 25 (.int .i64 0)
 have bS := Boxed.new ((w.alloc (.cells #[.int .i64 0] 3)).alloc (.cells #[.int .i64 0] 25)) 9 (.string s)
 have hB0 : Below w.heap.size w (((w.alloc (.cells #[.int .i64 0] 3)).alloc (.cells #[.int .i64 0] 25)).alloc (.cells #[.string s] 9)) := (((Below.refl _ w).alloc (Nat.le_refl _) _).alloc (by simp) _).alloc (by simp; omega) _
 simp only [World.size_alloc] at b3 bS
 have b2' := (b2.alloc (.cells #[.int .i64 0] 25)).alloc (.cells #[.string s] 9)
 have b3' := b3.alloc (.cells #[.string s] 9)
 obtain ⟨W0, hW0⟩ : ∃ W0, W0 = ((w.alloc (.cells #[.int .i64 0] 3)).alloc (.cells #[.int .i64 0] 25)).alloc (.cells #[.string s] 9) := ⟨_, rfl⟩
 have hz : W0.heap.size = w.heap.size + 3 := by rw [hW0]; simp
 rw [← hW0] at hB0 b2' b3' bS ⊢
 have hLD0 : LaidW W0 := hLD.below hB0
 have hZ := Lib.hid hz
 have HB0 := Lib.hid hB0
 have HLD0 := Lib.hid hLD0
 clear b2 b3 hz hB0 hLD0 hW0
 have c2 := b2'.cell
 have c3 := b3'.cell
 have f2 := b2'.frozen
 have f3 := b3'.frozen
 have C2 := Lib.hid c2
 have C3 := Lib.hid c3
 have F2 := Lib.hid f2
 have F3 := Lib.hid f3
 clear c2 c3 f2 f3 b2' b3'
 refine wpIn_rangeFunc_ownF rfl h1 (gf := 155) (lb := #[.pointer (some ⟨w.heap.size + 1 + 1, 0, none⟩)]) rfl trivial (enters_of Tryz.func155 (by kernel_rfl) rfl)
  (runes_stops (n - 1) (by omega) (w.heap.size + 1 + 1) W0.heap.size s HS.out W0 W0 (Nat.le_refl _) HLD0.out (Nat.le_refl _) (Below.refl _ _) bS.cell) kpS_t (kpS_b (Nat.le_refl _) (by have := hZ.out; omega)) (Below.refl _ _) (fun _ => rfl)
  (fun pre W => allGood pre ∧ Below W0.heap.size W0 W)
  (fun c pre W => (c = .ret ∧ (∃ l x, pre = l ++ [x] ∧ allGood l ∧ x.1.2 < 0 ∧ W.cell? ⟨w.heap.size, 0, none⟩ = some (.int .i64 x.1.1)) ∧ W.cell? ⟨w.heap.size + 1, 0, none⟩ = some (.int .i64 61)) ∧ Below w.heap.size w W)
  (OwnFrom.and (fun _ _ _ _ hs _ _ => hs) (ownFrom_below (Nat.le_refl _) (Nat.le_refl _)))
  (fun c => OwnFrom.and (Own.from (fun s A B row hs hg hr => by
   obtain ⟨h0, ⟨l, x, hl, hg0, hx, hc1⟩, hc2⟩ := hs
   exact ⟨h0, ⟨l, x, hl, hg0, hx, cell_kept hc1 hg hr⟩, cell_kept hc2 hg hr⟩) _) (ownFrom_below (Nat.le_refl _) (by have := hZ.out; omega)))
  ⟨(fun _ h => by cases h), Below.refl _ _⟩
  (fun x => { tmps := #[.string s, undef, .pointer (some ⟨w.heap.size, 0, none⟩), .pointer (some ⟨w.heap.size + 1, 0, none⟩), .int .i64 x.1.1, .int .i32 x.1.2, .string s, .func (.func 155) #[] #[.pointer (some ⟨w.heap.size + 1 + 1, 0, none⟩)], .int .i64 x.1.1, .int .i32 x.1.2, undef, undef, undef, undef, undef], defers := [] }) ?assign ?body ?done ?stop
 case assign =>
  intro l x W K hK
  gi_wp2
  exact hK
 case body =>
  rintro l pre x W ⟨hgood, hB⟩ _
  have hb0 := HB0.out.trans (hB.mono HB0.out.size)
  have hb1 : W0.heap.size ≤ W.heap.size := hB.size
  have hc2 : W.cell? ⟨w.heap.size, 0, none⟩ = some (.int .i64 0) := (hB.cell (p := ⟨w.heap.size, 0, none⟩) (by have := hZ.out; simp; omega)).trans C2.out
  have hc3 : W.cell? ⟨w.heap.size + 1, 0, none⟩ = some (.int .i64 0) := (hB.cell (p := ⟨w.heap.size + 1, 0, none⟩) (by have := hZ.out; simp; omega)).trans C3.out
  have hf2 : W.frozen? ⟨w.heap.size, 0, none⟩ = false := (hB.frozen (p := ⟨w.heap.size, 0, none⟩) (by have := hZ.out; simp; omega)).trans F2.out
  have hf3 : W.frozen? ⟨w.heap.size + 1, 0, none⟩ = false := (hB.frozen (p := ⟨w.heap.size + 1, 0, none⟩) (by have := hZ.out; simp; omega)).trans F3.out
  have HGOOD := Lib.hid hgood
  have HB := Lib.hid hB
  have HBB := Lib.hid hb0
  clear hgood hB hb0
  by_cases hx : x.1.2 < 0
  · gi_wp2
    refine ⟨(KeepsOthers.setCell W _ _).trans (KeepsOthers.setCell _ _ _), ⟨rfl, ⟨pre, x, rfl, HGOOD.out, hx, by go_simp⟩, by go_simp⟩, (HBB.out.setCell (p := ⟨w.heap.size, 0, none⟩) (by simp) _).setCell (p := ⟨w.heap.size + 1, 0, none⟩) (by simp) _⟩
  · gi_wp2
    refine ⟨KeepsOthers.refl _, kpS_refl _ _ _, fun y hy => ?_, HB.out⟩
    rcases List.mem_append.1 hy with h | h
    · exact HGOOD.out y h
    · simp at h; subst h; assumption
 case done =>
  rintro D ys W hD rfl ⟨hgood, hB⟩ hK
  have hb0 := HB0.out.trans (hB.mono HB0.out.size)
  have hb1 : W0.heap.size ≤ W.heap.size := hB.size
  have hc2 : W.cell? ⟨w.heap.size, 0, none⟩ = some (.int .i64 0) := (hB.cell (p := ⟨w.heap.size, 0, none⟩) (by have := hZ.out; simp; omega)).trans C2.out
  have hc3 : W.cell? ⟨w.heap.size + 1, 0, none⟩ = some (.int .i64 0) := (hB.cell (p := ⟨w.heap.size + 1, 0, none⟩) (by have := hZ.out; simp; omega)).trans C3.out
  have hf2 : W.frozen? ⟨w.heap.size, 0, none⟩ = false := (hB.frozen (p := ⟨w.heap.size, 0, none⟩) (by have := hZ.out; simp; omega)).trans F2.out
  have hf3 : W.frozen? ⟨w.heap.size + 1, 0, none⟩ = false := (hB.frozen (p := ⟨w.heap.size + 1, 0, none⟩) (by have := hZ.out; simp; omega)).trans F3.out
  have HGOOD := Lib.hid hgood
  have HB := Lib.hid hB
  have HBB := Lib.hid hb0
  have HK := Lib.hid hK
  clear hgood hB hb0 hK
  gi_wp2
  have hK' := (KeepsOthers.setCell (W.setCell ⟨w.heap.size, 0, none⟩ (.int .i64 s.size)) ⟨w.heap.size + 1, 0, none⟩ (.int .i64 0)).same D _ ((KeepsOthers.setCell W ⟨w.heap.size, 0, none⟩ (.int .i64 s.size)).same D _ HK.out rfl) rfl
  refine ⟨by simp, .inl ⟨_, _, rfl, run_takeDeferred hK', ?_⟩⟩
  have e2 : ((W.setCell ⟨w.heap.size, 0, none⟩ (.int .i64 s.size)).setCell ⟨w.heap.size + 1, 0, none⟩ (.int .i64 0)).cell? ⟨w.heap.size, 0, none⟩ = some (.int .i64 s.size) := by go_simp
  have e3 : ((W.setCell ⟨w.heap.size, 0, none⟩ (.int .i64 s.size)).setCell ⟨w.heap.size + 1, 0, none⟩ (.int .i64 0)).cell? ⟨w.heap.size + 1, 0, none⟩ = some (.int .i64 0) := by go_simp
  have k2 := cell_kept e2 (grownBy_putObj' _ D (.deferred none)) (fun r e => by cases e; exact ⟨_, hK', rfl⟩)
  have k3 := cell_kept e3 (grownBy_putObj' _ D (.deferred none)) (fun r e => by cases e; exact ⟨_, hK', rfl⟩)
  refine ⟨.tuple #[.int .i64 s.size, .int .i64 0], ?_, _, _, rfl, ?_, ((HBB.out.setCell (p := ⟨w.heap.size, 0, none⟩) (by simp) _).setCell (p := ⟨w.heap.size + 1, 0, none⟩) (by simp) _).trans (belowK_b (w := w) (Nat.le_refl _) _ D _ _ (by have := hZ.out; omega) hK' rfl rfl)⟩
  · simp [results, Tryz.f127, go_sem, k2, k3]
  · unfold utf_Check.f
    rw [if_pos HS.out, ← usub_val s HS.out, checkL_good _ HGOOD.out]
 case stop =>
  rintro D c pre W hD hpre ⟨⟨rfl, ⟨l, x, rfl, hl, hx, e2⟩, e3⟩, hB⟩ hK
  have HB := Lib.hid hB
  have HK := Lib.hid hK
  have HL := Lib.hid hl
  clear hB hK hl
  gi_wp2
  refine ⟨by simp, .inl ⟨_, _, rfl, run_takeDeferred HK.out, ?_⟩⟩
  have k2 := cell_kept e2 (grownBy_putObj' _ D (.deferred none)) (fun r e => by cases e; exact ⟨_, HK.out, rfl⟩)
  have k3 := cell_kept e3 (grownBy_putObj' _ D (.deferred none)) (fun r e => by cases e; exact ⟨_, HK.out, rfl⟩)
  refine ⟨.tuple #[.int .i64 x.1.1, .int .i64 61], ?_, _, _, rfl, ?_, HB.out.trans (belowK_b (w := w) (Nat.le_refl _) W D _ _ (by have := hZ.out; omega) HK.out rfl rfl)⟩
  · simp [results, Tryz.f127, go_sem, k2, k3]
  · obtain ⟨t, ht⟩ := hpre
    unfold utf_Check.f
    rw [if_pos HS.out, ← usub_val s HS.out, ← ht, List.append_assoc, List.singleton_append, checkL_bad l t x HL.out hx]
theorem utf_Check.calls (a0 : ByteArray) (r1 r2 : Int) (w : World) (hLD : LaidW w) (h : utf_Check.f a0 = some (r1, r2)) :
 Calls Tryz.prog 127 #[.string a0] w fun e w' => e = .returned (.tuple #[.int .i64 r1, .int .i64 r2]) ∧ Below w.heap.size w w' := by
 have hs : a0.size ≤ 1152921504606846976 := by
  by_cases hs : a0.size ≤ 1152921504606846976
  · exact hs
  · unfold utf_Check.f at h; rw [if_neg hs] at h; cases h
 refine (callsIn_wide.1 (check_in 4 (Nat.le_refl _) a0 hs w hLD)).mono ?_
 rintro e w' ⟨p, c, rfl, hf, hb⟩
 rw [h] at hf
 simp only [Option.some.injEq, Prod.mk.injEq] at hf
 obtain ⟨rfl, rfl⟩ := hf
 exact ⟨rfl, hb⟩
end Go.Proofs.YtmfpakolfpoamaaGreatDoor.P
namespace Go.Proofs.YtmfpakolfpoamaaGreatDoor.P
open Go.RowKit Go.Proofs.YtmfpakolfpoamaaGreatDoorW.PrintWords Go.Proofs.YtmfpakolfpoamaaGreatDoorW.PrintLast Go.Proofs.YtmfpakolfpoamaaGreatDoorW.PrintMore
attribute [local go_sem] max2_int min2_int max_two min_two max_three min_three max_four min_four   -- for this text's walks alone
set_option linter.unusedVariables false
set_option linter.unusedSimpArgs false
def value_letters.f (a0 : ByteArray) : Option (Int) := (utf_Check.f a0).bind fun bt170 => (if bt170.2 = 0 then (if (a0.size : Int) > 16384 then (some 5) else (some 0)) else (some bt170.2))
set_option maxHeartbeats 8000000 in
set_option maxRecDepth 100000 in
theorem value_letters.calls (a0 : ByteArray) (r : Int) (w : World) (hLD : LaidW w) (h : value_letters.f a0 = some r) :
 Calls Tryz.prog 111 #[.string a0] w fun e w' => e = .returned (.int .i64 r) ∧ Below w.heap.size w w' := by
 have HLD := Aside0.mk hLD
 clear hLD
 have HB := Aside0.mk (Below.refl w.heap.size w)
 have H : ((utf_Check.f a0).bind fun bt170 => (if bt170.2 = 0 then (if (a0.size : Int) > 16384 then (some 5) else (some 0)) else (some bt170.2))) = some r := h
 clear h
 replace H := Option.bind_eq_some_iff.mp H
 obtain ⟨⟨t170, t171⟩, A20, H⟩ := H
 replace H : (if t171 = 0 then (if (a0.size : Int) > 16384 then (some 5) else (some 0)) else (some t171)) = some r := H
 have A2 := Aside0.mk A20
 clear A20
 by_cases c3 : t171 = 0
 · rw [if_pos c3] at H
   have c3b0 : (t171 == 0) = true := beq_iff_eq.mpr c3
   have c3b1 : (t171 != 0) = false := bne_eq_false_iff_eq.mpr c3
   clear c3
   by_cases c4 : (a0.size : Int) > 16384
   · rw [if_pos c4] at H
     have c4b0 : decide (16384 < (a0.size : Int)) = true := decide_eq_true c4
     have c4b1 : decide (16384 < a0.size) = true := decide_eq_true (by omega)
     clear c4
     obtain rfl := Option.some.inj H
     go_enter Tryz.func111, Tryz.ntmps111
     go_wp2_with (first | ((with_reducible refine gate_callee (f := 127) rfl ?_); refine goesL_ (some 7) rfl rfl Tryz.func127 (by kernel_rfl) rfl #[.string a0] rfl (by (try simp only [List.map_toArray, List.map_cons, List.map_nil]); first | done | rfl | (simp only [List.length_drop, List.length_take]; rfl)) ?_; (with_reducible refine (utf_Check.calls a0 t170 t171 _ ?side1 A2.out).mono ?_); (case side1 => exact LaidW.below HLD.out (by repeat (first | (with_reducible first | exact HB.out | apply below_alloc | apply pw_below_drewN | apply below_drew1) | exact HB.out))); rintro e w5 ⟨rfl, hb⟩; refine ⟨_, rfl, ?_⟩; have n0_ := Aside0.mk (below_step (by repeat (first | (with_reducible first | exact HB.out | apply below_alloc | apply pw_below_drewN | apply below_drew1) | exact HB.out)) hb); clear HB; have HB := n0_; clear n0_; (try clear hb); (try clear hb2); (try clear hk); (try clear hi)))
     go_ret
     exact ⟨by first | rfl | (simp [errW_none, errW_some] <;> rfl) | (simp [*, errW_none, errW_some] <;> rfl), by repeat (first | (with_reducible first | exact HB.out | apply below_alloc | apply pw_below_drewN | apply below_drew1) | exact HB.out)⟩
   · rw [if_neg c4] at H
     have c4b0 : decide (16384 < (a0.size : Int)) = false := decide_eq_false c4
     have c4b1 : decide (16384 < a0.size) = false := decide_eq_false (by omega)
     clear c4
     obtain rfl := Option.some.inj H
     go_enter Tryz.func111, Tryz.ntmps111
     go_wp2_with (first | ((with_reducible refine gate_callee (f := 127) rfl ?_); refine goesL_ (some 7) rfl rfl Tryz.func127 (by kernel_rfl) rfl #[.string a0] rfl (by (try simp only [List.map_toArray, List.map_cons, List.map_nil]); first | done | rfl | (simp only [List.length_drop, List.length_take]; rfl)) ?_; (with_reducible refine (utf_Check.calls a0 t170 t171 _ ?side1 A2.out).mono ?_); (case side1 => exact LaidW.below HLD.out (by repeat (first | (with_reducible first | exact HB.out | apply below_alloc | apply pw_below_drewN | apply below_drew1) | exact HB.out))); rintro e w6 ⟨rfl, hb⟩; refine ⟨_, rfl, ?_⟩; have n0_ := Aside0.mk (below_step (by repeat (first | (with_reducible first | exact HB.out | apply below_alloc | apply pw_below_drewN | apply below_drew1) | exact HB.out)) hb); clear HB; have HB := n0_; clear n0_; (try clear hb); (try clear hb2); (try clear hk); (try clear hi)))
     go_ret
     exact ⟨by first | rfl | (simp [errW_none, errW_some] <;> rfl) | (simp [*, errW_none, errW_some] <;> rfl), by repeat (first | (with_reducible first | exact HB.out | apply below_alloc | apply pw_below_drewN | apply below_drew1) | exact HB.out)⟩
 · rw [if_neg c3] at H
   have c3b0 : (t171 == 0) = false := beq_eq_false_iff_ne.mpr c3
   have c3b1 : (t171 != 0) = true := bne_iff_ne.mpr c3
   obtain rfl := Option.some.inj H
   go_enter Tryz.func111, Tryz.ntmps111
   go_wp2_with (first | ((with_reducible refine gate_callee (f := 127) rfl ?_); refine goesL_ (some 7) rfl rfl Tryz.func127 (by kernel_rfl) rfl #[.string a0] rfl (by (try simp only [List.map_toArray, List.map_cons, List.map_nil]); first | done | rfl | (simp only [List.length_drop, List.length_take]; rfl)) ?_; (with_reducible refine (utf_Check.calls a0 t170 t171 _ ?side1 A2.out).mono ?_); (case side1 => exact LaidW.below HLD.out (by repeat (first | (with_reducible first | exact HB.out | apply below_alloc | apply pw_below_drewN | apply below_drew1) | exact HB.out))); rintro e w7 ⟨rfl, hb⟩; refine ⟨_, rfl, ?_⟩; have n0_ := Aside0.mk (below_step (by repeat (first | (with_reducible first | exact HB.out | apply below_alloc | apply pw_below_drewN | apply below_drew1) | exact HB.out)) hb); clear HB; have HB := n0_; clear n0_; (try clear hb); (try clear hb2); (try clear hk); (try clear hi)))
   go_ret
   exact ⟨by first | rfl | (simp [errW_none, errW_some] <;> rfl) | (simp [*, errW_none, errW_some] <;> rfl), by repeat (first | (with_reducible first | exact HB.out | apply below_alloc | apply pw_below_drewN | apply below_drew1) | exact HB.out)⟩
end Go.Proofs.YtmfpakolfpoamaaGreatDoor.P

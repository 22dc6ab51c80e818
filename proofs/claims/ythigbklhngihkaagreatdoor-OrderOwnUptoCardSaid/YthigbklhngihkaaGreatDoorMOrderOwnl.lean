import Derived.Test.YthigbklhngihkaaGreatDoorMOrderOwnk
import Derived.RangeFuncKeeps
import Derived.RangeFuncBound
set_option linter.unusedVariables false
set_option linter.unusedSimpArgs false
set_option maxRecDepth 100000
namespace Go.Proofs.YthigbklhngihkaaGreatDoor.P
open Go.RowKit Go.Shelf Go.Proofs.YthigbklhngihkaaGreatDoorW.PrintWords Go.Proofs.YthigbklhngihkaaGreatDoorW.PrintMore Go.Proofs.YthigbklhngihkaaGreatDoorW.PrintLast
attribute [local go_sem] Oper.semAt_some
theorem room_of_none' {F : Fence} (hd : F.depth = none) (k : Nat) : F.room k := fun d h => by rw [hd] at h; cases h
theorem RoundIn.anyDepth' {F : Fence} (hd : F.depth = none) {m m' : Nat} {P : Program} {l : Nat} {f : FuncId} {tmps : Array Value} {assign body : Code} {w : World} {R : Ending → World → Prop}
 (h : RoundIn F m P l f tmps assign body w R) : RoundIn F m' P l f tmps assign body w R := ⟨h.1, fun c cs _ => h.2 c cs (room_of_none' hd _)⟩
theorem YieldAt.anyDepth' {F : Fence} (hd : F.depth = none) {m : Nat} (m' : Nat) {P : Program} {l : Nat} {args : Array Value} {W : World} {R : Ending → World → Prop} (h : YieldAt F m P l args W R) : YieldAt F m' P l args W R := by
 obtain ⟨fn, tmps, assign, body, hy, hR⟩ := h
 exact ⟨fn, tmps, assign, body, hy, RoundIn.anyDepth' hd hR⟩
def KpC (n₀ : Nat) (W W' : World) : Prop := Below n₀ W W' ∧ ∀ (k : Nat) (o : Obj), W.heap[k]? = some o → o.isCells = true → W'.heap[k]? = some o
theorem kpC_refl (n₀ : Nat) (W : World) : KpC n₀ W W := ⟨Below.refl _ _, fun _ _ h _ => h⟩
theorem kpC_t {n₀ : Nat} {A B C : World} (h : KpC n₀ A B) (k : KpC n₀ B C) : KpC n₀ A C := ⟨h.1.trans k.1, fun i o hi ho => k.2 i o (h.2 i o hi ho) ho⟩
theorem kpC_below {n₀ : Nat} {W W' : World} (hn : n₀ ≤ W.heap.size) (h : Below W.heap.size W W') : KpC n₀ W W' := ⟨h.mono hn, fun k o hk _ => (h.block k (blk_lt hk)).trans hk⟩
theorem kpC_b {n₀ : Nat} {w : World} (hn : n₀ ≤ w.heap.size) (W : World) (l : Nat) (o o' : Obj) (hl : w.heap.size ≤ l) (h : W.heap[l]? = some o) (h1 : o.isCells = false) (h2 : o.isWalk = false) : KpC n₀ W (W.putObj l o') :=
 ⟨belowK_b hn W l o o' hl h h1 h2, fun k q hk hq => by
  have : k ≠ l := by rintro rfl; rw [h] at hk; cases hk; rw [h1] at hq; cases hq
  exact (World.putObj_heap_other this).trans hk⟩
abbrev El (w0 : World) := { p : V × List Value // k28.K w0 p.1 p.2 ∧ OkV p.1 }
def elv {w0 : World} (l : List (El w0)) : List V := l.map fun x => x.1.1
theorem elv_app {w0 : World} (a b : List (El w0)) : elv (a ++ b) = elv a ++ elv b := by simp [elv]
theorem elv_len {w0 : World} (a : List (El w0)) : (elv a).length = a.length := by simp [elv]
mutual
def vall : V → List V
 | ⟨a, b, c, l, d⟩ => ⟨a, b, c, l, d⟩ :: valls l
def valls : List V → List V
 | [] => []
 | x :: l => vall x ++ valls l
end
theorem vall_eq (v : V) : vall v = v :: valls v.f3 := by cases v; rw [vall]
theorem valls_app : ∀ (a b : List V), valls (a ++ b) = valls a ++ valls b
 | [], b => by rw [valls]; rfl
 | x :: a, b => by rw [List.cons_append, valls, valls, valls_app a b, List.append_assoc]
theorem valls_one (x : V) : valls [x] = vall x := by rw [valls, valls, List.append_nil]
theorem at_V {w0 w : World} {A : Option Addr} {l : List V} (h : k28.C w0 A l.length l) (hb : Below w0.heap.size w0 w) (k : Nat) (hk : k < l.length) : ∃ ad a0 a1 a2 a3 a4 a5 a6, A = some ad ∧ k28.K w0 (rd_T28 l (k : Int)) [a0, a1, a2, a3, a4, a5, a6] ∧
 w.cell? (ad.add (k * 7)) = some a0 ∧ w.cell? ⟨(ad.add (k * 7)).block, (ad.add (k * 7)).off + 1, none⟩ = some a1 ∧ w.cell? ⟨(ad.add (k * 7)).block, (ad.add (k * 7)).off + 2, none⟩ = some a2 ∧ w.cell? ⟨(ad.add (k * 7)).block, (ad.add (k * 7)).off + 3, none⟩ = some a3 ∧ w.cell? ⟨(ad.add (k * 7)).block, (ad.add (k * 7)).off + 4, none⟩ = some a4 ∧ w.cell? ⟨(ad.add (k * 7)).block, (ad.add (k * 7)).off + 5, none⟩ = some a5 ∧ w.cell? ⟨(ad.add (k * 7)).block, (ad.add (k * 7)).off + 6, none⟩ = some a6 := by
 obtain ⟨ad, A2, c2, A5, c5, A6, c6, e, q0, q1, q2, q3, q4, q5, q6, l2, g2, l5, g5, l6, g6⟩ := at_T28 h (k : Int) (by omega) (by omega)
 rw [Int.toNat_natCast] at q0 q1 q2 q3 q4 q5 q6
 exact ⟨ad, _, _, _, _, _, _, _, e, k28_mk w0 _ l2 g2 l5 g5 l6 g6, pw_cell_below hb q0, pw_cell_below hb q1, pw_cell_below hb q2, pw_cell_below hb q3, pw_cell_below hb q4, pw_cell_below hb q5, pw_cell_below hb q6⟩
section
variable {w0 : World}
def WPost (b : Bool) (J Jx : List (El w0) → World → Prop) (n₀ : Nat) (pre : List (El w0)) (L : List V) (W : World) (e : Ending) (W' : World) : Prop :=
 (∃ ys, e = .returned (.bool b) ∧ elv ys = L ∧ J (pre ++ ys) W' ∧ KpC n₀ W W') ∨ (∃ q, e = .returned (.bool (!b)) ∧ elv q <+: L ∧ Jx (pre ++ q) W')
set_option maxHeartbeats 2000000 in
theorem walk1_in (J Jx : List (El w0) → World → Prop) (hJA : ∀ x A B, J x A → A.grownBy B none → J x B) (l n₀ By : Nat) (x : V) (L : List V) (n : Nat) (cs : List Value) (pre : List (El w0)) (W : World)
 (hn₀ : n₀ ≤ W.heap.size) (hy : W.cell? ⟨By, 0, none⟩ = some (.func (.yield l) #[] #[])) (hcs : cs.length = 7)
 (ih : ∀ m W1, Below W.heap.size W W1 → J pre W1 → CallsIn Fence.wide m Tryz.prog 136 #[.agg cs.toArray, .func (.yield l) #[] #[]] W1 (WPost true J Jx n₀ pre L W1)) (hJ : J pre W) :
 CallsIn Fence.wide n Tryz.prog 170 #[.agg cs.toArray, .pointer (some ⟨By, 0, none⟩)] W (WPost false J Jx n₀ pre L W) := by
 have hdd : ∀ k : Nat, (Fence.wide.depth.isSome = true → 1 ≤ k) := fun k h => by cases h
 obtain ⟨a0, a1, a2, a3, a4, a5, a6, rfl⟩ := list7 hcs
 have hb := Lib.hid (below_alloc (Below.refl W.heap.size W) (.cells #[a0, a1, a2, a3, a4, a5, a6] 28))
 have HJ := Lib.hid (hJA pre W (W.alloc (.cells #[a0, a1, a2, a3, a4, a5, a6] 28)) hJ (World.grownBy_alloc _ _ _))
 have IH := Lib.hid ih
 have HN := Lib.hid hn₀
 have hlt := World.block_lt_of_cell? _ _ hy
 have e1 : (W.alloc (.cells #[a0, a1, a2, a3, a4, a5, a6] 28)).cell? ⟨By, 0, none⟩ = some (.func (.yield l) #[] #[]) := pw_cell_below hb.out hy
 clear ih hJ hn₀
 refine callsIn_of_wp Tryz.func170 rfl trivial ?_ rfl
 simp only [Tryz.ntmps170, List.size_toArray, List.length_cons, List.length_nil, Nat.reduceAdd, Nat.reduceSub, Array.replicate_succ, Array.replicate_zero, List.push_toArray, List.append_toArray, List.nil_append, List.cons_append]
 gi_wp2_with (first | (refine ⟨trivial, hdd _, ?_⟩; gi_at_call 136; refine (IH.out _ _ hb.out HJ.out).mono ?_; rintro e W1 (⟨ys, rfl, hy1, hj1, hk1⟩ | ⟨q, rfl, hq, hx⟩)))
 · go_ret
   exact .inl ⟨ys, rfl, hy1, hj1, kpC_t (kpC_below HN.out hb.out) hk1⟩
 · go_ret
   exact .inr ⟨q, rfl, hq, hx⟩
def IPost (J Jx : List (El w0) → World → Prop) (n₀ : Nat) (pre : List (El w0)) (L : List V) (W : World) (e : Ending) (W' : World) : Prop :=
 (∃ ys, e = .returned (.int .i64 (-1)) ∧ elv ys = L ∧ J (pre ++ ys) W' ∧ KpC n₀ W W') ∨ (∃ q, ∃ k : Nat, e = .returned (.int .i64 k) ∧ elv q <+: L ∧ Jx (pre ++ q) W')
theorem valls_take_succ (l : List V) (k : Nat) (h : k < l.length) : valls (l.take (k + 1)) = valls (l.take k) ++ vall (rd_T28 l (k : Int)) := by
 rw [List.take_succ_eq_append_getElem h, valls_app, valls_one]
 simp [rd_T28, h]
theorem valls_pre (l : List V) (k : Nat) : valls (l.take k) <+: valls l := ⟨valls (l.drop k), by rw [← valls_app, List.take_append_drop]⟩
set_option maxHeartbeats 2000000 in
theorem walkIdx_in (J Jx : List (El w0) → World → Prop) (hJA : ∀ x A B, J x A → A.grownBy B none → J x B) (l N By : Nat) (L : List V) (A : Option Addr) (c : Nat) (n : Nat) (pre : List (El w0)) (W : World)
 (hC : k28.C w0 A L.length L) (hW : Below w0.heap.size w0 W) (hy : W.heap[By]? = some (.cells #[.func (.yield l) #[] #[]] 72 (0, 0)))
 (ih : ∀ y ∈ L, ∀ m cs pre' W', k28.K w0 y cs → Below w0.heap.size w0 W' → J pre' W' → pre'.length + (vall y).length ≤ N → CallsIn Fence.wide m Tryz.prog 136 #[.agg cs.toArray, .func (.yield l) #[] #[]] W' (WPost true J Jx w0.heap.size pre' (vall y) W'))
 (hJ : J pre W) (hN : pre.length + (valls L).length ≤ N) :
 CallsIn Fence.wide n Tryz.prog 203 #[.slice A L.length c, .func (.func 170) #[] #[.pointer (some ⟨By, 0, none⟩)]] W (IPost J Jx w0.heap.size pre (valls L) W) := by
 have hdd : ∀ k : Nat, (Fence.wide.depth.isSome = true → 1 ≤ k) := fun k h => by cases h
 have HC := Lib.hid hC
 have HW := Lib.hid hW
 have HY := Lib.hid hy
 have IH := Lib.hid ih
 have HJ := Lib.hid hJ
 have hlen := hC.2.1
 clear hC hW hy ih hJ
 refine callsIn_of_wp Tryz.func203 rfl trivial ?_ rfl
 simp only [Tryz.ntmps203, List.size_toArray, List.length_cons, List.length_nil, Nat.reduceAdd, Nat.reduceSub, Array.replicate_succ, Array.replicate_zero, List.push_toArray, List.append_toArray, List.nil_append, List.cons_append]
 gi_wp2
 gi_loopw [8] (fun i wr => ∃ (k : Nat) (ys : List (El w0)), k ≤ L.length ∧ i = .int .i64 k ∧ Hid (elv ys = valls (L.take k)) ∧ Hid (J (pre ++ ys) wr) ∧ Hid (KpC w0.heap.size W wr)) (fun i _ => L.length - (intOf i).toNat)
 case atStart => exact ⟨0, [], Nat.zero_le _, rfl, Lib.hid (by simp [elv, valls]), Lib.hid (by simpa using HJ.out), Lib.hid (kpC_refl _ _)⟩
 case round =>
  obtain ⟨k, ys, hk, rfl, hys, hJr, hK⟩ := hrel
  by_cases hlt : k < L.length
  · have hBr := Lib.hid (HW.out.trans hK.out.1)
    obtain ⟨ad, a0, a1, a2, a3, a4, a5, a6, rfl, hKx, q0, q1, q2, q3, q4, q5, q6⟩ := at_V HC.out hBr.out k hlt
    have hmem := Lib.hid (show rd_T28 L (k : Int) ∈ L by unfold rd_T28; simp [hlt])
    have hln : (pre ++ ys).length + (vall (rd_T28 L (k : Int))).length ≤ N := by
     have h1 := congrArg List.length hys.out
     have h2 := congrArg List.length (valls_take_succ L k hlt)
     have h3 := (valls_pre L (k + 1)).length_le
     rw [elv_len] at h1
     rw [List.length_append] at h2 ⊢
     omega
    have hcall := Lib.hid (walk1_in J Jx hJA l w0.heap.size By (rd_T28 L (k : Int)) (vall (rd_T28 L (k : Int))) (n - 1) [a0, a1, a2, a3, a4, a5, a6] (pre ++ ys) wr hBr.out.size ((blk_cell (hK.out.2 By _ HY.out rfl) 0).trans rfl) rfl
     (fun m W1 hb hj => IH.out _ hmem.out m _ _ W1 hKx (hBr.out.trans (hb.mono hBr.out.size)) hj hln) hJr.out)
    have hs := Lib.hid (valls_take_succ L k hlt)
    have hp := Lib.hid (valls_pre L (k + 1))
    have hw : wrap64 ((k : Int) + 1) = ((k + 1 : Nat) : Int) := by unfold wrap64; omega
    clear hKx hln
    gi_wp2_with (first | (refine ⟨trivial, hdd _, ?_⟩; gi_at_call 170; refine hcall.out.mono ?_; rintro e W1 (⟨zs, rfl, hz1, hj1, hk1⟩ | ⟨q, rfl, hq, hx⟩)))
    · have HZ := Lib.hid hz1
      have HJ1 := Lib.hid hj1
      have HK1 := Lib.hid hk1
      clear hz1 hj1 hk1
      go_roundw
      case rel => exact ⟨k + 1, ys ++ zs, by omega, by go_num, Lib.hid (by rw [elv_app, hys.out, HZ.out, hs.out]), Lib.hid (by rw [← List.append_assoc]; exact HJ1.out), Lib.hid (kpC_t hK.out HK1.out)⟩
      case measure => simp [intOf]; omega
    · go_ret
      refine .inr ⟨ys ++ q, k, rfl, ?_, by rw [← List.append_assoc]; exact hx⟩
      rw [elv_app, hys.out]
      refine List.IsPrefix.trans ?_ hp.out
      rw [hs.out]
      exact (List.prefix_append_right_inj _).2 hq
  · obtain rfl : k = L.length := by omega
    rw [List.take_length] at hys
    gi_wp2
    go_ret
    exact .inl ⟨ys, rfl, hys.out, hJr.out, hK.out⟩
set_option maxHeartbeats 1000000 in
theorem walkCont_in (J Jx : List (El w0) → World → Prop) (n₀ By : Nat) (L : List V) (A : Option Addr) (c : Nat) (n : Nat) (pre : List (El w0)) (W : World)
 (h : CallsIn Fence.wide (n - 1) Tryz.prog 203 #[.slice A L.length c, .func (.func 170) #[] #[.pointer (some ⟨By, 0, none⟩)]] W (IPost J Jx n₀ pre (valls L) W)) :
 CallsIn Fence.wide n Tryz.prog 164 #[.slice A L.length c, .func (.func 170) #[] #[.pointer (some ⟨By, 0, none⟩)]] W (WPost false J Jx n₀ pre (valls L) W) := by
 have hdd : ∀ k : Nat, (Fence.wide.depth.isSome = true → 1 ≤ k) := fun k h => by cases h
 have H := Lib.hid h
 clear h
 refine callsIn_of_wp Tryz.func164 rfl trivial ?_ rfl
 simp only [Tryz.ntmps164, List.size_toArray, List.length_cons, List.length_nil, Nat.reduceAdd, Nat.reduceSub, Array.replicate_succ, Array.replicate_zero, List.push_toArray, List.append_toArray, List.nil_append, List.cons_append]
 gi_wp2_with (first | (refine ⟨trivial, hdd _, ?_⟩; gi_at_call 203; refine H.out.mono ?_; rintro e W1 (⟨ys, rfl, hy1, hj1, hk1⟩ | ⟨q, k, rfl, hq, hx⟩)))
 · go_ret
   exact .inl ⟨ys, rfl, hy1, hj1, hk1⟩
 · go_ret
   exact .inr ⟨q, by simp, hq, hx⟩
set_option maxHeartbeats 4000000 in
theorem walk_in (J Jx : List (El w0) → World → Prop) (hJA : ∀ x A B, J x A → A.grownBy B none → J x B) (l N : Nat)
 (hY : ∀ m pre x W, J pre W → pre.length < N → YieldAt Fence.wide m Tryz.prog l #[.agg x.1.2.toArray] W fun e W' => (e = .returned (.bool true) ∧ J (pre ++ [x]) W' ∧ KpC w0.heap.size W W') ∨ (e = .returned (.bool false) ∧ Jx (pre ++ [x]) W')) :
 ∀ v : V, OkV v → ∀ n cs pre W, k28.K w0 v cs → Below w0.heap.size w0 W → J pre W → pre.length + (vall v).length ≤ N →
  CallsIn Fence.wide n Tryz.prog 136 #[.agg cs.toArray, .func (.yield l) #[] #[]] W (WPost true J Jx w0.heap.size pre (vall v) W) := by
 refine V.ind fun v ih => ?_
 intro hO n cs pre W hK hW hJ hN
 have hdd : ∀ k : Nat, (Fence.wide.depth.isSome = true → 1 ≤ k) := fun k h => by cases h
 obtain ⟨A2, c2, A5, c5, A6, c6, rfl, l2, g2, l5, g5, l6, g6⟩ := k28_open hK
 obtain ⟨W2, hW2⟩ : ∃ W2, W2 = (W.alloc (.cells #[.int .i64 v.f0, .bool v.f1.f0, .slice A2 v.f1.f1.length c2, .int .i64 v.f1.f2, .string v.f2, .slice A5 v.f3.length c5, .slice A6 v.f4.length c6] 28)).alloc (.cells #[.func (.yield l) #[] #[]] 72) := ⟨_, rfl⟩
 have hb2 : Below W.heap.size W W2 := by rw [hW2]; exact ((Below.refl _ _).alloc (Nat.le_refl _) _).alloc (by simp) _
 have hJ2 : J pre W2 := by rw [hW2]; exact hJA _ _ _ (hJA _ _ _ hJ (World.grownBy_alloc _ _ _)) (World.grownBy_alloc _ _ _)
 have hv2 : W2.heap[W.heap.size]? = some (.cells #[.int .i64 v.f0, .bool v.f1.f0, .slice A2 v.f1.f1.length c2, .int .i64 v.f1.f2, .string v.f2, .slice A5 v.f3.length c5, .slice A6 v.f4.length c6] 28 (0, 0)) := by rw [hW2]; exact blk_alloc (blk_new _ _) _
 have hy2 : W2.heap[W.heap.size + 1]? = some (.cells #[.func (.yield l) #[] #[]] 72 (0, 0)) := by rw [hW2]; have := blk_new (W.alloc (.cells #[.int .i64 v.f0, .bool v.f1.f0, .slice A2 v.f1.f1.length c2, .int .i64 v.f1.f2, .string v.f2, .slice A5 v.f3.length c5, .slice A6 v.f4.length c6] 28)) (.cells #[.func (.yield l) #[] #[]] 72); rwa [World.size_alloc] at this
 have hWB : Below w0.heap.size w0 W2 := hW.trans (hb2.mono hW.size)
 rw [vall_eq, List.length_cons] at hN
 obtain ⟨x0, hx0⟩ : ∃ x0 : El w0, x0 = ⟨(v, _), hK, hO⟩ := ⟨_, rfl⟩
 have hx1 : elv [x0] = [v] := by rw [hx0]; rfl
 have hcall : ∀ W3, J (pre ++ [x0]) W3 → KpC w0.heap.size W2 W3 → CallsIn Fence.wide (n - 1) Tryz.prog 164 #[.slice A5 v.f3.length c5, .func (.func 170) #[] #[.pointer (some ⟨W.heap.size + 1, 0, none⟩)]] W3 (WPost false J Jx w0.heap.size (pre ++ [x0]) (valls v.f3) W3) := fun W3 hj hk =>
  walkCont_in J Jx w0.heap.size (W.heap.size + 1) v.f3 A5 c5 (n - 1) (pre ++ [x0]) W3 (walkIdx_in J Jx hJA l N (W.heap.size + 1) v.f3 A5 c5 (n - 1 - 1) (pre ++ [x0]) W3 g5 (hWB.trans hk.1) (hk.2 _ _ hy2 rfl)
   (fun y hy m cs' pre' W' hK' hW' hJ' hN' => ih y hy (hO.kids y hy) m cs' pre' W' hK' hW' hJ' hN') hj (by rw [List.length_append]; simp; omega))
 have hyy := YieldAt.mono (hY (n - 1) pre x0 W2 hJ2 (by omega)) (R' := fun e W3 => (e = .returned (.bool true) ∧ W3.cell? ⟨W.heap.size, 5, none⟩ = some (.slice A5 v.f3.length c5) ∧ W3.cell? ⟨W.heap.size + 1, 0, none⟩ = some (.func (.yield l) #[] #[]) ∧ Hid (J (pre ++ [x0]) W3) ∧ Hid (KpC w0.heap.size W2 W3)) ∨ (e = .returned (.bool false) ∧ Hid (Jx (pre ++ [x0]) W3)))
  (fun e W3 h => h.elim (fun ⟨he, hj, hk⟩ => .inl ⟨he, (blk_cell (hk.2 _ _ hv2 rfl) 5).trans rfl, (blk_cell (hk.2 _ _ hy2 rfl) 0).trans rfl, Lib.hid hj, Lib.hid hk⟩) (fun ⟨he, hx⟩ => .inr ⟨he, Lib.hid hx⟩))
 obtain ⟨fn, tmps, assign, body, hy, hR⟩ := hyy
 have HR := Lib.hid hR
 have HCALL := Lib.hid hcall
 have HX1 := Lib.hid hx1
 have HKP : Hid (KpC w0.heap.size W W2) := Lib.hid (kpC_below hW.size hb2)
 rw [vall_eq]
 rw [show x0.1.2 = [.int .i64 v.f0, .bool v.f1.f0, .slice A2 v.f1.f1.length c2, .int .i64 v.f1.f2, .string v.f2, .slice A5 v.f3.length c5, .slice A6 v.f4.length c6] by rw [hx0]] at hy
 clear hR hcall hx1 hx0 hWB hy2 hv2 hJ2 hb2 hN hW hJ hO hY ih g2 g5 g6 l2 l5 l6 hK
 subst hW2
 refine callsIn_of_wp Tryz.func136 rfl trivial ?_ rfl
 simp only [Tryz.ntmps136, List.size_toArray, List.length_cons, List.length_nil, Nat.reduceAdd, Nat.reduceSub, Array.replicate_succ, Array.replicate_zero, List.push_toArray, List.append_toArray, List.nil_append, List.cons_append]
 gi_wp2_with (first
  | (refine ⟨hdd _, ?_⟩; refine HR.out.mono ?_; clear HR; rintro e W3 (⟨rfl, hc5, hc1, hj3, hk3⟩ | ⟨rfl, hx3⟩))
  | (refine ⟨trivial, hdd _, ?_⟩; gi_at_call 164; refine (HCALL.out _ hj3.out hk3.out).mono ?_; rintro e W4 (⟨ys, rfl, hy4, hj4, hk4⟩ | ⟨q, rfl, hq, hx⟩)))
 · go_ret
   exact .inl ⟨x0 :: ys, rfl, by rw [show x0 :: ys = [x0] ++ ys from rfl, elv_app, HX1.out, hy4]; rfl, by rw [show x0 :: ys = [x0] ++ ys from rfl, ← List.append_assoc]; exact hj4, kpC_t (kpC_t HKP.out hk3.out) hk4⟩
 · go_ret
   exact .inr ⟨x0 :: q, rfl, by rw [show x0 :: q = [x0] ++ q from rfl, elv_app, HX1.out]; exact (List.prefix_cons_inj _).2 hq, by rw [show x0 :: q = [x0] ++ q from rfl, ← List.append_assoc]; exact hx⟩
 · refine ⟨trivial, ?_⟩
   gi_wp2
   go_ret
   exact .inr ⟨[x0], rfl, by rw [HX1.out]; exact (List.prefix_cons_inj _).2 (List.nil_prefix), hx3.out⟩
end
end Go.Proofs.YthigbklhngihkaaGreatDoor.P
namespace Go.Proofs.YthigbklhngihkaaGreatDoor.P
open Go.RowKit Go.Proofs.YthigbklhngihkaaGreatDoorW.PrintWords Go.Proofs.YthigbklhngihkaaGreatDoorW.PrintMore Go.Proofs.YthigbklhngihkaaGreatDoorW.PrintLast
mutual
def vsize : V → Nat
 | ⟨_, _, _, l, _⟩ => min (vsizes l 1) 1048576
def vsizes : List V → Nat → Nat
 | [], n => n
 | x :: l, n => if 1048576 ≤ n then n else vsizes l (n + vsize x)
end
def vszUp (l : List V) (k : Nat) : Nat := vsizes (l.take k) 1
theorem vsizes_ge : ∀ (l : List V) (n : Nat), 1048576 ≤ n → vsizes l n = n
 | [], _, _ => by unfold vsizes; rfl
 | x :: l, n, h => by unfold vsizes; rw [if_pos h]
theorem vsizes_nil (n : Nat) : vsizes [] n = n := by unfold vsizes; rfl
theorem vsizes_app : ∀ (l r : List V) (n : Nat), vsizes (l ++ r) n = vsizes r (vsizes l n)
 | [], r, n => by rw [List.nil_append, show vsizes [] n = n by unfold vsizes; rfl]
 | x :: l, r, n => by
  rw [List.cons_append]
  by_cases h : 1048576 ≤ n
  · rw [vsizes_ge _ _ h, vsizes_ge _ _ h, vsizes_ge _ _ h]
  · rw [show vsizes (x :: (l ++ r)) n = vsizes (l ++ r) (n + vsize x) by rw [vsizes, if_neg h], show vsizes (x :: l) n = vsizes l (n + vsize x) by rw [vsizes, if_neg h], vsizes_app l r]
theorem vsize_le (v : V) : vsize v ≤ 1048576 := by cases v; unfold vsize; omega
theorem vsize_eq (v : V) : vsize v = min (vszUp v.f3 v.f3.length) 1048576 := by cases v; unfold vsize vszUp; rw [List.take_length]
theorem vszUp_succ (l : List V) (k : Nat) (h : k < l.length) : vszUp l (k + 1) = if 1048576 ≤ vszUp l k then vszUp l k else vszUp l k + vsize (rd_T28 l (k : Int)) := by
 unfold vszUp rd_T28
 rw [List.take_succ_eq_append_getElem h, vsizes_app]
 have e : l.getD (k : Int).toNat z28 = l[k] := by simp [h]
 rw [e, vsizes]
 split
 · rfl
 · rw [vsizes_nil]
theorem vszUp_le (l : List V) (k : Nat) : vszUp l k ≤ 2097152 := by
 induction k with
 | zero => unfold vszUp vsizes; simp
 | succ k ih =>
  by_cases h : k < l.length
  · rw [vszUp_succ l k h]
    have := vsize_le (rd_T28 l (k : Int))
    split <;> omega
  · rw [show vszUp l (k + 1) = vszUp l k by unfold vszUp; rw [List.take_of_length_le (by omega), List.take_of_length_le (by omega)]]
    exact ih
theorem vszUp_stop (l : List V) {k : Nat} (h : 1048576 ≤ vszUp l k) : ∀ n, k ≤ n → vszUp l n = vszUp l k := by
 intro n hn
 unfold vszUp at h ⊢
 have e : l.take n = l.take k ++ (l.take n).drop k := by have := (List.take_append_drop k (l.take n)).symm; rwa [List.take_take, Nat.min_eq_left hn] at this
 rw [e, vsizes_app, vsizes_ge _ _ h]
set_option maxHeartbeats 1000000 in
theorem Size_any : ∀ (x : V) (cs : List Value) (w : World), k28.K w x cs →
 Calls Tryz.prog 95 #[.agg cs.toArray] w fun e w' => e = .returned (.int .i64 (vsize x)) ∧ Below w.heap.size w w' := by
 refine V.ind fun x ih => ?_
 intro cs w hK
 obtain ⟨A2, c2, A5, c5, A6, c6, rfl, l2, g2, l5, g5, l6, g6⟩ := k28_open hK
 have HC := Lib.hid g5
 have hlen := g5.2.1
 have IH := Lib.hid ih
 clear g2 l2 l5 g5 l6 g6 hK ih
 have HV := Lib.hid (vsize_eq x)
 go_enter Tryz.func95, Tryz.ntmps95
 go_wp2
 go_loopw [3, 9] (fun vm vi wr => ∃ k : Nat, k ≤ x.f3.length ∧ vi = .int .i64 k ∧ vm = .int .i64 (vszUp x.f3 k : Nat) ∧ Below w.heap.size w wr) (fun _ vi _ => x.f3.length - (intOf vi).toNat)
 case atStart => exact ⟨0, Nat.zero_le _, rfl, by unfold vszUp vsizes; simp, (Below.refl _ _).alloc (Nat.le_refl _) _⟩
 case round =>
  obtain ⟨k, hk, rfl, rfl, hB⟩ := hrel
  have HB := Lib.hid hB
  have hle := vszUp_le x.f3 k
  clear hB
  by_cases hlt : k < x.f3.length
  · obtain ⟨ad, D2, d2, D5, d5, D6, d6, rfl, q0, q1, q2, q3, q4, q5, q6, m2, G2, m5, G5, m6, G6⟩ := at_T28 (Kd.C_below HC.out HB.out) (k : Int) (by omega) (by omega)
    rw [Int.toNat_natCast] at q0 q1 q2 q3 q4 q5 q6
    have hKx := Lib.hid (k28_mk wr (rd_T28 x.f3 k) m2 G2 m5 G5 m6 G6)
    clear m2 G2 m5 G5 m6 G6
    have hw : wrap64 ((k : Int) + 1) = ((k + 1 : Nat) : Int) := by unfold wrap64; omega
    by_cases hbig : 1048576 ≤ vszUp x.f3 k
    · have hr : Hid (min (vszUp x.f3 k : Int) 1048576 = (vsize x : Int)) := Lib.hid (by rw [HV.out, vszUp_stop x.f3 hbig _ hk]; omega)
      have hb2 : (1048576 : Int) ≤ (vszUp x.f3 k : Int) := by omega
      go_wp2
      go_ret
      exact ⟨by rw [← hr.out]; rfl, HB.out.alloc HB.out.size _⟩
    · have hs : Hid ((vszUp x.f3 k : Int) + (vsize (rd_T28 x.f3 (k : Int)) : Int) = ((vszUp x.f3 (k + 1) : Nat) : Int)) := Lib.hid (by rw [vszUp_succ x.f3 k hlt, if_neg hbig]; omega)
      have hb2 : ¬ (1048576 : Int) ≤ (vszUp x.f3 k : Int) := by omega
      have hm := vsize_le (rd_T28 x.f3 (k : Int))
      have hmem := Lib.hid (show rd_T28 x.f3 (k : Int) ∈ x.f3 by unfold rd_T28; simp [hlt])
      go_wp2_with (first | (go_at_call 95; (with_reducible refine (IH.out _ hmem.out _ _ ?hK).mono ?_); (case hK => exact k28.K_below ((Below.refl _ _).alloc (Nat.le_refl _) _) hKx.out); rintro e w2 ⟨rfl, hB2⟩))
      have hB3 := below_box HB.out HB.out.size hB2
      clear hB2
      go_roundw
      case rel => exact ⟨k + 1, by omega, by go_num, by rw [hs.out], hB3⟩
      case measure => simp [intOf]; omega
  · obtain rfl : k = x.f3.length := by omega
    have hr : Hid (min (vszUp x.f3 x.f3.length : Int) 1048576 = (vsize x : Int)) := Lib.hid (by rw [HV.out]; omega)
    go_wp2
    go_ret
    exact ⟨by rw [← hr.out]; rfl, HB.out⟩
set_option maxHeartbeats 1000000 in
theorem Deep_any (x : V) (cs : List Value) (w : World) (hK : k28.K w x cs) :
 Calls Tryz.prog 94 #[.agg cs.toArray] w fun e w' => e = .returned (.int .i64 (vdeep 1000 x)) ∧ Below w.heap.size w w' := by
 obtain ⟨A2, c2, A5, c5, A6, c6, rfl, _⟩ := k28_open hK
 have HK := Lib.hid hK
 clear hK
 have hd : ∀ (cs' : List Value) (w' : World), k28.K w' x cs' → Calls Tryz.prog 134 #[.agg cs'.toArray, .int .i64 1000] w' fun e w2 => e = .returned (.int .i64 (vdeep 1000 x)) ∧ Below w'.heap.size w' w2 := fun cs' w' h => deep_any 1000 (Nat.le_refl _) x cs' w' h
 have HD := Lib.hid hd
 clear hd
 go_enter Tryz.func94, Tryz.ntmps94
 go_wp2_with (first | (go_at_call 134; (with_reducible refine (HD.out _ _ ?hK).mono ?_); (case hK => exact k28.K_below ((Below.refl _ _).alloc (Nat.le_refl _) _) HK.out); rintro e w2 ⟨rfl, hB2⟩))
 go_ret
 exact ⟨rfl, below_box (Below.refl _ _) (Nat.le_refl _) hB2⟩
end Go.Proofs.YthigbklhngihkaaGreatDoor.P
namespace Go.Proofs.YthigbklhngihkaaGreatDoor.P
open Go.RowKit Go.Shelf Go.Proofs.YthigbklhngihkaaGreatDoorW.PrintWords Go.Proofs.YthigbklhngihkaaGreatDoorW.PrintMore Go.Proofs.YthigbklhngihkaaGreatDoorW.PrintLast
attribute [local go_sem] Oper.semAt_some
def vchk (v : V) : Int := if 64 < vdeep 1000 v then 42 else if 16384 < vsize v then 3 else orL ((vall v).map vown)
section
variable {w0 : World}
set_option maxHeartbeats 2000000 in
theorem all_in (n : Nat) (cs : List Value) (hcs : cs.length = 7) (w : World) :
 CallsIn Fence.wide n Tryz.prog 96 #[.agg cs.toArray] w fun e w' => e = .returned (.func (.func 135) #[] #[.pointer (some ⟨w.heap.size, 0, none⟩)]) ∧ w' = w.alloc (.cells cs.toArray 28) := by
 obtain ⟨a0, a1, a2, a3, a4, a5, a6, rfl⟩ := list7 hcs
 refine callsIn_of_wp Tryz.func96 rfl trivial ?_ rfl
 simp only [Tryz.ntmps96, List.size_toArray, List.length_cons, List.length_nil, Nat.reduceAdd, Nat.reduceSub, Array.replicate_succ, Array.replicate_zero, List.push_toArray, List.append_toArray, List.nil_append, List.cons_append]
 gi_wp2
 go_ret
 exact ⟨rfl, rfl⟩
set_option maxHeartbeats 2000000 in
theorem all1_in (v : V) (hO : OkV v) (cs : List Value) (hcs : cs.length = 7) (hK : k28.K w0 v cs) (n l Bt : Nat) (J Jx : List (El w0) → World → Prop) (hJA : ∀ x A B, J x A → A.grownBy B none → J x B)
 (hY : ∀ m pre x W, J pre W → pre.length < (vall v).length → YieldAt Fence.wide m Tryz.prog l #[.agg x.1.2.toArray] W fun e W' => (e = .returned (.bool true) ∧ J (pre ++ [x]) W' ∧ KpC w0.heap.size W W') ∨ (e = .returned (.bool false) ∧ Jx (pre ++ [x]) W'))
 (W : World) (hB : W.heap[Bt]? = some (.cells cs.toArray 28 (0, 0))) (hW : Below w0.heap.size w0 W) (h0 : J [] W) :
 CallsIn Fence.wide n Tryz.prog 135 #[.func (.yield l) #[] #[], .pointer (some ⟨Bt, 0, none⟩)] W fun e W' => (∃ v, e = .returned v) ∧ ((∃ ys, elv ys = vall v ∧ J ys W') ∨ (∃ pre, elv pre <+: vall v ∧ Jx pre W')) := by
 have hdd : ∀ k : Nat, (Fence.wide.depth.isSome = true → 1 ≤ k) := fun k h => by cases h
 obtain ⟨a0, a1, a2, a3, a4, a5, a6, rfl⟩ := list7 hcs
 have hp := Lib.hid (walk_in J Jx hJA l (vall v).length hY v hO (n - 1) _ [] W hK hW h0 (by simp))
 have c0 := (blk_cell hB 0).trans rfl
 have c1 := (blk_cell hB 1).trans rfl
 have c2 := (blk_cell hB 2).trans rfl
 have c3 := (blk_cell hB 3).trans rfl
 have c4 := (blk_cell hB 4).trans rfl
 have c5 := (blk_cell hB 5).trans rfl
 have c6 := (blk_cell hB 6).trans rfl
 clear hY hK hB h0 hW
 refine callsIn_of_wp Tryz.func135 rfl trivial ?_ rfl
 simp only [Tryz.ntmps135, List.size_toArray, List.length_cons, List.length_nil, Nat.reduceAdd, Nat.reduceSub, Array.replicate_succ, Array.replicate_zero, List.push_toArray, List.append_toArray, List.nil_append, List.cons_append]
 gi_wp2_with (first | (refine ⟨trivial, hdd _, ?_⟩; gi_at_call 136; refine hp.out.mono ?_; rintro e W1 (⟨ys, rfl, hy1, hj1, hk1⟩ | ⟨q, rfl, hq, hx⟩)))
 · go_end0
   exact ⟨⟨_, rfl⟩, .inl ⟨ys, hy1, by simpa using hj1⟩⟩
 · go_end0
   exact ⟨⟨_, rfl⟩, .inr ⟨q, hq, by simpa using hx⟩⟩
theorem all_stops (v : V) (hO : OkV v) (cs : List Value) (hcs : cs.length = 7) (hK : k28.K w0 v cs) (n Bt : Nat) (hB : w0.heap[Bt]? = some (.cells cs.toArray 28 (0, 0))) :
 SeqStopsK Fence.wide n Tryz.prog 135 #[.pointer (some ⟨Bt, 0, none⟩)] (fun x : El w0 => #[.agg x.1.2.toArray]) (KpC w0.heap.size) (fun ys => elv ys = vall v) (fun pre => elv pre <+: vall v) (vall v).length w0 := fun l J Jx W hW hJ _ hY h0 =>
 all1_in v hO cs hcs hK n l Bt J Jx (fun x A B h g => hJ x A B none h g (fun r e => by cases e)) (fun m pre x W1 hj hl => YieldAt.anyDepth' rfl m (hY pre x W1 hj hl)) W ((hW.block Bt (blk_lt hB)).trans hB) hW h0
end
theorem keepsO_below {W W' : World} (h : Below W.heap.size W W') : KeepsOthers W W' := ⟨h.size, fun k o hk _ => (h.block k (blk_lt hk)).trans hk⟩
theorem orL_app (a b : List Int) : orL (a ++ b) = if orL a = 0 then orL b else orL a := by
 induction a with
 | nil => simp [orL]
 | cons x a ih =>
  rw [List.cons_append, orL, orL, ih]
  by_cases h : x = 0
  · rw [if_pos h, if_pos h]
  · rw [if_neg h, if_neg h, if_neg h]
theorem vown_orL_pre {a : List V} {x : V} {l : List V} (h : a ++ [x] <+: l) (h0 : orL (a.map vown) = 0) (h1 : vown x ≠ 0) : orL (l.map vown) = vown x := by
 obtain ⟨t, rfl⟩ := h
 rw [List.map_append, List.map_append, List.append_assoc, orL_app, if_pos h0, orL_app]
 simp [orL, h1]
set_option maxHeartbeats 4000000 in
theorem Check_in (n : Nat) (hn : 4 ≤ n) (x : V) (cs : List Value) (w : World) (hLD : LaidW w) (hK : k28.K w x cs) (hO : OkV x) :
 CallsIn Fence.wide n Tryz.prog 62 #[.agg cs.toArray] w fun e W' => e = .returned (.int .i64 (vchk x)) ∧ Below w.heap.size w W' := by
 have h1 : 1 ≤ n := by omega
 have hcs := k28.K_len hK
 obtain ⟨a0, a1, a2, a3, a4, a5, a6, rfl⟩ := list7 hcs
 have HK := Lib.hid hK
 have HL := Lib.hid hLD
 have HO := Lib.hid hO
 have HCS := Lib.hid hcs
 obtain ⟨W2, hW2⟩ : ∃ W2, W2 = (w.alloc (.cells #[a0, a1, a2, a3, a4, a5, a6] 28)).alloc (.cells #[.int .i64 0] 30) := ⟨_, rfl⟩
 have hb2 : Below w.heap.size w W2 := by rw [hW2]; exact ((Below.refl _ _).alloc (Nat.le_refl _) _).alloc (by simp) _
 have hv2 : W2.heap[w.heap.size]? = some (.cells #[a0, a1, a2, a3, a4, a5, a6] 28 (0, 0)) := by rw [hW2]; exact blk_alloc (blk_new _ _) _
 have hr2 : W2.heap[w.heap.size + 1]? = some (.cells #[.int .i64 0] 30 (0, 0)) := by rw [hW2]; have := blk_new (w.alloc (.cells #[a0, a1, a2, a3, a4, a5, a6] 28)) (.cells #[.int .i64 0] 30); rwa [World.size_alloc] at this
 have HB2 := Lib.hid hb2
 have HV2 := Lib.hid hv2
 have HR2 := Lib.hid hr2
 have HW2 := Lib.hid hW2
 clear hK hLD hO hcs hb2 hv2 hr2 hW2
 have arm1 : Hid (CallsIn Fence.wide (n - 1) Tryz.prog 94 #[.agg #[a0, a1, a2, a3, a4, a5, a6]] W2 fun e w1 => e = .returned (.int .i64 (vdeep 1000 x)) ∧ Below W2.heap.size W2 w1) := Lib.hid (callsIn_wide.2 (Deep_any x _ _ (k28.K_below HB2.out HK.out)))
 unfold vchk
 by_cases hd : 64 < vdeep 1000 x
 · rw [if_pos hd]
   have hd2 : (64 : Int) < (vdeep 1000 x : Int) := by omega
   rw [HW2.out] at arm1 HV2 HR2 HB2
   refine callsIn_of_wp_marks Tryz.func62 rfl trivial ?_ rfl
   simp only [Tryz.ntmps62, List.size_toArray, List.length_cons, List.length_nil, Nat.reduceAdd, Nat.reduceSub, Array.replicate_succ, Array.replicate_zero, List.push_toArray, List.append_toArray, List.nil_append, List.cons_append]
   gi_wp2_with (first | (refine ⟨trivial, ?_⟩; gi_at_call 94; refine arm1.out.mono ?_; clear arm1; rintro e w1 ⟨rfl, hB1⟩; obtain ⟨hcl, hfz⟩ := bcells HV2.out hB1; obtain ⟨hcr, hfr⟩ := bcells HR2.out hB1))
   exact ⟨.int .i64 42, by simp [results, Tryz.f62, go_sem, hcr, hfr], rfl, (HB2.out.trans (hB1.mono HB2.out.size)).setCell (p := ⟨w.heap.size + 1, 0, none⟩) (by simp) _⟩
 rw [if_neg hd]
 have hd2 : ¬ (64 : Int) < (vdeep 1000 x : Int) := by omega
 have arm2 : Hid (∀ w1, Below W2.heap.size W2 w1 → CallsIn Fence.wide (n - 1) Tryz.prog 95 #[.agg #[a0, a1, a2, a3, a4, a5, a6]] w1 fun e w2 => e = .returned (.int .i64 (vsize x)) ∧ Below w1.heap.size w1 w2) := Lib.hid fun w1 h => callsIn_wide.2 (Size_any x _ _ (k28.K_below (HB2.out.trans (h.mono HB2.out.size)) HK.out))
 by_cases hz : 16384 < vsize x
 · rw [if_pos hz]
   have hz2 : (16384 : Int) < (vsize x : Int) := by omega
   rw [HW2.out] at arm1 arm2 HV2 HR2 HB2
   refine callsIn_of_wp_marks Tryz.func62 rfl trivial ?_ rfl
   simp only [Tryz.ntmps62, List.size_toArray, List.length_cons, List.length_nil, Nat.reduceAdd, Nat.reduceSub, Array.replicate_succ, Array.replicate_zero, List.push_toArray, List.append_toArray, List.nil_append, List.cons_append]
   gi_wp2_with (first
    | (refine ⟨trivial, ?_⟩; gi_at_call 94; refine arm1.out.mono ?_; clear arm1; rintro e w1 ⟨rfl, hB1⟩; obtain ⟨hcl, hfz⟩ := bcells HV2.out hB1; have hv3 := blk_below2 HV2.out hB1; have hr3 := blk_below2 HR2.out hB1)
    | (refine ⟨trivial, ?_⟩; gi_at_call 95; refine (arm2.out _ hB1).mono ?_; clear arm2; rintro e w2 ⟨rfl, hB3⟩; obtain ⟨hcr, hfr⟩ := bcells hr3 hB3))
   exact ⟨.int .i64 3, by simp [results, Tryz.f62, go_sem, hcr, hfr], rfl, (HB2.out.trans ((hB1.trans (hB3.mono hB1.size)).mono HB2.out.size)).setCell (p := ⟨w.heap.size + 1, 0, none⟩) (by simp) _⟩
 rw [if_neg hz]
 have hz2 : ¬ (16384 : Int) < (vsize x : Int) := by omega
 have H2 := HW2.out
 rw [HW2.out] at arm1 arm2 HV2 HR2 HB2
 refine callsIn_of_wp_marks Tryz.func62 rfl trivial ?_ rfl
 simp only [Tryz.ntmps62, List.size_toArray, List.length_cons, List.length_nil, Nat.reduceAdd, Nat.reduceSub, Array.replicate_succ, Array.replicate_zero, List.push_toArray, List.append_toArray, List.nil_append, List.cons_append]
 gi_wp2_with (first
  | (refine ⟨trivial, ?_⟩; gi_at_call 94; refine arm1.out.mono ?_; clear arm1; rintro e w1 ⟨rfl, hB1⟩; obtain ⟨hcl, hfz⟩ := bcells HV2.out hB1; have hv3 := blk_below2 HV2.out hB1; have hr3 := blk_below2 HR2.out hB1)
  | (refine ⟨trivial, ?_⟩; gi_at_call 95; refine (arm2.out _ hB1).mono ?_; clear arm2; rintro e w2 ⟨rfl, hB3⟩; obtain ⟨hcl2, hfz2⟩ := bcells hv3 hB3; have hr4 := blk_below2 hr3 hB3)
  | (refine ⟨trivial, ?_⟩; gi_at_call 96; refine (all_in (n - 1) [a0, a1, a2, a3, a4, a5, a6] rfl _).mono ?_; rintro e w4 ⟨rfl, rfl⟩))
 have hBw : Below w.heap.size w w2 := HB2.out.trans ((hB1.trans (hB3.mono hB1.size)).mono HB2.out.size)
 have hsz : w.heap.size + 2 ≤ w2.heap.size := by have h1 := hB1.size; have h3 := hB3.size; simp only [World.size_alloc] at h1 h3; omega
 obtain ⟨W0, hW0⟩ : ∃ W0, W0 = w2.alloc (.cells #[a0, a1, a2, a3, a4, a5, a6] 28) := ⟨_, rfl⟩
 have hb0 : Below w.heap.size w W0 := by rw [hW0]; exact hBw.alloc hBw.size _
 have hr0 : W0.heap[w.heap.size + 1]? = some (.cells #[.int .i64 0] 30 (0, 0)) := by rw [hW0]; exact blk_alloc hr4 _
 have hx0 : W0.heap[w2.heap.size]? = some (.cells #[a0, a1, a2, a3, a4, a5, a6] 28 (0, 0)) := by rw [hW0]; exact blk_new _ _
 have hk0 : k28.K W0 x [a0, a1, a2, a3, a4, a5, a6] := k28.K_below hb0 HK.out
 have hl0 : LaidW W0 := HL.out.below hb0
 have hs0 : W0.heap.size = w2.heap.size + 1 := by rw [hW0]; simp
 rw [← hW0]
 have HB0 := Lib.hid hb0
 have HR0 := Lib.hid hr0
 have HX0 := Lib.hid hx0
 have HK0 := Lib.hid hk0
 have HL0 := Lib.hid hl0
 have HS0 := Lib.hid hs0
 clear hBw hB1 hB3 hcl hfz hcl2 hfz2 hv3 hr3 hr4 HV2 HR2 HB2 H2 hb0 hr0 hx0 hk0 hl0 hs0 hW0
 generalize decide ((64 : Int) < (vdeep 1000 x : Int)) = b1
 generalize decide ((16384 : Int) < (vsize x : Int)) = b2
 refine wpIn_rangeFunc_ownH rfl h1 (gf := 135) (lb := #[.pointer (some ⟨w2.heap.size, 0, none⟩)]) rfl trivial (enters_of Tryz.func135 (by kernel_rfl) rfl)
  (all_stops x HO.out [a0, a1, a2, a3, a4, a5, a6] rfl HK0.out (n - 1) w2.heap.size HX0.out) kpC_t (kpC_b (Nat.le_refl _)) (Below.refl _ _) (fun _ => rfl)
  (fun pre W => orL ((elv pre).map vown) = 0 ∧ Below W0.heap.size W0 W)
  (fun c pre W => (c = .ret ∧ (∃ l y, pre = l ++ [y] ∧ orL ((elv l).map vown) = 0 ∧ vown y.1.1 ≠ 0 ∧ W.cell? ⟨w.heap.size + 1, 0, none⟩ = some (.int .i64 (vown y.1.1)))) ∧ Below w.heap.size w W)
  (OwnFrom.and (fun _ _ _ _ hs _ _ => hs) (ownFrom_below (Nat.le_refl _) (Nat.le_refl _)))
  (fun c => OwnFrom.and (Own.from (fun s A B row hs hg hr => by
   obtain ⟨h0, l, y, hl, hg0, hy, hc1⟩ := hs
   exact ⟨h0, l, y, hl, hg0, hy, cell_kept hc1 hg hr⟩) _) (ownFrom_below (Nat.le_refl _) (by have := HS0.out; omega)))
  ⟨rfl, Below.refl _ _⟩
  (fun y a' W => ∃ Bx, W0.heap.size ≤ Bx ∧ W.heap[Bx]? = some (.cells y.1.2.toArray 28 (0, 0)) ∧ a' = { tmps := #[.agg #[a0, a1, a2, a3, a4, a5, a6], .pointer (some ⟨w.heap.size, 0, none⟩), .pointer (some ⟨w.heap.size + 1, 0, none⟩), .pointer (some ⟨Bx, 0, none⟩), undef, .bool b1, .agg #[a0, a1, a2, a3, a4, a5, a6], .int .i64 (vdeep 1000 x), .bool b1, .bool b2, .agg #[a0, a1, a2, a3, a4, a5, a6], .int .i64 (vsize x), .bool b2, .agg #[a0, a1, a2, a3, a4, a5, a6], .func (.func 135) #[] #[.pointer (some ⟨w2.heap.size, 0, none⟩)], .agg y.1.2.toArray, undef, undef, undef, undef, undef], defers := [] })
  (fun y a' s W W' row hs hg hr => by
   obtain ⟨Bx, hle, hb, ha⟩ := hs
   exact ⟨Bx, hle, (hg.block Bx (blk_lt hb) (fun e => by obtain ⟨_, o, ho, hc⟩ := hr _ e.symm; rw [hb] at ho; cases ho; cases hc)).trans hb, ha⟩)
  ?assign ?body ?done ?stop
 case assign =>
  rintro l pre ⟨⟨v, cs⟩, hK, hO⟩ W K ⟨hi, hB⟩ hKK
  replace hK : k28.K W0 v cs := hK
  obtain ⟨A2, c2, A5, c5, A6, c6, rfl, _⟩ := k28_open hK
  gi_wp2
  exact hKK _ _ ((KeepsOthers.alloc _ _).from _) (kpC_below hB.size (below_alloc (Below.refl _ _) _)) ⟨hi, hB.alloc hB.size _⟩ ⟨W.heap.size, hB.size, blk_new _ _, rfl⟩
 case body =>
  rintro l pre ⟨⟨v, cs⟩, hK, hO⟩ a' W hl hr ⟨hi, hB⟩ ⟨Bx, hBx, hbx, rfl⟩ _
  replace hK : k28.K W0 v cs := hK
  replace hO : OkV v := hO
  replace hbx : W.heap[Bx]? = some (.cells cs.toArray 28 (0, 0)) := hbx
  obtain ⟨x1, hx1⟩ : ∃ x1 : El W0, x1 = ⟨(v, cs), hK, hO⟩ := ⟨_, rfl⟩
  have hv1 : x1.1.1 = v := by rw [hx1]
  rw [← hx1]
  have hv2 : elv (pre ++ [x1]) = elv pre ++ [v] := by rw [elv_app, ← hv1]; rfl
  obtain ⟨A2, c2, A5, c5, A6, c6, rfl, _⟩ := k28_open hK
  have hd1 : 1 ≤ n - 1 - 1 := by omega
  have hBw := HB0.out.trans (hB.mono HB0.out.size)
  have hcall := Lib.hid (own_any v _ W (HL0.out.below hB) (k28.K_below hB hK) hO)
  have e0 := (blk_cell hbx 0).trans rfl
  have e1 := (blk_cell hbx 1).trans rfl
  have e2 := (blk_cell hbx 2).trans rfl
  have e3 := (blk_cell hbx 3).trans rfl
  have e4 := (blk_cell hbx 4).trans rfl
  have e5 := (blk_cell hbx 5).trans rfl
  have e6 := (blk_cell hbx 6).trans rfl
  have HI := Lib.hid hi
  have HBB := Lib.hid hB
  have HBW := Lib.hid hBw
  have HV := Lib.hid hv2
  have HV1 := Lib.hid hv1
  have hrw : W.heap[w.heap.size + 1]? = some (.cells #[.int .i64 0] 30 (0, 0)) := (hB.block _ (blk_lt HR0.out)).trans HR0.out
  have HRW := Lib.hid hrw
  clear hi hB hBw hx1 hv2 hv1 hK hO hrw hbx
  by_cases hz : vown v = 0
  · rw [hz] at hcall
    gi_wp2_with (first | (refine ⟨trivial, ?_⟩; gi_at_call 97; refine (CallsIn.inRound l (callsIn_wide.2 hcall.out)).mono ?_; rintro e w5 ⟨rfl, hB5⟩))
    exact ⟨(keepsO_below hB5).from _, kpC_below HBB.out.size hB5, ⟨by rw [HV.out, List.map_append, orL_app, if_pos HI.out]; simp [orL, hz], HBB.out.trans (hB5.mono HBB.out.size)⟩⟩
  · have hzb : (vown v != 0) = true := by simpa using hz
    have HZ := Lib.hid hz
    clear hz
    gi_wp2_with (first | (refine ⟨trivial, ?_⟩; gi_at_call 97; refine (CallsIn.inRound l (callsIn_wide.2 hcall.out)).mono ?_; rintro e w5 ⟨rfl, hB5⟩; obtain ⟨hcr, hfr⟩ := bcells HRW.out hB5))
    exact ⟨((keepsO_below hB5).trans (KeepsOthers.setCell _ _ _)).from _, ⟨rfl, pre, x1, rfl, HI.out, by rw [HV1.out]; exact HZ.out, by rw [HV1.out]; go_simp⟩, (HBW.out.trans (hB5.mono HBW.out.size)).setCell (p := ⟨w.heap.size + 1, 0, none⟩) (by simp) _⟩
 case done =>
  rintro D ys W hD hys ⟨hi, hB⟩ hK
  have hBw := HB0.out.trans (hB.mono HB0.out.size)
  have hrw : W.heap[w.heap.size + 1]? = some (.cells #[.int .i64 0] 30 (0, 0)) := (hB.block _ (blk_lt HR0.out)).trans HR0.out
  have hcr : W.cell? ⟨w.heap.size + 1, 0, none⟩ = some (.int .i64 0) := (blk_cell hrw 0).trans rfl
  have hfr := blk_frozen hrw 0
  have HI := Lib.hid hi
  have HY := Lib.hid hys
  have HBW := Lib.hid hBw
  have HK := Lib.hid hK
  clear hi hys hB hBw hK hrw
  gi_wp2
  have hK' := (KeepsOthers.setCell W ⟨w.heap.size + 1, 0, none⟩ (.int .i64 0)).same D _ HK.out rfl
  refine ⟨by simp, .inl ⟨_, _, rfl, run_takeDeferred hK', ?_⟩⟩
  have e2 : (W.setCell ⟨w.heap.size + 1, 0, none⟩ (.int .i64 0)).cell? ⟨w.heap.size + 1, 0, none⟩ = some (.int .i64 0) := by go_simp
  have k2 := cell_kept e2 (grownBy_putObj' _ D (.deferred none)) (fun r e => by cases e; exact ⟨_, hK', rfl⟩)
  refine ⟨.int .i64 0, by simp [results, Tryz.f62, go_sem, k2], ?_, (HBW.out.setCell (p := ⟨w.heap.size + 1, 0, none⟩) (by simp) _).trans (belowK_b (w := w) (Nat.le_refl _) _ D _ _ (by have := HB0.out.size; omega) hK' rfl rfl)⟩
  rw [← HY.out, HI.out]
 case stop =>
  rintro D c pre W hD hpre ⟨⟨rfl, l, y, rfl, hl, hy, e2⟩, hB⟩ hK
  have HB := Lib.hid hB
  have HK := Lib.hid hK
  have HL := Lib.hid hl
  have HP := Lib.hid hpre
  have HY := Lib.hid hy
  clear hB hK hl hpre hy
  gi_wp2
  refine ⟨by simp, .inl ⟨_, _, rfl, run_takeDeferred HK.out, ?_⟩⟩
  have k2 := cell_kept e2 (grownBy_putObj' _ D (.deferred none)) (fun r e => by cases e; exact ⟨_, HK.out, rfl⟩)
  refine ⟨.int .i64 (vown y.1.1), by simp [results, Tryz.f62, go_sem, k2], ?_, HB.out.trans (belowK_b (w := w) (Nat.le_refl _) W D _ _ (by have := HB0.out.size; omega) HK.out rfl rfl)⟩
  have hp := HP.out
  rw [elv_app] at hp
  rw [vown_orL_pre hp HL.out HY.out]
theorem Check_any (x : V) (cs : List Value) (w : World) (hLD : LaidW w) (hK : k28.K w x cs) (hO : OkV x) :
 Calls Tryz.prog 62 #[.agg cs.toArray] w fun e w' => e = .returned (.int .i64 (vchk x)) ∧ Below w.heap.size w w' :=
 callsIn_wide.1 (Check_in 4 (Nat.le_refl _) x cs w hLD hK hO)
end Go.Proofs.YthigbklhngihkaaGreatDoor.P
namespace Go.Proofs.YthigbklhngihkaaGreatDoor.P
open Go.RowKit Go.Proofs.YthigbklhngihkaaGreatDoorW.PrintWords Go.Proofs.YthigbklhngihkaaGreatDoorW.PrintMore Go.Proofs.YthigbklhngihkaaGreatDoorW.PrintLast
mutual
def vord : V → V → Int
 | ⟨k, n, t, l, ks⟩, b => if cmpI k b.f0 ≠ 0 ∨ k ≠ 3 then orL [cmpI k b.f0, strC t b.f2, lexC strC ks b.f4, vords l b.f3] else dcmp n b.f1
def vords : List V → List V → Int
 | [], [] => 0
 | [], _ :: _ => -1
 | _ :: _, [] => 1
 | x :: l, y :: r => if vord x y = 0 then vords l r else vord x y
end
theorem vords_lex : ∀ (l r : List V), vords l r = lexC vord l r
 | [], [] => by rw [vords, lexC]
 | [], _ :: _ => by rw [vords, lexC]
 | _ :: _, [] => by rw [vords, lexC]
 | x :: l, y :: r => by rw [vords, lexC, vords_lex l r]
theorem vord_eq (a b : V) : vord a b = if cmpI a.f0 b.f0 ≠ 0 ∨ a.f0 ≠ 3 then orL [cmpI a.f0 b.f0, strC a.f2 b.f2, lexC strC a.f4 b.f4, lexC vord a.f3 b.f3] else dcmp a.f1 b.f1 := by
 cases a; rw [vord, vords_lex]
inductive NumOk : V → Prop
 | mk (x : V) (h : x.f0 = 3 → decOkB x.f1 = true) (hk : ∀ y ∈ x.f3, NumOk y) : NumOk x
theorem NumOk.kids {x : V} (h : NumOk x) : ∀ y ∈ x.f3, NumOk y := by cases h; assumption
theorem NumOk.num {x : V} (h : NumOk x) : x.f0 = 3 → decOkB x.f1 = true := by cases h; assumption
set_option maxHeartbeats 1000000 in
theorem CompareFunc_in (l r : List V) (A : Option Addr) (c : Nat) (B : Option Addr) (d : Nat) (w : World) (hA : k28.C w A l.length l) (hB : k28.C w B r.length r) (hl : l.length ≤ 1073741824)
 (ih : ∀ x ∈ l, ∀ y ∈ r, ∀ cs ds W, k28.K W x cs → k28.K W y ds → Calls Tryz.prog 63 #[.agg cs.toArray, .agg ds.toArray] W fun e w' => e = .returned (.int .i64 (vord x y)) ∧ Below W.heap.size W w') :
 Calls Tryz.prog 102 #[.slice A l.length c, .slice B r.length d, .func (.func 63) #[] #[]] w fun e w' => e = .returned (.int .i64 (lexC vord l r)) ∧ Below w.heap.size w w' := by
 have HA := Lib.hid hA
 have HB := Lib.hid hB
 have HI := Lib.hid ih
 have hlen := hB.2.1
 clear hA hB ih
 go_enter Tryz.func102, Tryz.ntmps102
 go_wp2
 go_loopw [13] (fun vi wr => ∃ k : Nat, k ≤ l.length ∧ k ≤ r.length ∧ vi = .int .i64 k ∧ Hid (∀ i, i < k → vord (l.getD i z28) (r.getD i z28) = 0) ∧ Below w.heap.size w wr) (fun vi _ => l.length - (intOf vi).toNat)
 case atStart => exact ⟨0, Nat.zero_le _, Nat.zero_le _, rfl, Lib.hid (fun i hi => by omega), Below.refl _ _⟩
 case round =>
  obtain ⟨k, hk, hk2, rfl, hz, hBw⟩ := hrel
  have HBW := Lib.hid hBw
  have hsz := hBw.size
  clear hBw
  by_cases hlt : k < l.length
  · obtain ⟨ad, a0, a1, a2, a3, a4, a5, a6, rfl, hKa, p0, p1, p2, p3, p4, p5, p6⟩ := at_V HA.out HBW.out k hlt
    have e1 : rd_T28 l (k : Int) = l.getD k z28 := by unfold rd_T28; rw [Int.toNat_natCast]
    rw [e1] at hKa
    clear e1
    have hki : (k : Int) < (l.length : Int) := by omega
    by_cases hlt2 : k < r.length
    · obtain ⟨bd, b0, b1, b2, b3, b4, b5, b6, rfl, hKb, q0, q1, q2, q3, q4, q5, q6⟩ := at_V HB.out HBW.out k hlt2
      have e2 : rd_T28 r (k : Int) = r.getD k z28 := by unfold rd_T28; rw [Int.toNat_natCast]
      rw [e2] at hKb
      clear e2
      have hmx : l.getD k z28 ∈ l := by rw [List.getD_eq_getElem?_getD, List.getElem?_eq_getElem hlt]; exact List.getElem_mem hlt
      have hmy : r.getD k z28 ∈ r := by rw [List.getD_eq_getElem?_getD, List.getElem?_eq_getElem hlt2]; exact List.getElem_mem hlt2
      have HC := Lib.hid (fun W (hW : Below w.heap.size w W) => HI.out _ hmx _ hmy _ _ W (k28.K_below hW hKa) (k28.K_below hW hKb))
      have HZ : Hid (vord (l.getD k z28) (r.getD k z28) ≠ 0 → lexC vord l r = vord (l.getD k z28) (r.getD k z28)) := Lib.hid (fun h => lexC_at vord _ k l r hlt hlt2 hz.out h)
      have HZ2 : Hid (vord (l.getD k z28) (r.getD k z28) = 0 → ∀ i, i < k + 1 → vord (l.getD i z28) (r.getD i z28) = 0) := Lib.hid (fun h i hi => by
       rcases Nat.lt_or_ge i k with h' | h'
       · exact hz.out i h'
       · rw [show i = k by omega]; exact h)
      clear hmx hmy hz
      generalize l.getD k z28 = x at *
      generalize r.getD k z28 = y at *
      generalize hcv : vord x y = cv at *
      clear hcv
      obtain ⟨A2, c2, A5, c5, A6, c6, e, _⟩ := k28_open hKa
      simp only [List.cons.injEq, and_true] at e
      obtain ⟨rfl, rfl, rfl, rfl, rfl, rfl, rfl⟩ := e
      obtain ⟨B2, d2, B5, d5, B6, d6, e, _⟩ := k28_open hKb
      simp only [List.cons.injEq, and_true] at e
      obtain ⟨rfl, rfl, rfl, rfl, rfl, rfl, rfl⟩ := e
      have Q0 := fun o => pw_cell_below ((Below.refl wr.heap.size wr).alloc (Nat.le_refl _) o) q0
      have Q1 := fun o => pw_cell_below ((Below.refl wr.heap.size wr).alloc (Nat.le_refl _) o) q1
      have Q2 := fun o => pw_cell_below ((Below.refl wr.heap.size wr).alloc (Nat.le_refl _) o) q2
      have Q3 := fun o => pw_cell_below ((Below.refl wr.heap.size wr).alloc (Nat.le_refl _) o) q3
      have Q4 := fun o => pw_cell_below ((Below.refl wr.heap.size wr).alloc (Nat.le_refl _) o) q4
      have Q5 := fun o => pw_cell_below ((Below.refl wr.heap.size wr).alloc (Nat.le_refl _) o) q5
      have Q6 := fun o => pw_cell_below ((Below.refl wr.heap.size wr).alloc (Nat.le_refl _) o) q6
      clear q0 q1 q2 q3 q4 q5 q6
      have g1 : ¬ (r.length : Int) ≤ (k : Int) := by omega
      have hki2 : (k : Int) < (r.length : Int) := by omega
      have HK1 : Hid (k + 1 ≤ l.length ∧ k + 1 ≤ r.length) := Lib.hid ⟨hlt, hlt2⟩
      have HB2 : Hid (∀ o1 o2, Below w.heap.size w ((wr.alloc o1).alloc o2)) := Lib.hid (fun o1 o2 => (HBW.out.alloc hsz o1).alloc (by simp; omega) o2)
      have HSZ : Hid (∀ o1 o2, w.heap.size ≤ ((wr.alloc o1).alloc o2).heap.size) := Lib.hid (fun o1 o2 => by simp; omega)
      have HKB : Hid (k ≤ 4611686018427387904) := Lib.hid (by omega)
      clear hKa hKb
      by_cases h0 : cv = 0
      · have hn : (cv != 0) = false := by simp [h0]
        have HZ3 := Lib.hid (HZ2.out h0)
        clear HZ HZ2 h0
        go_wp2_with (first | (go_at_call 63; (with_reducible refine (HC.out _ (HB2.out _ _)).mono ?_); rintro e w2 ⟨rfl, hB2⟩; have HB3 := Lib.hid ((HB2.out _ _).trans (hB2.mono (HSZ.out _ _))); clear hB2))
        go_roundw
        case rel => exact ⟨k + 1, HK1.out.1, HK1.out.2, by first | exact congrArg (Value.int .i64) (wrap64_up k HKB.out) | rfl, HZ3, HB3.out⟩
        case measure => first | (rw [wrap64_up k HKB.out]; show l.length - (k + 1) < l.length - k; omega) | (show l.length - (k + 1) < l.length - k; omega)
      · have hn : (cv != 0) = true := by simp [h0]
        have hr := Lib.hid (HZ.out h0)
        clear HZ HZ2 h0
        go_wp2_with (first | (go_at_call 63; (with_reducible refine (HC.out _ (HB2.out _ _)).mono ?_); rintro e w2 ⟨rfl, hB2⟩; have HB3 := Lib.hid ((HB2.out _ _).trans (hB2.mono (HSZ.out _ _))); clear hB2))
        go_ret
        exact ⟨by rw [hr.out]; rfl, HB3.out⟩
    · obtain rfl : k = r.length := by omega
      have hr : Hid (lexC vord l r = 1) := Lib.hid (lexC_long vord _ l r hlt hz.out)
      have g1 : (r.length : Int) ≤ (r.length : Int) := by omega
      obtain ⟨A2, c2, A5, c5, A6, c6, e, _⟩ := k28_open hKa
      simp only [List.cons.injEq, and_true] at e
      obtain ⟨rfl, rfl, rfl, rfl, rfl, rfl, rfl⟩ := e
      clear hz hKa
      go_wp2
      go_ret
      exact ⟨by rw [hr.out]; rfl, HBW.out.alloc hsz _⟩
  · obtain rfl : k = l.length := by omega
    have hr : Hid (lexC vord l r = if l.length < r.length then -1 else 0) := Lib.hid (lexC_end vord _ l r hk2 hz.out)
    clear hz
    by_cases hlr : l.length < r.length
    · have hlr2 : (l.length : Int) < (r.length : Int) := by omega
      rw [if_pos hlr] at hr
      clear hlr
      go_wp2
      go_ret
      exact ⟨by rw [hr.out]; rfl, HBW.out⟩
    · have hlr2 : ¬ (l.length : Int) < (r.length : Int) := by omega
      rw [if_neg hlr] at hr
      clear hlr
      go_wp2
      go_ret
      exact ⟨by rw [hr.out]; rfl, HBW.out⟩
structure Tr (p q r : Int) : Prop where
 le : p ≤ 0 → q ≤ 0 → r ≤ 0
 lt1 : p < 0 → q ≤ 0 → r < 0
 lt2 : p ≤ 0 → q < 0 → r < 0
 eq : p = 0 → q = 0 → r = 0
theorem Tr.next {p q r p' q' r' : Int} (h : Tr p q r) (k : Tr p' q' r') : Tr (if p = 0 then p' else p) (if q = 0 then q' else q) (if r = 0 then r' else r) := by
 obtain ⟨a1, a2, a3, a4⟩ := h
 obtain ⟨b1, b2, b3, b4⟩ := k
 by_cases hp : p = 0 <;> by_cases hq : q = 0
 · have hr := a4 hp hq
   simp only [hp, hq, hr, if_true]
   exact ⟨b1, b2, b3, b4⟩
 · simp only [hp, if_true, if_neg hq]
   by_cases hr : r = 0
   · refine ⟨fun h1 h2 => ?_, fun h1 h2 => ?_, fun h1 h2 => ?_, fun h1 h2 => absurd h2 hq⟩ <;> (have := a3 (by omega) (by omega); omega)
   · simp only [if_neg hr]
     refine ⟨fun h1 h2 => ?_, fun h1 h2 => ?_, fun h1 h2 => ?_, fun h1 h2 => absurd h2 hq⟩ <;> (have := a3 (by omega) (by omega); omega)
 · simp only [hq, if_true, if_neg hp]
   by_cases hr : r = 0
   · refine ⟨fun h1 h2 => ?_, fun h1 h2 => ?_, fun h1 h2 => ?_, fun h1 h2 => absurd h1 hp⟩ <;> (have := a2 (by omega) (by omega); omega)
   · simp only [if_neg hr]
     refine ⟨fun h1 h2 => ?_, fun h1 h2 => ?_, fun h1 h2 => ?_, fun h1 h2 => absurd h1 hp⟩ <;> (have := a2 (by omega) (by omega); omega)
 · simp only [if_neg hp, if_neg hq]
   by_cases hr : r = 0
   · refine ⟨fun h1 h2 => ?_, fun h1 h2 => ?_, fun h1 h2 => ?_, fun h1 h2 => absurd h1 hp⟩ <;> (have := a2 (by omega) (by omega); omega)
   · simp only [if_neg hr]
     exact ⟨a1, a2, a3, a4⟩
theorem cmpI_tr (x y z : Int) : Tr (cmpI x y) (cmpI y z) (cmpI x z) := by
 have h : ∀ a b : Int, (a < b ∧ cmpI a b = -1) ∨ (b < a ∧ cmpI a b = 1) ∨ (a = b ∧ cmpI a b = 0) := fun a b => by unfold cmpI; split <;> (try split) <;> omega
 have h1 := h x y
 have h2 := h y z
 have h3 := h x z
 constructor <;> intro h4 h5 <;> omega
theorem cmpI_anti (x y : Int) : cmpI y x = - cmpI x y := by
 unfold cmpI
 split <;> (try split) <;> (try split) <;> (try split) <;> omega
theorem bless_irr : ∀ l : List UInt8, Op.bytesLess l l = false
 | [] => rfl
 | a :: l => by simp [Op.bytesLess, bless_irr l]
theorem bless_cases : ∀ a b : List UInt8, Op.bytesLess a b = true ∨ a = b ∨ Op.bytesLess b a = true
 | [], [] => .inr (.inl rfl)
 | [], _ :: _ => .inl (by simp [Op.bytesLess])
 | _ :: _, [] => .inr (.inr (by simp [Op.bytesLess]))
 | a :: x, b :: y => by
  rcases Nat.lt_trichotomy a.toNat b.toNat with h | h | h
  · exact .inl (by simp [Op.bytesLess, UInt8.lt_iff_toNat_lt, h])
  · have e : a = b := UInt8.toNat_inj.1 h
    subst e
    rcases bless_cases x y with h | h | h
    · exact .inl (by simp [Op.bytesLess, h])
    · exact .inr (.inl (by rw [h]))
    · exact .inr (.inr (by simp [Op.bytesLess, h]))
  · exact .inr (.inr (by simp [Op.bytesLess, UInt8.lt_iff_toNat_lt, h]))
theorem bless_trans : ∀ a b c : List UInt8, Op.bytesLess a b = true → Op.bytesLess b c = true → Op.bytesLess a c = true
 | [], [], _, h, _ => by simp [Op.bytesLess] at h
 | _, _, [], _, h => by simp [Op.bytesLess] at h
 | _ :: _, [], _, h, _ => by simp [Op.bytesLess] at h
 | [], _ :: _, _ :: _, _, _ => by simp [Op.bytesLess]
 | a :: x, b :: y, c :: z, h1, h2 => by
  simp only [Op.bytesLess, Bool.or_eq_true, Bool.and_eq_true, decide_eq_true_eq, beq_iff_eq, UInt8.lt_iff_toNat_lt] at h1 h2 ⊢
  rcases h1 with h1 | ⟨rfl, h1⟩
  · rcases h2 with h2 | ⟨rfl, h2⟩
    · exact .inl (by omega)
    · exact .inl h1
  · rcases h2 with h2 | ⟨rfl, h2⟩
    · exact .inl h2
    · exact .inr ⟨rfl, bless_trans x y z h1 h2⟩
theorem strC_cases (a b : ByteArray) : (Op.bytesLess a.toList b.toList = true ∧ strC a b = -1) ∨ (Op.bytesLess b.toList a.toList = true ∧ strC a b = 1) ∨ (a.toList = b.toList ∧ strC a b = 0) := by
 unfold strC
 by_cases h : Op.bytesLess a.toList b.toList = true
 · exact .inl ⟨h, if_pos h⟩
 · rw [if_neg h]
   by_cases h2 : a.toList = b.toList
   · exact .inr (.inr ⟨h2, by simp [h2]⟩)
   · refine .inr (.inl ⟨?_, by simp [h2]⟩)
     rcases bless_cases a.toList b.toList with h3 | h3 | h3
     · exact absurd h3 h
     · exact absurd h3 h2
     · exact h3
theorem bless_asymm {a b : List UInt8} (h : Op.bytesLess a b = true) : Op.bytesLess b a = false := by
 cases h2 : Op.bytesLess b a with
 | false => rfl
 | true => have := bless_trans _ _ _ h h2; rw [bless_irr] at this; cases this
theorem strC_anti (a b : ByteArray) : strC b a = - strC a b := by
 rcases strC_cases a b with ⟨h, e⟩ | ⟨h, e⟩ | ⟨h, e⟩ <;> rcases strC_cases b a with ⟨h', e'⟩ | ⟨h', e'⟩ | ⟨h', e'⟩ <;> rw [e, e']
 all_goals first
  | rfl
  | (have := bless_asymm h; rw [h'] at this; cases this)
  | (rw [h'] at h; rw [bless_irr] at h; cases h)
  | (rw [h] at h'; rw [bless_irr] at h'; cases h')
theorem strC_tr (a b c : ByteArray) : Tr (strC a b) (strC b c) (strC a c) := by
 have key : ∀ {x y : ByteArray}, strC x y = -1 ↔ Op.bytesLess x.toList y.toList = true := fun {x y} => by
  rcases strC_cases x y with ⟨h, e⟩ | ⟨h, e⟩ | ⟨h, e⟩
  · simp [h, e]
  · rw [e, bless_asymm h]; simp
  · rw [e, h, bless_irr]; simp
 have key0 : ∀ {x y : ByteArray}, strC x y = 0 ↔ x.toList = y.toList := fun {x y} => by
  rcases strC_cases x y with ⟨h, e⟩ | ⟨h, e⟩ | ⟨h, e⟩
  · rw [e]; constructor
    · intro h; cases h
    · intro h'; rw [h', bless_irr] at h; cases h
  · rw [e]; constructor
    · intro h; cases h
    · intro h'; rw [h', bless_irr] at h; cases h
  · simp [h, e]
 have r1 : strC a b = -1 ∨ strC a b = 1 ∨ strC a b = 0 := by rcases strC_cases a b with ⟨_, e⟩ | ⟨_, e⟩ | ⟨_, e⟩ <;> simp [e]
 have r2 : strC b c = -1 ∨ strC b c = 1 ∨ strC b c = 0 := by rcases strC_cases b c with ⟨_, e⟩ | ⟨_, e⟩ | ⟨_, e⟩ <;> simp [e]
 have l1 : strC a b = -1 → strC b c = -1 → strC a c = -1 := fun h1 h2 => key.2 (bless_trans _ _ _ (key.1 h1) (key.1 h2))
 have l2 : strC a b = -1 → strC b c = 0 → strC a c = -1 := fun h1 h2 => key.2 (by rw [← key0.1 h2]; exact key.1 h1)
 have l3 : strC a b = 0 → strC b c = -1 → strC a c = -1 := fun h1 h2 => key.2 (by rw [key0.1 h1]; exact key.1 h2)
 have l4 : strC a b = 0 → strC b c = 0 → strC a c = 0 := fun h1 h2 => key0.2 ((key0.1 h1).trans (key0.1 h2))
 rcases r1 with h1 | h1 | h1 <;> rcases r2 with h2 | h2 | h2 <;> constructor <;> intro h3 h4 <;> first
  | omega
  | (rw [l1 h1 h2]; decide)
  | (rw [l2 h1 h2]; decide)
  | (rw [l3 h1 h2]; decide)
  | (rw [l4 h1 h2]; decide)
  | exact l4 h1 h2
theorem lexC_anti {α : Type} (f : α → α → Int) : ∀ (l r : List α), (∀ x ∈ l, ∀ y, f y x = - f x y) → lexC f r l = - lexC f l r
 | [], [], _ => by simp [lexC]
 | [], _ :: _, _ => by simp [lexC]
 | _ :: _, [], _ => by simp [lexC]
 | x :: l, y :: r, h => by
  have h1 := h x List.mem_cons_self y
  have h2 := lexC_anti f l r (fun z hz => h z (List.mem_cons_of_mem _ hz))
  rw [lexC, lexC, h1, h2]
  by_cases h0 : f x y = 0
  · rw [if_pos h0, if_pos (by omega)]
  · rw [if_neg h0, if_neg (by omega)]
theorem lexC_tr {α : Type} (f : α → α → Int) : ∀ (l r s : List α), (∀ x ∈ l, ∀ y z, Tr (f x y) (f y z) (f x z)) → Tr (lexC f l r) (lexC f r s) (lexC f l s)
 | [], [], [], _ => by simp only [lexC]; constructor <;> intros <;> omega
 | [], [], _ :: _, _ => by simp only [lexC]; constructor <;> intros <;> omega
 | [], _ :: _, [], _ => by simp only [lexC]; constructor <;> intros <;> omega
 | [], _ :: _, _ :: _, _ => by simp only [lexC]; constructor <;> intros <;> omega
 | _ :: _, [], [], _ => by simp only [lexC]; constructor <;> intros <;> omega
 | _ :: _, [], _ :: _, _ => by simp only [lexC]; constructor <;> intros <;> omega
 | _ :: _, _ :: _, [], _ => by simp only [lexC]; constructor <;> intros <;> omega
 | x :: l, y :: r, z :: s, h => by
  simp only [lexC]
  exact Tr.next (h x List.mem_cons_self y z) (lexC_tr f l r s (fun w hw => h w (List.mem_cons_of_mem _ hw)))
theorem or4_tr {a b c d a' b' c' d' a2 b2 c2 d2 : Int} (ha : Tr a a' a2) (hb : Tr b b' b2) (hc : Tr c c' c2) (hd : Tr d d' d2) : Tr (orL [a, b, c, d]) (orL [a', b', c', d']) (orL [a2, b2, c2, d2]) := by
 have h0 : Tr (0 : Int) 0 0 := by constructor <;> intros <;> omega
 simp only [orL]
 exact Tr.next ha (Tr.next hb (Tr.next hc (Tr.next hd h0)))
theorem or4_anti (a b c d : Int) : orL [-a, -b, -c, -d] = - orL [a, b, c, d] := by
 simp only [orL]
 split <;> (try split) <;> (try split) <;> (try split) <;> (try split) <;> (try split) <;> (try split) <;> (try split) <;> omega
theorem vord_anti : ∀ a b : V, vord b a = - vord a b := by
 refine V.ind fun a ih => ?_
 intro b
 rw [vord_eq, vord_eq, cmpI_anti a.f0 b.f0, strC_anti a.f2 b.f2, lexC_anti strC a.f4 b.f4 (fun x _ y => strC_anti x y), lexC_anti vord a.f3 b.f3 (fun x hx y => ih x hx y)]
 by_cases h : cmpI a.f0 b.f0 ≠ 0 ∨ a.f0 ≠ 3
 · rw [if_pos h, if_pos (by
    rcases h with h | h
    · exact .inl (by omega)
    · by_cases h0 : cmpI a.f0 b.f0 = 0
      · have := cmpI_zero h0
        exact .inr (by omega)
      · exact .inl (by omega)), or4_anti]
 · have h0 : cmpI a.f0 b.f0 = 0 := by omega
   have := cmpI_zero h0
   rw [if_neg h, if_neg (by omega)]
   unfold dcmp
   exact cmpI_anti _ _
theorem vord_tr : ∀ a b c : V, Tr (vord a b) (vord b c) (vord a c) := by
 refine V.ind fun a ih => ?_
 intro b c
 have h1 := cmpI_tr a.f0 b.f0 c.f0
 have h4 := or4_tr h1 (strC_tr a.f2 b.f2 c.f2) (lexC_tr strC a.f4 b.f4 c.f4 (fun x _ y z => strC_tr x y z)) (lexC_tr vord a.f3 b.f3 c.f3 (fun x hx y z => ih x hx y z))
 have hd : Tr (dcmp a.f1 b.f1) (dcmp b.f1 c.f1) (dcmp a.f1 c.f1) := cmpI_tr _ _ _
 have ob : ∀ x y z : Int, ∀ w : Int, w ≠ 0 → orL [w, x, y, z] = w := fun x y z w hw => by simp [orL, hw]
 by_cases k1 : cmpI a.f0 b.f0 = 0
 · have e1 := cmpI_zero k1
   by_cases k2 : cmpI b.f0 c.f0 = 0
   · have e2 := cmpI_zero k2
     rw [vord_eq a b, vord_eq b c, vord_eq a c]
     by_cases k3 : a.f0 = 3
     · rw [if_neg (by omega), if_neg (by omega), if_neg (by have := h1.eq k1 k2; omega)]
       exact hd
     · rw [if_pos (.inr k3), if_pos (.inr (by omega)), if_pos (.inr k3)]
       exact h4
   · have k3 : cmpI a.f0 c.f0 ≠ 0 := by rw [e1]; exact k2
     rw [vord_eq b c, vord_eq a c, if_pos (.inl k2), if_pos (.inl k3), ob _ _ _ _ k2, ob _ _ _ _ k3, e1]
     constructor <;> intros <;> omega
 · by_cases k2 : cmpI b.f0 c.f0 = 0
   · have e2 := cmpI_zero k2
     have k3 : cmpI a.f0 c.f0 ≠ 0 := by rw [← e2]; exact k1
     rw [vord_eq a b, vord_eq a c, if_pos (.inl k1), if_pos (.inl k3), ob _ _ _ _ k1, ob _ _ _ _ k3, ← e2]
     constructor <;> intros <;> omega
   · rw [vord_eq a b, vord_eq b c, vord_eq a c, if_pos (.inl k1), if_pos (.inl k2), ob _ _ _ _ k1, ob _ _ _ _ k2]
     by_cases k3 : cmpI a.f0 c.f0 = 0
     · constructor
       · intro h5 h6; have := h1.lt1 (by omega) h6; omega
       · intro h5 h6; have := h1.lt1 h5 h6; omega
       · intro h5 h6; have := h1.lt2 h5 h6; omega
       · intro h5 h6; exact absurd h5 k1
     · rw [if_pos (.inl k3), ob _ _ _ _ k3]
       exact h1
noncomputable def same {α : Type} (a b : α) : Bool := @decide (a = b) (Classical.propDecidable _)
theorem same_iff {α : Type} {a b : α} : same a b = true ↔ a = b := by unfold same; simp
theorem same_refl {α : Type} (a : α) : same a a = true := same_iff.2 rfl
theorem same_ne {α : Type} {a b : α} (h : a ≠ b) : same a b = false := by
 cases hs : same a b with
 | false => rfl
 | true => exact absurd (same_iff.1 hs) h
theorem ext_getD {α : Type} (z : α) {l r : List α} (h : l.length = r.length) (k : ∀ i, i < l.length → l.getD i z = r.getD i z) : l = r := by
 apply List.ext_getElem h
 intro i h1 h2
 have := k i h1
 rw [List.getD_eq_getElem?_getD, List.getD_eq_getElem?_getD, List.getElem?_eq_getElem h1, List.getElem?_eq_getElem h2] at this
 exact this
set_option maxHeartbeats 1000000 in
theorem dsame_any (a b : D) (A : Option Addr) (c : Nat) (B : Option Addr) (e : Nat) (w : World) (ha : Kd.C (Kd.int .u32) w A a.f1.length a.f1) (hb : Kd.C (Kd.int .u32) w B b.f1.length b.f1) :
 Calls Tryz.prog 64 #[.agg #[.bool a.f0, .slice A a.f1.length c, .int .i64 a.f2], .agg #[.bool b.f0, .slice B b.f1.length e, .int .i64 b.f2]] w fun x w' => x = .returned (.bool (same a b)) ∧ Below w.heap.size w w' := by
 have HA := Lib.hid ha
 have HB' := Lib.hid hb
 have hlen := ha.2.1
 clear ha hb
 cases h0 : (a.f0 == b.f0) with
 | false =>
  have h0b : (a.f0 != b.f0) = true := by simp [bne, h0]
  have hn : a ≠ b := by intro h; rw [h] at h0; simp at h0
  rw [same_ne hn]
  clear hn
  go_enter Tryz.func64, Tryz.ntmps64
  go_wp2
  go_ret
  exact ⟨rfl, ((Below.refl _ _).alloc (Nat.le_refl _) _).alloc (by simp) _⟩
 | true =>
  have h0b : (a.f0 != b.f0) = false := by simp [bne, h0]
  cases h2 : (a.f2 == b.f2) with
  | false =>
   have h2b : (a.f2 != b.f2) = true := by simp [bne, h2]
   have hn : a ≠ b := by intro h; rw [h] at h2; simp at h2
   rw [same_ne hn]
   clear hn
   go_enter Tryz.func64, Tryz.ntmps64
   go_wp2
   go_ret
   exact ⟨rfl, ((Below.refl _ _).alloc (Nat.le_refl _) _).alloc (by simp) _⟩
  | true =>
   have h2b : (a.f2 != b.f2) = false := by simp [bne, h2]
   cases h1 : ((a.f1.length : Int) == (b.f1.length : Int)) with
   | false =>
    have h1b : ((a.f1.length : Int) != (b.f1.length : Int)) = true := by simp [bne, h1]
    have hn : a ≠ b := by intro h; rw [h] at h1; simp at h1
    rw [same_ne hn]
    clear hn
    go_enter Tryz.func64, Tryz.ntmps64
    go_wp2
    go_ret
    exact ⟨rfl, ((Below.refl _ _).alloc (Nat.le_refl _) _).alloc (by simp) _⟩
   | true =>
    have h1b : ((a.f1.length : Int) != (b.f1.length : Int)) = false := by simp [bne, h1]
    have hq : a.f1.length = b.f1.length := by have := eq_of_beq h1; omega
    have HE : Hid (a.f0 = b.f0 ∧ a.f2 = b.f2 ∧ a.f1.length = b.f1.length) := Lib.hid ⟨eq_of_beq h0, eq_of_beq h2, hq⟩
    have HL : Hid (a.f1.length ≤ b.f1.length) := Lib.hid (by omega)
    clear hq
    go_enter Tryz.func64, Tryz.ntmps64
    go_wp2
    have hB0 : Below w.heap.size w ((w.alloc (Obj.cells #[Value.bool a.f0, Value.slice A a.f1.length c, Value.int IntKind.i64 a.f2] 24 (0, 0))).alloc (Obj.cells #[Value.bool b.f0, Value.slice B b.f1.length e, Value.int IntKind.i64 b.f2] 24 (0, 0))) := ((Below.refl _ _).alloc (Nat.le_refl _) _).alloc (by simp) _
    have g1 := blk_new (w.alloc (Obj.cells #[Value.bool a.f0, Value.slice A a.f1.length c, Value.int IntKind.i64 a.f2] 24 (0, 0))) (Obj.cells #[Value.bool b.f0, Value.slice B b.f1.length e, Value.int IntKind.i64 b.f2] 24 (0, 0))
    have g0 := (blk_new w (Obj.cells #[Value.bool a.f0, Value.slice A a.f1.length c, Value.int IntKind.i64 a.f2] 24 (0, 0)))
    replace g0 := (((Below.refl _ (w.alloc (Obj.cells #[Value.bool a.f0, Value.slice A a.f1.length c, Value.int IntKind.i64 a.f2] 24 (0, 0)))).alloc (Nat.le_refl _) (Obj.cells #[Value.bool b.f0, Value.slice B b.f1.length e, Value.int IntKind.i64 b.f2] 24 (0, 0))).block _ (blk_lt g0)).trans g0
    rw [show (w.alloc (Obj.cells #[Value.bool a.f0, Value.slice A a.f1.length c, Value.int IntKind.i64 a.f2] 24 (0, 0))).heap.size = w.heap.size + 1 by simp] at g1
    generalize (w.alloc (Obj.cells #[Value.bool a.f0, Value.slice A a.f1.length c, Value.int IntKind.i64 a.f2] 24 (0, 0))).alloc (Obj.cells #[Value.bool b.f0, Value.slice B b.f1.length e, Value.int IntKind.i64 b.f2] 24 (0, 0)) = w0 at hB0 g0 g1 ⊢
    have G := Lib.hid (And.intro g0 g1)
    have HB0 := Lib.hid hB0
    have HLE : Hid (w.heap.size ≤ w0.heap.size) := Lib.hid hB0.size
    clear g0 g1 hB0
    go_loopw [5] (fun vi wr => ∃ k : Nat, k ≤ a.f1.length ∧ vi = .int .i64 k ∧ Hid (∀ i, i < k → a.f1.getD i 0 = b.f1.getD i 0) ∧ Below w0.heap.size w0 wr) (fun vi _ => a.f1.length - (intOf vi).toNat)
    case atStart => exact ⟨0, Nat.zero_le _, rfl, Lib.hid (fun i h => absurd h (by omega)), Below.refl _ _⟩
    case round =>
     obtain ⟨k, hk, rfl, hu, hB⟩ := hrel
     have HB := Lib.hid hB
     have hBW := Lib.hid (HB0.out.trans (hB.mono HLE.out))
     obtain ⟨hcl0, hfz0⟩ := bcells G.out.1 hB
     obtain ⟨hcl1, hfz1⟩ := bcells G.out.2 hB
     clear hB
     by_cases hlt : k < a.f1.length
     · obtain ⟨ad, rfl, hx⟩ := Kd.at_int (Kd.C_below HA.out hBW.out) (k : Int) (by omega) (by omega)
       obtain ⟨bd, rfl, hy⟩ := Kd.at_int (Kd.C_below HB'.out hBW.out) (k : Int) (by omega) (by have := HL.out; omega)
       rw [Int.toNat_natCast] at hx hy
       have e1 : rd a.f1 (k : Int) = a.f1.getD k 0 := by unfold rd; rw [Int.toNat_natCast]
       have e2 : rd b.f1 (k : Int) = b.f1.getD k 0 := by unfold rd; rw [Int.toNat_natCast]
       rw [e1] at hx
       rw [e2] at hy
       clear e1 e2
       obtain ⟨xa, ha⟩ : ∃ xa, xa = a.f1.getD k 0 := ⟨_, rfl⟩
       obtain ⟨xb, hb⟩ : ∃ xb, xb = b.f1.getD k 0 := ⟨_, rfl⟩
       rw [← ha] at hx
       rw [← hb] at hy
       have hw : wrap64 ((k : Int) + 1) = ((k + 1 : Nat) : Int) := by unfold wrap64; omega
       have hlt2 : (k : Int) < (b.f1.length : Int) := by have := HL.out; omega
       have hlt1 : (k : Int) < (a.f1.length : Int) := by omega
       cases hab : (xa == xb) with
       | false =>
        have habn : (xa != xb) = true := by simp [bne, hab]
        have hr : Hid (same a b = false) := Lib.hid (same_ne (by intro h; rw [ha, hb, h] at hab; simp at hab))
        clear ha hb hu
        go_wp2
        go_quiet (fail)
        go_wp2
        go_ret
        exact ⟨by rw [hr.out]; rfl, pw_below_drewN hBW.out _⟩
       | true =>
        have habn : (xa != xb) = false := by simp [bne, hab]
        have hu' : Hid (∀ i, i < k + 1 → a.f1.getD i 0 = b.f1.getD i 0) := Lib.hid (fun i hi => by
         rcases Nat.lt_or_ge i k with h | h
         · exact hu.out i h
         · obtain rfl : i = k := by omega
           rw [← ha, ← hb]; exact eq_of_beq hab)
        clear ha hb hu
        go_wp2
        go_quiet (fail)
        go_wp2
        go_roundw
        case rel => exact ⟨k + 1, by omega, by go_num, hu', pw_below_drewN HB.out _⟩
        case measure => simp [intOf]; omega
     · obtain rfl : k = a.f1.length := by omega
       have hr : Hid (same a b = true) := Lib.hid (same_iff.2 (by
        obtain ⟨q0, q2, q1⟩ := HE.out
        have := ext_getD 0 q1 hu.out
        cases a; cases b; simp only [S24.mk.injEq]; exact ⟨q0, this, q2⟩))
       clear hu
       go_wp2
       go_ret
       exact ⟨by rw [hr.out]; rfl, hBW.out⟩
theorem toL_inj2 {a b : ByteArray} : a.toList = b.toList ↔ a = b := by
 refine ⟨fun h => ?_, fun h => by rw [h]⟩
 rw [ByteArray.toList_eq, ByteArray.toList_eq] at h
 exact ByteArray.ext (Array.toList_inj.1 h)
end Go.Proofs.YthigbklhngihkaaGreatDoor.P

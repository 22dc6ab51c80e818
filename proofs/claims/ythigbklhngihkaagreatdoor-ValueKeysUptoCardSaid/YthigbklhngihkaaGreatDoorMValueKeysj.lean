import Derived.Test.YthigbklhngihkaaGreatDoorMValueKeysi
import Derived.RangeFuncKeeps
import Derived.RangeFuncBound
import Derived.Deep.RegionWith
set_option linter.unusedVariables false
set_option linter.unusedSimpArgs false
set_option maxRecDepth 100000
namespace Go.Proofs.YthigbklhngihkaaGreatDoor.P
open Go.RowKit Go.Shelf Go.Proofs.YthigbklhngihkaaGreatDoorW.PrintWords Go.Proofs.YthigbklhngihkaaGreatDoorW.PrintMore Go.Proofs.YthigbklhngihkaaGreatDoorW.PrintLast
attribute [local go_sem] Oper.semAt_some
theorem room_of_none' {F : Fence} (hd : F.depth = none) (k : Nat) : F.room k := fun d h => by rw [hd] at h; cases h
theorem RoundIn.anyDepth' {F : Fence} (hd : F.depth = none) {m m' : Nat} {P : Program} {l : Nat} {f : FuncId} {tmps : Array Value} {assign body : Code} {w : World} {R : Ending → World → Prop}
 (h : RoundIn F m P l f tmps assign body w R) : RoundIn F m' P l f tmps assign body w R := ⟨h.1, fun c cs _ => h.2 c cs (room_of_none' hd _)⟩
theorem YieldAt.anyDepth' {F : Fence} (hd : F.depth = none) {m : Nat} (m' : Nat) {P : Program} {l : Nat} {args : Array Value} {W : World} {R : Ending → World → Prop} (h : YieldAt F m P l args W R) : YieldAt F m' P l args W R := by
 obtain ⟨fn, tmps, assign, body, hy, hR⟩ := h
 exact ⟨fn, tmps, assign, body, hy, RoundIn.anyDepth' hd hR⟩
def KpC (n₀ : Nat) (W W' : World) : Prop := Below n₀ W W' ∧ ∀ (k : Nat) (o : Obj), W.heap[k]? = some o → o.isCells = true → W'.heap[k]? = some o
theorem kpC_refl (n₀ : Nat) (W : World) : KpC n₀ W W := ⟨Below.refl _ _, fun _ _ h _ => h⟩
theorem kpC_t {n₀ : Nat} {A B C : World} (h : KpC n₀ A B) (k : KpC n₀ B C) : KpC n₀ A C := ⟨h.1.trans k.1, fun i o hi ho => k.2 i o (h.2 i o hi ho) ho⟩
theorem kpC_below {n₀ : Nat} {W W' : World} (hn : n₀ ≤ W.heap.size) (h : Below W.heap.size W W') : KpC n₀ W W' := ⟨h.mono hn, fun k o hk _ => (h.block k (blk_lt hk)).trans hk⟩
theorem kpC_b {n₀ : Nat} {w : World} (hn : n₀ ≤ w.heap.size) (W : World) (l : Nat) (o o' : Obj) (hl : w.heap.size ≤ l) (h : W.heap[l]? = some o) (h1 : o.isCells = false) (h2 : o.isWalk = false) : KpC n₀ W (W.putObj l o') :=
 ⟨belowK_b hn W l o o' hl h h1 h2, fun k q hk hq => by
  have : k ≠ l := by rintro rfl; rw [h] at hk; cases hk; rw [h1] at hq; cases hq
  exact (World.putObj_heap_other this).trans hk⟩
abbrev El (w0 : World) := { p : V × List Value // k28.K w0 p.1 p.2 ∧ OkV p.1 }
def elv {w0 : World} (l : List (El w0)) : List V := l.map fun x => x.1.1
theorem elv_app {w0 : World} (a b : List (El w0)) : elv (a ++ b) = elv a ++ elv b := by simp [elv]
theorem elv_len {w0 : World} (a : List (El w0)) : (elv a).length = a.length := by simp [elv]
mutual
def vall : V → List V
 | ⟨a, b, c, l, d⟩ => ⟨a, b, c, l, d⟩ :: valls l
def valls : List V → List V
 | [] => []
 | x :: l => vall x ++ valls l
end
theorem vall_eq (v : V) : vall v = v :: valls v.f3 := by cases v; rw [vall]
theorem valls_app : ∀ (a b : List V), valls (a ++ b) = valls a ++ valls b
 | [], b => by rw [valls]; rfl
 | x :: a, b => by rw [List.cons_append, valls, valls, valls_app a b, List.append_assoc]
theorem valls_one (x : V) : valls [x] = vall x := by rw [valls, valls, List.append_nil]
theorem at_V {w0 w : World} {A : Option Addr} {l : List V} (h : k28.C w0 A l.length l) (hb : Below w0.heap.size w0 w) (k : Nat) (hk : k < l.length) : ∃ ad a0 a1 a2 a3 a4 a5 a6, A = some ad ∧ k28.K w0 (rd_T28 l (k : Int)) [a0, a1, a2, a3, a4, a5, a6] ∧
 w.cell? (ad.add (k * 7)) = some a0 ∧ w.cell? ⟨(ad.add (k * 7)).block, (ad.add (k * 7)).off + 1, none⟩ = some a1 ∧ w.cell? ⟨(ad.add (k * 7)).block, (ad.add (k * 7)).off + 2, none⟩ = some a2 ∧ w.cell? ⟨(ad.add (k * 7)).block, (ad.add (k * 7)).off + 3, none⟩ = some a3 ∧ w.cell? ⟨(ad.add (k * 7)).block, (ad.add (k * 7)).off + 4, none⟩ = some a4 ∧ w.cell? ⟨(ad.add (k * 7)).block, (ad.add (k * 7)).off + 5, none⟩ = some a5 ∧ w.cell? ⟨(ad.add (k * 7)).block, (ad.add (k * 7)).off + 6, none⟩ = some a6 := by
 obtain ⟨ad, A2, c2, A5, c5, A6, c6, e, q0, q1, q2, q3, q4, q5, q6, l2, g2, l5, g5, l6, g6⟩ := at_T28 h (k : Int) (by omega) (by omega)
 rw [Int.toNat_natCast] at q0 q1 q2 q3 q4 q5 q6
 exact ⟨ad, _, _, _, _, _, _, _, e, k28_mk w0 _ l2 g2 l5 g5 l6 g6, pw_cell_below hb q0, pw_cell_below hb q1, pw_cell_below hb q2, pw_cell_below hb q3, pw_cell_below hb q4, pw_cell_below hb q5, pw_cell_below hb q6⟩
section
variable {w0 : World}
def WPost (b : Bool) (J Jx : List (El w0) → World → Prop) (n₀ : Nat) (pre : List (El w0)) (L : List V) (W : World) (e : Ending) (W' : World) : Prop :=
 (∃ ys, e = .returned (.bool b) ∧ elv ys = L ∧ J (pre ++ ys) W' ∧ KpC n₀ W W') ∨ (∃ q, e = .returned (.bool (!b)) ∧ elv q <+: L ∧ Jx (pre ++ q) W')
set_option maxHeartbeats 2000000 in
theorem walk1_in (J Jx : List (El w0) → World → Prop) (hJA : ∀ x A B, J x A → A.grownBy B none → J x B) (l n₀ By : Nat) (x : V) (L : List V) (n : Nat) (cs : List Value) (pre : List (El w0)) (W : World)
 (hn₀ : n₀ ≤ W.heap.size) (hy : W.cell? ⟨By, 0, none⟩ = some (.func (.yield l) #[] #[])) (hcs : cs.length = 7)
 (ih : ∀ m W1, Below W.heap.size W W1 → J pre W1 → CallsIn Fence.wide m Tryz.prog 136 #[.agg cs.toArray, .func (.yield l) #[] #[]] W1 (WPost true J Jx n₀ pre L W1)) (hJ : J pre W) :
 CallsIn Fence.wide n Tryz.prog 170 #[.agg cs.toArray, .pointer (some ⟨By, 0, none⟩)] W (WPost false J Jx n₀ pre L W) := by
 have hdd : ∀ k : Nat, (Fence.wide.depth.isSome = true → 1 ≤ k) := fun k h => by cases h
 obtain ⟨a0, a1, a2, a3, a4, a5, a6, rfl⟩ := list7 hcs
 have hb := Lib.hid (below_alloc (Below.refl W.heap.size W) (.cells #[a0, a1, a2, a3, a4, a5, a6] 28))
 have HJ := Lib.hid (hJA pre W (W.alloc (.cells #[a0, a1, a2, a3, a4, a5, a6] 28)) hJ (World.grownBy_alloc _ _ _))
 have IH := Lib.hid ih
 have HN := Lib.hid hn₀
 have hlt := World.block_lt_of_cell? _ _ hy
 have e1 : (W.alloc (.cells #[a0, a1, a2, a3, a4, a5, a6] 28)).cell? ⟨By, 0, none⟩ = some (.func (.yield l) #[] #[]) := pw_cell_below hb.out hy
 clear ih hJ hn₀
 refine callsIn_of_wp Tryz.func170 rfl trivial ?_ rfl
 simp only [Tryz.ntmps170, List.size_toArray, List.length_cons, List.length_nil, Nat.reduceAdd, Nat.reduceSub, Array.replicate_succ, Array.replicate_zero, List.push_toArray, List.append_toArray, List.nil_append, List.cons_append]
 gi_wp2_with (first | (refine ⟨trivial, hdd _, ?_⟩; gi_at_call 136; refine (IH.out _ _ hb.out HJ.out).mono ?_; rintro e W1 (⟨ys, rfl, hy1, hj1, hk1⟩ | ⟨q, rfl, hq, hx⟩)))
 · go_ret
   exact .inl ⟨ys, rfl, hy1, hj1, kpC_t (kpC_below HN.out hb.out) hk1⟩
 · go_ret
   exact .inr ⟨q, rfl, hq, hx⟩
def IPost (J Jx : List (El w0) → World → Prop) (n₀ : Nat) (pre : List (El w0)) (L : List V) (W : World) (e : Ending) (W' : World) : Prop :=
 (∃ ys, e = .returned (.int .i64 (-1)) ∧ elv ys = L ∧ J (pre ++ ys) W' ∧ KpC n₀ W W') ∨ (∃ q, ∃ k : Nat, e = .returned (.int .i64 k) ∧ elv q <+: L ∧ Jx (pre ++ q) W')
theorem valls_take_succ (l : List V) (k : Nat) (h : k < l.length) : valls (l.take (k + 1)) = valls (l.take k) ++ vall (rd_T28 l (k : Int)) := by
 rw [List.take_succ_eq_append_getElem h, valls_app, valls_one]
 simp [rd_T28, h]
theorem valls_pre (l : List V) (k : Nat) : valls (l.take k) <+: valls l := ⟨valls (l.drop k), by rw [← valls_app, List.take_append_drop]⟩
set_option maxHeartbeats 2000000 in
theorem walkIdx_in (J Jx : List (El w0) → World → Prop) (hJA : ∀ x A B, J x A → A.grownBy B none → J x B) (l N By : Nat) (L : List V) (A : Option Addr) (c : Nat) (n : Nat) (pre : List (El w0)) (W : World)
 (hC : k28.C w0 A L.length L) (hW : Below w0.heap.size w0 W) (hy : W.heap[By]? = some (.cells #[.func (.yield l) #[] #[]] 72 (0, 0)))
 (ih : ∀ y ∈ L, ∀ m cs pre' W', k28.K w0 y cs → Below w0.heap.size w0 W' → J pre' W' → pre'.length + (vall y).length ≤ N → CallsIn Fence.wide m Tryz.prog 136 #[.agg cs.toArray, .func (.yield l) #[] #[]] W' (WPost true J Jx w0.heap.size pre' (vall y) W'))
 (hJ : J pre W) (hN : pre.length + (valls L).length ≤ N) :
 CallsIn Fence.wide n Tryz.prog 203 #[.slice A L.length c, .func (.func 170) #[] #[.pointer (some ⟨By, 0, none⟩)]] W (IPost J Jx w0.heap.size pre (valls L) W) := by
 have hdd : ∀ k : Nat, (Fence.wide.depth.isSome = true → 1 ≤ k) := fun k h => by cases h
 have HC := Lib.hid hC
 have HW := Lib.hid hW
 have HY := Lib.hid hy
 have IH := Lib.hid ih
 have HJ := Lib.hid hJ
 have hlen := hC.2.1
 clear hC hW hy ih hJ
 refine callsIn_of_wp Tryz.func203 rfl trivial ?_ rfl
 simp only [Tryz.ntmps203, List.size_toArray, List.length_cons, List.length_nil, Nat.reduceAdd, Nat.reduceSub, Array.replicate_succ, Array.replicate_zero, List.push_toArray, List.append_toArray, List.nil_append, List.cons_append]
 gi_wp2
 gi_loopw [8] (fun i wr => ∃ (k : Nat) (ys : List (El w0)), k ≤ L.length ∧ i = .int .i64 k ∧ Hid (elv ys = valls (L.take k)) ∧ Hid (J (pre ++ ys) wr) ∧ Hid (KpC w0.heap.size W wr)) (fun i _ => L.length - (intOf i).toNat)
 case atStart => exact ⟨0, [], Nat.zero_le _, rfl, Lib.hid (by simp [elv, valls]), Lib.hid (by simpa using HJ.out), Lib.hid (kpC_refl _ _)⟩
 case round =>
  obtain ⟨k, ys, hk, rfl, hys, hJr, hK⟩ := hrel
  by_cases hlt : k < L.length
  · have hBr := Lib.hid (HW.out.trans hK.out.1)
    obtain ⟨ad, a0, a1, a2, a3, a4, a5, a6, rfl, hKx, q0, q1, q2, q3, q4, q5, q6⟩ := at_V HC.out hBr.out k hlt
    have hmem := Lib.hid (show rd_T28 L (k : Int) ∈ L by unfold rd_T28; simp [hlt])
    have hln : (pre ++ ys).length + (vall (rd_T28 L (k : Int))).length ≤ N := by
     have h1 := congrArg List.length hys.out
     have h2 := congrArg List.length (valls_take_succ L k hlt)
     have h3 := (valls_pre L (k + 1)).length_le
     rw [elv_len] at h1
     rw [List.length_append] at h2 ⊢
     omega
    have hcall := Lib.hid (walk1_in J Jx hJA l w0.heap.size By (rd_T28 L (k : Int)) (vall (rd_T28 L (k : Int))) (n - 1) [a0, a1, a2, a3, a4, a5, a6] (pre ++ ys) wr hBr.out.size ((blk_cell (hK.out.2 By _ HY.out rfl) 0).trans rfl) rfl
     (fun m W1 hb hj => IH.out _ hmem.out m _ _ W1 hKx (hBr.out.trans (hb.mono hBr.out.size)) hj hln) hJr.out)
    have hs := Lib.hid (valls_take_succ L k hlt)
    have hp := Lib.hid (valls_pre L (k + 1))
    have hw : wrap64 ((k : Int) + 1) = ((k + 1 : Nat) : Int) := by unfold wrap64; omega
    clear hKx hln
    gi_wp2_with (first | (refine ⟨trivial, hdd _, ?_⟩; gi_at_call 170; refine hcall.out.mono ?_; rintro e W1 (⟨zs, rfl, hz1, hj1, hk1⟩ | ⟨q, rfl, hq, hx⟩)))
    · have HZ := Lib.hid hz1
      have HJ1 := Lib.hid hj1
      have HK1 := Lib.hid hk1
      clear hz1 hj1 hk1
      go_roundw
      case rel => exact ⟨k + 1, ys ++ zs, by omega, by go_num, Lib.hid (by rw [elv_app, hys.out, HZ.out, hs.out]), Lib.hid (by rw [← List.append_assoc]; exact HJ1.out), Lib.hid (kpC_t hK.out HK1.out)⟩
      case measure => simp [intOf]; omega
    · go_ret
      refine .inr ⟨ys ++ q, k, rfl, ?_, by rw [← List.append_assoc]; exact hx⟩
      rw [elv_app, hys.out]
      refine List.IsPrefix.trans ?_ hp.out
      rw [hs.out]
      exact (List.prefix_append_right_inj _).2 hq
  · obtain rfl : k = L.length := by omega
    rw [List.take_length] at hys
    gi_wp2
    go_ret
    exact .inl ⟨ys, rfl, hys.out, hJr.out, hK.out⟩
set_option maxHeartbeats 1000000 in
theorem walkCont_in (J Jx : List (El w0) → World → Prop) (n₀ By : Nat) (L : List V) (A : Option Addr) (c : Nat) (n : Nat) (pre : List (El w0)) (W : World)
 (h : CallsIn Fence.wide (n - 1) Tryz.prog 203 #[.slice A L.length c, .func (.func 170) #[] #[.pointer (some ⟨By, 0, none⟩)]] W (IPost J Jx n₀ pre (valls L) W)) :
 CallsIn Fence.wide n Tryz.prog 164 #[.slice A L.length c, .func (.func 170) #[] #[.pointer (some ⟨By, 0, none⟩)]] W (WPost false J Jx n₀ pre (valls L) W) := by
 have hdd : ∀ k : Nat, (Fence.wide.depth.isSome = true → 1 ≤ k) := fun k h => by cases h
 have H := Lib.hid h
 clear h
 refine callsIn_of_wp Tryz.func164 rfl trivial ?_ rfl
 simp only [Tryz.ntmps164, List.size_toArray, List.length_cons, List.length_nil, Nat.reduceAdd, Nat.reduceSub, Array.replicate_succ, Array.replicate_zero, List.push_toArray, List.append_toArray, List.nil_append, List.cons_append]
 gi_wp2_with (first | (refine ⟨trivial, hdd _, ?_⟩; gi_at_call 203; refine H.out.mono ?_; rintro e W1 (⟨ys, rfl, hy1, hj1, hk1⟩ | ⟨q, k, rfl, hq, hx⟩)))
 · go_ret
   exact .inl ⟨ys, rfl, hy1, hj1, hk1⟩
 · go_ret
   exact .inr ⟨q, by simp, hq, hx⟩
set_option maxHeartbeats 4000000 in
theorem walk_in (J Jx : List (El w0) → World → Prop) (hJA : ∀ x A B, J x A → A.grownBy B none → J x B) (l N : Nat)
 (hY : ∀ m pre x W, J pre W → pre.length < N → YieldAt Fence.wide m Tryz.prog l #[.agg x.1.2.toArray] W fun e W' => (e = .returned (.bool true) ∧ J (pre ++ [x]) W' ∧ KpC w0.heap.size W W') ∨ (e = .returned (.bool false) ∧ Jx (pre ++ [x]) W')) :
 ∀ v : V, OkV v → ∀ n cs pre W, k28.K w0 v cs → Below w0.heap.size w0 W → J pre W → pre.length + (vall v).length ≤ N →
  CallsIn Fence.wide n Tryz.prog 136 #[.agg cs.toArray, .func (.yield l) #[] #[]] W (WPost true J Jx w0.heap.size pre (vall v) W) := by
 refine V.ind fun v ih => ?_
 intro hO n cs pre W hK hW hJ hN
 have hdd : ∀ k : Nat, (Fence.wide.depth.isSome = true → 1 ≤ k) := fun k h => by cases h
 obtain ⟨A2, c2, A5, c5, A6, c6, rfl, l2, g2, l5, g5, l6, g6⟩ := k28_open hK
 obtain ⟨W2, hW2⟩ : ∃ W2, W2 = (W.alloc (.cells #[.int .i64 v.f0, .bool v.f1.f0, .slice A2 v.f1.f1.length c2, .int .i64 v.f1.f2, .string v.f2, .slice A5 v.f3.length c5, .slice A6 v.f4.length c6] 28)).alloc (.cells #[.func (.yield l) #[] #[]] 72) := ⟨_, rfl⟩
 have hb2 : Below W.heap.size W W2 := by rw [hW2]; exact ((Below.refl _ _).alloc (Nat.le_refl _) _).alloc (by simp) _
 have hJ2 : J pre W2 := by rw [hW2]; exact hJA _ _ _ (hJA _ _ _ hJ (World.grownBy_alloc _ _ _)) (World.grownBy_alloc _ _ _)
 have hv2 : W2.heap[W.heap.size]? = some (.cells #[.int .i64 v.f0, .bool v.f1.f0, .slice A2 v.f1.f1.length c2, .int .i64 v.f1.f2, .string v.f2, .slice A5 v.f3.length c5, .slice A6 v.f4.length c6] 28 (0, 0)) := by rw [hW2]; exact blk_alloc (blk_new _ _) _
 have hy2 : W2.heap[W.heap.size + 1]? = some (.cells #[.func (.yield l) #[] #[]] 72 (0, 0)) := by rw [hW2]; have := blk_new (W.alloc (.cells #[.int .i64 v.f0, .bool v.f1.f0, .slice A2 v.f1.f1.length c2, .int .i64 v.f1.f2, .string v.f2, .slice A5 v.f3.length c5, .slice A6 v.f4.length c6] 28)) (.cells #[.func (.yield l) #[] #[]] 72); rwa [World.size_alloc] at this
 have hWB : Below w0.heap.size w0 W2 := hW.trans (hb2.mono hW.size)
 rw [vall_eq, List.length_cons] at hN
 obtain ⟨x0, hx0⟩ : ∃ x0 : El w0, x0 = ⟨(v, _), hK, hO⟩ := ⟨_, rfl⟩
 have hx1 : elv [x0] = [v] := by rw [hx0]; rfl
 have hcall : ∀ W3, J (pre ++ [x0]) W3 → KpC w0.heap.size W2 W3 → CallsIn Fence.wide (n - 1) Tryz.prog 164 #[.slice A5 v.f3.length c5, .func (.func 170) #[] #[.pointer (some ⟨W.heap.size + 1, 0, none⟩)]] W3 (WPost false J Jx w0.heap.size (pre ++ [x0]) (valls v.f3) W3) := fun W3 hj hk =>
  walkCont_in J Jx w0.heap.size (W.heap.size + 1) v.f3 A5 c5 (n - 1) (pre ++ [x0]) W3 (walkIdx_in J Jx hJA l N (W.heap.size + 1) v.f3 A5 c5 (n - 1 - 1) (pre ++ [x0]) W3 g5 (hWB.trans hk.1) (hk.2 _ _ hy2 rfl)
   (fun y hy m cs' pre' W' hK' hW' hJ' hN' => ih y hy (hO.kids y hy) m cs' pre' W' hK' hW' hJ' hN') hj (by rw [List.length_append]; simp; omega))
 have hyy := YieldAt.mono (hY (n - 1) pre x0 W2 hJ2 (by omega)) (R' := fun e W3 => (e = .returned (.bool true) ∧ W3.cell? ⟨W.heap.size, 5, none⟩ = some (.slice A5 v.f3.length c5) ∧ W3.cell? ⟨W.heap.size + 1, 0, none⟩ = some (.func (.yield l) #[] #[]) ∧ Hid (J (pre ++ [x0]) W3) ∧ Hid (KpC w0.heap.size W2 W3)) ∨ (e = .returned (.bool false) ∧ Hid (Jx (pre ++ [x0]) W3)))
  (fun e W3 h => h.elim (fun ⟨he, hj, hk⟩ => .inl ⟨he, (blk_cell (hk.2 _ _ hv2 rfl) 5).trans rfl, (blk_cell (hk.2 _ _ hy2 rfl) 0).trans rfl, Lib.hid hj, Lib.hid hk⟩) (fun ⟨he, hx⟩ => .inr ⟨he, Lib.hid hx⟩))
 obtain ⟨fn, tmps, assign, body, hy, hR⟩ := hyy
 have HR := Lib.hid hR
 have HCALL := Lib.hid hcall
 have HX1 := Lib.hid hx1
 have HKP : Hid (KpC w0.heap.size W W2) := Lib.hid (kpC_below hW.size hb2)
 rw [vall_eq]
 rw [show x0.1.2 = [.int .i64 v.f0, .bool v.f1.f0, .slice A2 v.f1.f1.length c2, .int .i64 v.f1.f2, .string v.f2, .slice A5 v.f3.length c5, .slice A6 v.f4.length c6] by rw [hx0]] at hy
 clear hR hcall hx1 hx0 hWB hy2 hv2 hJ2 hb2 hN hW hJ hO hY ih g2 g5 g6 l2 l5 l6 hK
 subst hW2
 refine callsIn_of_wp Tryz.func136 rfl trivial ?_ rfl
 simp only [Tryz.ntmps136, List.size_toArray, List.length_cons, List.length_nil, Nat.reduceAdd, Nat.reduceSub, Array.replicate_succ, Array.replicate_zero, List.push_toArray, List.append_toArray, List.nil_append, List.cons_append]
 gi_wp2_with (first
  | (refine ⟨hdd _, ?_⟩; refine HR.out.mono ?_; clear HR; rintro e W3 (⟨rfl, hc5, hc1, hj3, hk3⟩ | ⟨rfl, hx3⟩))
  | (refine ⟨trivial, hdd _, ?_⟩; gi_at_call 164; refine (HCALL.out _ hj3.out hk3.out).mono ?_; rintro e W4 (⟨ys, rfl, hy4, hj4, hk4⟩ | ⟨q, rfl, hq, hx⟩)))
 · go_ret
   exact .inl ⟨x0 :: ys, rfl, by rw [show x0 :: ys = [x0] ++ ys from rfl, elv_app, HX1.out, hy4]; rfl, by rw [show x0 :: ys = [x0] ++ ys from rfl, ← List.append_assoc]; exact hj4, kpC_t (kpC_t HKP.out hk3.out) hk4⟩
 · go_ret
   exact .inr ⟨x0 :: q, rfl, by rw [show x0 :: q = [x0] ++ q from rfl, elv_app, HX1.out]; exact (List.prefix_cons_inj _).2 hq, by rw [show x0 :: q = [x0] ++ q from rfl, ← List.append_assoc]; exact hx⟩
 · refine ⟨trivial, ?_⟩
   gi_wp2
   go_ret
   exact .inr ⟨[x0], rfl, by rw [HX1.out]; exact (List.prefix_cons_inj _).2 (List.nil_prefix), hx3.out⟩
end
end Go.Proofs.YthigbklhngihkaaGreatDoor.P
namespace Go.Proofs.YthigbklhngihkaaGreatDoor.P
open Go.RowKit Go.Proofs.YthigbklhngihkaaGreatDoorW.PrintWords Go.Proofs.YthigbklhngihkaaGreatDoorW.PrintMore Go.Proofs.YthigbklhngihkaaGreatDoorW.PrintLast
mutual
def vsize : V → Nat
 | ⟨_, _, _, l, _⟩ => min (vsizes l 1) 1048576
def vsizes : List V → Nat → Nat
 | [], n => n
 | x :: l, n => if 1048576 ≤ n then n else vsizes l (n + vsize x)
end
def vszUp (l : List V) (k : Nat) : Nat := vsizes (l.take k) 1
theorem vsizes_ge : ∀ (l : List V) (n : Nat), 1048576 ≤ n → vsizes l n = n
 | [], _, _ => by unfold vsizes; rfl
 | x :: l, n, h => by unfold vsizes; rw [if_pos h]
theorem vsizes_nil (n : Nat) : vsizes [] n = n := by unfold vsizes; rfl
theorem vsizes_app : ∀ (l r : List V) (n : Nat), vsizes (l ++ r) n = vsizes r (vsizes l n)
 | [], r, n => by rw [List.nil_append, show vsizes [] n = n by unfold vsizes; rfl]
 | x :: l, r, n => by
  rw [List.cons_append]
  by_cases h : 1048576 ≤ n
  · rw [vsizes_ge _ _ h, vsizes_ge _ _ h, vsizes_ge _ _ h]
  · rw [show vsizes (x :: (l ++ r)) n = vsizes (l ++ r) (n + vsize x) by rw [vsizes, if_neg h], show vsizes (x :: l) n = vsizes l (n + vsize x) by rw [vsizes, if_neg h], vsizes_app l r]
theorem vsize_le (v : V) : vsize v ≤ 1048576 := by cases v; unfold vsize; omega
theorem vsize_eq (v : V) : vsize v = min (vszUp v.f3 v.f3.length) 1048576 := by cases v; unfold vsize vszUp; rw [List.take_length]
theorem vszUp_succ (l : List V) (k : Nat) (h : k < l.length) : vszUp l (k + 1) = if 1048576 ≤ vszUp l k then vszUp l k else vszUp l k + vsize (rd_T28 l (k : Int)) := by
 unfold vszUp rd_T28
 rw [List.take_succ_eq_append_getElem h, vsizes_app]
 have e : l.getD (k : Int).toNat z28 = l[k] := by simp [h]
 rw [e, vsizes]
 split
 · rfl
 · rw [vsizes_nil]
theorem vszUp_le (l : List V) (k : Nat) : vszUp l k ≤ 2097152 := by
 induction k with
 | zero => unfold vszUp vsizes; simp
 | succ k ih =>
  by_cases h : k < l.length
  · rw [vszUp_succ l k h]
    have := vsize_le (rd_T28 l (k : Int))
    split <;> omega
  · rw [show vszUp l (k + 1) = vszUp l k by unfold vszUp; rw [List.take_of_length_le (by omega), List.take_of_length_le (by omega)]]
    exact ih
theorem vszUp_stop (l : List V) {k : Nat} (h : 1048576 ≤ vszUp l k) : ∀ n, k ≤ n → vszUp l n = vszUp l k := by
 intro n hn
 unfold vszUp at h ⊢
 have e : l.take n = l.take k ++ (l.take n).drop k := by have := (List.take_append_drop k (l.take n)).symm; rwa [List.take_take, Nat.min_eq_left hn] at this
 rw [e, vsizes_app, vsizes_ge _ _ h]
set_option maxHeartbeats 1000000 in
theorem Size_any : ∀ (x : V) (cs : List Value) (w : World), k28.K w x cs →
 Calls Tryz.prog 95 #[.agg cs.toArray] w fun e w' => e = .returned (.int .i64 (vsize x)) ∧ Below w.heap.size w w' := by
 refine V.ind fun x ih => ?_
 intro cs w hK
 obtain ⟨A2, c2, A5, c5, A6, c6, rfl, l2, g2, l5, g5, l6, g6⟩ := k28_open hK
 have HC := Lib.hid g5
 have hlen := g5.2.1
 have IH := Lib.hid ih
 clear g2 l2 l5 g5 l6 g6 hK ih
 have HV := Lib.hid (vsize_eq x)
 go_enter Tryz.func95, Tryz.ntmps95
 go_wp2
 go_loopw [3, 9] (fun vm vi wr => ∃ k : Nat, k ≤ x.f3.length ∧ vi = .int .i64 k ∧ vm = .int .i64 (vszUp x.f3 k : Nat) ∧ Below w.heap.size w wr) (fun _ vi _ => x.f3.length - (intOf vi).toNat)
 case atStart => exact ⟨0, Nat.zero_le _, rfl, by unfold vszUp vsizes; simp, (Below.refl _ _).alloc (Nat.le_refl _) _⟩
 case round =>
  obtain ⟨k, hk, rfl, rfl, hB⟩ := hrel
  have HB := Lib.hid hB
  have hle := vszUp_le x.f3 k
  clear hB
  by_cases hlt : k < x.f3.length
  · obtain ⟨ad, D2, d2, D5, d5, D6, d6, rfl, q0, q1, q2, q3, q4, q5, q6, m2, G2, m5, G5, m6, G6⟩ := at_T28 (Kd.C_below HC.out HB.out) (k : Int) (by omega) (by omega)
    rw [Int.toNat_natCast] at q0 q1 q2 q3 q4 q5 q6
    have hKx := Lib.hid (k28_mk wr (rd_T28 x.f3 k) m2 G2 m5 G5 m6 G6)
    clear m2 G2 m5 G5 m6 G6
    have hw : wrap64 ((k : Int) + 1) = ((k + 1 : Nat) : Int) := by unfold wrap64; omega
    by_cases hbig : 1048576 ≤ vszUp x.f3 k
    · have hr : Hid (min (vszUp x.f3 k : Int) 1048576 = (vsize x : Int)) := Lib.hid (by rw [HV.out, vszUp_stop x.f3 hbig _ hk]; omega)
      have hb2 : (1048576 : Int) ≤ (vszUp x.f3 k : Int) := by omega
      go_wp2
      go_ret
      exact ⟨by rw [← hr.out]; rfl, HB.out.alloc HB.out.size _⟩
    · have hs : Hid ((vszUp x.f3 k : Int) + (vsize (rd_T28 x.f3 (k : Int)) : Int) = ((vszUp x.f3 (k + 1) : Nat) : Int)) := Lib.hid (by rw [vszUp_succ x.f3 k hlt, if_neg hbig]; omega)
      have hb2 : ¬ (1048576 : Int) ≤ (vszUp x.f3 k : Int) := by omega
      have hm := vsize_le (rd_T28 x.f3 (k : Int))
      have hmem := Lib.hid (show rd_T28 x.f3 (k : Int) ∈ x.f3 by unfold rd_T28; simp [hlt])
      go_wp2_with (first | (go_at_call 95; (with_reducible refine (IH.out _ hmem.out _ _ ?hK).mono ?_); (case hK => exact k28.K_below ((Below.refl _ _).alloc (Nat.le_refl _) _) hKx.out); rintro e w2 ⟨rfl, hB2⟩))
      have hB3 := below_box HB.out HB.out.size hB2
      clear hB2
      go_roundw
      case rel => exact ⟨k + 1, by omega, by go_num, by rw [hs.out], hB3⟩
      case measure => simp [intOf]; omega
  · obtain rfl : k = x.f3.length := by omega
    have hr : Hid (min (vszUp x.f3 x.f3.length : Int) 1048576 = (vsize x : Int)) := Lib.hid (by rw [HV.out]; omega)
    go_wp2
    go_ret
    exact ⟨by rw [← hr.out]; rfl, HB.out⟩
set_option maxHeartbeats 1000000 in
theorem Deep_any (x : V) (cs : List Value) (w : World) (hK : k28.K w x cs) :
 Calls Tryz.prog 94 #[.agg cs.toArray] w fun e w' => e = .returned (.int .i64 (vdeep 1000 x)) ∧ Below w.heap.size w w' := by
 obtain ⟨A2, c2, A5, c5, A6, c6, rfl, _⟩ := k28_open hK
 have HK := Lib.hid hK
 clear hK
 have hd : ∀ (cs' : List Value) (w' : World), k28.K w' x cs' → Calls Tryz.prog 134 #[.agg cs'.toArray, .int .i64 1000] w' fun e w2 => e = .returned (.int .i64 (vdeep 1000 x)) ∧ Below w'.heap.size w' w2 := fun cs' w' h => deep_any 1000 (Nat.le_refl _) x cs' w' h
 have HD := Lib.hid hd
 clear hd
 go_enter Tryz.func94, Tryz.ntmps94
 go_wp2_with (first | (go_at_call 134; (with_reducible refine (HD.out _ _ ?hK).mono ?_); (case hK => exact k28.K_below ((Below.refl _ _).alloc (Nat.le_refl _) _) HK.out); rintro e w2 ⟨rfl, hB2⟩))
 go_ret
 exact ⟨rfl, below_box (Below.refl _ _) (Nat.le_refl _) hB2⟩
end Go.Proofs.YthigbklhngihkaaGreatDoor.P
namespace Go.Proofs.YthigbklhngihkaaGreatDoor.P
open Go.RowKit Go.Shelf Go.Proofs.YthigbklhngihkaaGreatDoorW.PrintWords Go.Proofs.YthigbklhngihkaaGreatDoorW.PrintMore Go.Proofs.YthigbklhngihkaaGreatDoorW.PrintLast
attribute [local go_sem] Oper.semAt_some
def vchk (v : V) : Int := if 64 < vdeep 1000 v then 42 else if 16384 < vsize v then 3 else orL ((vall v).map vown)
section
variable {w0 : World}
set_option maxHeartbeats 2000000 in
theorem all_in (n : Nat) (cs : List Value) (hcs : cs.length = 7) (w : World) :
 CallsIn Fence.wide n Tryz.prog 96 #[.agg cs.toArray] w fun e w' => e = .returned (.func (.func 135) #[] #[.pointer (some ⟨w.heap.size, 0, none⟩)]) ∧ w' = w.alloc (.cells cs.toArray 28) := by
 obtain ⟨a0, a1, a2, a3, a4, a5, a6, rfl⟩ := list7 hcs
 refine callsIn_of_wp Tryz.func96 rfl trivial ?_ rfl
 simp only [Tryz.ntmps96, List.size_toArray, List.length_cons, List.length_nil, Nat.reduceAdd, Nat.reduceSub, Array.replicate_succ, Array.replicate_zero, List.push_toArray, List.append_toArray, List.nil_append, List.cons_append]
 gi_wp2
 go_ret
 exact ⟨rfl, rfl⟩
set_option maxHeartbeats 2000000 in
theorem all1_in (v : V) (hO : OkV v) (cs : List Value) (hcs : cs.length = 7) (hK : k28.K w0 v cs) (n l Bt : Nat) (J Jx : List (El w0) → World → Prop) (hJA : ∀ x A B, J x A → A.grownBy B none → J x B)
 (hY : ∀ m pre x W, J pre W → pre.length < (vall v).length → YieldAt Fence.wide m Tryz.prog l #[.agg x.1.2.toArray] W fun e W' => (e = .returned (.bool true) ∧ J (pre ++ [x]) W' ∧ KpC w0.heap.size W W') ∨ (e = .returned (.bool false) ∧ Jx (pre ++ [x]) W'))
 (W : World) (hB : W.heap[Bt]? = some (.cells cs.toArray 28 (0, 0))) (hW : Below w0.heap.size w0 W) (h0 : J [] W) :
 CallsIn Fence.wide n Tryz.prog 135 #[.func (.yield l) #[] #[], .pointer (some ⟨Bt, 0, none⟩)] W fun e W' => (∃ v, e = .returned v) ∧ ((∃ ys, elv ys = vall v ∧ J ys W') ∨ (∃ pre, elv pre <+: vall v ∧ Jx pre W')) := by
 have hdd : ∀ k : Nat, (Fence.wide.depth.isSome = true → 1 ≤ k) := fun k h => by cases h
 obtain ⟨a0, a1, a2, a3, a4, a5, a6, rfl⟩ := list7 hcs
 have hp := Lib.hid (walk_in J Jx hJA l (vall v).length hY v hO (n - 1) _ [] W hK hW h0 (by simp))
 have c0 := (blk_cell hB 0).trans rfl
 have c1 := (blk_cell hB 1).trans rfl
 have c2 := (blk_cell hB 2).trans rfl
 have c3 := (blk_cell hB 3).trans rfl
 have c4 := (blk_cell hB 4).trans rfl
 have c5 := (blk_cell hB 5).trans rfl
 have c6 := (blk_cell hB 6).trans rfl
 clear hY hK hB h0 hW
 refine callsIn_of_wp Tryz.func135 rfl trivial ?_ rfl
 simp only [Tryz.ntmps135, List.size_toArray, List.length_cons, List.length_nil, Nat.reduceAdd, Nat.reduceSub, Array.replicate_succ, Array.replicate_zero, List.push_toArray, List.append_toArray, List.nil_append, List.cons_append]
 gi_wp2_with (first | (refine ⟨trivial, hdd _, ?_⟩; gi_at_call 136; refine hp.out.mono ?_; rintro e W1 (⟨ys, rfl, hy1, hj1, hk1⟩ | ⟨q, rfl, hq, hx⟩)))
 · go_end0
   exact ⟨⟨_, rfl⟩, .inl ⟨ys, hy1, by simpa using hj1⟩⟩
 · go_end0
   exact ⟨⟨_, rfl⟩, .inr ⟨q, hq, by simpa using hx⟩⟩
theorem all_stops (v : V) (hO : OkV v) (cs : List Value) (hcs : cs.length = 7) (hK : k28.K w0 v cs) (n Bt : Nat) (hB : w0.heap[Bt]? = some (.cells cs.toArray 28 (0, 0))) :
 SeqStopsK Fence.wide n Tryz.prog 135 #[.pointer (some ⟨Bt, 0, none⟩)] (fun x : El w0 => #[.agg x.1.2.toArray]) (KpC w0.heap.size) (fun ys => elv ys = vall v) (fun pre => elv pre <+: vall v) (vall v).length w0 := fun l J Jx W hW hJ _ hY h0 =>
 all1_in v hO cs hcs hK n l Bt J Jx (fun x A B h g => hJ x A B none h g (fun r e => by cases e)) (fun m pre x W1 hj hl => YieldAt.anyDepth' rfl m (hY pre x W1 hj hl)) W ((hW.block Bt (blk_lt hB)).trans hB) hW h0
end
theorem keepsO_below {W W' : World} (h : Below W.heap.size W W') : KeepsOthers W W' := ⟨h.size, fun k o hk _ => (h.block k (blk_lt hk)).trans hk⟩
theorem orL_app (a b : List Int) : orL (a ++ b) = if orL a = 0 then orL b else orL a := by
 induction a with
 | nil => simp [orL]
 | cons x a ih =>
  rw [List.cons_append, orL, orL, ih]
  by_cases h : x = 0
  · rw [if_pos h, if_pos h]
  · rw [if_neg h, if_neg h, if_neg h]
theorem vown_orL_pre {a : List V} {x : V} {l : List V} (h : a ++ [x] <+: l) (h0 : orL (a.map vown) = 0) (h1 : vown x ≠ 0) : orL (l.map vown) = vown x := by
 obtain ⟨t, rfl⟩ := h
 rw [List.map_append, List.map_append, List.append_assoc, orL_app, if_pos h0, orL_app]
 simp [orL, h1]
set_option maxHeartbeats 4000000 in
theorem Check_in (n : Nat) (hn : 4 ≤ n) (x : V) (cs : List Value) (w : World) (hLD : LaidW w) (hK : k28.K w x cs) (hO : OkV x) :
 CallsIn Fence.wide n Tryz.prog 62 #[.agg cs.toArray] w fun e W' => e = .returned (.int .i64 (vchk x)) ∧ Below w.heap.size w W' := by
 have h1 : 1 ≤ n := by omega
 have hcs := k28.K_len hK
 obtain ⟨a0, a1, a2, a3, a4, a5, a6, rfl⟩ := list7 hcs
 have HK := Lib.hid hK
 have HL := Lib.hid hLD
 have HO := Lib.hid hO
 have HCS := Lib.hid hcs
 obtain ⟨W2, hW2⟩ : ∃ W2, W2 = (w.alloc (.cells #[a0, a1, a2, a3, a4, a5, a6] 28)).alloc (.cells #[.int .i64 0] 30) := ⟨_, rfl⟩
 have hb2 : Below w.heap.size w W2 := by rw [hW2]; exact ((Below.refl _ _).alloc (Nat.le_refl _) _).alloc (by simp) _
 have hv2 : W2.heap[w.heap.size]? = some (.cells #[a0, a1, a2, a3, a4, a5, a6] 28 (0, 0)) := by rw [hW2]; exact blk_alloc (blk_new _ _) _
 have hr2 : W2.heap[w.heap.size + 1]? = some (.cells #[.int .i64 0] 30 (0, 0)) := by rw [hW2]; have := blk_new (w.alloc (.cells #[a0, a1, a2, a3, a4, a5, a6] 28)) (.cells #[.int .i64 0] 30); rwa [World.size_alloc] at this
 have HB2 := Lib.hid hb2
 have HV2 := Lib.hid hv2
 have HR2 := Lib.hid hr2
 have HW2 := Lib.hid hW2
 clear hK hLD hO hcs hb2 hv2 hr2 hW2
 have arm1 : Hid (CallsIn Fence.wide (n - 1) Tryz.prog 94 #[.agg #[a0, a1, a2, a3, a4, a5, a6]] W2 fun e w1 => e = .returned (.int .i64 (vdeep 1000 x)) ∧ Below W2.heap.size W2 w1) := Lib.hid (callsIn_wide.2 (Deep_any x _ _ (k28.K_below HB2.out HK.out)))
 unfold vchk
 by_cases hd : 64 < vdeep 1000 x
 · rw [if_pos hd]
   have hd2 : (64 : Int) < (vdeep 1000 x : Int) := by omega
   rw [HW2.out] at arm1 HV2 HR2 HB2
   refine callsIn_of_wp_marks Tryz.func62 rfl trivial ?_ rfl
   simp only [Tryz.ntmps62, List.size_toArray, List.length_cons, List.length_nil, Nat.reduceAdd, Nat.reduceSub, Array.replicate_succ, Array.replicate_zero, List.push_toArray, List.append_toArray, List.nil_append, List.cons_append]
   gi_wp2_with (first | (refine ⟨trivial, ?_⟩; gi_at_call 94; refine arm1.out.mono ?_; clear arm1; rintro e w1 ⟨rfl, hB1⟩; obtain ⟨hcl, hfz⟩ := bcells HV2.out hB1; obtain ⟨hcr, hfr⟩ := bcells HR2.out hB1))
   exact ⟨.int .i64 42, by simp [results, Tryz.f62, go_sem, hcr, hfr], rfl, (HB2.out.trans (hB1.mono HB2.out.size)).setCell (p := ⟨w.heap.size + 1, 0, none⟩) (by simp) _⟩
 rw [if_neg hd]
 have hd2 : ¬ (64 : Int) < (vdeep 1000 x : Int) := by omega
 have arm2 : Hid (∀ w1, Below W2.heap.size W2 w1 → CallsIn Fence.wide (n - 1) Tryz.prog 95 #[.agg #[a0, a1, a2, a3, a4, a5, a6]] w1 fun e w2 => e = .returned (.int .i64 (vsize x)) ∧ Below w1.heap.size w1 w2) := Lib.hid fun w1 h => callsIn_wide.2 (Size_any x _ _ (k28.K_below (HB2.out.trans (h.mono HB2.out.size)) HK.out))
 by_cases hz : 16384 < vsize x
 · rw [if_pos hz]
   have hz2 : (16384 : Int) < (vsize x : Int) := by omega
   rw [HW2.out] at arm1 arm2 HV2 HR2 HB2
   refine callsIn_of_wp_marks Tryz.func62 rfl trivial ?_ rfl
   simp only [Tryz.ntmps62, List.size_toArray, List.length_cons, List.length_nil, Nat.reduceAdd, Nat.reduceSub, Array.replicate_succ, Array.replicate_zero, List.push_toArray, List.append_toArray, List.nil_append, List.cons_append]
   gi_wp2_with (first
    | (refine ⟨trivial, ?_⟩; gi_at_call 94; refine arm1.out.mono ?_; clear arm1; rintro e w1 ⟨rfl, hB1⟩; obtain ⟨hcl, hfz⟩ := bcells HV2.out hB1; have hv3 := blk_below2 HV2.out hB1; have hr3 := blk_below2 HR2.out hB1)
    | (refine ⟨trivial, ?_⟩; gi_at_call 95; refine (arm2.out _ hB1).mono ?_; clear arm2; rintro e w2 ⟨rfl, hB3⟩; obtain ⟨hcr, hfr⟩ := bcells hr3 hB3))
   exact ⟨.int .i64 3, by simp [results, Tryz.f62, go_sem, hcr, hfr], rfl, (HB2.out.trans ((hB1.trans (hB3.mono hB1.size)).mono HB2.out.size)).setCell (p := ⟨w.heap.size + 1, 0, none⟩) (by simp) _⟩
 rw [if_neg hz]
 have hz2 : ¬ (16384 : Int) < (vsize x : Int) := by omega
 have H2 := HW2.out
 rw [HW2.out] at arm1 arm2 HV2 HR2 HB2
 refine callsIn_of_wp_marks Tryz.func62 rfl trivial ?_ rfl
 simp only [Tryz.ntmps62, List.size_toArray, List.length_cons, List.length_nil, Nat.reduceAdd, Nat.reduceSub, Array.replicate_succ, Array.replicate_zero, List.push_toArray, List.append_toArray, List.nil_append, List.cons_append]
 gi_wp2_with (first
  | (refine ⟨trivial, ?_⟩; gi_at_call 94; refine arm1.out.mono ?_; clear arm1; rintro e w1 ⟨rfl, hB1⟩; obtain ⟨hcl, hfz⟩ := bcells HV2.out hB1; have hv3 := blk_below2 HV2.out hB1; have hr3 := blk_below2 HR2.out hB1)
  | (refine ⟨trivial, ?_⟩; gi_at_call 95; refine (arm2.out _ hB1).mono ?_; clear arm2; rintro e w2 ⟨rfl, hB3⟩; obtain ⟨hcl2, hfz2⟩ := bcells hv3 hB3; have hr4 := blk_below2 hr3 hB3)
  | (refine ⟨trivial, ?_⟩; gi_at_call 96; refine (all_in (n - 1) [a0, a1, a2, a3, a4, a5, a6] rfl _).mono ?_; rintro e w4 ⟨rfl, rfl⟩))
 have hBw : Below w.heap.size w w2 := HB2.out.trans ((hB1.trans (hB3.mono hB1.size)).mono HB2.out.size)
 have hsz : w.heap.size + 2 ≤ w2.heap.size := by have h1 := hB1.size; have h3 := hB3.size; simp only [World.size_alloc] at h1 h3; omega
 obtain ⟨W0, hW0⟩ : ∃ W0, W0 = w2.alloc (.cells #[a0, a1, a2, a3, a4, a5, a6] 28) := ⟨_, rfl⟩
 have hb0 : Below w.heap.size w W0 := by rw [hW0]; exact hBw.alloc hBw.size _
 have hr0 : W0.heap[w.heap.size + 1]? = some (.cells #[.int .i64 0] 30 (0, 0)) := by rw [hW0]; exact blk_alloc hr4 _
 have hx0 : W0.heap[w2.heap.size]? = some (.cells #[a0, a1, a2, a3, a4, a5, a6] 28 (0, 0)) := by rw [hW0]; exact blk_new _ _
 have hk0 : k28.K W0 x [a0, a1, a2, a3, a4, a5, a6] := k28.K_below hb0 HK.out
 have hl0 : LaidW W0 := HL.out.below hb0
 have hs0 : W0.heap.size = w2.heap.size + 1 := by rw [hW0]; simp
 rw [← hW0]
 have HB0 := Lib.hid hb0
 have HR0 := Lib.hid hr0
 have HX0 := Lib.hid hx0
 have HK0 := Lib.hid hk0
 have HL0 := Lib.hid hl0
 have HS0 := Lib.hid hs0
 clear hBw hB1 hB3 hcl hfz hcl2 hfz2 hv3 hr3 hr4 HV2 HR2 HB2 H2 hb0 hr0 hx0 hk0 hl0 hs0 hW0
 generalize decide ((64 : Int) < (vdeep 1000 x : Int)) = b1
 generalize decide ((16384 : Int) < (vsize x : Int)) = b2
 refine wpIn_rangeFunc_ownH rfl h1 (gf := 135) (lb := #[.pointer (some ⟨w2.heap.size, 0, none⟩)]) rfl trivial (enters_of Tryz.func135 (by kernel_rfl) rfl)
  (all_stops x HO.out [a0, a1, a2, a3, a4, a5, a6] rfl HK0.out (n - 1) w2.heap.size HX0.out) kpC_t (kpC_b (Nat.le_refl _)) (Below.refl _ _) (fun _ => rfl)
  (fun pre W => orL ((elv pre).map vown) = 0 ∧ Below W0.heap.size W0 W)
  (fun c pre W => (c = .ret ∧ (∃ l y, pre = l ++ [y] ∧ orL ((elv l).map vown) = 0 ∧ vown y.1.1 ≠ 0 ∧ W.cell? ⟨w.heap.size + 1, 0, none⟩ = some (.int .i64 (vown y.1.1)))) ∧ Below w.heap.size w W)
  (OwnFrom.and (fun _ _ _ _ hs _ _ => hs) (ownFrom_below (Nat.le_refl _) (Nat.le_refl _)))
  (fun c => OwnFrom.and (Own.from (fun s A B row hs hg hr => by
   obtain ⟨h0, l, y, hl, hg0, hy, hc1⟩ := hs
   exact ⟨h0, l, y, hl, hg0, hy, cell_kept hc1 hg hr⟩) _) (ownFrom_below (Nat.le_refl _) (by have := HS0.out; omega)))
  ⟨rfl, Below.refl _ _⟩
  (fun y a' W => ∃ Bx, W0.heap.size ≤ Bx ∧ W.heap[Bx]? = some (.cells y.1.2.toArray 28 (0, 0)) ∧ a' = { tmps := #[.agg #[a0, a1, a2, a3, a4, a5, a6], .pointer (some ⟨w.heap.size, 0, none⟩), .pointer (some ⟨w.heap.size + 1, 0, none⟩), .pointer (some ⟨Bx, 0, none⟩), undef, .bool b1, .agg #[a0, a1, a2, a3, a4, a5, a6], .int .i64 (vdeep 1000 x), .bool b1, .bool b2, .agg #[a0, a1, a2, a3, a4, a5, a6], .int .i64 (vsize x), .bool b2, .agg #[a0, a1, a2, a3, a4, a5, a6], .func (.func 135) #[] #[.pointer (some ⟨w2.heap.size, 0, none⟩)], .agg y.1.2.toArray, undef, undef, undef, undef, undef], defers := [] })
  (fun y a' s W W' row hs hg hr => by
   obtain ⟨Bx, hle, hb, ha⟩ := hs
   exact ⟨Bx, hle, (hg.block Bx (blk_lt hb) (fun e => by obtain ⟨_, o, ho, hc⟩ := hr _ e.symm; rw [hb] at ho; cases ho; cases hc)).trans hb, ha⟩)
  ?assign ?body ?done ?stop
 case assign =>
  rintro l pre ⟨⟨v, cs⟩, hK, hO⟩ W K ⟨hi, hB⟩ hKK
  replace hK : k28.K W0 v cs := hK
  obtain ⟨A2, c2, A5, c5, A6, c6, rfl, _⟩ := k28_open hK
  gi_wp2
  exact hKK _ _ ((KeepsOthers.alloc _ _).from _) (kpC_below hB.size (below_alloc (Below.refl _ _) _)) ⟨hi, hB.alloc hB.size _⟩ ⟨W.heap.size, hB.size, blk_new _ _, rfl⟩
 case body =>
  rintro l pre ⟨⟨v, cs⟩, hK, hO⟩ a' W hl hr ⟨hi, hB⟩ ⟨Bx, hBx, hbx, rfl⟩ _
  replace hK : k28.K W0 v cs := hK
  replace hO : OkV v := hO
  replace hbx : W.heap[Bx]? = some (.cells cs.toArray 28 (0, 0)) := hbx
  obtain ⟨x1, hx1⟩ : ∃ x1 : El W0, x1 = ⟨(v, cs), hK, hO⟩ := ⟨_, rfl⟩
  have hv1 : x1.1.1 = v := by rw [hx1]
  rw [← hx1]
  have hv2 : elv (pre ++ [x1]) = elv pre ++ [v] := by rw [elv_app, ← hv1]; rfl
  obtain ⟨A2, c2, A5, c5, A6, c6, rfl, _⟩ := k28_open hK
  have hd1 : 1 ≤ n - 1 - 1 := by omega
  have hBw := HB0.out.trans (hB.mono HB0.out.size)
  have hcall := Lib.hid (own_any v _ W (HL0.out.below hB) (k28.K_below hB hK) hO)
  have e0 := (blk_cell hbx 0).trans rfl
  have e1 := (blk_cell hbx 1).trans rfl
  have e2 := (blk_cell hbx 2).trans rfl
  have e3 := (blk_cell hbx 3).trans rfl
  have e4 := (blk_cell hbx 4).trans rfl
  have e5 := (blk_cell hbx 5).trans rfl
  have e6 := (blk_cell hbx 6).trans rfl
  have HI := Lib.hid hi
  have HBB := Lib.hid hB
  have HBW := Lib.hid hBw
  have HV := Lib.hid hv2
  have HV1 := Lib.hid hv1
  have hrw : W.heap[w.heap.size + 1]? = some (.cells #[.int .i64 0] 30 (0, 0)) := (hB.block _ (blk_lt HR0.out)).trans HR0.out
  have HRW := Lib.hid hrw
  clear hi hB hBw hx1 hv2 hv1 hK hO hrw hbx
  by_cases hz : vown v = 0
  · rw [hz] at hcall
    gi_wp2_with (first | (refine ⟨trivial, ?_⟩; gi_at_call 97; refine (CallsIn.inRound l (callsIn_wide.2 hcall.out)).mono ?_; rintro e w5 ⟨rfl, hB5⟩))
    exact ⟨(keepsO_below hB5).from _, kpC_below HBB.out.size hB5, ⟨by rw [HV.out, List.map_append, orL_app, if_pos HI.out]; simp [orL, hz], HBB.out.trans (hB5.mono HBB.out.size)⟩⟩
  · have hzb : (vown v != 0) = true := by simpa using hz
    have HZ := Lib.hid hz
    clear hz
    gi_wp2_with (first | (refine ⟨trivial, ?_⟩; gi_at_call 97; refine (CallsIn.inRound l (callsIn_wide.2 hcall.out)).mono ?_; rintro e w5 ⟨rfl, hB5⟩; obtain ⟨hcr, hfr⟩ := bcells HRW.out hB5))
    exact ⟨((keepsO_below hB5).trans (KeepsOthers.setCell _ _ _)).from _, ⟨rfl, pre, x1, rfl, HI.out, by rw [HV1.out]; exact HZ.out, by rw [HV1.out]; go_simp⟩, (HBW.out.trans (hB5.mono HBW.out.size)).setCell (p := ⟨w.heap.size + 1, 0, none⟩) (by simp) _⟩
 case done =>
  rintro D ys W hD hys ⟨hi, hB⟩ hK
  have hBw := HB0.out.trans (hB.mono HB0.out.size)
  have hrw : W.heap[w.heap.size + 1]? = some (.cells #[.int .i64 0] 30 (0, 0)) := (hB.block _ (blk_lt HR0.out)).trans HR0.out
  have hcr : W.cell? ⟨w.heap.size + 1, 0, none⟩ = some (.int .i64 0) := (blk_cell hrw 0).trans rfl
  have hfr := blk_frozen hrw 0
  have HI := Lib.hid hi
  have HY := Lib.hid hys
  have HBW := Lib.hid hBw
  have HK := Lib.hid hK
  clear hi hys hB hBw hK hrw
  gi_wp2
  have hK' := (KeepsOthers.setCell W ⟨w.heap.size + 1, 0, none⟩ (.int .i64 0)).same D _ HK.out rfl
  refine ⟨by simp, .inl ⟨_, _, rfl, run_takeDeferred hK', ?_⟩⟩
  have e2 : (W.setCell ⟨w.heap.size + 1, 0, none⟩ (.int .i64 0)).cell? ⟨w.heap.size + 1, 0, none⟩ = some (.int .i64 0) := by go_simp
  have k2 := cell_kept e2 (grownBy_putObj' _ D (.deferred none)) (fun r e => by cases e; exact ⟨_, hK', rfl⟩)
  refine ⟨.int .i64 0, by simp [results, Tryz.f62, go_sem, k2], ?_, (HBW.out.setCell (p := ⟨w.heap.size + 1, 0, none⟩) (by simp) _).trans (belowK_b (w := w) (Nat.le_refl _) _ D _ _ (by have := HB0.out.size; omega) hK' rfl rfl)⟩
  rw [← HY.out, HI.out]
 case stop =>
  rintro D c pre W hD hpre ⟨⟨rfl, l, y, rfl, hl, hy, e2⟩, hB⟩ hK
  have HB := Lib.hid hB
  have HK := Lib.hid hK
  have HL := Lib.hid hl
  have HP := Lib.hid hpre
  have HY := Lib.hid hy
  clear hB hK hl hpre hy
  gi_wp2
  refine ⟨by simp, .inl ⟨_, _, rfl, run_takeDeferred HK.out, ?_⟩⟩
  have k2 := cell_kept e2 (grownBy_putObj' _ D (.deferred none)) (fun r e => by cases e; exact ⟨_, HK.out, rfl⟩)
  refine ⟨.int .i64 (vown y.1.1), by simp [results, Tryz.f62, go_sem, k2], ?_, HB.out.trans (belowK_b (w := w) (Nat.le_refl _) W D _ _ (by have := HB0.out.size; omega) HK.out rfl rfl)⟩
  have hp := HP.out
  rw [elv_app] at hp
  rw [vown_orL_pre hp HL.out HY.out]
theorem Check_any (x : V) (cs : List Value) (w : World) (hLD : LaidW w) (hK : k28.K w x cs) (hO : OkV x) :
 Calls Tryz.prog 62 #[.agg cs.toArray] w fun e w' => e = .returned (.int .i64 (vchk x)) ∧ Below w.heap.size w w' :=
 callsIn_wide.1 (Check_in 4 (Nat.le_refl _) x cs w hLD hK hO)
end Go.Proofs.YthigbklhngihkaaGreatDoor.P
namespace Go.Proofs.YthigbklhngihkaaGreatDoor.P
open Go.RowKit Go.Proofs.YthigbklhngihkaaGreatDoorW.PrintWords Go.Proofs.YthigbklhngihkaaGreatDoorW.PrintMore Go.Proofs.YthigbklhngihkaaGreatDoorW.PrintLast
theorem infoS_ : (Tryz.prog.info? 9).map (fun i => (i.zero, i.size, i.bytes)) = some (some (.string ⟨#[]⟩), 1, 16) := by kernel_rfl
theorem infoU_ : (Tryz.prog.info? 131).map (fun i => (i.zero, i.size, i.bytes)) = some (some (.int .u32 0), 1, 4) := by kernel_rfl
theorem infoV_ : (Tryz.prog.info? 28).map (fun i => (i.zero, i.size, i.bytes)) = some (some (.agg #[(.int .i64 0), (.bool false), (.slice none 0 0), (.int .i64 0), (.string ⟨#[]⟩), (.slice none 0 0), (.slice none 0 0)]), 7, 112) := by kernel_rfl
theorem own_empty' (w : World) (e size : Nat) : (w.alloc (.cells #[] e)).ownsRow w.heap.size e size (.slice (some ⟨w.heap.size, 0, none⟩) 0 0) 0 [] :=
 ⟨by simp, .inr ⟨w.heap.size, 0, #[], rfl, Nat.le_refl _, heap_alloc_new _ _, Nat.le_refl _, by simp [maxLen], by simp, by simp⟩⟩
theorem C_none {α : Type} {d : Kd α} {w : World} {n : Nat} {xs : List α} (h : d.C w none n xs) : xs = [] := by
 rcases Nat.eq_zero_or_pos n with h0 | h0
 · exact List.eq_nil_of_length_eq_zero (h.1.trans h0)
 · obtain ⟨ad, e, _⟩ := h.2.2 h0; cases e
set_option maxHeartbeats 4000000 in
theorem clone_u32 (A : Option Addr) (c : Nat) (l : List Int) (w : World) (hr : Kd.C (Kd.int .u32) w A l.length l) (hc : l.length ≤ c) (hz : l.length ≤ 1073741824) :
 Calls Tryz.prog 106 #[.slice A l.length c] w fun e w' => ∃ v0_ : Value, e = .returned (v0_) ∧ Kd.R (Kd.int .u32) 131 w' w.heap.size (fun _ => True) v0_ l ∧ Below w.heap.size w w' := by
 have HR := Lib.hid hr
 clear hr
 cases A with
 | none =>
  obtain rfl := C_none HR.out
  have hq := _root_.Go.run_eql_slice_nil (P := Tryz.prog) (w := w) (t := 22) (e := 131) (a := none) (l := ([] : List Int).length) (c := c) (h := Tryz.underlying22)
  simp only [List.length_nil, Option.isNone_none] at hq ⊢
  go_enter Tryz.func106, Tryz.ntmps106
  go_wp2
  go_ret
  exact ⟨_, rfl, Kd.R_nil _ _ _ _ _, Below.refl _ _⟩
 | some ad =>
  have hq := _root_.Go.run_eql_slice_nil (P := Tryz.prog) (w := w) (t := 22) (e := 131) (a := (some ad)) (l := l.length) (c := c) (h := Tryz.underlying22)
  simp only [Option.isNone_some, Option.isNone_none] at hq
  have HE : Hid (Kd.R (Kd.int .u32) 131 (w.alloc (.cells #[] 131)) w.heap.size (fun _ => True) (.slice (some ⟨w.heap.size, 0, none⟩) 0 0) []) := Lib.hid (Kd.R_of_own (enc := Value.int .u32) (xs := []) (own_empty' w 131 1) (fun _ _ => trivial))
  have HC := Lib.hid (Kd.C_alloc HR.out (.cells #[] 131))
  go_enter Tryz.func106, Tryz.ntmps106
  go_wp2_with (first | (at_builtin; refine Kd.R_append_row (Value.int .u32) (0 : Int) w.heap.size rfl (.tmp 5) (.tmp 6) 22 131 (.int .u32 0) 4 rfl Tryz.underlying22 infoU_ rfl (by decide) _ _ _ _ _ _ _ rfl rfl (fun _ _ => trivial) HE.out HC.out ((Below.refl _ w).alloc (Nat.le_refl _) _) (by simp) (by simp; omega) ?_; intro v1 w1 hR1 hB1 _ _))
  go_ret
  exact ⟨v1, rfl, by have h := hR1; rw [List.nil_append] at h; exact h, hB1⟩
set_option maxHeartbeats 4000000 in
theorem clone_str (A : Option Addr) (c : Nat) (l : List ByteArray) (w : World) (hr : Kd.C (Kd.string) w A l.length l) (hc : l.length ≤ c) (hz : l.length ≤ 1073741824) :
 Calls Tryz.prog 107 #[.slice A l.length c] w fun e w' => ∃ v0_ : Value, e = .returned (v0_) ∧ Kd.R (Kd.string) 9 w' w.heap.size (fun _ => True) v0_ l ∧ Below w.heap.size w w' := by
 have HR := Lib.hid hr
 clear hr
 cases A with
 | none =>
  obtain rfl := C_none HR.out
  have hq := _root_.Go.run_eql_slice_nil (P := Tryz.prog) (w := w) (t := 26) (e := 9) (a := none) (l := ([] : List ByteArray).length) (c := c) (h := Tryz.underlying26)
  simp only [List.length_nil, Option.isNone_none] at hq ⊢
  go_enter Tryz.func107, Tryz.ntmps107
  go_wp2
  go_ret
  exact ⟨_, rfl, Kd.R_nil _ _ _ _ _, Below.refl _ _⟩
 | some ad =>
  have hq := _root_.Go.run_eql_slice_nil (P := Tryz.prog) (w := w) (t := 26) (e := 9) (a := (some ad)) (l := l.length) (c := c) (h := Tryz.underlying26)
  simp only [Option.isNone_some, Option.isNone_none] at hq
  have HE : Hid (Kd.R (Kd.string) 9 (w.alloc (.cells #[] 9)) w.heap.size (fun _ => True) (.slice (some ⟨w.heap.size, 0, none⟩) 0 0) []) := Lib.hid (Kd.R_of_own (enc := Value.string) (xs := []) (own_empty' w 9 1) (fun _ _ => trivial))
  have HC := Lib.hid (Kd.C_alloc HR.out (.cells #[] 9))
  go_enter Tryz.func107, Tryz.ntmps107
  go_wp2_with (first | (at_builtin; refine Kd.R_append_row (Value.string) (⟨#[]⟩ : ByteArray) w.heap.size rfl (.tmp 5) (.tmp 6) 26 9 (.string ⟨#[]⟩) 16 rfl Tryz.underlying26 infoS_ rfl (by decide) _ _ _ _ _ _ _ rfl rfl (fun _ _ => trivial) HE.out HC.out ((Below.refl _ w).alloc (Nat.le_refl _) _) (by simp) (by simp; omega) ?_; intro v1 w1 hR1 hB1 _ _))
  go_ret
  exact ⟨v1, rfl, by have h := hR1; rw [List.nil_append] at h; exact h, hB1⟩
def Shallow (w0 w : World) (base : Nat) (v : Value) (l : List S28) : Prop := ∃ rows : List (List Value), rows.length = l.length ∧ Kd.R (Kd.raw 7) 28 w base (fun _ => True) v rows ∧ ∀ (j : Nat) (x : S28) (c : List Value), l[j]? = some x → rows[j]? = some c → k28.K w0 x c
set_option maxHeartbeats 4000000 in
theorem clone_val (A : Option Addr) (c : Nat) (l : List S28) (w0 w : World) (hr : Kd.C k28 w0 A l.length l) (hb : Below w0.heap.size w0 w) (hc : l.length ≤ c) (hz : l.length ≤ 1073741824) :
 Calls Tryz.prog 108 #[.slice A l.length c] w fun e w' => ∃ v0_ : Value, e = .returned (v0_) ∧ Shallow w0 w' w.heap.size v0_ l ∧ Below w.heap.size w w' := by
 obtain ⟨news, hnl, hnr, hnf⟩ := Kd.reads_raw (sz := 7) hr (fun y c hk => ⟨k28.K_len hk, k28.K_one hk⟩)
 have HR := Lib.hid hr
 have HN := Lib.hid (Kd.C_below (d := Kd.raw 7) hnr hb)
 have HF := Lib.hid hnf
 clear hr hnr hnf hb
 cases A with
 | none =>
  obtain rfl := C_none HR.out
  have hq := _root_.Go.run_eql_slice_nil (P := Tryz.prog) (w := w) (t := 25) (e := 28) (a := none) (l := ([] : List S28).length) (c := c) (h := Tryz.underlying25)
  simp only [List.length_nil, Option.isNone_none] at hq ⊢
  go_enter Tryz.func108, Tryz.ntmps108
  go_wp2
  go_ret
  exact ⟨_, rfl, ⟨[], rfl, Kd.R_nil _ _ _ _ _, fun j x c hx => by simp at hx⟩, Below.refl _ _⟩
 | some ad =>
  have hq := _root_.Go.run_eql_slice_nil (P := Tryz.prog) (w := w) (t := 25) (e := 28) (a := (some ad)) (l := l.length) (c := c) (h := Tryz.underlying25)
  simp only [Option.isNone_some, Option.isNone_none] at hq
  have HE : Hid (Kd.R (Kd.raw 7) 28 (w.alloc (.cells #[] 28)) w.heap.size (fun _ => True) (.slice (some ⟨w.heap.size, 0, none⟩) 0 0) []) := Lib.hid ⟨fun _ _ => trivial, [], own_empty' w 28 7, ⟨by simp, fun j p hj => by simp at hj⟩⟩
  have HC : Hid (Kd.C (Kd.raw 7) (w.alloc (.cells #[] 28)) (some ad) l.length news) := Lib.hid (Kd.C_alloc (d := Kd.raw 7) HN.out (.cells #[] 28))
  go_enter Tryz.func108, Tryz.ntmps108
  go_wp2_with (first | (at_builtin; refine Kd.R_append_rows (Kd.raw 7) (Rr := (Kd.raw 7).K w) (w0 := w) w.heap.size rfl (.tmp 5) (.tmp 6) 25 28 _ 112 rfl Tryz.underlying25 infoV_ rfl (by decide) (by decide) _ [] news (some ad) l.length c (fun _ => True) (fun _ => False) rfl rfl HE.out HC.out (fun _ _ hk => hk) (fun _ hk => hk.elim) (fun _ _ => trivial) ((Below.refl _ w).alloc (Nat.le_refl _) _) (by simp) (by simp; omega) ?_; intro v1 w1 hR1 hB1 _ _))
  go_ret
  exact ⟨v1, rfl, ⟨news, hnl, by simpa using hR1, HF.out⟩, hB1⟩
def half (w0 : World) : Kd (V × Bool) where
 sz := 7
 E := k28.E
 K := fun w x cs => (x.2 = true ∧ k28.K w x.1 cs) ∨ (x.2 = false ∧ k28.K w0 x.1 cs)
 M := fun w base ok x cs => (x.2 = true ∧ k28.M w base ok x.1 cs) ∨ (x.2 = false ∧ k28.K w0 x.1 cs)
 K_len := by rintro w x cs (⟨_, h⟩ | ⟨_, h⟩) <;> exact k28.K_len h
 K_one := by rintro w x cs (⟨_, h⟩ | ⟨_, h⟩) <;> exact k28.K_one h
 K_below := by rintro w w1 x cs hb (⟨e, h⟩ | h); exact .inl ⟨e, k28.K_below hb h⟩; exact .inr h
 K_of_M := by rintro w base ok x cs (⟨e, h⟩ | h); exact .inl ⟨e, k28.K_of_M h⟩; exact .inr h
 M_mono := by rintro w base ok ok' x cs hk (⟨e, h⟩ | h); exact .inl ⟨e, k28.M_mono hk h⟩; exact .inr h
 M_bound := by rintro w base ok x cs (⟨e, h⟩ | h); exact .inl ⟨e, k28.M_bound h⟩; exact .inr h
 M_move := by rintro w w1 base ok x cs hk (⟨e, h⟩ | h); exact .inl ⟨e, k28.M_move hk h⟩; exact .inr h
 M_lower := by rintro w base base' ok x cs hb (⟨e, h⟩ | h); exact .inl ⟨e, k28.M_lower hb h⟩; exact .inr h
theorem half_of_raw {w0 w : World} {base : Nat} {ok : Nat → Prop} {v : Value} {l : List V} {rows : List (List Value)} (hl : rows.length = l.length) (h : Kd.R (Kd.raw 7) 28 w base ok v rows)
 (hk : ∀ (j : Nat) (x : V) (c : List Value), l[j]? = some x → rows[j]? = some c → k28.K w0 x c) : Kd.R (half w0) 28 w base ok v (l.map fun x => (x, false)) := by
 obtain ⟨h0, inner, ho, hr⟩ := h
 refine ⟨h0, inner, by rw [List.length_map, ← hl]; exact ho, by rw [List.length_map, ← hl]; exact hr.1, fun j p hj => ?_⟩
 rw [List.getElem?_map, Option.map_eq_some_iff] at hj
 obtain ⟨x, hx, rfl⟩ := hj
 have hlt : j < rows.length := by rw [hl]; exact (List.getElem?_eq_some_iff.1 hx).1
 have hc : rows[j]? = some rows[j] := List.getElem?_eq_getElem hlt
 have h2 := hr.2 j _ hc
 refine .inr ⟨rfl, ?_⟩
 rw [show ((half w0).sz) = (Kd.raw 7).sz from rfl, h2.1]
 exact hk j x _ hx hc
theorem below_go {w W W' : World} (h : Below w.heap.size w W) (h2 : Below W.heap.size W W') : Below w.heap.size w W' := h.trans (h2.mono h.size)
theorem blk_below3 {W w1 : World} {g : Nat} {o : Obj} (hg : W.heap[g]? = some o) (hb : Below W.heap.size W w1) : w1.heap[g]? = some o := (hb.block g (blk_lt hg)).trans hg
theorem setCells7 (W : World) (g o : Nat) (a0 a1 a2 a3 a4 a5 a6 : Value) : W.setCells g o [a0, a1, a2, a3, a4, a5, a6] = (((((((W.setCell ⟨g, o, none⟩ (a0)).setCell ⟨g, o + 1, none⟩ (a1)).setCell ⟨g, o + 2, none⟩ (a2)).setCell ⟨g, o + 3, none⟩ (a3)).setCell ⟨g, o + 4, none⟩ (a4)).setCell ⟨g, o + 5, none⟩ (a5)).setCell ⟨g, o + 6, none⟩ (a6)) := rfl
structure CloneMid (w wc : World) (x : V) (B2 : Option Addr) (d2 : Nat) (B5 : Option Addr) (d5 : Nat) (B6 : Option Addr) (d6 : Nat) (xs : List (V × Bool)) : Prop where
 box : wc.heap[w.heap.size]? = some (.cells #[.int .i64 x.f0, .bool x.f1.f0, .slice B2 x.f1.f1.length d2, .int .i64 x.f1.f2, .string x.f2, .slice B5 x.f3.length d5, .slice B6 x.f4.length d6] 28 (0, 0))
 res : wc.heap[w.heap.size + 1]? = some (.cells #[.int .i64 0, .bool false, .slice none 0 0, .int .i64 0, .string ⟨#[]⟩, .slice none 0 0, .slice none 0 0] 28 (0, 0))
 r2 : (Kd.int .u32).R 131 wc (w.heap.size + 2) (fun _ => True) (.slice B2 x.f1.f1.length d2) x.f1.f1
 r5 : (half w).R 28 wc (w.heap.size + 2) (fun _ => True) (.slice B5 x.f3.length d5) xs
 r6 : Kd.string.R 9 wc (w.heap.size + 2) (fun _ => True) (.slice B6 x.f4.length d6) x.f4
 below : Below w.heap.size w wc
def mixL (l : List V) (k : Nat) : List (V × Bool) := (l.take k).map (fun x => (x, true)) ++ (l.drop k).map (fun x => (x, false))
theorem mixL_len (l : List V) (k : Nat) : (mixL l k).length = l.length := by unfold mixL; simp; omega
theorem mixL_zero (l : List V) : mixL l 0 = l.map fun x => (x, false) := by simp [mixL]
theorem mixL_all (l : List V) : mixL l l.length = l.map fun x => (x, true) := by simp [mixL]
theorem mixL_get (l : List V) (k : Nat) (h : k < l.length) (z : V × Bool) : (mixL l k).getD k z = (rd_T28 l (k : Int), false) := by
 unfold mixL rd_T28
 rw [List.getD_eq_getElem?_getD, List.getElem?_append_right (by simp; omega)]
 simp [h, Nat.min_eq_left (Nat.le_of_lt h)]
theorem mixL_set (l : List V) (k : Nat) (h : k < l.length) : (mixL l k).set k (rd_T28 l (k : Int), true) = mixL l (k + 1) := by
 unfold mixL rd_T28
 have e : ((l.take k).map fun x => (x, true)).length = k := by simp; omega
 rw [List.set_append_right _ _ (by omega), e, Nat.sub_self, List.take_succ_eq_append_getElem h, List.drop_eq_getElem_cons h, List.map_append, List.append_assoc, List.map_cons, List.set_cons_zero]
 simp only [List.map_cons, List.map_nil, List.singleton_append, Int.toNat_natCast, List.getD_eq_getElem?_getD, List.getElem?_eq_getElem h, Option.getD_some]
theorem half_done {w0 w : World} {base : Nat} {ok : Nat → Prop} {v : Value} {l : List V} (h : (half w0).R 28 w base ok v (l.map fun x => (x, true))) : k28.R 28 w base ok v l := by
 obtain ⟨h0, inner, ho, hr⟩ := h
 rw [List.length_map] at ho
 refine ⟨h0, inner, ho, by have := hr.1; rw [List.length_map] at this; exact this, fun j p hj => ?_⟩
 have := hr.2 j (p, true) (by rw [List.getElem?_map, hj]; rfl)
 rcases this with ⟨_, h⟩ | ⟨h, _⟩
 · exact h
 · cases h
theorem mid_step {w wr Wb w5 : World} {x : V} {B2 : Option Addr} {d2 g d5 : Nat} {B6 : Option Addr} {d6 k : Nat} {c cs5 : List Value} {cur : Array Value} (hM : CloneMid w wr x B2 d2 (some ⟨g, 0, none⟩) d5 B6 d6 (mixL x.f3 k)) (hlt : k < x.f3.length)
 (hbg : w.heap.size + 2 ≤ g) (hcur : wr.heap[g]? = some (.cells cur 28 (0, 0))) (hbb : Below wr.heap.size wr Wb) (hB5 : Below Wb.heap.size Wb w5) (hM5 : k28.M w5 Wb.heap.size (fun _ => True) (rd_T28 x.f3 (k : Int)) cs5)
 (hcl : c.length = 7) (hcc : ∀ j u, c[j]? = some u → wr.cell? ⟨g, k * 7 + j, none⟩ = some u) : CloneMid w (w5.setCells g (k * 7) cs5) x B2 d2 (some ⟨g, 0, none⟩) d5 B6 d6 (mixL x.f3 (k + 1)) := by
 have hb5 : Below wr.heap.size wr w5 := hbb.trans (hB5.mono hbb.size)
 have hgw := blk_lt hcur
 have far : ∀ j, j ≠ g → (w5.setCells g (k * 7) cs5).heap[j]? = w5.heap[j]? := fun j hj => setCells_far cs5 _ j hj
 have hl5 : cs5.length = 7 := k28.K_len (k28.K_of_M hM5)
 have hM6 : (half w).M w5 (w.heap.size + 2) (fun j => Wb.heap.size ≤ j) (rd_T28 x.f3 (k : Int), true) (c.take 0 ++ cs5 ++ c.drop (0 + cs5.length)) := by
  rw [hl5, List.take_zero, List.nil_append, List.drop_eq_nil_of_le (by omega), List.append_nil]
  exact .inl ⟨rfl, k28.M_lower (by have := hbb.size; omega) (k28.M_mono (fun j hj => hj.2.1) (k28.M_bound hM5))⟩
 have hR5 := Kd.R_below hM.r5 hb5
 have hseg := Kd.R_seg hR5 (k : Int) (by omega) (by omega) (c := c) (seg := cs5) (j := 0) hcl (fun j u hj => by
  rw [Int.toNat_natCast]
  exact pw_cell_below hb5 (hcc j u hj)) (by rw [hl5]; exact Nat.le_refl _) hM6 (fun j hj => ⟨trivial, by have := hbb.size; omega⟩)
 rw [Int.toNat_natCast] at hseg
 obtain ⟨h5, hgr⟩ := hseg
 have e0 : k * (half w).sz + 0 = k * 7 := rfl
 rw [e0] at h5 hgr
 refine ⟨?_, ?_, ?_, ?_, ?_, ?_⟩
 · rw [far _ (by omega)]; exact blk_below3 hM.box hb5
 · rw [far _ (by omega)]; exact blk_below3 hM.res hb5
 · exact Kd.R_mono (Kd.R_step (Kd.R_below (Kd.R_types hM.r2 hcur (by decide)) hb5) (fun j hj _ => far j hj.2)) (fun _ _ => trivial)
 · rw [← mixL_set _ _ hlt]; exact h5
 · exact Kd.R_mono (Kd.R_step (Kd.R_below (Kd.R_types hM.r6 hcur (by decide)) hb5) (fun j hj _ => far j hj.2)) (fun _ _ => trivial)
 · exact pw_below_grown (below_go hM.below hb5) (some g) (below_go hM.below hb5).size hgr (fun j hj => by cases hj; omega)
theorem mid_end {w wr : World} {x : V} {B2 : Option Addr} {d2 : Nat} {B5 : Option Addr} {d5 : Nat} {B6 : Option Addr} {d6 : Nat} (hM : CloneMid w wr x B2 d2 B5 d5 B6 d6 (x.f3.map fun y => (y, true))) :
 k28.M (wr.setCells (w.heap.size + 1) 0 [.int .i64 x.f0, .bool x.f1.f0, .slice B2 x.f1.f1.length d2, .int .i64 x.f1.f2, .string x.f2, .slice B5 x.f3.length d5, .slice B6 x.f4.length d6]) w.heap.size (fun _ => True) x [.int .i64 x.f0, .bool x.f1.f0, .slice B2 x.f1.f1.length d2, .int .i64 x.f1.f2, .string x.f2, .slice B5 x.f3.length d5, .slice B6 x.f4.length d6] ∧ Below w.heap.size w (wr.setCells (w.heap.size + 1) 0 [.int .i64 x.f0, .bool x.f1.f0, .slice B2 x.f1.f1.length d2, .int .i64 x.f1.f2, .string x.f2, .slice B5 x.f3.length d5, .slice B6 x.f4.length d6]) ∧ (wr.setCells (w.heap.size + 1) 0 [.int .i64 x.f0, .bool x.f1.f0, .slice B2 x.f1.f1.length d2, .int .i64 x.f1.f2, .string x.f2, .slice B5 x.f3.length d5, .slice B6 x.f4.length d6]).heap[w.heap.size + 1]? = some (.cells #[.int .i64 x.f0, .bool x.f1.f0, .slice B2 x.f1.f1.length d2, .int .i64 x.f1.f2, .string x.f2, .slice B5 x.f3.length d5, .slice B6 x.f4.length d6] 28 (0, 0)) := by
 have far : ∀ j, j ≠ w.heap.size + 1 → (wr.setCells (w.heap.size + 1) 0 [.int .i64 x.f0, .bool x.f1.f0, .slice B2 x.f1.f1.length d2, .int .i64 x.f1.f2, .string x.f2, .slice B5 x.f3.length d5, .slice B6 x.f4.length d6]).heap[j]? = wr.heap[j]? := fun j hj => setCells_far _ _ j hj
 have mv : ∀ {α : Type} {d : Kd α} {e : Nat} {v : Value} {xs : List α}, d.R e wr (w.heap.size + 2) (fun _ => True) v xs → d.R e (wr.setCells (w.heap.size + 1) 0 [.int .i64 x.f0, .bool x.f1.f0, .slice B2 x.f1.f1.length d2, .int .i64 x.f1.f2, .string x.f2, .slice B5 x.f3.length d5, .slice B6 x.f4.length d6]) w.heap.size (fun _ => True) v xs := fun h =>
  Kd.R_lower (Kd.R_mono (Kd.R_move (Kd.R_bound h) (fun j hj => far j (by omega))) (fun _ _ => trivial)) (by omega)
 have hk := setCells_same (w.heap.size + 1) [.int .i64 x.f0, .bool x.f1.f0, .slice B2 x.f1.f1.length d2, .int .i64 x.f1.f2, .string x.f2, .slice B5 x.f3.length d5, .slice B6 x.f4.length d6] 0 wr
 refine ⟨k28_mkM _ _ _ x (mv hM.r2) (mv (half_done hM.r5)) (mv hM.r6), ?_, ?_⟩
 · exact hM.below.trans ⟨hk.1, hk.2.1, hk.2.2.1, Nat.le_of_eq hk.2.2.2.symm, fun j hj => far j (by omega)⟩
 · obtain ⟨cur, h1, h2, h3⟩ := setCells_row [.int .i64 x.f0, .bool x.f1.f0, .slice B2 x.f1.f1.length d2, .int .i64 x.f1.f2, .string x.f2, .slice B5 x.f3.length d5, .slice B6 x.f4.length d6] 0 wr _ hM.res (by simp)
   rw [h1]
   have : cur = #[.int .i64 x.f0, .bool x.f1.f0, .slice B2 x.f1.f1.length d2, .int .i64 x.f1.f2, .string x.f2, .slice B5 x.f3.length d5, .slice B6 x.f4.length d6] := by rw [← Array.toList_inj, h3]; simp
   rw [this]
theorem mid_first {w Wd w2 w6 w5 : World} {x : V} {A2 A5 A6 B2 B5 B6 : Option Addr} {c2 c5 c6 d2 d5 d6 : Nat} {rows : List (List Value)} (hA : Below w.heap.size w Wd) (hx : Wd.heap[w.heap.size]? = some (.cells #[.int .i64 x.f0, .bool x.f1.f0, .slice A2 x.f1.f1.length c2, .int .i64 x.f1.f2, .string x.f2, .slice A5 x.f3.length c5, .slice A6 x.f4.length c6] 28 (0, 0))) (hy : Wd.heap[w.heap.size + 1]? = some (.cells #[.int .i64 0, .bool false, .slice none 0 0, .int .i64 0, .string ⟨#[]⟩, .slice none 0 0, .slice none 0 0] 28 (0, 0))) (hz : Wd.heap.size = w.heap.size + 2)
 (hR2 : (Kd.int .u32).R 131 w2 Wd.heap.size (fun _ => True) (.slice B2 x.f1.f1.length d2) x.f1.f1) (hB2 : Below Wd.heap.size Wd w2) (hR6 : Kd.string.R 9 w6 w2.heap.size (fun _ => True) (.slice B6 x.f4.length d6) x.f4) (hB6 : Below w2.heap.size w2 w6)
 (hrl : rows.length = x.f3.length) (hR5 : (Kd.raw 7).R 28 w5 w6.heap.size (fun _ => True) (.slice B5 rows.length d5) rows) (hrk : ∀ (j : Nat) (y : V) (c : List Value), x.f3[j]? = some y → rows[j]? = some c → k28.K w y c) (hB5 : Below w6.heap.size w6 w5) :
 CloneMid w (((w5.setCell ⟨w.heap.size, 2, none⟩ (.slice B2 x.f1.f1.length d2)).setCell ⟨w.heap.size, 6, none⟩ (.slice B6 x.f4.length d6)).setCell ⟨w.heap.size, 5, none⟩ (.slice B5 rows.length d5)) x B2 d2 B5 d5 B6 d6 (mixL x.f3 0) := by
 have h26 : Below w2.heap.size w2 w5 := hB6.trans (hB5.mono hB6.size)
 have hd5 : Below Wd.heap.size Wd w5 := hB2.trans (h26.mono hB2.size)
 have s2 := hB2.size
 have s6 := hB6.size
 have mv : ∀ {α : Type} {d : Kd α} {e b : Nat} {v : Value} {xs : List α}, w.heap.size + 2 ≤ b → d.R e w5 b (fun _ => True) v xs → d.R e (((w5.setCell ⟨w.heap.size, 2, none⟩ (.slice B2 x.f1.f1.length d2)).setCell ⟨w.heap.size, 6, none⟩ (.slice B6 x.f4.length d6)).setCell ⟨w.heap.size, 5, none⟩ (.slice B5 rows.length d5)) (w.heap.size + 2) (fun _ => True) v xs := fun hb h =>
  Kd.R_lower (Kd.R_mono (Kd.R_move (Kd.R_bound h) (fun j hj => by
   rw [Below.heap_setCell _ _ _ _ (by simp; omega), Below.heap_setCell _ _ _ _ (by simp; omega), Below.heap_setCell _ _ _ _ (by simp; omega)])) (fun _ _ => trivial)) hb
 refine ⟨?_, ?_, mv (by omega) (Kd.R_below hR2 h26), ?_, mv (by omega) (Kd.R_below hR6 hB5), ?_⟩
 · have h1 := blk_set (blk_set (blk_set (blk_below3 hx hd5) 2 (.slice B2 x.f1.f1.length d2)) 6 (.slice B6 x.f4.length d6)) 5 (.slice B5 rows.length d5)
   rw [h1, hrl]
   rfl
 · exact blk_far (blk_far (blk_far (blk_below3 hy hd5) (by simp) _) (by simp) _) (by simp) _
 · rw [mixL_zero]
   have := mv (by omega) (half_of_raw hrl hR5 hrk)
   rw [hrl] at this ⊢
   exact this
 · exact (((hA.trans (hd5.mono hA.size)).setCell (p := ⟨w.heap.size, 2, none⟩) (Nat.le_refl _) _).setCell (p := ⟨w.heap.size, 6, none⟩) (Nat.le_refl _) _).setCell (p := ⟨w.heap.size, 5, none⟩) (Nat.le_refl _) _
set_option maxHeartbeats 16000000 in
theorem Clone_any : ∀ (x : V) (cs : List Value) (w : World), k28.K w x cs → OkV x →
 Calls Tryz.prog 66 #[.agg cs.toArray] w fun e w' => ∃ cs', e = .returned (.agg cs'.toArray) ∧ k28.M w' w.heap.size (fun _ => True) x cs' ∧ Below w.heap.size w w' := by
 refine V.ind fun x ih => ?_
 intro cs w hK hO
 obtain ⟨A2, c2, A5, c5, A6, c6, rfl, l2, g2, l5, g5, l6, g6⟩ := k28_open hK
 have n2 := hO.len1
 have n5 := hO.len3
 have n6 := hO.len4
 have G2 := Lib.hid g2
 have G5 := Lib.hid g5
 have G6 := Lib.hid g6
 have HO := Lib.hid hO
 have IH := Lib.hid ih
 obtain ⟨W1, hW1⟩ : ∃ W1, W1 = (w.alloc (.cells #[.int .i64 x.f0, .bool x.f1.f0, .slice A2 x.f1.f1.length c2, .int .i64 x.f1.f2, .string x.f2, .slice A5 x.f3.length c5, .slice A6 x.f4.length c6] 28)).alloc (.cells #[.int .i64 0, .bool false, .slice none 0 0, .int .i64 0, .string ⟨#[]⟩, .slice none 0 0, .slice none 0 0] 28) := ⟨_, rfl⟩
 have hA : Below w.heap.size w W1.drew := by rw [hW1]; exact below_drew (((Below.refl _ _).alloc (Nat.le_refl _) _).alloc (by simp) _)
 have hx1 : W1.drew.heap[w.heap.size]? = some (.cells #[.int .i64 x.f0, .bool x.f1.f0, .slice A2 x.f1.f1.length c2, .int .i64 x.f1.f2, .string x.f2, .slice A5 x.f3.length c5, .slice A6 x.f4.length c6] 28 (0, 0)) := by rw [hW1]; exact blk_drew (blk_alloc (blk_new _ _) _)
 have hy1 : W1.drew.heap[w.heap.size + 1]? = some (.cells #[.int .i64 0, .bool false, .slice none 0 0, .int .i64 0, .string ⟨#[]⟩, .slice none 0 0, .slice none 0 0] 28 (0, 0)) := by rw [hW1]; have := blk_new (w.alloc (.cells #[.int .i64 x.f0, .bool x.f1.f0, .slice A2 x.f1.f1.length c2, .int .i64 x.f1.f2, .string x.f2, .slice A5 x.f3.length c5, .slice A6 x.f4.length c6] 28)) (.cells #[.int .i64 0, .bool false, .slice none 0 0, .int .i64 0, .string ⟨#[]⟩, .slice none 0 0, .slice none 0 0] 28); rw [World.size_alloc] at this; exact blk_drew this
 have hz1 : W1.drew.heap.size = w.heap.size + 2 := by rw [hW1, World.size_drew]; simp
 have HZ := Lib.hid hz1
 have HW1 := Lib.hid hW1
 rw [hW1] at hA hx1 hy1
 clear hz1 hW1 g2 g5 g6 hO ih hK
 go_enter Tryz.func66, Tryz.ntmps66
 go_upto_region 1 with (fail)
 go_cut [] from 5 to 18 (fun wc => Hid (∃ B2 d2 B5 d5 B6 d6, CloneMid w wc x B2 d2 B5 d5 B6 d6 (mixL x.f3 0)))
 case first =>
  have HA := Lib.hid hA
  have HX1 := Lib.hid hx1
  have HY1 := Lib.hid hy1
  have L2 := Lib.hid l2
  have L5 := Lib.hid l5
  have L6 := Lib.hid l6
  have N2 := Lib.hid n2
  have N5 := Lib.hid n5
  have N6 := Lib.hid n6
  have hxc := blk_cell hx1
  clear hA hx1 hy1 l2 l5 l6 n2 n5 n6 IH HO
  go_region_with (first
   | (go_at_call 106; refine (clone_u32 _ _ x.f1.f1 _ (Kd.C_below G2.out HA.out) L2.out N2.out).mono ?_; rintro e w2 ⟨v2, rfl, hR2, hB2⟩; obtain ⟨B2, d2, rfl⟩ := Kd.R_slice hR2; have hA2 := below_go HA.out hB2; have hx2 := blk_below3 HX1.out hB2; obtain ⟨hc2, hf2⟩ := bcells hx2 (Below.refl _ _))
   | (go_at_call 107; refine (clone_str _ _ x.f4 _ (Kd.C_below G6.out hA2) L6.out N6.out).mono ?_; rintro e w6 ⟨v6, rfl, hR6, hB6⟩; obtain ⟨B6, d6, rfl⟩ := Kd.R_slice hR6; have hA6 := below_go hA2 hB6; have hx6 := blk_below3 hx2 hB6; obtain ⟨hc6, hf6⟩ := bcells hx6 (Below.refl _ _))
   | (go_at_call 108; refine (clone_val _ _ x.f3 w _ G5.out hA6 L5.out N5.out).mono ?_; rintro e w5 ⟨v5, rfl, hS5, hB5⟩; obtain ⟨rows, hrl, hR5, hrk⟩ := hS5; obtain ⟨B5, d5, rfl⟩ := Kd.R_slice hR5; have hx5 := blk_below3 hx6 hB5; obtain ⟨hc5, hf5⟩ := bcells hx5 (Below.refl _ _)))
  all_goals
   have hm := mid_first HA.out HX1.out HY1.out (by rw [← HW1.out]; exact HZ.out) hR2 hB2 hR6 hB6 hrl hR5 hrk hB5
   clear hc2 hf2 hc6 hf6 hc5 hf5 hx2 hx6 hx5 hA2 hA6 hR2 hB2 hR6 hB6 hR5 hrk hB5 hxc
   go_wp2_with fail
   go_meet
   exact Lib.hid ⟨_, _, _, _, _, _, by rw [hrl] at hm; exact hm⟩
 case rest =>
 obtain ⟨B2, d2, B5, d5, B6, d6, hM⟩ := hcut.out
 have HM := Lib.hid hM
 have hbx := blk_cell hM.box
 clear hcut hM hA hx1 hy1
 go_wp2
 go_loopw [22] (fun vi wr => ∃ k : Nat, k ≤ x.f3.length ∧ vi = .int .i64 k ∧ Hid (CloneMid w wr x B2 d2 B5 d5 B6 d6 (mixL x.f3 k))) (fun vi _ => x.f3.length - (intOf vi).toNat)
 case atStart => exact ⟨0, Nat.zero_le _, rfl, HM⟩
 case round =>
  clear hbx HM
  obtain ⟨k, hk, rfl, hM⟩ := hrel
  by_cases hlt : k < x.f3.length
  · obtain ⟨g, cap, hv, hbg, hgw, cur, hcur⟩ := Kd.R_form hM.out.r5 (by rw [mixL_len]; omega)
    rw [mixL_len] at hv
    injection hv with hv1 hv2 hv3
    subst hv1 hv3
    have hC := (Kd.R_reads' hM.out.r5).2.2
    obtain ⟨ad, c, he, hcl, hkc, hcc⟩ := Kd.C_get hC (x, false) (k : Int) (by omega) (by rw [mixL_len]; omega)
    obtain rfl := Option.some.inj he
    rw [Int.toNat_natCast, mixL_get _ _ hlt] at hkc
    rw [Int.toNat_natCast] at hcc
    rcases hkc with ⟨h0, _⟩ | ⟨h0, hkc⟩
    · cases h0
    clear h0
    obtain ⟨D2, e2, D5, e5, D6, e6, rfl, hrest⟩ := k28_open hkc
    clear hrest
    have q0 := hcc 0 _ rfl
    have q1 := hcc 1 _ rfl
    have q2 := hcc 2 _ rfl
    have q3 := hcc 3 _ rfl
    have q4 := hcc 4 _ rfl
    have q5 := hcc 5 _ rfl
    have q6 := hcc 6 _ rfl
    simp only [add_plain] at q0 q1 q2 q3 q4 q5 q6
    change wr.cell? ⟨g, k * 7 + 0, none⟩ = _ at q0
    change wr.cell? ⟨g, k * 7 + 1, none⟩ = _ at q1
    change wr.cell? ⟨g, k * 7 + 2, none⟩ = _ at q2
    change wr.cell? ⟨g, k * 7 + 3, none⟩ = _ at q3
    change wr.cell? ⟨g, k * 7 + 4, none⟩ = _ at q4
    change wr.cell? ⟨g, k * 7 + 5, none⟩ = _ at q5
    change wr.cell? ⟨g, k * 7 + 6, none⟩ = _ at q6
    rw [Nat.add_zero] at q0
    have hmem := Lib.hid (show rd_T28 x.f3 (k : Int) ∈ x.f3 by unfold rd_T28; simp [hlt])
    have hbx := blk_cell hM.out.box
    have hw : wrap64 ((k : Int) + 1) = ((k + 1 : Nat) : Int) := by unfold wrap64; omega
    have HCUR := Lib.hid hcur
    have HKC := Lib.hid hkc
    have HCC : Hid (∀ j u, ([.int .i64 (rd_T28 x.f3 (k : Int)).f0, .bool (rd_T28 x.f3 (k : Int)).f1.f0, .slice D2 (rd_T28 x.f3 (k : Int)).f1.f1.length e2, .int .i64 (rd_T28 x.f3 (k : Int)).f1.f2, .string (rd_T28 x.f3 (k : Int)).f2, .slice D5 (rd_T28 x.f3 (k : Int)).f3.length e5, .slice D6 (rd_T28 x.f3 (k : Int)).f4.length e6] : List Value)[j]? = some u → wr.cell? ⟨g, k * 7 + j, none⟩ = some u) := Lib.hid (fun j u hj => by have := hcc j u hj; rw [add_plain] at this; exact this)
    obtain ⟨Wb, hWb⟩ : ∃ Wb, Wb = (wr.alloc (.cells #[.int .i64 (rd_T28 x.f3 (k : Int)).f0, .bool (rd_T28 x.f3 (k : Int)).f1.f0, .slice D2 (rd_T28 x.f3 (k : Int)).f1.f1.length e2, .int .i64 (rd_T28 x.f3 (k : Int)).f1.f2, .string (rd_T28 x.f3 (k : Int)).f2, .slice D5 (rd_T28 x.f3 (k : Int)).f3.length e5, .slice D6 (rd_T28 x.f3 (k : Int)).f4.length e6] 28)).drew := ⟨_, rfl⟩
    have hbb : Below wr.heap.size wr Wb := by rw [hWb]; exact below_drew ((Below.refl _ _).alloc (Nat.le_refl _) _)
    have hA : Below w.heap.size w Wb := below_go hM.out.below hbb
    have hx := blk_below3 hM.out.box hbb
    have hg := blk_below3 hcur hbb
    have hKb := Lib.hid (k28.K_below hA hkc)
    have hcall := Lib.hid (IH.out _ hmem.out _ _ hKb.out (HO.out.rd hlt))
    have p0 := pw_cell_below hbb q0
    have p1 := pw_cell_below hbb q1
    have p2 := pw_cell_below hbb q2
    have p3 := pw_cell_below hbb q3
    have p4 := pw_cell_below hbb q4
    have p5 := pw_cell_below hbb q5
    have p6 := pw_cell_below hbb q6
    have HWB := Lib.hid hWb
    have HBB := Lib.hid hbb
    have HA := Lib.hid hA
    rw [hWb] at hcall hx hg p0 p1 p2 p3 p4 p5 p6
    clear hcc hC hcl hkc hcur hbb hA hWb hv2 he
    have hsz1 : w.heap.size < wr.heap.size := by omega
    have hbx2 := blk_cell hx
    go_upto_region 5 with (fail)
    go_region_with (first
     | (go_at_call 66; refine hcall.out.mono ?_; rintro e w5 ⟨cs5, rfl, hM5, hB5⟩; obtain ⟨v2, v5, v6, rfl, r2, r5, r6⟩ := k28_openM hM5; obtain ⟨E2, s2, rfl⟩ := Kd.R_slice r2; obtain ⟨E5, s5, rfl⟩ := Kd.R_slice r5; obtain ⟨E6, s6, rfl⟩ := Kd.R_slice r6; obtain ⟨hc5, hf5⟩ := bcells hx hB5; obtain ⟨hc6, hf6⟩ := bcells hg hB5; have p0' := pw_cell_below hB5 p0; have p1' := pw_cell_below hB5 p1; have p2' := pw_cell_below hB5 p2; have p3' := pw_cell_below hB5 p3; have p4' := pw_cell_below hB5 p4; have p5' := pw_cell_below hB5 p5; have p6' := pw_cell_below hB5 p6; clear hc6))
    all_goals
     have hM2 := mid_step hM.out hlt hbg HCUR.out HBB.out (by rw [HWB.out]; exact hB5) (by rw [HWB.out]; exact hM5) rfl HCC.out
     obtain ⟨W6, hW6⟩ : ∃ W6, W6 = (((((((w5.setCell ⟨g, k * 7, none⟩ (.int .i64 (rd_T28 x.f3 (k : Int)).f0)).setCell ⟨g, k * 7 + 1, none⟩ (.bool (rd_T28 x.f3 (k : Int)).f1.f0)).setCell ⟨g, k * 7 + 2, none⟩ (.slice E2 (rd_T28 x.f3 (k : Int)).f1.f1.length s2)).setCell ⟨g, k * 7 + 3, none⟩ (.int .i64 (rd_T28 x.f3 (k : Int)).f1.f2)).setCell ⟨g, k * 7 + 4, none⟩ (.string (rd_T28 x.f3 (k : Int)).f2)).setCell ⟨g, k * 7 + 5, none⟩ (.slice E5 (rd_T28 x.f3 (k : Int)).f3.length s5)).setCell ⟨g, k * 7 + 6, none⟩ (.slice E6 (rd_T28 x.f3 (k : Int)).f4.length s6)) := ⟨_, rfl⟩
     have HM2 : Hid (CloneMid w W6 x B2 d2 (some ⟨g, 0, none⟩) d5 B6 d6 (mixL x.f3 (k + 1))) := Lib.hid (by rw [hW6, ← setCells7]; exact hM2)
     rw [← hW6]
     clear hM2 hW6 hc5 hf5 hf6 p0 p1 p2 p3 p4 p5 p6 p0' p1' p2' p3' p4' p5' p6' r2 r5 r6 hM5 hB5 hx hg q0 q1 q2 q3 q4 q5 q6 hbx hbx2 hcall HKC HCC HCUR HA HBB HWB hKb hM
     clear IH HO G2 G5 G6 HZ HW1 l2 l5 l6 n2 n5 n6 hbg hgw hsz1
     rename_i qa ka aa qb kb ab
     refine ab _ _ ?_
     go_wp2_with fail
     rw [hw]
     exact ⟨⟨k + 1, hlt, rfl, HM2⟩, by show x.f3.length - (k + 1) < x.f3.length - k; clear hw; omega⟩
  · obtain rfl : k = x.f3.length := by omega
    rw [mixL_all] at hM
    have hbx := blk_cell hM.out.box
    have hbf := blk_frozen hM.out.box
    have hrx := blk_cell hM.out.res
    have hrf := blk_frozen hM.out.res
    have hfin := mid_end hM.out
    clear IH HO G2 G5 G6 HZ HW1 l2 l5 l6 n2 n5 n6
    go_wp2
    rw [setCells7] at hfin
    obtain ⟨W7, hW7⟩ : ∃ W7, W7 = (((((((wr.setCell ⟨w.heap.size + 1, 0, none⟩ (.int .i64 x.f0)).setCell ⟨w.heap.size + 1, 1, none⟩ (.bool x.f1.f0)).setCell ⟨w.heap.size + 1, 2, none⟩ (.slice B2 x.f1.f1.length d2)).setCell ⟨w.heap.size + 1, 3, none⟩ (.int .i64 x.f1.f2)).setCell ⟨w.heap.size + 1, 4, none⟩ (.string x.f2)).setCell ⟨w.heap.size + 1, 5, none⟩ (.slice B5 x.f3.length d5)).setCell ⟨w.heap.size + 1, 6, none⟩ (.slice B6 x.f4.length d6)) := ⟨_, rfl⟩
    rw [← hW7]
    have hf2 : k28.M W7 w.heap.size (fun _ => True) x [.int .i64 x.f0, .bool x.f1.f0, .slice B2 x.f1.f1.length d2, .int .i64 x.f1.f2, .string x.f2, .slice B5 x.f3.length d5, .slice B6 x.f4.length d6] ∧ Below w.heap.size w W7 ∧ W7.heap[w.heap.size + 1]? = some (.cells #[.int .i64 x.f0, .bool x.f1.f0, .slice B2 x.f1.f1.length d2, .int .i64 x.f1.f2, .string x.f2, .slice B5 x.f3.length d5, .slice B6 x.f4.length d6] 28 (0, 0)) := by rw [hW7]; exact hfin
    clear hfin hW7 hbx hbf hrx hrf hM
    obtain ⟨hm, hbw, hre⟩ := hf2
    have hrc := blk_cell hre
    refine bodyPost_ret (v := .agg #[.int .i64 x.f0, .bool x.f1.f0, .slice B2 x.f1.f1.length d2, .int .i64 x.f1.f2, .string x.f2, .slice B5 x.f3.length d5, .slice B6 x.f4.length d6]) ?_ rfl ⟨_, rfl, hm, hbw⟩
    simp [results, Tryz.f66, go_sem, hrc]
end Go.Proofs.YthigbklhngihkaaGreatDoor.P

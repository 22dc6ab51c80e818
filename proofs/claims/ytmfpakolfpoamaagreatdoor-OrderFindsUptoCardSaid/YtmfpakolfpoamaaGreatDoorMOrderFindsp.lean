/- Texts of this claim, one behind the other. -/
import Derived.Test.YtmfpakolfpoamaaGreatDoorMOrderFindso
import Derived.Test.YtmfpakolfpoamaaGreatDoorMOrderFindse
import Derived.Test.YtmfpakolfpoamaaGreatDoorMOrderFindsm
import Derived.Test.YtmfpakolfpoamaaGreatDoorMOrderFindsn
import Derived.RangeFuncNested
import Derived.RangeFuncBox
import Derived.RangeFuncLeaves
import Derived.RangeFuncFrom
import Derived.RangeFuncCalls
import Derived.OwnWalkIn
import Derived.TacticsInMore
import Derived.LoopNIn
import Derived.LoopIn
import Derived.Sort.BigQuietIn
import Derived.Shelf.RegionOpen
import Derived.TacticsIn
import Derived.RangeFuncKeeps
import Derived.RangeFuncBound
import Derived.Shelf.Abstract
set_option maxRecDepth 100000
namespace Go.Proofs.YtmfpakolfpoamaaGreatDoor.P
set_option linter.unusedVariables false
set_option linter.unusedSimpArgs false
open Go.RowKit Go.Proofs.YtmfpakolfpoamaaGreatDoorW.PrintWords Go.Proofs.YtmfpakolfpoamaaGreatDoorW.PrintMore Go.Proofs.YtmfpakolfpoamaaGreatDoorW.PrintLast
theorem row_decs {W : World} {g : Nat} {a b : D} {A B : Option Addr} {c d : Nat} (h : W.heap[g]? = some (.cells #[.bool a.f0, .slice A a.f1.length c, .int .i64 a.f2, .bool b.f0, .slice B b.f1.length d, .int .i64 b.f2] 31 (0, 0))) (ha : k31.K W a [.bool a.f0, .slice A a.f1.length c, .int .i64 a.f2]) (hb : k31.K W b [.bool b.f0, .slice B b.f1.length d, .int .i64 b.f2]) :
 k31.C W (some ⟨g, 0, none⟩) 2 [a, b] := by
 refine ⟨rfl, by decide, fun _ => ⟨_, rfl, fun j p hj => ?_⟩⟩
 have hc := blk_cell h
 rcases j with _ | _ | j
 · simp only [List.getElem?_cons_zero, Option.some.injEq] at hj
   subst hj
   refine ⟨_, rfl, ha, fun i u hu => ?_⟩
   have hi : i < 3 := by have := (List.getElem?_eq_some_iff.1 hu).1; simpa using this
   rw [add_plain]
   show W.cell? ⟨g, 0 * 3 + i, none⟩ = some u
   rw [show 0 * 3 + i = i by omega, hc, ← hu]
   rcases i with _ | _ | _ | i
   · rfl
   · rfl
   · rfl
   · omega
 · simp only [List.getElem?_cons_succ, List.getElem?_cons_zero, Option.some.injEq] at hj
   subst hj
   refine ⟨_, rfl, hb, fun i u hu => ?_⟩
   have hi : i < 3 := by have := (List.getElem?_eq_some_iff.1 hu).1; simpa using this
   rw [add_plain]
   show W.cell? ⟨g, 1 * 3 + i, none⟩ = some u
   rw [show 1 * 3 + i = 3 + i by omega, hc, ← hu]
   rcases i with _ | _ | _ | i
   · rfl
   · rfl
   · rfl
   · omega
 · simp at hj
theorem dsOk_two {a b : D} (ha : decOkB a = true) (hb : decOkB b = true) : dsOk [a, b] = true := by
 unfold dsOk dchk
 simp [ha, hb]
theorem zero_any (b0 : Bool) (A : Option Addr) (n c : Nat) (x : Int) (W : World) : Calls Tryz.prog 94 #[.agg #[.bool b0, .slice A n c, .int .i64 x]] W fun e w' => e = .returned (.bool ((n : Int) == 0)) ∧ Below W.heap.size W w' := by
 go_enter Tryz.func94, Tryz.ntmps94
 go_wp2
 go_ret
 exact ⟨rfl, (Below.refl _ _).alloc (Nat.le_refl _) _⟩
set_option maxHeartbeats 1000000 in
theorem Compare_any (a b : D) (A : Option Addr) (c : Nat) (B : Option Addr) (d : Nat) (w : World) (hc : a.f1.length ≤ c) (hA : Kd.C (Kd.int .u32) w A a.f1.length a.f1) (hd : b.f1.length ≤ d) (hB : Kd.C (Kd.int .u32) w B b.f1.length b.f1) (hOa : OkD a) (hOb : OkD b) (ha : decOkB a = true) (hb : decOkB b = true) :
 Calls Tryz.prog 67 #[.agg #[.bool a.f0, .slice A a.f1.length c, .int .i64 a.f2], .agg #[.bool b.f0, .slice B b.f1.length d, .int .i64 b.f2]] w fun e w' => e = .returned (.tuple #[.int .i64 (dcmp a b), .int .i64 0]) ∧ Below w.heap.size w w' := by
 rw [dcmp_plus a b ha hb]
 obtain ⟨r, hr⟩ : ∃ r : Int, r = if (plusD a (minusD b)).f1.length = 0 then 0 else if (plusD a (minusD b)).f0 then -1 else 1 := ⟨_, rfl⟩
 rw [← hr]
 have HR := Lib.hid hr
 clear hr
 have hpl : ∀ W, Below w.heap.size w W → Calls Tryz.prog 92 #[.agg #[.bool a.f0, .slice A a.f1.length c, .int .i64 a.f2], .agg #[.bool (!b.f0 && decide (b.f1.length ≠ 0)), .slice B b.f1.length d, .int .i64 b.f2]] W fun e w' => ∃ E ee, e = .returned (.agg #[.bool (plusD a (minusD b)).f0, .slice E (plusD a (minusD b)).f1.length ee, .int .i64 (plusD a (minusD b)).f2]) ∧ (plusD a (minusD b)).f1.length ≤ ee ∧ Kd.C (Kd.int .u32) w' E (plusD a (minusD b)).f1.length (plusD a (minusD b)).f1 ∧ Below W.heap.size W w' := fun W hW => by
  obtain ⟨a1, a2, a3, a4, a5⟩ := dec_ok ha
  obtain ⟨b1, b2, b3, b4, b5⟩ := dec_ok hb
  have h1 := downN_fits ha (min a.f2 b.f2) (by omega) (by omega)
  have h2 := downN_fits hb (min a.f2 b.f2) (by omega) (by omega)
  have h3 : downN (minusD b) (min a.f2 b.f2) = downN b (min a.f2 b.f2) := rfl
  exact plus_any a (minusD b) A c B d W hc (Kd.C_below hA hW) hd (Kd.C_below hB hW) a1 b1 a2 b2 (min a.f2 b.f2) rfl (fun _ => by show a.f2 - min a.f2 b.f2 ≤ 2400; omega) (fun _ => by show b.f2 - min a.f2 b.f2 ≤ 2400; omega) ⟨by omega, by omega, by show -9000000 ≤ b.f2; omega, by show b.f2 ≤ 9000000; omega⟩ (by rw [h3]; omega)
 have hmi := fun W => minus_any b B d W
 obtain ⟨nb, hnb⟩ : ∃ nb, nb = (!b.f0 && decide (b.f1.length ≠ 0)) := ⟨_, rfl⟩
 rw [← hnb] at hpl
 simp only [← hnb] at hmi
 have HMI := Lib.hid hmi
 clear hnb hmi
 have HPL := Lib.hid hpl
 have HDS := Lib.hid (dsOk_two ha hb)
 have HA := Lib.hid hA
 have HB := Lib.hid hB
 have HOa := Lib.hid hOa
 have HOb := Lib.hid hOb
 have HC := Lib.hid hc
 have HD := Lib.hid hd
 clear hpl ha hb hA hB hOa hOb
 generalize plusD a (minusD b) = p at *
 obtain ⟨W2, hW2⟩ : ∃ W2, W2 = (w.alloc (.cells #[.bool a.f0, .slice A a.f1.length c, .int .i64 a.f2] 31)).alloc (.cells #[.bool b.f0, .slice B b.f1.length d, .int .i64 b.f2] 31) := ⟨_, rfl⟩
 have hz : W2.heap.size = w.heap.size + 2 := by rw [hW2]; simp
 have hA2 : Below w.heap.size w W2 := by rw [hW2]; exact ((Below.refl _ _).alloc (Nat.le_refl _) _).alloc (by simp) _
 have hx : W2.heap[w.heap.size]? = some (.cells #[.bool a.f0, .slice A a.f1.length c, .int .i64 a.f2] 31 (0, 0)) := by rw [hW2]; exact blk_alloc (blk_new _ _) _
 have hy : W2.heap[w.heap.size + 1]? = some (.cells #[.bool b.f0, .slice B b.f1.length d, .int .i64 b.f2] 31 (0, 0)) := by
  rw [hW2]
  have := blk_new (w.alloc (.cells #[.bool a.f0, .slice A a.f1.length c, .int .i64 a.f2] 31)) (.cells #[.bool b.f0, .slice B b.f1.length d, .int .i64 b.f2] 31)
  rw [World.size_alloc] at this
  exact this
 have hask : Calls Tryz.prog 91 #[.slice (some ⟨w.heap.size + 1 + 1, 0, none⟩) 2 2] (W2.alloc (.cells #[.bool a.f0, .slice A a.f1.length c, .int .i64 a.f2, .bool b.f0, .slice B b.f1.length d, .int .i64 b.f2] 31)) fun e w' => e = .returned (.int .i64 0) ∧ Below (W2.alloc (.cells #[.bool a.f0, .slice A a.f1.length c, .int .i64 a.f2, .bool b.f0, .slice B b.f1.length d, .int .i64 b.f2] 31)).heap.size (W2.alloc (.cells #[.bool a.f0, .slice A a.f1.length c, .int .i64 a.f2, .bool b.f0, .slice B b.f1.length d, .int .i64 b.f2] 31)) w' := by
  have hbW : Below w.heap.size w (W2.alloc (.cells #[.bool a.f0, .slice A a.f1.length c, .int .i64 a.f2, .bool b.f0, .slice B b.f1.length d, .int .i64 b.f2] 31)) := hA2.alloc hA2.size _
  have h := ask_any (some ⟨w.heap.size + 1 + 1, 0, none⟩) 2 [a, b] (W2.alloc (.cells #[.bool a.f0, .slice A a.f1.length c, .int .i64 a.f2, .bool b.f0, .slice B b.f1.length d, .int .i64 b.f2] 31)) (row_decs (by have := blk_new W2 (.cells #[.bool a.f0, .slice A a.f1.length c, .int .i64 a.f2, .bool b.f0, .slice B b.f1.length d, .int .i64 b.f2] 31); rw [hz] at this; exact this) (k31_mk _ a hc (Kd.C_below HA.out hbW)) (k31_mk _ b hd (Kd.C_below HB.out hbW))) (fun x hx => by
   rcases List.mem_cons.1 hx with rfl | hx
   · exact HOa.out
   · rw [List.mem_singleton.1 hx]; exact HOb.out) (by show 2 ≤ 4611686018427387904; decide)
  rw [HDS.out] at h
  exact h
 have hzr : (W2.alloc (.cells #[.bool a.f0, .slice A a.f1.length c, .int .i64 a.f2, .bool b.f0, .slice B b.f1.length d, .int .i64 b.f2] 31)).heap.size = w.heap.size + 3 := by simp [hz]
 rw [hzr, hW2] at hask
 have HASK := Lib.hid hask
 have HZ := Lib.hid hz
 have HA2 := Lib.hid hA2
 have HX := Lib.hid hx
 have HY := Lib.hid hy
 have HW2 := Lib.hid hW2
 clear hz hA2 hx hy hW2 hask hzr
 go_enter Tryz.func67, Tryz.ntmps67
 go_upto_region 4 with (first | (go_at_call 91; go_loud (with_reducible refine HASK.out.mono ?_); rintro e w3 ⟨rfl, hB3⟩; rw [← HW2.out] at hB3; have hB23 := ((Below.refl W2.heap.size W2).alloc (Nat.le_refl _) _).trans (hB3.mono (by rw [HZ.out]; omega)); obtain ⟨hx3, hxf3⟩ := bcells HX.out hB23; obtain ⟨hy3, hyf3⟩ := bcells HY.out hB23))
 have HA3 := Lib.hid (HA2.out.trans (hB23.mono HA2.out.size))
 have HX3 := Lib.hid (blk_below3 HX.out hB23)
 have HY3 := Lib.hid (blk_below3 HY.out hB23)
 obtain ⟨hx4, hxf4⟩ := bcells HX3.out (Below.refl _ _)
 obtain ⟨hy4, hyf4⟩ := bcells HY3.out (Below.refl _ _)
 have hxa := fun o => (bcells (blk_alloc HX3.out o) (Below.refl _ _)).1
 have hya := fun o => (bcells (blk_alloc HY3.out o) (Below.refl _ _)).1
 have hs3 : w.heap.size + 2 ≤ w3.heap.size := by have := hB23.size; rw [HZ.out] at this; exact this
 clear hx3 hxf3 hy3 hyf3 hB3 hB23 HX HY HA2 HASK HW2
 go_region_law (first
  | (go_simp; go_at_call 93; (with_reducible refine (HMI.out _).mono ?_); rintro e w5 ⟨rfl, hB5⟩; have hs5 : w.heap.size + 2 ≤ w5.heap.size := (by have := hB5.size; first | (rw [World.size_drew] at this; omega) | (rw [World.size_drew, World.size_alloc] at this; omega)); have HA5 : Hid (Below w.heap.size w w5) := Lib.hid (by first | exact (below_drew HA3.out).trans (hB5.mono (by rw [World.size_drew]; omega)) | exact (below_drew (HA3.out.alloc (by omega) _)).trans (hB5.mono (by rw [World.size_drew, World.size_alloc]; omega))); obtain ⟨hx5, hxf5⟩ := (show (∀ i, w5.cell? ⟨w.heap.size, i, none⟩ = #[.bool a.f0, .slice A a.f1.length c, .int .i64 a.f2][i]?) ∧ (∀ i, w5.frozen? ⟨w.heap.size, i, none⟩ = false) from by first | exact bcells (blk_drew HX3.out) hB5 | exact bcells (blk_drew (blk_alloc HX3.out _)) hB5); have hxa5 := fun o => (bcells (show (w5.alloc o).heap[w.heap.size]? = some (.cells #[.bool a.f0, .slice A a.f1.length c, .int .i64 a.f2] 31 (0, 0)) from by first | exact blk_alloc (blk_below3 (blk_drew HX3.out) hB5) o | exact blk_alloc (blk_below3 (blk_drew (blk_alloc HX3.out _)) hB5) o) (Below.refl _ _)).1; (first | (have hz5 := Lib.hid (blk_below3 (blk_drew (blk_new w3 (.cells #[.bool false, .slice none 0 0, .int .i64 0] 122 (0, 0)))) hB5)) | skip))
  | (go_simp; go_at_call 92; (with_reducible refine (HPL.out _ (by first | exact HA5.out | exact HA5.out.alloc (by omega) _)).mono ?_); rintro e w6 ⟨E, ee, rfl, hk6, hC6, hB6⟩; (first | (have hz6 := Lib.hid (blk_below3 (blk_new w5 (.cells #[.bool false, .slice none 0 0, .int .i64 0] 122 (0, 0))) hB6); obtain ⟨hzc, hzf⟩ := bcells hz6.out (Below.refl _ _)) | (have hz6 := Lib.hid (blk_below3 hz5.out hB6); obtain ⟨hzc, hzf⟩ := bcells hz6.out (Below.refl _ _)) | skip)))
 all_goals
  have HB6 : Hid (Below w.heap.size w w6) := Lib.hid (by first | exact HA5.out.trans (hB6.mono (by omega)) | exact (HA5.out.alloc (by omega) _).trans (hB6.mono (by simp; omega)))
  have hs6 : w.heap.size + 2 ≤ w6.heap.size := by have := hB6.size; first | omega | (rw [World.size_alloc] at this; omega)
  rename_i q_ k_ a_
  refine a_ _ _ ?_
  clear a_ hx4 hxf4 hy4 hyf4 hxa hya hx5 hxf5 hxa5
  first
   | (have hz7 : Hid (w6.heap[w5.heap.size]? = some (.cells #[.bool false, .slice none 0 0, .int .i64 0] 122 (0, 0))) := (by with_reducible exact hz6); obtain ⟨Z, g7, hg7, hZ, hbz, hBz⟩ : ∃ Z g7, g7 = w5.heap.size ∧ Z = (((w6.setCell ⟨w5.heap.size, 0, none⟩ (.bool p.f0)).setCell ⟨w5.heap.size, 1, none⟩ (.slice E p.f1.length ee)).setCell ⟨w5.heap.size, 2, none⟩ (.int .i64 p.f2)) ∧ Z.heap[g7]? = some (.cells #[.bool p.f0, .slice E p.f1.length ee, .int .i64 p.f2] 122 (0, 0)) ∧ Below w.heap.size w Z := ⟨_, _, rfl, rfl, box3_out hz7.out _ _ _, ((HB6.out.setCell (p := ⟨w5.heap.size, 0, none⟩) HA5.out.size _).setCell (p := ⟨w5.heap.size, 1, none⟩) HA5.out.size _).setCell (p := ⟨w5.heap.size, 2, none⟩) HA5.out.size _⟩; rw [← hZ, ← hg7])
   | (have hz7 : Hid (w6.heap[w3.heap.size]? = some (.cells #[.bool false, .slice none 0 0, .int .i64 0] 122 (0, 0))) := (by with_reducible exact hz6); obtain ⟨Z, g7, hg7, hZ, hbz, hBz⟩ : ∃ Z g7, g7 = w3.heap.size ∧ Z = (((w6.setCell ⟨w3.heap.size, 0, none⟩ (.bool p.f0)).setCell ⟨w3.heap.size, 1, none⟩ (.slice E p.f1.length ee)).setCell ⟨w3.heap.size, 2, none⟩ (.int .i64 p.f2)) ∧ Z.heap[g7]? = some (.cells #[.bool p.f0, .slice E p.f1.length ee, .int .i64 p.f2] 122 (0, 0)) ∧ Below w.heap.size w Z := ⟨_, _, rfl, rfl, box3_out hz7.out _ _ _, ((HB6.out.setCell (p := ⟨w3.heap.size, 0, none⟩) HA3.out.size _).setCell (p := ⟨w3.heap.size, 1, none⟩) HA3.out.size _).setCell (p := ⟨w3.heap.size, 2, none⟩) HA3.out.size _⟩; rw [← hZ, ← hg7])
   | (obtain ⟨Z, g7, hg7, hZ, hbz, hBz⟩ : ∃ Z g7, g7 = w6.heap.size ∧ Z = w6.alloc (.cells #[.bool p.f0, .slice E p.f1.length ee, .int .i64 p.f2] 122) ∧ Z.heap[g7]? = some (.cells #[.bool p.f0, .slice E p.f1.length ee, .int .i64 p.f2] 122 (0, 0)) ∧ Below w.heap.size w Z := ⟨_, _, rfl, rfl, blk_new _ _, HB6.out.alloc HB6.out.size _⟩; rw [← hZ, ← hg7])
  clear hZ hg7
  obtain ⟨hz0, hzf0⟩ := bcells hbz (Below.refl _ _)
  have HBZ := Lib.hid hBz
  have HBX := Lib.hid hbz
  have hsz := hBz.size
  clear hbz hBz hB6 hB5
  cases hzero : ((p.f1.length : Int) == 0) with
  | true =>
   have h0 : p.f1.length = 0 := by have := eq_of_beq hzero; omega
   have hr := HR.out
   rw [if_pos h0] at hr
   clear HR h0
   subst hr
   go_wp2_with (first | (go_at_call 94; (with_reducible refine (zero_any p.f0 E p.f1.length ee p.f2 _).mono ?_); rw [hzero]; rintro e w7 ⟨rfl, hB7⟩))
   go_ret2
   exact ⟨rfl, HBZ.out.trans (hB7.mono hsz)⟩
  | false =>
   have h0 : p.f1.length ≠ 0 := by intro h; rw [h] at hzero; simp at hzero
   have hr := HR.out
   rw [if_neg h0] at hr
   clear HR h0
   cases hp : p.f0 with
   | true =>
    rw [hp] at hr
    simp only [if_true] at hr
    subst hr
    rw [hp] at hz0 HBX
    go_wp2_with (first | (go_at_call 94; (with_reducible refine (zero_any _ E p.f1.length ee p.f2 _).mono ?_); rw [hzero]; rintro e w7 ⟨rfl, hB7⟩; obtain ⟨hz7, hzf7⟩ := bcells HBX.out hB7))
    go_ret2
    exact ⟨rfl, HBZ.out.trans (hB7.mono hsz)⟩
   | false =>
    rw [hp] at hr
    simp only [Bool.false_eq_true, if_false] at hr
    subst hr
    rw [hp] at hz0 HBX
    go_wp2_with (first | (go_at_call 94; (with_reducible refine (zero_any _ E p.f1.length ee p.f2 _).mono ?_); rw [hzero]; rintro e w7 ⟨rfl, hB7⟩; obtain ⟨hz7, hzf7⟩ := bcells HBX.out hB7))
    go_ret2
    exact ⟨rfl, HBZ.out.trans (hB7.mono hsz)⟩
theorem wrap64_up (t : Nat) (h : t ≤ 4611686018427387904) : wrap64 ((t : Int) + 1) = ((t + 1 : Nat) : Int) := by unfold wrap64; omega
def strC (a b : ByteArray) : Int := if Op.bytesLess a.toList b.toList = true then -1 else if (a.toList == b.toList) = true then 0 else 1
def lexC {α : Type} (f : α → α → Int) : List α → List α → Int
 | [], [] => 0
 | [], _ :: _ => -1
 | _ :: _, [] => 1
 | x :: l, y :: r => if f x y = 0 then lexC f l r else f x y
theorem lexC_drop {α : Type} (f : α → α → Int) (z : α) : ∀ (k : Nat) (l r : List α), k ≤ l.length → k ≤ r.length → (∀ i, i < k → f (l.getD i z) (r.getD i z) = 0) → lexC f l r = lexC f (l.drop k) (r.drop k)
 | 0, l, r, _, _, _ => by simp
 | k + 1, [], r, h, _, _ => by simp at h
 | k + 1, x :: l, [], _, h, _ => by simp at h
 | k + 1, x :: l, y :: r, h1, h2, h => by
  have h0 := h 0 (by omega)
  simp at h0
  rw [lexC, if_pos h0, List.drop_succ_cons, List.drop_succ_cons]
  refine lexC_drop f z k l r (by simpa using h1) (by simpa using h2) (fun i hi => ?_)
  have := h (i + 1) (by omega)
  simpa using this
theorem lexC_at {α : Type} (f : α → α → Int) (z : α) (k : Nat) (l r : List α) (h1 : k < l.length) (h2 : k < r.length) (h : ∀ i, i < k → f (l.getD i z) (r.getD i z) = 0) (hn : f (l.getD k z) (r.getD k z) ≠ 0) : lexC f l r = f (l.getD k z) (r.getD k z) := by
 rw [lexC_drop f z k l r (by omega) (by omega) h, List.drop_eq_getElem_cons h1, List.drop_eq_getElem_cons h2]
 simp only [List.getD_eq_getElem?_getD, List.getElem?_eq_getElem h1, List.getElem?_eq_getElem h2, Option.getD_some] at hn ⊢
 rw [lexC, if_neg hn]
theorem lexC_long {α : Type} (f : α → α → Int) (z : α) (l r : List α) (h1 : r.length < l.length) (h : ∀ i, i < r.length → f (l.getD i z) (r.getD i z) = 0) : lexC f l r = 1 := by
 rw [lexC_drop f z r.length l r (by omega) (Nat.le_refl _) h, List.drop_eq_getElem_cons h1, List.drop_length, lexC]
theorem lexC_end {α : Type} (f : α → α → Int) (z : α) (l r : List α) (h1 : l.length ≤ r.length) (h : ∀ i, i < l.length → f (l.getD i z) (r.getD i z) = 0) : lexC f l r = if l.length < r.length then -1 else 0 := by
 rw [lexC_drop f z l.length l r (Nat.le_refl _) h1 h, List.drop_length]
 by_cases hlt : l.length < r.length
 · rw [if_pos hlt, List.drop_eq_getElem_cons hlt, lexC]
 · rw [if_neg hlt, List.drop_eq_nil_of_le (by omega), lexC]
set_option maxHeartbeats 1000000 in
theorem CompareStr_any (a b : ByteArray) (w : World) : Calls Tryz.prog 64 #[.string a, .string b] w fun e w' => e = .returned (.int .i64 (strC a b)) ∧ w = w' := by
 have hnan : ∀ (x : ByteArray) (W : World), Calls Tryz.prog 90 #[.string x] W fun e w' => e = .returned (.bool false) ∧ W = w' := by
  intro x W
  have hx : (x.toList == x.toList) = true := by simp
  go_enter Tryz.func90, Tryz.ntmps90
  go_wp2
  go_ret
  exact ⟨by simp, rfl⟩
 have HN := Lib.hid hnan
 clear hnan
 cases h1 : Op.bytesLess a.toList b.toList with
 | true =>
  have hr : Hid (strC a b = -1) := Lib.hid (by unfold strC; rw [if_pos h1])
  rw [hr.out]
  go_enter Tryz.func64, Tryz.ntmps64
  go_wp2_with (first | (go_at_call 90; (with_reducible refine (HN.out _ _).mono ?_); rintro e w' ⟨rfl, rfl⟩))
  go_ret
  exact ⟨rfl, rfl⟩
 | false =>
  cases h2 : (a.toList == b.toList) with
  | true =>
   have hr : Hid (strC a b = 0) := Lib.hid (by unfold strC; rw [if_neg (by rw [h1]; simp), if_pos h2])
   rw [hr.out]
   go_enter Tryz.func64, Tryz.ntmps64
   go_wp2_with (first | (go_at_call 90; (with_reducible refine (HN.out _ _).mono ?_); rintro e w' ⟨rfl, rfl⟩))
   go_ret
   exact ⟨rfl, rfl⟩
  | false =>
   have hr : Hid (strC a b = 1) := Lib.hid (by unfold strC; rw [if_neg (by rw [h1]; simp), if_neg (by rw [h2]; simp)])
   rw [hr.out]
   go_enter Tryz.func64, Tryz.ntmps64
   go_wp2_with (first | (go_at_call 90; (with_reducible refine (HN.out _ _).mono ?_); rintro e w' ⟨rfl, rfl⟩))
   go_ret
   exact ⟨rfl, rfl⟩
set_option maxHeartbeats 1000000 in
theorem or_int (A : Option Addr) (c : Nat) (l : List Int) (w : World) (hC : Kd.C (Kd.int .i64) w A l.length l) :
 Calls Tryz.prog 63 #[.slice A l.length c] w fun e w' => e = .returned (.int .i64 (orL l)) ∧ w = w' := by
 have HC := Lib.hid hC
 have hlen := hC.2.1
 clear hC
 go_enter Tryz.func63, Tryz.ntmps63
 go_wp2
 go_loopw [8] (fun vi wr => ∃ k : Nat, k ≤ l.length ∧ vi = .int .i64 k ∧ Hid (∀ i, i < k → rd l (i : Int) = 0) ∧ wr = w) (fun vi _ => l.length - (intOf vi).toNat)
 case atStart => exact ⟨0, Nat.zero_le _, rfl, Lib.hid (fun i hi => by omega), rfl⟩
 case round =>
  obtain ⟨k, hk, rfl, hz, hw⟩ := hrel
  obtain rfl := hw.symm
  clear hw
  by_cases hlt : k < l.length
  · obtain ⟨ad, rfl, hx⟩ := Kd.at_int HC.out (k : Int) (by omega) (by omega)
    rw [Int.toNat_natCast] at hx
    have hw : wrap64 ((k : Int) + 1) = ((k + 1 : Nat) : Int) := by unfold wrap64; omega
    by_cases h0 : rd l (k : Int) = 0
    · have hn : (rd l (k : Int) != 0) = false := by simp [h0]
      have H0 := Lib.hid h0
      clear h0
      go_wp2
      go_roundw
      case rel => exact ⟨k + 1, by omega, by go_num, Lib.hid (fun i hi => by rcases Nat.lt_or_ge i k with h | h; exact hz.out i h; rw [show i = k by omega]; exact H0.out), trivial⟩
      case measure => simp [intOf]; omega
    · have hn : (rd l (k : Int) != 0) = true := by simp [h0]
      have hr : Hid (orL l = rd l (k : Int)) := Lib.hid (by
       rw [← orL_skip l k hz.out, List.drop_eq_getElem_cons hlt, orL]
       have e : l[k] = rd l (k : Int) := by simp [rd, hlt]
       rw [e, if_neg h0])
      clear h0
      go_wp2
      go_ret
      exact ⟨by rw [hr.out]; rfl, rfl⟩
  · obtain rfl : k = l.length := by omega
    have hr : Hid (orL l = 0) := Lib.hid (by rw [← orL_skip l _ hz.out, List.drop_length]; rfl)
    go_wp2
    go_ret
    exact ⟨by rw [hr.out]; rfl, rfl⟩
set_option maxHeartbeats 1000000 in
theorem CompareKeys_any (l r : List ByteArray) (A : Option Addr) (c : Nat) (B : Option Addr) (d : Nat) (w : World) (hA : Kd.string.C w A l.length l) (hB : Kd.string.C w B r.length r) (hl : l.length ≤ 1073741824) :
 Calls Tryz.prog 65 #[.slice A l.length c, .slice B r.length d] w fun e w' => e = .returned (.int .i64 (lexC strC l r)) ∧ w = w' := by
 have HA := Lib.hid hA
 have HB := Lib.hid hB
 have hlen := hB.2.1
 clear hA hB
 go_enter Tryz.func65, Tryz.ntmps65
 go_wp2
 go_loopw [11] (fun vi wr => ∃ k : Nat, k ≤ l.length ∧ k ≤ r.length ∧ vi = .int .i64 k ∧ Hid (∀ i, i < k → strC (l.getD i ByteArray.empty) (r.getD i ByteArray.empty) = 0) ∧ wr = w) (fun vi _ => l.length - (intOf vi).toNat)
 case atStart => exact ⟨0, Nat.zero_le _, Nat.zero_le _, rfl, Lib.hid (fun i hi => by omega), rfl⟩
 case round =>
  obtain ⟨k, hk, hk2, rfl, hz, hw⟩ := hrel
  obtain rfl := hw.symm
  clear hw
  by_cases hlt : k < l.length
  · obtain ⟨ad, rfl, hx⟩ := Kd.at_string HA.out (k : Int) (by omega) (by omega)
    rw [Int.toNat_natCast] at hx
    have e1 : rdOf ByteArray.empty l (k : Int) = l.getD k ByteArray.empty := by unfold rdOf; rw [Int.toNat_natCast]
    rw [e1] at hx
    clear e1
    by_cases hlt2 : k < r.length
    · obtain ⟨bd, rfl, hy⟩ := Kd.at_string HB.out (k : Int) (by omega) (by omega)
      rw [Int.toNat_natCast] at hy
      have e2 : rdOf ByteArray.empty r (k : Int) = r.getD k ByteArray.empty := by unfold rdOf; rw [Int.toNat_natCast]
      rw [e2] at hy
      clear e2
      have g1 : ¬ (r.length : Int) ≤ (k : Int) := by omega
      have HZ : Hid (strC (l.getD k ByteArray.empty) (r.getD k ByteArray.empty) ≠ 0 → lexC strC l r = strC (l.getD k ByteArray.empty) (r.getD k ByteArray.empty)) := Lib.hid (fun h => lexC_at strC _ k l r hlt hlt2 hz.out h)
      have HZ2 : Hid (strC (l.getD k ByteArray.empty) (r.getD k ByteArray.empty) = 0 → ∀ i, i < k + 1 → strC (l.getD i ByteArray.empty) (r.getD i ByteArray.empty) = 0) := Lib.hid (fun h i hi => by
       rcases Nat.lt_or_ge i k with h' | h'
       · exact hz.out i h'
       · rw [show i = k by omega]; exact h)
      have HC := Lib.hid (CompareStr_any (l.getD k ByteArray.empty) (r.getD k ByteArray.empty))
      generalize hcv : strC (l.getD k ByteArray.empty) (r.getD k ByteArray.empty) = cv at *
      generalize l.getD k ByteArray.empty = x at *
      generalize r.getD k ByteArray.empty = y at *
      clear hcv hz
      have hki : (k : Int) < (l.length : Int) := by omega
      have hki2 : (k : Int) < (r.length : Int) := by omega
      have HK1 : Hid (k + 1 ≤ l.length ∧ k + 1 ≤ r.length) := Lib.hid ⟨hlt, hlt2⟩
      have hw := wrap64_up k (by omega)
      by_cases h0 : cv = 0
      · have hn : (cv != 0) = false := by simp [h0]
        have HZ3 := Lib.hid (HZ2.out h0)
        clear HZ HZ2 h0
        go_wp2_with (first | (go_at_call 64; (with_reducible refine (HC.out _).mono ?_); rintro e w' ⟨rfl, rfl⟩))
        go_roundw
        case rel => exact ⟨k + 1, HK1.out.1, HK1.out.2, by first | exact congrArg (Value.int .i64) hw | rfl, HZ3, trivial⟩
        case measure => first | (rw [hw]; show l.length - (k + 1) < l.length - k; clear hw; omega) | (show l.length - (k + 1) < l.length - k; clear hw; omega)
      · have hn : (cv != 0) = true := by simp [h0]
        have hr := Lib.hid (HZ.out h0)
        clear HZ HZ2 h0 hw
        go_wp2_with (first | (go_at_call 64; (with_reducible refine (HC.out _).mono ?_); rintro e w' ⟨rfl, rfl⟩))
        go_ret
        exact ⟨by rw [hr.out]; rfl, rfl⟩
    · obtain rfl : k = r.length := by omega
      have hr : Hid (lexC strC l r = 1) := Lib.hid (lexC_long strC _ l r hlt hz.out)
      have g1 : (r.length : Int) ≤ (r.length : Int) := by omega
      have hki : (r.length : Int) < (l.length : Int) := by omega
      clear hz
      go_wp2
      go_ret
      exact ⟨by rw [hr.out]; rfl, rfl⟩
  · obtain rfl : k = l.length := by omega
    have hr : Hid (lexC strC l r = if l.length < r.length then -1 else 0) := Lib.hid (lexC_end strC _ l r hk2 hz.out)
    clear hz
    by_cases hlr : l.length < r.length
    · have hlr2 : (l.length : Int) < (r.length : Int) := by omega
      rw [if_pos hlr] at hr
      clear hlr
      go_wp2
      go_ret
      exact ⟨by rw [hr.out]; rfl, rfl⟩
    · have hlr2 : ¬ (l.length : Int) < (r.length : Int) := by omega
      rw [if_neg hlr] at hr
      clear hlr
      go_wp2
      go_ret
      exact ⟨by rw [hr.out]; rfl, rfl⟩
def vown (x : V) : Int := if x.f0 < 0 ∨ 6 < x.f0 then 23 else if vtexts x ≠ 0 then vtexts x else if 4096 < max x.f3.length x.f4.length then 5 else if vnumbers x && vused x && vrises x.f4 then 0 else 9
set_option maxHeartbeats 4000000 in
theorem own_any (x : V) (cs : List Value) (w : World) (hLD : LaidW w) (hK : k34.K w x cs) (hO : OkV x) :
 Calls Tryz.prog 61 #[.agg cs.toArray] w fun e w' => e = .returned (.int .i64 (vown x)) ∧ Below w.heap.size w w' := by
 obtain ⟨A2, c2, A5, c5, A6, c6, rfl, l2, g2, l5, g5, l6, g6⟩ := k34_open hK
 have HK := Lib.hid hK
 have HC := Lib.hid g6
 have HO := Lib.hid hO
 have HL := Lib.hid hLD
 have n3 := hO.len3
 have n4 := hO.len4
 clear g2 l2 l5 g5 l6 g6 hK hO hLD
 unfold vown
 by_cases hlo : x.f0 < 0
 · rw [if_pos (.inl hlo)]
   go_enter Tryz.func61, Tryz.ntmps61
   go_wp2
   go_ret
   exact ⟨rfl, (Below.refl _ _).alloc (Nat.le_refl _) _⟩
 by_cases hhi : 6 < x.f0
 · rw [if_pos (.inr hhi)]
   go_enter Tryz.func61, Tryz.ntmps61
   go_wp2
   go_ret
   exact ⟨rfl, (Below.refl _ _).alloc (Nat.le_refl _) _⟩
 rw [if_neg (by omega)]
 have hB0 : Hid (Below w.heap.size w (w.alloc (.cells #[.int .i64 x.f0, .bool x.f1.f0, .slice A2 x.f1.f1.length c2, .int .i64 x.f1.f2, .string x.f2, .slice A5 x.f3.length c5, .slice A6 x.f4.length c6] 34))) := Lib.hid ((Below.refl _ _).alloc (Nat.le_refl _) _)
 by_cases ht : vtexts x = 0
 · rw [if_neg (by simpa using ht)]
   by_cases hl : 4096 < max x.f3.length x.f4.length
   · rw [if_pos hl]
     have hl2 : (4096 : Int) < max (x.f3.length : Int) (x.f4.length : Int) := by omega
     go_enter Tryz.func61, Tryz.ntmps61
     go_wp2_with (first | (go_at_call 85; (with_reducible refine (texts_any x _ _ ?hl ?hk HO.out).mono ?_); (case hl => exact HL.out.below hB0.out); (case hk => exact k34.K_below hB0.out HK.out); rw [ht]; rintro e w1 ⟨rfl, hB1⟩; obtain ⟨hcl, hfz⟩ := bcells (blk_new w _) hB1; have hB2 := below_box (Below.refl _ _) (Nat.le_refl _) hB1))
     go_ret
     exact ⟨rfl, hB2⟩
   · rw [if_neg hl]
     have hl2 : ¬ (4096 : Int) < max (x.f3.length : Int) (x.f4.length : Int) := by omega
     cases hn : vnumbers x with
     | false =>
      go_enter Tryz.func61, Tryz.ntmps61
      go_wp2_with (first | (go_at_call 85; (with_reducible refine (texts_any x _ _ ?hl ?hk HO.out).mono ?_); (case hl => exact HL.out.below hB0.out); (case hk => exact k34.K_below hB0.out HK.out); rw [ht]; rintro e w1 ⟨rfl, hB1⟩; obtain ⟨hcl, hfz⟩ := bcells (blk_new w _) hB1; have hB2 := below_box (Below.refl _ _) (Nat.le_refl _) hB1; have hb2 := blk_below2 (blk_new w _) hB1) | (go_at_call 86; (with_reducible refine (numbers_any x _ _ ?hk HO.out).mono ?_); (case hk => exact k34.K_below hB2 HK.out); rw [hn]; rintro e w3 ⟨rfl, hB3⟩; obtain ⟨hcl3, hfz3⟩ := bcells hb2 hB3; have hB4 := hB2.trans (hB3.mono hB2.size); have hb4 := blk_below2 hb2 hB3) | (go_at_call 87; (with_reducible refine (used_any x _ _ ?hk).mono ?_); (case hk => exact k34.K_below hB4 HK.out); rw [hu]; rintro e w5 ⟨rfl, hB5⟩; obtain ⟨hcl5, hfz5⟩ := bcells hb4 hB5; have hB6 := hB4.trans (hB5.mono hB4.size)) | (go_at_call 88; (with_reducible refine (rises_any _ _ _ _ ?hc).mono ?_); (case hc => exact Kd.C_below HC.out hB6); rw [hr]; rintro e w7 ⟨rfl, hB7⟩; have hB8 := hB6.trans (hB7.mono hB6.size)))
      go_ret
      exact ⟨rfl, hB4⟩
     | true =>
      cases hu : vused x with
      | false =>
       go_enter Tryz.func61, Tryz.ntmps61
       go_wp2_with (first | (go_at_call 85; (with_reducible refine (texts_any x _ _ ?hl ?hk HO.out).mono ?_); (case hl => exact HL.out.below hB0.out); (case hk => exact k34.K_below hB0.out HK.out); rw [ht]; rintro e w1 ⟨rfl, hB1⟩; obtain ⟨hcl, hfz⟩ := bcells (blk_new w _) hB1; have hB2 := below_box (Below.refl _ _) (Nat.le_refl _) hB1; have hb2 := blk_below2 (blk_new w _) hB1) | (go_at_call 86; (with_reducible refine (numbers_any x _ _ ?hk HO.out).mono ?_); (case hk => exact k34.K_below hB2 HK.out); rw [hn]; rintro e w3 ⟨rfl, hB3⟩; obtain ⟨hcl3, hfz3⟩ := bcells hb2 hB3; have hB4 := hB2.trans (hB3.mono hB2.size); have hb4 := blk_below2 hb2 hB3) | (go_at_call 87; (with_reducible refine (used_any x _ _ ?hk).mono ?_); (case hk => exact k34.K_below hB4 HK.out); rw [hu]; rintro e w5 ⟨rfl, hB5⟩; obtain ⟨hcl5, hfz5⟩ := bcells hb4 hB5; have hB6 := hB4.trans (hB5.mono hB4.size)) | (go_at_call 88; (with_reducible refine (rises_any _ _ _ _ ?hc).mono ?_); (case hc => exact Kd.C_below HC.out hB6); rw [hr]; rintro e w7 ⟨rfl, hB7⟩; have hB8 := hB6.trans (hB7.mono hB6.size)))
       go_ret
       exact ⟨rfl, hB6⟩
      | true =>
       cases hr : vrises x.f4 with
       | false =>
        go_enter Tryz.func61, Tryz.ntmps61
        go_wp2_with (first | (go_at_call 85; (with_reducible refine (texts_any x _ _ ?hl ?hk HO.out).mono ?_); (case hl => exact HL.out.below hB0.out); (case hk => exact k34.K_below hB0.out HK.out); rw [ht]; rintro e w1 ⟨rfl, hB1⟩; obtain ⟨hcl, hfz⟩ := bcells (blk_new w _) hB1; have hB2 := below_box (Below.refl _ _) (Nat.le_refl _) hB1; have hb2 := blk_below2 (blk_new w _) hB1) | (go_at_call 86; (with_reducible refine (numbers_any x _ _ ?hk HO.out).mono ?_); (case hk => exact k34.K_below hB2 HK.out); rw [hn]; rintro e w3 ⟨rfl, hB3⟩; obtain ⟨hcl3, hfz3⟩ := bcells hb2 hB3; have hB4 := hB2.trans (hB3.mono hB2.size); have hb4 := blk_below2 hb2 hB3) | (go_at_call 87; (with_reducible refine (used_any x _ _ ?hk).mono ?_); (case hk => exact k34.K_below hB4 HK.out); rw [hu]; rintro e w5 ⟨rfl, hB5⟩; obtain ⟨hcl5, hfz5⟩ := bcells hb4 hB5; have hB6 := hB4.trans (hB5.mono hB4.size)) | (go_at_call 88; (with_reducible refine (rises_any _ _ _ _ ?hc).mono ?_); (case hc => exact Kd.C_below HC.out hB6); rw [hr]; rintro e w7 ⟨rfl, hB7⟩; have hB8 := hB6.trans (hB7.mono hB6.size)))
        go_ret
        exact ⟨rfl, hB8⟩
       | true =>
        go_enter Tryz.func61, Tryz.ntmps61
        go_wp2_with (first | (go_at_call 85; (with_reducible refine (texts_any x _ _ ?hl ?hk HO.out).mono ?_); (case hl => exact HL.out.below hB0.out); (case hk => exact k34.K_below hB0.out HK.out); rw [ht]; rintro e w1 ⟨rfl, hB1⟩; obtain ⟨hcl, hfz⟩ := bcells (blk_new w _) hB1; have hB2 := below_box (Below.refl _ _) (Nat.le_refl _) hB1; have hb2 := blk_below2 (blk_new w _) hB1) | (go_at_call 86; (with_reducible refine (numbers_any x _ _ ?hk HO.out).mono ?_); (case hk => exact k34.K_below hB2 HK.out); rw [hn]; rintro e w3 ⟨rfl, hB3⟩; obtain ⟨hcl3, hfz3⟩ := bcells hb2 hB3; have hB4 := hB2.trans (hB3.mono hB2.size); have hb4 := blk_below2 hb2 hB3) | (go_at_call 87; (with_reducible refine (used_any x _ _ ?hk).mono ?_); (case hk => exact k34.K_below hB4 HK.out); rw [hu]; rintro e w5 ⟨rfl, hB5⟩; obtain ⟨hcl5, hfz5⟩ := bcells hb4 hB5; have hB6 := hB4.trans (hB5.mono hB4.size)) | (go_at_call 88; (with_reducible refine (rises_any _ _ _ _ ?hc).mono ?_); (case hc => exact Kd.C_below HC.out hB6); rw [hr]; rintro e w7 ⟨rfl, hB7⟩; have hB8 := hB6.trans (hB7.mono hB6.size)))
        go_ret
        exact ⟨rfl, hB8⟩
 · rw [if_pos ht]
   have htb : (vtexts x != 0) = true := by simpa using ht
   clear ht
   go_enter Tryz.func61, Tryz.ntmps61
   go_wp2_with (first | (go_at_call 85; (with_reducible refine (texts_any x _ _ ?hl ?hk HO.out).mono ?_); (case hl => exact HL.out.below hB0.out); (case hk => exact k34.K_below hB0.out HK.out); rintro e w1 ⟨rfl, hB1⟩; obtain ⟨hcl, hfz⟩ := bcells (blk_new w _) hB1; have hB2 := below_box (Below.refl _ _) (Nat.le_refl _) hB1))
   go_ret
   exact ⟨rfl, hB2⟩
end Go.Proofs.YtmfpakolfpoamaaGreatDoor.P
namespace Go.Proofs.YtmfpakolfpoamaaGreatDoor.P
set_option linter.unusedVariables false
set_option linter.unusedSimpArgs false
open Go.RowKit Go.Shelf Go.Proofs.YtmfpakolfpoamaaGreatDoorW.PrintWords Go.Proofs.YtmfpakolfpoamaaGreatDoorW.PrintMore Go.Proofs.YtmfpakolfpoamaaGreatDoorW.PrintLast
attribute [local go_sem] Oper.semAt_some
theorem room_of_none' {F : Fence} (hd : F.depth = none) (k : Nat) : F.room k := fun d h => by rw [hd] at h; cases h
theorem RoundIn.anyDepth' {F : Fence} (hd : F.depth = none) {m m' : Nat} {P : Program} {l : Nat} {f : FuncId} {tmps : Array Value} {assign body : Code} {w : World} {R : Ending → World → Prop}
 (h : RoundIn F m P l f tmps assign body w R) : RoundIn F m' P l f tmps assign body w R := ⟨h.1, fun c cs _ => h.2 c cs (room_of_none' hd _)⟩
theorem YieldAt.anyDepth' {F : Fence} (hd : F.depth = none) {m : Nat} (m' : Nat) {P : Program} {l : Nat} {args : Array Value} {W : World} {R : Ending → World → Prop} (h : YieldAt F m P l args W R) : YieldAt F m' P l args W R := by
 obtain ⟨fn, tmps, assign, body, hy, hR⟩ := h
 exact ⟨fn, tmps, assign, body, hy, RoundIn.anyDepth' hd hR⟩
def KpC (n₀ : Nat) (W W' : World) : Prop := Below n₀ W W' ∧ ∀ (k : Nat) (o : Obj), W.heap[k]? = some o → o.isCells = true → W'.heap[k]? = some o
theorem kpC_refl (n₀ : Nat) (W : World) : KpC n₀ W W := ⟨Below.refl _ _, fun _ _ h _ => h⟩
theorem kpC_t {n₀ : Nat} {A B C : World} (h : KpC n₀ A B) (k : KpC n₀ B C) : KpC n₀ A C := ⟨h.1.trans k.1, fun i o hi ho => k.2 i o (h.2 i o hi ho) ho⟩
theorem kpC_below {n₀ : Nat} {W W' : World} (hn : n₀ ≤ W.heap.size) (h : Below W.heap.size W W') : KpC n₀ W W' := ⟨h.mono hn, fun k o hk _ => (h.block k (blk_lt hk)).trans hk⟩
theorem kpC_b {n₀ : Nat} {w : World} (hn : n₀ ≤ w.heap.size) (W : World) (l : Nat) (o o' : Obj) (hl : w.heap.size ≤ l) (h : W.heap[l]? = some o) (h1 : o.isCells = false) (h2 : o.isWalk = false) : KpC n₀ W (W.putObj l o') :=
 ⟨belowK_b hn W l o o' hl h h1 h2, fun k q hk hq => by
  have : k ≠ l := by rintro rfl; rw [h] at hk; cases hk; rw [h1] at hq; cases hq
  exact (World.putObj_heap_other this).trans hk⟩
abbrev El (w0 : World) := { p : V × List Value // k34.K w0 p.1 p.2 ∧ OkV p.1 }
def elv {w0 : World} (l : List (El w0)) : List V := l.map fun x => x.1.1
theorem elv_app {w0 : World} (a b : List (El w0)) : elv (a ++ b) = elv a ++ elv b := by simp [elv]
theorem elv_len {w0 : World} (a : List (El w0)) : (elv a).length = a.length := by simp [elv]
mutual
def vall : V → List V
 | ⟨a, b, c, l, d⟩ => ⟨a, b, c, l, d⟩ :: valls l
def valls : List V → List V
 | [] => []
 | x :: l => vall x ++ valls l
end
theorem vall_eq (v : V) : vall v = v :: valls v.f3 := by cases v; rw [vall]
theorem valls_app : ∀ (a b : List V), valls (a ++ b) = valls a ++ valls b
 | [], b => by rw [valls]; rfl
 | x :: a, b => by rw [List.cons_append, valls, valls, valls_app a b, List.append_assoc]
theorem valls_one (x : V) : valls [x] = vall x := by rw [valls, valls, List.append_nil]
theorem at_V {w0 w : World} {A : Option Addr} {l : List V} (h : k34.C w0 A l.length l) (hb : Below w0.heap.size w0 w) (k : Nat) (hk : k < l.length) : ∃ ad a0 a1 a2 a3 a4 a5 a6, A = some ad ∧ k34.K w0 (rd_T34 l (k : Int)) [a0, a1, a2, a3, a4, a5, a6] ∧
 w.cell? (ad.add (k * 7)) = some a0 ∧ w.cell? ⟨(ad.add (k * 7)).block, (ad.add (k * 7)).off + 1, none⟩ = some a1 ∧ w.cell? ⟨(ad.add (k * 7)).block, (ad.add (k * 7)).off + 2, none⟩ = some a2 ∧ w.cell? ⟨(ad.add (k * 7)).block, (ad.add (k * 7)).off + 3, none⟩ = some a3 ∧ w.cell? ⟨(ad.add (k * 7)).block, (ad.add (k * 7)).off + 4, none⟩ = some a4 ∧ w.cell? ⟨(ad.add (k * 7)).block, (ad.add (k * 7)).off + 5, none⟩ = some a5 ∧ w.cell? ⟨(ad.add (k * 7)).block, (ad.add (k * 7)).off + 6, none⟩ = some a6 := by
 obtain ⟨ad, A2, c2, A5, c5, A6, c6, e, q0, q1, q2, q3, q4, q5, q6, l2, g2, l5, g5, l6, g6⟩ := at_T34 h (k : Int) (by omega) (by omega)
 rw [Int.toNat_natCast] at q0 q1 q2 q3 q4 q5 q6
 exact ⟨ad, _, _, _, _, _, _, _, e, k34_mk w0 _ l2 g2 l5 g5 l6 g6, pw_cell_below hb q0, pw_cell_below hb q1, pw_cell_below hb q2, pw_cell_below hb q3, pw_cell_below hb q4, pw_cell_below hb q5, pw_cell_below hb q6⟩
section
variable {w0 : World}
def WPost (b : Bool) (J Jx : List (El w0) → World → Prop) (n₀ : Nat) (pre : List (El w0)) (L : List V) (W : World) (e : Ending) (W' : World) : Prop :=
 (∃ ys, e = .returned (.bool b) ∧ elv ys = L ∧ J (pre ++ ys) W' ∧ KpC n₀ W W') ∨ (∃ q, e = .returned (.bool (!b)) ∧ elv q <+: L ∧ Jx (pre ++ q) W')
set_option maxHeartbeats 2000000 in
theorem walk1_in (J Jx : List (El w0) → World → Prop) (hJA : ∀ x A B, J x A → A.grownBy B none → J x B) (l n₀ By : Nat) (x : V) (L : List V) (n : Nat) (cs : List Value) (pre : List (El w0)) (W : World)
 (hn₀ : n₀ ≤ W.heap.size) (hy : W.cell? ⟨By, 0, none⟩ = some (.func (.yield l) #[] #[])) (hcs : cs.length = 7)
 (ih : ∀ m W1, Below W.heap.size W W1 → J pre W1 → CallsIn Fence.wide m Tryz.prog 84 #[.agg cs.toArray, .func (.yield l) #[] #[]] W1 (WPost true J Jx n₀ pre L W1)) (hJ : J pre W) :
 CallsIn Fence.wide n Tryz.prog 110 #[.agg cs.toArray, .pointer (some ⟨By, 0, none⟩)] W (WPost false J Jx n₀ pre L W) := by
 have hdd : ∀ k : Nat, (Fence.wide.depth.isSome = true → 1 ≤ k) := fun k h => by cases h
 obtain ⟨a0, a1, a2, a3, a4, a5, a6, rfl⟩ := list7 hcs
 have hb := Lib.hid (below_alloc (Below.refl W.heap.size W) (.cells #[a0, a1, a2, a3, a4, a5, a6] 34))
 have HJ := Lib.hid (hJA pre W (W.alloc (.cells #[a0, a1, a2, a3, a4, a5, a6] 34)) hJ (World.grownBy_alloc _ _ _))
 have IH := Lib.hid ih
 have HN := Lib.hid hn₀
 have hlt := World.block_lt_of_cell? _ _ hy
 have e1 : (W.alloc (.cells #[a0, a1, a2, a3, a4, a5, a6] 34)).cell? ⟨By, 0, none⟩ = some (.func (.yield l) #[] #[]) := pw_cell_below hb.out hy
 clear ih hJ hn₀
 refine callsIn_of_wp Tryz.func110 rfl trivial ?_ rfl
 simp only [Tryz.ntmps110, List.size_toArray, List.length_cons, List.length_nil, Nat.reduceAdd, Nat.reduceSub, Array.replicate_succ, Array.replicate_zero, List.push_toArray, List.append_toArray, List.nil_append, List.cons_append]
 gi_wp2_with (first | (refine ⟨trivial, hdd _, ?_⟩; gi_at_call 84; refine (IH.out _ _ hb.out HJ.out).mono ?_; rintro e W1 (⟨ys, rfl, hy1, hj1, hk1⟩ | ⟨q, rfl, hq, hx⟩)))
 · go_ret
   exact .inl ⟨ys, rfl, hy1, hj1, kpC_t (kpC_below HN.out hb.out) hk1⟩
 · go_ret
   exact .inr ⟨q, rfl, hq, hx⟩
def IPost (J Jx : List (El w0) → World → Prop) (n₀ : Nat) (pre : List (El w0)) (L : List V) (W : World) (e : Ending) (W' : World) : Prop :=
 (∃ ys, e = .returned (.int .i64 (-1)) ∧ elv ys = L ∧ J (pre ++ ys) W' ∧ KpC n₀ W W') ∨ (∃ q, ∃ k : Nat, e = .returned (.int .i64 k) ∧ elv q <+: L ∧ Jx (pre ++ q) W')
theorem valls_take_succ (l : List V) (k : Nat) (h : k < l.length) : valls (l.take (k + 1)) = valls (l.take k) ++ vall (rd_T34 l (k : Int)) := by
 rw [List.take_succ_eq_append_getElem h, valls_app, valls_one]
 simp [rd_T34, h]
theorem valls_pre (l : List V) (k : Nat) : valls (l.take k) <+: valls l := ⟨valls (l.drop k), by rw [← valls_app, List.take_append_drop]⟩
set_option maxHeartbeats 2000000 in
theorem walkIdx_in (J Jx : List (El w0) → World → Prop) (hJA : ∀ x A B, J x A → A.grownBy B none → J x B) (l N By : Nat) (L : List V) (A : Option Addr) (c : Nat) (n : Nat) (pre : List (El w0)) (W : World)
 (hC : k34.C w0 A L.length L) (hW : Below w0.heap.size w0 W) (hy : W.heap[By]? = some (.cells #[.func (.yield l) #[] #[]] 115 (0, 0)))
 (ih : ∀ y ∈ L, ∀ m cs pre' W', k34.K w0 y cs → Below w0.heap.size w0 W' → J pre' W' → pre'.length + (vall y).length ≤ N → CallsIn Fence.wide m Tryz.prog 84 #[.agg cs.toArray, .func (.yield l) #[] #[]] W' (WPost true J Jx w0.heap.size pre' (vall y) W'))
 (hJ : J pre W) (hN : pre.length + (valls L).length ≤ N) :
 CallsIn Fence.wide n Tryz.prog 126 #[.slice A L.length c, .func (.func 110) #[] #[.pointer (some ⟨By, 0, none⟩)]] W (IPost J Jx w0.heap.size pre (valls L) W) := by
 have hdd : ∀ k : Nat, (Fence.wide.depth.isSome = true → 1 ≤ k) := fun k h => by cases h
 have HC := Lib.hid hC
 have HW := Lib.hid hW
 have HY := Lib.hid hy
 have IH := Lib.hid ih
 have HJ := Lib.hid hJ
 have hlen := hC.2.1
 clear hC hW hy ih hJ
 refine callsIn_of_wp Tryz.func126 rfl trivial ?_ rfl
 simp only [Tryz.ntmps126, List.size_toArray, List.length_cons, List.length_nil, Nat.reduceAdd, Nat.reduceSub, Array.replicate_succ, Array.replicate_zero, List.push_toArray, List.append_toArray, List.nil_append, List.cons_append]
 gi_wp2
 gi_loopw [8] (fun i wr => ∃ (k : Nat) (ys : List (El w0)), k ≤ L.length ∧ i = .int .i64 k ∧ Hid (elv ys = valls (L.take k)) ∧ Hid (J (pre ++ ys) wr) ∧ Hid (KpC w0.heap.size W wr)) (fun i _ => L.length - (intOf i).toNat)
 case atStart => exact ⟨0, [], Nat.zero_le _, rfl, Lib.hid (by simp [elv, valls]), Lib.hid (by simpa using HJ.out), Lib.hid (kpC_refl _ _)⟩
 case round =>
  obtain ⟨k, ys, hk, rfl, hys, hJr, hK⟩ := hrel
  by_cases hlt : k < L.length
  · have hBr := Lib.hid (HW.out.trans hK.out.1)
    obtain ⟨ad, a0, a1, a2, a3, a4, a5, a6, rfl, hKx, q0, q1, q2, q3, q4, q5, q6⟩ := at_V HC.out hBr.out k hlt
    have hmem := Lib.hid (show rd_T34 L (k : Int) ∈ L by unfold rd_T34; simp [hlt])
    have hln : (pre ++ ys).length + (vall (rd_T34 L (k : Int))).length ≤ N := by
     have h1 := congrArg List.length hys.out
     have h2 := congrArg List.length (valls_take_succ L k hlt)
     have h3 := (valls_pre L (k + 1)).length_le
     rw [elv_len] at h1
     rw [List.length_append] at h2 ⊢
     omega
    have hcall := Lib.hid (walk1_in J Jx hJA l w0.heap.size By (rd_T34 L (k : Int)) (vall (rd_T34 L (k : Int))) (n - 1) [a0, a1, a2, a3, a4, a5, a6] (pre ++ ys) wr hBr.out.size ((blk_cell (hK.out.2 By _ HY.out rfl) 0).trans rfl) rfl
     (fun m W1 hb hj => IH.out _ hmem.out m _ _ W1 hKx (hBr.out.trans (hb.mono hBr.out.size)) hj hln) hJr.out)
    have hs := Lib.hid (valls_take_succ L k hlt)
    have hp := Lib.hid (valls_pre L (k + 1))
    have hw : wrap64 ((k : Int) + 1) = ((k + 1 : Nat) : Int) := by unfold wrap64; omega
    clear hKx hln
    gi_wp2_with (first | (refine ⟨trivial, hdd _, ?_⟩; gi_at_call 110; refine hcall.out.mono ?_; rintro e W1 (⟨zs, rfl, hz1, hj1, hk1⟩ | ⟨q, rfl, hq, hx⟩)))
    · have HZ := Lib.hid hz1
      have HJ1 := Lib.hid hj1
      have HK1 := Lib.hid hk1
      clear hz1 hj1 hk1
      go_roundw
      case rel => exact ⟨k + 1, ys ++ zs, by omega, by go_num, Lib.hid (by rw [elv_app, hys.out, HZ.out, hs.out]), Lib.hid (by rw [← List.append_assoc]; exact HJ1.out), Lib.hid (kpC_t hK.out HK1.out)⟩
      case measure => simp [intOf]; omega
    · go_ret
      refine .inr ⟨ys ++ q, k, rfl, ?_, by rw [← List.append_assoc]; exact hx⟩
      rw [elv_app, hys.out]
      refine List.IsPrefix.trans ?_ hp.out
      rw [hs.out]
      exact (List.prefix_append_right_inj _).2 hq
  · obtain rfl : k = L.length := by omega
    rw [List.take_length] at hys
    gi_wp2
    go_ret
    exact .inl ⟨ys, rfl, hys.out, hJr.out, hK.out⟩
set_option maxHeartbeats 1000000 in
theorem walkCont_in (J Jx : List (El w0) → World → Prop) (n₀ By : Nat) (L : List V) (A : Option Addr) (c : Nat) (n : Nat) (pre : List (El w0)) (W : World)
 (h : CallsIn Fence.wide (n - 1) Tryz.prog 126 #[.slice A L.length c, .func (.func 110) #[] #[.pointer (some ⟨By, 0, none⟩)]] W (IPost J Jx n₀ pre (valls L) W)) :
 CallsIn Fence.wide n Tryz.prog 109 #[.slice A L.length c, .func (.func 110) #[] #[.pointer (some ⟨By, 0, none⟩)]] W (WPost false J Jx n₀ pre (valls L) W) := by
 have hdd : ∀ k : Nat, (Fence.wide.depth.isSome = true → 1 ≤ k) := fun k h => by cases h
 have H := Lib.hid h
 clear h
 refine callsIn_of_wp Tryz.func109 rfl trivial ?_ rfl
 simp only [Tryz.ntmps109, List.size_toArray, List.length_cons, List.length_nil, Nat.reduceAdd, Nat.reduceSub, Array.replicate_succ, Array.replicate_zero, List.push_toArray, List.append_toArray, List.nil_append, List.cons_append]
 gi_wp2_with (first | (refine ⟨trivial, hdd _, ?_⟩; gi_at_call 126; refine H.out.mono ?_; rintro e W1 (⟨ys, rfl, hy1, hj1, hk1⟩ | ⟨q, k, rfl, hq, hx⟩)))
 · go_ret
   exact .inl ⟨ys, rfl, hy1, hj1, hk1⟩
 · go_ret
   exact .inr ⟨q, by simp, hq, hx⟩
set_option maxHeartbeats 4000000 in
theorem walk_in (J Jx : List (El w0) → World → Prop) (hJA : ∀ x A B, J x A → A.grownBy B none → J x B) (l N : Nat)
 (hY : ∀ m pre x W, J pre W → pre.length < N → YieldAt Fence.wide m Tryz.prog l #[.agg x.1.2.toArray] W fun e W' => (e = .returned (.bool true) ∧ J (pre ++ [x]) W' ∧ KpC w0.heap.size W W') ∨ (e = .returned (.bool false) ∧ Jx (pre ++ [x]) W')) :
 ∀ v : V, OkV v → ∀ n cs pre W, k34.K w0 v cs → Below w0.heap.size w0 W → J pre W → pre.length + (vall v).length ≤ N →
  CallsIn Fence.wide n Tryz.prog 84 #[.agg cs.toArray, .func (.yield l) #[] #[]] W (WPost true J Jx w0.heap.size pre (vall v) W) := by
 refine V.ind fun v ih => ?_
 intro hO n cs pre W hK hW hJ hN
 have hdd : ∀ k : Nat, (Fence.wide.depth.isSome = true → 1 ≤ k) := fun k h => by cases h
 obtain ⟨A2, c2, A5, c5, A6, c6, rfl, l2, g2, l5, g5, l6, g6⟩ := k34_open hK
 obtain ⟨W2, hW2⟩ : ∃ W2, W2 = (W.alloc (.cells #[.int .i64 v.f0, .bool v.f1.f0, .slice A2 v.f1.f1.length c2, .int .i64 v.f1.f2, .string v.f2, .slice A5 v.f3.length c5, .slice A6 v.f4.length c6] 34)).alloc (.cells #[.func (.yield l) #[] #[]] 115) := ⟨_, rfl⟩
 have hb2 : Below W.heap.size W W2 := by rw [hW2]; exact ((Below.refl _ _).alloc (Nat.le_refl _) _).alloc (by simp) _
 have hJ2 : J pre W2 := by rw [hW2]; exact hJA _ _ _ (hJA _ _ _ hJ (World.grownBy_alloc _ _ _)) (World.grownBy_alloc _ _ _)
 have hv2 : W2.heap[W.heap.size]? = some (.cells #[.int .i64 v.f0, .bool v.f1.f0, .slice A2 v.f1.f1.length c2, .int .i64 v.f1.f2, .string v.f2, .slice A5 v.f3.length c5, .slice A6 v.f4.length c6] 34 (0, 0)) := by rw [hW2]; exact blk_alloc (blk_new _ _) _
 have hy2 : W2.heap[W.heap.size + 1]? = some (.cells #[.func (.yield l) #[] #[]] 115 (0, 0)) := by rw [hW2]; have := blk_new (W.alloc (.cells #[.int .i64 v.f0, .bool v.f1.f0, .slice A2 v.f1.f1.length c2, .int .i64 v.f1.f2, .string v.f2, .slice A5 v.f3.length c5, .slice A6 v.f4.length c6] 34)) (.cells #[.func (.yield l) #[] #[]] 115); rwa [World.size_alloc] at this
 have hWB : Below w0.heap.size w0 W2 := hW.trans (hb2.mono hW.size)
 rw [vall_eq, List.length_cons] at hN
 obtain ⟨x0, hx0⟩ : ∃ x0 : El w0, x0 = ⟨(v, _), hK, hO⟩ := ⟨_, rfl⟩
 have hx1 : elv [x0] = [v] := by rw [hx0]; rfl
 have hcall : ∀ W3, J (pre ++ [x0]) W3 → KpC w0.heap.size W2 W3 → CallsIn Fence.wide (n - 1) Tryz.prog 109 #[.slice A5 v.f3.length c5, .func (.func 110) #[] #[.pointer (some ⟨W.heap.size + 1, 0, none⟩)]] W3 (WPost false J Jx w0.heap.size (pre ++ [x0]) (valls v.f3) W3) := fun W3 hj hk =>
  walkCont_in J Jx w0.heap.size (W.heap.size + 1) v.f3 A5 c5 (n - 1) (pre ++ [x0]) W3 (walkIdx_in J Jx hJA l N (W.heap.size + 1) v.f3 A5 c5 (n - 1 - 1) (pre ++ [x0]) W3 g5 (hWB.trans hk.1) (hk.2 _ _ hy2 rfl)
   (fun y hy m cs' pre' W' hK' hW' hJ' hN' => ih y hy (hO.kids y hy) m cs' pre' W' hK' hW' hJ' hN') hj (by rw [List.length_append]; simp; omega))
 have hyy := YieldAt.mono (hY (n - 1) pre x0 W2 hJ2 (by omega)) (R' := fun e W3 => (e = .returned (.bool true) ∧ W3.cell? ⟨W.heap.size, 5, none⟩ = some (.slice A5 v.f3.length c5) ∧ W3.cell? ⟨W.heap.size + 1, 0, none⟩ = some (.func (.yield l) #[] #[]) ∧ Hid (J (pre ++ [x0]) W3) ∧ Hid (KpC w0.heap.size W2 W3)) ∨ (e = .returned (.bool false) ∧ Hid (Jx (pre ++ [x0]) W3)))
  (fun e W3 h => h.elim (fun ⟨he, hj, hk⟩ => .inl ⟨he, (blk_cell (hk.2 _ _ hv2 rfl) 5).trans rfl, (blk_cell (hk.2 _ _ hy2 rfl) 0).trans rfl, Lib.hid hj, Lib.hid hk⟩) (fun ⟨he, hx⟩ => .inr ⟨he, Lib.hid hx⟩))
 obtain ⟨fn, tmps, assign, body, hy, hR⟩ := hyy
 have HR := Lib.hid hR
 have HCALL := Lib.hid hcall
 have HX1 := Lib.hid hx1
 have HKP : Hid (KpC w0.heap.size W W2) := Lib.hid (kpC_below hW.size hb2)
 rw [vall_eq]
 rw [show x0.1.2 = [.int .i64 v.f0, .bool v.f1.f0, .slice A2 v.f1.f1.length c2, .int .i64 v.f1.f2, .string v.f2, .slice A5 v.f3.length c5, .slice A6 v.f4.length c6] by rw [hx0]] at hy
 clear hR hcall hx1 hx0 hWB hy2 hv2 hJ2 hb2 hN hW hJ hO hY ih g2 g5 g6 l2 l5 l6 hK
 subst hW2
 refine callsIn_of_wp Tryz.func84 rfl trivial ?_ rfl
 simp only [Tryz.ntmps84, List.size_toArray, List.length_cons, List.length_nil, Nat.reduceAdd, Nat.reduceSub, Array.replicate_succ, Array.replicate_zero, List.push_toArray, List.append_toArray, List.nil_append, List.cons_append]
 gi_wp2_with (first
  | (refine ⟨hdd _, ?_⟩; refine HR.out.mono ?_; clear HR; rintro e W3 (⟨rfl, hc5, hc1, hj3, hk3⟩ | ⟨rfl, hx3⟩))
  | (refine ⟨trivial, hdd _, ?_⟩; gi_at_call 109; refine (HCALL.out _ hj3.out hk3.out).mono ?_; rintro e W4 (⟨ys, rfl, hy4, hj4, hk4⟩ | ⟨q, rfl, hq, hx⟩)))
 · go_ret
   exact .inl ⟨x0 :: ys, rfl, by rw [show x0 :: ys = [x0] ++ ys from rfl, elv_app, HX1.out, hy4]; rfl, by rw [show x0 :: ys = [x0] ++ ys from rfl, ← List.append_assoc]; exact hj4, kpC_t (kpC_t HKP.out hk3.out) hk4⟩
 · go_ret
   exact .inr ⟨x0 :: q, rfl, by rw [show x0 :: q = [x0] ++ q from rfl, elv_app, HX1.out]; exact (List.prefix_cons_inj _).2 hq, by rw [show x0 :: q = [x0] ++ q from rfl, ← List.append_assoc]; exact hx⟩
 · refine ⟨trivial, ?_⟩
   gi_wp2
   go_ret
   exact .inr ⟨[x0], rfl, by rw [HX1.out]; exact (List.prefix_cons_inj _).2 (List.nil_prefix), hx3.out⟩
end
end Go.Proofs.YtmfpakolfpoamaaGreatDoor.P
namespace Go.Proofs.YtmfpakolfpoamaaGreatDoor.P
set_option linter.unusedVariables false
set_option linter.unusedSimpArgs false
open Go.RowKit Go.Proofs.YtmfpakolfpoamaaGreatDoorW.PrintWords Go.Proofs.YtmfpakolfpoamaaGreatDoorW.PrintMore Go.Proofs.YtmfpakolfpoamaaGreatDoorW.PrintLast
mutual
def vsize : V → Nat
 | ⟨_, _, _, l, _⟩ => min (vsizes l 1) 1048576
def vsizes : List V → Nat → Nat
 | [], n => n
 | x :: l, n => if 1048576 ≤ n then n else vsizes l (n + vsize x)
end
def vszUp (l : List V) (k : Nat) : Nat := vsizes (l.take k) 1
theorem vsizes_ge : ∀ (l : List V) (n : Nat), 1048576 ≤ n → vsizes l n = n
 | [], _, _ => by unfold vsizes; rfl
 | x :: l, n, h => by unfold vsizes; rw [if_pos h]
theorem vsizes_nil (n : Nat) : vsizes [] n = n := by unfold vsizes; rfl
theorem vsizes_app : ∀ (l r : List V) (n : Nat), vsizes (l ++ r) n = vsizes r (vsizes l n)
 | [], r, n => by rw [List.nil_append, show vsizes [] n = n by unfold vsizes; rfl]
 | x :: l, r, n => by
  rw [List.cons_append]
  by_cases h : 1048576 ≤ n
  · rw [vsizes_ge _ _ h, vsizes_ge _ _ h, vsizes_ge _ _ h]
  · rw [show vsizes (x :: (l ++ r)) n = vsizes (l ++ r) (n + vsize x) by rw [vsizes, if_neg h], show vsizes (x :: l) n = vsizes l (n + vsize x) by rw [vsizes, if_neg h], vsizes_app l r]
theorem vsize_le (v : V) : vsize v ≤ 1048576 := by cases v; unfold vsize; omega
theorem vsize_eq (v : V) : vsize v = min (vszUp v.f3 v.f3.length) 1048576 := by cases v; unfold vsize vszUp; rw [List.take_length]
theorem vszUp_succ (l : List V) (k : Nat) (h : k < l.length) : vszUp l (k + 1) = if 1048576 ≤ vszUp l k then vszUp l k else vszUp l k + vsize (rd_T34 l (k : Int)) := by
 unfold vszUp rd_T34
 rw [List.take_succ_eq_append_getElem h, vsizes_app]
 have e : l.getD (k : Int).toNat z34 = l[k] := by simp [h]
 rw [e, vsizes]
 split
 · rfl
 · rw [vsizes_nil]
theorem vszUp_le (l : List V) (k : Nat) : vszUp l k ≤ 2097152 := by
 induction k with
 | zero => unfold vszUp vsizes; simp
 | succ k ih =>
  by_cases h : k < l.length
  · rw [vszUp_succ l k h]
    have := vsize_le (rd_T34 l (k : Int))
    split <;> omega
  · rw [show vszUp l (k + 1) = vszUp l k by unfold vszUp; rw [List.take_of_length_le (by omega), List.take_of_length_le (by omega)]]
    exact ih
theorem vszUp_stop (l : List V) {k : Nat} (h : 1048576 ≤ vszUp l k) : ∀ n, k ≤ n → vszUp l n = vszUp l k := by
 intro n hn
 unfold vszUp at h ⊢
 have e : l.take n = l.take k ++ (l.take n).drop k := by have := (List.take_append_drop k (l.take n)).symm; rwa [List.take_take, Nat.min_eq_left hn] at this
 rw [e, vsizes_app, vsizes_ge _ _ h]
set_option maxHeartbeats 1000000 in
theorem Size_any : ∀ (x : V) (cs : List Value) (w : World), k34.K w x cs →
 Calls Tryz.prog 59 #[.agg cs.toArray] w fun e w' => e = .returned (.int .i64 (vsize x)) ∧ Below w.heap.size w w' := by
 refine V.ind fun x ih => ?_
 intro cs w hK
 obtain ⟨A2, c2, A5, c5, A6, c6, rfl, l2, g2, l5, g5, l6, g6⟩ := k34_open hK
 have HC := Lib.hid g5
 have hlen := g5.2.1
 have IH := Lib.hid ih
 clear g2 l2 l5 g5 l6 g6 hK ih
 have HV := Lib.hid (vsize_eq x)
 go_enter Tryz.func59, Tryz.ntmps59
 go_wp2
 go_loopw [3, 9] (fun vm vi wr => ∃ k : Nat, k ≤ x.f3.length ∧ vi = .int .i64 k ∧ vm = .int .i64 (vszUp x.f3 k : Nat) ∧ Below w.heap.size w wr) (fun _ vi _ => x.f3.length - (intOf vi).toNat)
 case atStart => exact ⟨0, Nat.zero_le _, rfl, by unfold vszUp vsizes; simp, (Below.refl _ _).alloc (Nat.le_refl _) _⟩
 case round =>
  obtain ⟨k, hk, rfl, rfl, hB⟩ := hrel
  have HB := Lib.hid hB
  have hle := vszUp_le x.f3 k
  clear hB
  by_cases hlt : k < x.f3.length
  · obtain ⟨ad, D2, d2, D5, d5, D6, d6, rfl, q0, q1, q2, q3, q4, q5, q6, m2, G2, m5, G5, m6, G6⟩ := at_T34 (Kd.C_below HC.out HB.out) (k : Int) (by omega) (by omega)
    rw [Int.toNat_natCast] at q0 q1 q2 q3 q4 q5 q6
    have hKx := Lib.hid (k34_mk wr (rd_T34 x.f3 k) m2 G2 m5 G5 m6 G6)
    clear m2 G2 m5 G5 m6 G6
    have hw : wrap64 ((k : Int) + 1) = ((k + 1 : Nat) : Int) := by unfold wrap64; omega
    by_cases hbig : 1048576 ≤ vszUp x.f3 k
    · have hr : Hid (min (vszUp x.f3 k : Int) 1048576 = (vsize x : Int)) := Lib.hid (by rw [HV.out, vszUp_stop x.f3 hbig _ hk]; omega)
      have hb2 : (1048576 : Int) ≤ (vszUp x.f3 k : Int) := by omega
      go_wp2
      go_ret
      exact ⟨by rw [← hr.out]; rfl, HB.out.alloc HB.out.size _⟩
    · have hs : Hid ((vszUp x.f3 k : Int) + (vsize (rd_T34 x.f3 (k : Int)) : Int) = ((vszUp x.f3 (k + 1) : Nat) : Int)) := Lib.hid (by rw [vszUp_succ x.f3 k hlt, if_neg hbig]; omega)
      have hb2 : ¬ (1048576 : Int) ≤ (vszUp x.f3 k : Int) := by omega
      have hm := vsize_le (rd_T34 x.f3 (k : Int))
      have hmem := Lib.hid (show rd_T34 x.f3 (k : Int) ∈ x.f3 by unfold rd_T34; simp [hlt])
      go_wp2_with (first | (go_at_call 59; (with_reducible refine (IH.out _ hmem.out _ _ ?hK).mono ?_); (case hK => exact k34.K_below ((Below.refl _ _).alloc (Nat.le_refl _) _) hKx.out); rintro e w2 ⟨rfl, hB2⟩))
      have hB3 := below_box HB.out HB.out.size hB2
      clear hB2
      go_roundw
      case rel => exact ⟨k + 1, by omega, by go_num, by rw [hs.out], hB3⟩
      case measure => simp [intOf]; omega
  · obtain rfl : k = x.f3.length := by omega
    have hr : Hid (min (vszUp x.f3 x.f3.length : Int) 1048576 = (vsize x : Int)) := Lib.hid (by rw [HV.out]; omega)
    go_wp2
    go_ret
    exact ⟨by rw [← hr.out]; rfl, HB.out⟩
set_option maxHeartbeats 1000000 in
theorem Deep_any (x : V) (cs : List Value) (w : World) (hK : k34.K w x cs) :
 Calls Tryz.prog 58 #[.agg cs.toArray] w fun e w' => e = .returned (.int .i64 (vdeep 1000 x)) ∧ Below w.heap.size w w' := by
 obtain ⟨A2, c2, A5, c5, A6, c6, rfl, _⟩ := k34_open hK
 have HK := Lib.hid hK
 clear hK
 have hd : ∀ (cs' : List Value) (w' : World), k34.K w' x cs' → Calls Tryz.prog 82 #[.agg cs'.toArray, .int .i64 1000] w' fun e w2 => e = .returned (.int .i64 (vdeep 1000 x)) ∧ Below w'.heap.size w' w2 := fun cs' w' h => deep_any 1000 (Nat.le_refl _) x cs' w' h
 have HD := Lib.hid hd
 clear hd
 go_enter Tryz.func58, Tryz.ntmps58
 go_wp2_with (first | (go_at_call 82; (with_reducible refine (HD.out _ _ ?hK).mono ?_); (case hK => exact k34.K_below ((Below.refl _ _).alloc (Nat.le_refl _) _) HK.out); rintro e w2 ⟨rfl, hB2⟩))
 go_ret
 exact ⟨rfl, below_box (Below.refl _ _) (Nat.le_refl _) hB2⟩
end Go.Proofs.YtmfpakolfpoamaaGreatDoor.P

/- Texts of this claim, one behind the other. -/
import Derived.Test.YtmfpakolfpoamaaGreatDoorMOrderFindsx
import Derived.Test.YtmfpakolfpoamaaGreatDoorMOrderFindsq
import Derived.StillTailTactics
import Derived.WalkLawsBesides
import Derived.Test.YtmfpakolfpoamaaGreatDoorMOrderFindsp
import Derived.Test.YtmfpakolfpoamaaGreatDoorMOrderFindsl
set_option maxRecDepth 100000
namespace Go.Proofs.YtmfpakolfpoamaaGreatDoor.P
set_option linter.unusedVariables false
set_option linter.unusedSimpArgs false
open Go.RowKit Go.Proofs.YtmfpakolfpoamaaGreatDoorW.PrintWords Go.Proofs.YtmfpakolfpoamaaGreatDoorW.PrintMore Go.Proofs.YtmfpakolfpoamaaGreatDoorW.PrintLast
def Asc (l : List V) : Prop := ∀ i, i + 1 < l.length → vord (rd_T34 l (i : Int)) (rd_T34 l ((i + 1 : Nat) : Int)) ≤ 0
structure FoundAt (l : List V) (v : V) (p : Nat) : Prop where
 le : p ≤ l.length
 low : ∀ k, k < p → vord (rd_T34 l (k : Int)) v < 0
 up : p < l.length → ¬ vord (rd_T34 l (p : Int)) v < 0
theorem FoundAt.one {l : List V} {v : V} {p q : Nat} (h : FoundAt l v p) (k : FoundAt l v q) : p = q := by
 rcases Nat.lt_trichotomy p q with hlt | he | hlt
 · exact absurd (k.low p hlt) (h.up (by have := k.le; omega))
 · exact he
 · exact absurd (h.low q hlt) (k.up (by have := h.le; omega))
theorem Asc.le {l : List V} (h : Asc l) : ∀ d i, i + d < l.length → vord (rd_T34 l (i : Int)) (rd_T34 l ((i + d : Nat) : Int)) ≤ 0
 | 0, i, _ => by rw [Nat.add_zero]; have := vord_anti (rd_T34 l (i : Int)) (rd_T34 l (i : Int)); omega
 | d + 1, i, hi => by
  have h1 := Asc.le h d i (by omega)
  have h2 := h (i + d) (by omega)
  have t := vord_tr (rd_T34 l (i : Int)) (rd_T34 l ((i + d : Nat) : Int)) (rd_T34 l ((i + d + 1 : Nat) : Int))
  rw [show i + (d + 1) = i + d + 1 by omega]
  by_cases e1 : vord (rd_T34 l (i : Int)) (rd_T34 l ((i + d : Nat) : Int)) < 0
  · have := t.lt1 e1 h2; omega
  · by_cases e2 : vord (rd_T34 l ((i + d : Nat) : Int)) (rd_T34 l ((i + d + 1 : Nat) : Int)) < 0
    · have := t.lt2 h1 e2; omega
    · have := t.eq (by omega) (by omega); omega
theorem Asc.up {l : List V} (h : Asc l) {v : V} {i j : Nat} (hij : i ≤ j) (hj : j < l.length) (hn : ¬ vord (rd_T34 l (i : Int)) v < 0) : ¬ vord (rd_T34 l (j : Int)) v < 0 := fun hlt => by
 have h1 := h.le (j - i) i (by omega)
 rw [show i + (j - i) = j by omega] at h1
 have t := vord_tr (rd_T34 l (i : Int)) (rd_T34 l (j : Int)) v
 exact hn (t.lt2 h1 hlt)
def SortedPost (l : List V) (w : World) (e : Ending) (w' : World) : Prop := ∃ b : Bool, e = .returned (.bool b) ∧ Hid (b = true ↔ Asc l) ∧ Below w.heap.size w w'
set_option maxHeartbeats 2000000 in
theorem isSorted_any (l : List V) (A : Option Addr) (c : Nat) (w : World) (hA : k34.C w A l.length l) (hO : ∀ x ∈ l, OkV x) (hN : ∀ x ∈ l, NumOk x) (hn : l.length ≤ 1048576) :
 Calls Tryz.prog 51 #[.slice A l.length c, .func (.func 40) #[] #[]] w (SortedPost l w) := by
 have HA := Lib.hid hA
 obtain ⟨n, hnn⟩ : ∃ n, n = l.length := ⟨_, rfl⟩
 have HORD : Hid (∀ i j, i < n → j < n → ∀ cs ds W, k34.K W (rd_T34 l (i : Nat)) cs → k34.K W (rd_T34 l (j : Nat)) ds → Calls Tryz.prog 40 #[.agg cs.toArray, .agg ds.toArray] W fun e w' => e = .returned (.int .i64 (vord (rd_T34 l (i : Nat)) (rd_T34 l (j : Nat)))) ∧ Below W.heap.size W w') := Lib.hid (fun i j hi hj cs ds W hK hL => Order_any _ _ cs ds W hK hL (hO _ (rd_mem (by omega))) (hO _ (rd_mem (by omega))) (hN _ (rd_mem (by omega))) (hN _ (rd_mem (by omega))))
 have HAS : Hid (Asc l ↔ ∀ i, i + 1 < n → vord (rd_T34 l (i : Int)) (rd_T34 l ((i + 1 : Nat) : Int)) ≤ 0) := Lib.hid (by rw [hnn]; exact Iff.rfl)
 rw [← hnn]
 rw [← hnn] at hn
 have HN := Lib.hid hnn
 clear hA hO hN hnn
 go_enter Tryz.func51, Tryz.ntmps51
 go_wp2
 go_loopw [5] (fun vi wr => ∃ k : Nat, k ≤ n ∧ vi = .int .i64 ((k : Int) - 1) ∧ Hid (∀ i, k ≤ i + 1 → i + 1 < n → vord (rd_T34 l (i : Int)) (rd_T34 l ((i + 1 : Nat) : Int)) ≤ 0) ∧ Hid (Below w.heap.size w wr)) (fun vi _ => (intOf vi + 1).toNat)
 case atStart => exact ⟨n, Nat.le_refl _, rfl, Lib.hid (fun i h1 h2 => by omega), Lib.hid (Below.refl _ _)⟩
 case round =>
  obtain ⟨k, hk, rfl, HU, HB⟩ := hrel
  by_cases hz : k ≤ 1
  · have g1 : ¬ (0 : Int) < (k : Int) - 1 := by omega
    have g2 : ¬ (1 : Int) < (k : Int) := by omega
    have HR : Hid (true = true ↔ Asc l) := Lib.hid (by
     rw [HAS.out]
     exact ⟨fun _ i hi => HU.out i (by omega) hi, fun _ => rfl⟩)
    go_wp2
    go_ret
    exact ⟨true, rfl, Lib.hid (by have := HR.out; simpa using this), HB.out⟩
  · obtain ⟨j, rfl⟩ : ∃ j, k = j + 1 + 1 := ⟨k - 2, by omega⟩
    have hj1 : (((j + 1 + 1 : Nat) : Int) - 1) = ((j + 1 : Nat) : Int) := by omega
    rw [hj1]
    obtain ⟨m, hm⟩ : ∃ m, m = j + 1 := ⟨_, rfl⟩
    rw [← hm]
    have g1 : (0 : Int) < (m : Int) := by omega
    have g1' : decide (0 < m) = true := by simp; omega
    have g2 : (m : Int) < (n : Int) := by omega
    have g2' : (0 : Int) ≤ (m : Int) := by omega
    have g3 : IntKind.i64.wrap ((m : Int) - 1) = (j : Int) := by rw [wrap_in _ (by omega)]; omega
    have g4 : (j : Int) < (n : Int) := by omega
    have g5 : (0 : Int) ≤ (j : Int) := by omega
    obtain ⟨ad, a0, a1, a2, a3, a4, a5, a6, rfl, hKa, p0, p1, p2, p3, p4, p5, p6⟩ := at_V HA.out HB.out m (by rw [← HN.out]; omega)
    obtain ⟨bd, b0, b1, b2, b3, b4, b5, b6, e, hKb, q0, q1, q2, q3, q4, q5, q6⟩ := at_V HA.out HB.out j (by rw [← HN.out]; omega)
    obtain rfl := Option.some.inj e
    have HCC := Lib.hid (fun W (hW : Below w.heap.size w W) => HORD.out m j (by omega) (by omega) [a0, a1, a2, a3, a4, a5, a6] [b0, b1, b2, b3, b4, b5, b6] W (k34.K_below hW hKa) (k34.K_below hW hKb))
    have HM := Lib.hid hm
    have HAN : Hid (vord (rd_T34 l (j : Int)) (rd_T34 l (m : Int)) = - vord (rd_T34 l (m : Int)) (rd_T34 l (j : Int))) := Lib.hid (vord_anti _ _)
    generalize hr : vord (rd_T34 l (m : Int)) (rd_T34 l (j : Int)) = r at HCC HAN
    have hmn : m < n := by omega
    clear hKa hKb hr hz hk hj1 hm
    go_upto_region 4 with (fail)
    go_still_tail 10, (by kernel_rfl)
    change wpList _ _ _ _ _ (wr.drewN 1)
    have HBD : Hid (Below w.heap.size w (wr.drewN 1)) := Lib.hid (pw_below_drewN HB.out _)
    generalize wr.drewN 1 = wd at HBD ⊢
    by_cases hr0 : r < 0
    · have HR : Hid (false = true ↔ Asc l) := Lib.hid (by
       rw [HAS.out]
       refine ⟨fun h => (by cases h), fun h => ?_⟩
       have h1 := h j (by rw [← HM.out]; exact hmn)
       rw [← HM.out, HAN.out] at h1
       omega)
      go_wp2_with (go_at_call 40; (with_reducible refine (HCC.out _ HBD.out).mono ?_); rintro e w5 ⟨rfl, hB5⟩; have HB5 := Lib.hid (HBD.out.trans (hB5.mono HBD.out.size)); clear hB5)
      go_ret
      exact ⟨false, rfl, Lib.hid (by have := HR.out; simpa using this), HB5.out⟩
    · have HU2 : Hid (∀ i, m ≤ i + 1 → i + 1 < n → vord (rd_T34 l (i : Int)) (rd_T34 l ((i + 1 : Nat) : Int)) ≤ 0) := Lib.hid (fun i h1 h2 => by
       rcases Nat.lt_or_ge m (i + 1) with h | h
       · exact HU.out i (by have := HM.out; omega) h2
       · have e : i = j := by have := HM.out; omega
         rw [e, ← HM.out, HAN.out]
         omega)
      go_wp2_with (go_at_call 40; (with_reducible refine (HCC.out _ HBD.out).mono ?_); rintro e w5 ⟨rfl, hB5⟩; have HB5 := Lib.hid (HBD.out.trans (hB5.mono HBD.out.size)); clear hB5)
      go_roundw
      case rel => exact ⟨m, by omega, congrArg (Value.int .i64) (by have := HM.out; omega), HU2, HB5⟩
      case measure =>
       have hm' := HM.out
       simp [intOf]
       omega
def SearchPost (l : List V) (v : V) (w : World) (e : Ending) (w' : World) : Prop := ∃ p : Nat, FoundAt l v p ∧ e = .returned (.tuple #[.int .i64 p, .bool (decide (p < l.length ∧ vord (rd_T34 l (p : Int)) v = 0))]) ∧ Below w.heap.size w w'
set_option maxHeartbeats 4000000 in
theorem binary_any (l : List V) (v : V) (A : Option Addr) (c : Nat) (cs : List Value) (w : World) (hA : k34.C w A l.length l) (hO : ∀ x ∈ l, OkV x) (hN : ∀ x ∈ l, NumOk x) (hn : l.length ≤ 1048576) (hKv : k34.K w v cs) (hOv : OkV v) (hNv : NumOk v) (hS : Asc l) :
 Calls Tryz.prog 52 #[.slice A l.length c, .agg cs.toArray, .func (.func 40) #[] #[]] w (SearchPost l v w) := by
 have HKV := Lib.hid hKv
 obtain ⟨A2, c2, A5, c5, A6, c6, rfl, l2, g2, l5, g5, l6, g6⟩ := k34_open hKv
 clear l2 g2 l5 g5 l6 g6 hKv
 have HA := Lib.hid hA
 obtain ⟨n, hnn⟩ : ∃ n, n = l.length := ⟨_, rfl⟩
 have HORD : Hid (∀ i, i < n → ∀ cs ds W, k34.K W (rd_T34 l (i : Nat)) cs → k34.K W v ds → Calls Tryz.prog 40 #[.agg cs.toArray, .agg ds.toArray] W fun e w' => e = .returned (.int .i64 (vord (rd_T34 l (i : Nat)) v)) ∧ Below W.heap.size W w') := Lib.hid (fun i hi cs ds W hK hL => Order_any _ _ cs ds W hK hL (hO _ (rd_mem (by omega))) hOv (hN _ (rd_mem (by omega))) hNv)
 have HUP : Hid (∀ i j, i ≤ j → j < n → 0 ≤ vord (rd_T34 l (i : Int)) v → 0 ≤ vord (rd_T34 l (j : Int)) v) := Lib.hid (fun i j h1 h2 h3 => by have := hS.up h1 (by omega) (by omega : ¬ vord (rd_T34 l (i : Int)) v < 0); omega)
 have HLO : Hid (∀ i j, i ≤ j → j < n → vord (rd_T34 l (j : Int)) v < 0 → vord (rd_T34 l (i : Int)) v < 0) := Lib.hid (fun i j h1 h2 h3 => Decidable.not_not.1 (fun h => hS.up h1 (by omega) h h3))
 have HFD : Hid (∀ p, p ≤ n → (∀ k, k < p → vord (rd_T34 l (k : Int)) v < 0) → (∀ k, p ≤ k → k < n → 0 ≤ vord (rd_T34 l (k : Int)) v) → FoundAt l v p) := Lib.hid (fun p h1 h2 h3 => ⟨by omega, h2, fun h => by have := h3 p (Nat.le_refl _) (by omega); omega⟩)
 obtain ⟨W1, hW1⟩ : ∃ W1, W1 = w.alloc (.cells #[.int .i64 v.f0, .bool v.f1.f0, .slice A2 v.f1.f1.length c2, .int .i64 v.f1.f2, .string v.f2, .slice A5 v.f3.length c5, .slice A6 v.f4.length c6] 34) := ⟨_, rfl⟩
 have hb1 : Below w.heap.size w W1 := by rw [hW1]; exact (Below.refl _ _).alloc (Nat.le_refl _) _
 have hx1 : W1.heap[w.heap.size]? = some (.cells #[.int .i64 v.f0, .bool v.f1.f0, .slice A2 v.f1.f1.length c2, .int .i64 v.f1.f2, .string v.f2, .slice A5 v.f3.length c5, .slice A6 v.f4.length c6] 34 (0, 0)) := by rw [hW1]; exact blk_new _ _
 have HW1 := Lib.hid hW1
 have HB1 := Lib.hid hb1
 have HX1 := Lib.hid hx1
 have HPP : Hid (∀ (p : Nat) (W : World), FoundAt l v p → Below w.heap.size w W → SearchPost l v w (.returned (.tuple #[.int .i64 p, .bool (decide (p < n ∧ vord (rd_T34 l (p : Int)) v = 0))])) W) := Lib.hid (fun p W h1 h2 => ⟨p, h1, by rw [hnn], h2⟩)
 rw [← hnn]
 rw [← hnn] at hn
 have HN := Lib.hid hnn
 clear hA hO hN hnn hS hOv hNv hW1 hb1 hx1
 go_enter Tryz.func52, Tryz.ntmps52
 go_upto_region 1 with (fail)
 rw [← HW1.out]
 clear HW1
 go_wp2
 go_loopw [9, 10] (fun vi vj wr => ∃ i j : Nat, i ≤ j ∧ j ≤ n ∧ vi = .int .i64 i ∧ vj = .int .i64 j ∧ Hid (∀ k, k < i → vord (rd_T34 l (k : Int)) v < 0) ∧ Hid (∀ k, j ≤ k → k < n → 0 ≤ vord (rd_T34 l (k : Int)) v) ∧ Hid (Below W1.heap.size W1 wr)) (fun vi vj _ => (intOf vj - intOf vi).toNat)
 case atStart => exact ⟨0, n, Nat.zero_le _, Nat.le_refl _, rfl, rfl, Lib.hid (fun k h => absurd h (by omega)), Lib.hid (fun k h1 h2 => absurd h1 (by omega)), Lib.hid (Below.refl _ _)⟩
 case round =>
  obtain ⟨i, j, hij, hj, rfl, rfl, HI, HJ, HB⟩ := hrel
  have HBW := Lib.hid (HB1.out.trans (HB.out.mono HB1.out.size))
  obtain ⟨hcv, hfv⟩ := bcells HX1.out HB.out
  have hi0 : (0 : Int) ≤ (i : Int) := by omega
  have hj0 : (0 : Int) ≤ (j : Int) := by omega
  have hjn : (j : Int) ≤ 1048576 := by omega
  by_cases hlt : i < j
  · have hlt2 : (i : Int) < (j : Int) := by omega
    obtain ⟨h, hh⟩ : ∃ h : Nat, h = (i + j) / 2 := ⟨_, rfl⟩
    have hh1 : i ≤ h ∧ h < j := by omega
    have e1 : IntKind.i64.wrap ((i : Int) + (j : Int)) = ((i + j : Nat) : Int) := by rw [wrap_in _ (by omega)]; omega
    have e2 : ((i : Int) + (j : Int)) / 2 = (h : Int) := by omega
    have h0 : (0 : Int) ≤ (h : Int) := by omega
    have hn2 : (h : Int) < (n : Int) := by omega
    have hhn : h < n := by omega
    obtain ⟨ad, a0, a1, a2, a3, a4, a5, a6, rfl, hKa, p0, p1, p2, p3, p4, p5, p6⟩ := at_V HA.out HBW.out h (by rw [← HN.out]; exact hhn)
    have HCC := Lib.hid (fun W (hW : Below w.heap.size w W) => HORD.out h hhn [a0, a1, a2, a3, a4, a5, a6] _ W (k34.K_below hW hKa) (k34.K_below hW HKV.out))
    have HI2 : Hid (vord (rd_T34 l (h : Int)) v < 0 → ∀ k, k < h + 1 → vord (rd_T34 l (k : Int)) v < 0) := Lib.hid (fun hx k hk => HLO.out k h (by omega) hhn hx)
    have HJ2 : Hid (0 ≤ vord (rd_T34 l (h : Int)) v → ∀ k, h ≤ k → k < n → 0 ≤ vord (rd_T34 l (k : Int)) v) := Lib.hid (fun hx k hk1 hk2 => HUP.out h k hk1 hk2 hx)
    generalize vord (rd_T34 l (h : Int)) v = r at *
    clear hKa hh
    go_upto_region 5 with (fail)
    go_still_tail 6, (by kernel_rfl)
    change wpList _ _ _ _ _ (wr.drewN 1)
    have HBD : Hid (Below w.heap.size w (wr.drewN 1)) := Lib.hid (pw_below_drewN HBW.out _)
    have HBE : Hid (Below W1.heap.size W1 (wr.drewN 1)) := Lib.hid (pw_below_drewN HB.out _)
    generalize wr.drewN 1 = wd at HBD HBE ⊢
    by_cases hr : r < 0
    · have HI3 := Lib.hid (HI2.out hr)
      go_wp2_with (go_at_call 40; (with_reducible refine (HCC.out _ HBD.out).mono ?_); rintro e w5 ⟨rfl, hB5⟩; have HB5 := Lib.hid (HBE.out.trans (hB5.mono HBE.out.size)); clear hB5)
      refine ⟨⟨h + 1, j, by omega, hj, congrArg (Value.int .i64) (by omega), rfl, HI3, HJ, HB5⟩, ?_⟩
      show ((j : Int) - ((h : Int) + 1)).toNat < ((j : Int) - (i : Int)).toNat
      omega
    · have HJ3 := Lib.hid (HJ2.out (by omega))
      go_wp2_with (go_at_call 40; (with_reducible refine (HCC.out _ HBD.out).mono ?_); rintro e w5 ⟨rfl, hB5⟩; have HB5 := Lib.hid (HBE.out.trans (hB5.mono HBE.out.size)); clear hB5)
      refine ⟨⟨i, h, hh1.1, by omega, rfl, rfl, HI, HJ3, HB5⟩, ?_⟩
      show ((h : Int) - (i : Int)).toNat < ((j : Int) - (i : Int)).toNat
      omega
  · obtain rfl : i = j := by omega
    have hlt2 : ¬ (i : Int) < (i : Int) := by omega
    have HFA := Lib.hid (HFD.out i hj HI.out HJ.out)
    have hin0 : (0 : Int) ≤ (i : Int) := by omega
    by_cases hin : i < n
    · have hin2 : (i : Int) < (n : Int) := by omega
      have hin3 : decide (i < n) = true := by simpa using hin
      obtain ⟨ad, a0, a1, a2, a3, a4, a5, a6, rfl, hKa, p0, p1, p2, p3, p4, p5, p6⟩ := at_V HA.out HBW.out i (by rw [← HN.out]; exact hin)
      have HCC := Lib.hid (fun W (hW : Below w.heap.size w W) => HORD.out i hin [a0, a1, a2, a3, a4, a5, a6] _ W (k34.K_below hW hKa) (k34.K_below hW HKV.out))
      have HP2 := Lib.hid (fun W (hW : Below w.heap.size w W) => HPP.out i W HFA.out hW)
      have hdd : decide (i < n ∧ vord (rd_T34 l (i : Int)) v = 0) = (vord (rd_T34 l (i : Int)) v == 0) := by rw [Bool.eq_iff_iff]; simp [hin]
      rw [hdd] at HP2
      generalize vord (rd_T34 l (i : Int)) v = r at *
      clear hKa hdd HI HJ HFD HUP HLO
      go_upto_region 8 with (fail)
      have RP : Hid (∀ W, Below wr.heap.size wr W → W.cell? (ad.add (i * 7)) = some a0 ∧ W.cell? ⟨(ad.add (i * 7)).block, (ad.add (i * 7)).off + 1, none⟩ = some a1 ∧ W.cell? ⟨(ad.add (i * 7)).block, (ad.add (i * 7)).off + 2, none⟩ = some a2 ∧ W.cell? ⟨(ad.add (i * 7)).block, (ad.add (i * 7)).off + 3, none⟩ = some a3 ∧ W.cell? ⟨(ad.add (i * 7)).block, (ad.add (i * 7)).off + 4, none⟩ = some a4 ∧ W.cell? ⟨(ad.add (i * 7)).block, (ad.add (i * 7)).off + 5, none⟩ = some a5 ∧ W.cell? ⟨(ad.add (i * 7)).block, (ad.add (i * 7)).off + 6, none⟩ = some a6) := Lib.hid (fun W hb => ⟨pw_cell_below hb p0, pw_cell_below hb p1, pw_cell_below hb p2, pw_cell_below hb p3, pw_cell_below hb p4, pw_cell_below hb p5, pw_cell_below hb p6⟩)
      have HVX := Lib.hid (blk_below2 HX1.out HB.out)
      have HBc : Hid (Below wr.heap.size wr wr.drew) := Lib.hid (below_drew (Below.refl _ _))
      clear p0 p1 p2 p3 p4 p5 p6 hcv hfv
      refine wp_region_any (by kernel_rfl) ?_
      change wpAny _ _ _ _ _ _ _ (World.drew _)
      refine tq 0 (h := ?_)
      refine tq 1 (h := ?_)
      simp only [lst]
      refine tq 2 (h := ?_)
      refine tq 3 (h := ?_)
      simp only [lst]
      refine tq 4 (h := ?_)
      refine tq 5 (h := ?_)
      simp only [lst]
      refine tq 6 (h := ?_)
      refine tq 7 (h := ?_)
      simp only [lst]
      refine tq 8 (h := ?_)
      simp only [lst]
      refine two 9 10 rfl rfl (by kernel_rfl) (by rfl) (by rfl) (fun K_ hK_ => ?_) (fun K_ hK_ => ?_)
      obtain ⟨p0, p1, p2, p3, p4, p5, p6⟩ := RP.out _ HBc.out
      simp only [lgt]
      go_simp
      clear p0 p1 p2 p3 p4 p5 p6
      refine hK_ _ _ ?_
      clear hK_ K_
      refine one 10 rfl (by kernel_rfl) (by rfl) fun K_ hK_ => ?_
      obtain ⟨q0, -⟩ := bcells (blk_below2 HVX.out HBc.out) (Below.refl _ _)
      simp only [lgt]
      go_simp
      clear q0
      refine hK_ _ _ ?_
      clear hK_ K_
      refine one 11 rfl (by kernel_rfl) (by rfl) fun K_ hK_ => ?_
      simp only [lgt]
      go_simp
      refine (HCC.out _ (HBW.out.trans (HBc.out.mono HBW.out.size))).mono ?_
      rintro e_ w5 ⟨rfl, hB5⟩
      have HBc := Lib.hid (HBc.out.trans (hB5.mono HBc.out.size))
      clear hB5
      simp only [Oper.upon]
      refine hK_ _ _ ?_
      clear hK_ K_
      refine tq 12 (h := ?_)
      refine tq 13 (h := ?_)
      simp only [lst]
      refine tq 14 (h := ?_)
      refine tq 15 (h := ?_)
      refine wpAny_done (by kernel_rfl) ?_ _
      simp only [lst]
      rotate_left
      obtain ⟨q0, -⟩ := bcells (blk_below2 HVX.out HBc.out) (Below.refl _ _)
      simp only [lgt]
      go_simp
      clear q0
      refine hK_ _ _ ?_
      clear hK_ K_
      refine one 9 rfl (by kernel_rfl) (by rfl) fun K_ hK_ => ?_
      obtain ⟨p0, p1, p2, p3, p4, p5, p6⟩ := RP.out _ HBc.out
      simp only [lgt]
      go_simp
      clear p0 p1 p2 p3 p4 p5 p6
      refine hK_ _ _ ?_
      clear hK_ K_
      refine one 11 rfl (by kernel_rfl) (by rfl) fun K_ hK_ => ?_
      simp only [lgt]
      go_simp
      refine (HCC.out _ (HBW.out.trans (HBc.out.mono HBW.out.size))).mono ?_
      rintro e_ w5 ⟨rfl, hB5⟩
      have HBc := Lib.hid (HBc.out.trans (hB5.mono HBc.out.size))
      clear hB5
      simp only [Oper.upon]
      refine hK_ _ _ ?_
      clear hK_ K_
      refine tq 12 (h := ?_)
      refine tq 13 (h := ?_)
      simp only [lst]
      refine tq 14 (h := ?_)
      refine tq 15 (h := ?_)
      refine wpAny_done (by kernel_rfl) ?_ _
      simp only [lst]
      rotate_left
      all_goals
       have HF := Lib.hid (HBW.out.trans (HBc.out.mono HBW.out.size))
       go_wp2_with fail
       go_ret2
       exact HP2.out _ HF.out
    · have hin2 : ¬ (i : Int) < (n : Int) := by omega
      have hin3 : decide (i < n) = false := by simpa using hin
      have HP2 := Lib.hid (fun W (hW : Below w.heap.size w W) => HPP.out i W HFA.out hW)
      have hdd : decide (i < n ∧ vord (rd_T34 l (i : Int)) v = 0) = false := decide_eq_false (fun h => hin h.1)
      rw [hdd] at HP2
      clear hdd HI HJ HFD HUP HLO
      go_wp2
      go_quiet (fail)
      go_wp2
      go_ret2
      exact HP2.out _ (pw_below_drewN HBW.out _)
set_option maxHeartbeats 1000000 in
theorem rdeep_any : ∀ (n : Nat), n ≤ 1000 → ∀ (x : V) (cs : List Value) (w : World), k34.K w x cs →
 Calls Tryz.prog 103 #[.agg cs.toArray, .int .i64 n] w fun e w' => e = .returned (.int .i64 (vdeep n x)) ∧ Below w.heap.size w w' := by
 intro n
 induction n with
 | zero =>
  intro _ x cs w hK
  obtain ⟨A2, c2, A5, c5, A6, c6, rfl, l2, g2, l5, g5, l6, g6⟩ := k34_open hK
  clear l2 g2 l5 g5 l6 g6 hK
  show Calls _ _ _ _ fun e w' => e = .returned (.int .i64 0) ∧ _
  by_cases h5 : x.f0 = 5
  · have h5b : (x.f0 != 5) = false := by simp [h5]
    go_enter Tryz.func103, Tryz.ntmps103
    go_wp2
    go_ret
    exact ⟨rfl, (Below.refl _ _).alloc (Nat.le_refl _) _⟩
  · have h5b : (x.f0 != 5) = true := by simpa using h5
    by_cases h6 : x.f0 = 6
    · have h6b : (x.f0 != 6) = false := by simp [h6]
      go_enter Tryz.func103, Tryz.ntmps103
      go_wp2
      go_ret
      exact ⟨rfl, (Below.refl _ _).alloc (Nat.le_refl _) _⟩
    · have h6b : (x.f0 != 6) = true := by simpa using h6
      go_enter Tryz.func103, Tryz.ntmps103
      go_wp2
      go_ret
      exact ⟨rfl, (Below.refl _ _).alloc (Nat.le_refl _) _⟩
 | succ n ih =>
  intro hn x cs w hK
  obtain ⟨A2, c2, A5, c5, A6, c6, rfl, l2, g2, l5, g5, l6, g6⟩ := k34_open hK
  have HC := Lib.hid g5
  have hlen := g5.2.1
  clear l2 g2 l5 g5 l6 g6 hK
  have IH := Lib.hid (ih (by omega))
  clear ih
  by_cases h56 : x.f0 = 5 ∨ x.f0 = 6
  · have hv : vdeep (n + 1) x = vmx n x.f3 x.f3.length + 1 := by unfold vdeep vmx; rw [if_pos h56, List.take_length]
    rw [hv]
    obtain ⟨m, hm⟩ : ∃ m : Int, m = ((n + 1 : Nat) : Int) := ⟨_, rfl⟩
    rw [← hm]
    have hp : (m == 0) = false := by simp; omega
    have hn1 : m - 1 = (n : Int) := by omega
    have hmb : 1 ≤ m ∧ m ≤ 1000 := by omega
    clear hm
    have hge : ∀ k, vmx n x.f3 k ≤ 1000 := fun k => Nat.le_trans (vmx_le n x.f3 k) (by omega)
    have GE := Lib.hid hge
    have hB0 : Below w.heap.size w (w.alloc (.cells #[.int .i64 x.f0, .bool x.f1.f0, .slice A2 x.f1.f1.length c2, .int .i64 x.f1.f2, .string x.f2, .slice A5 x.f3.length c5, .slice A6 x.f4.length c6] 34)) := (Below.refl _ _).alloc (Nat.le_refl _) _
    have G0 := Lib.hid (blk_new w (.cells #[.int .i64 x.f0, .bool x.f1.f0, .slice A2 x.f1.f1.length c2, .int .i64 x.f1.f2, .string x.f2, .slice A5 x.f3.length c5, .slice A6 x.f4.length c6] 34))
    have HB0 := Lib.hid hB0
    have e5 : (x.f0 != 5) = false ∨ (x.f0 != 5) = true ∧ (x.f0 != 6) = false := by
     rcases h56 with h | h
     · exact .inl (by simp [h])
     · exact .inr (by simp [h])
    clear hge hv h56 hB0
    rcases e5 with e5 | ⟨e5, e6⟩
    all_goals
     go_enter Tryz.func103, Tryz.ntmps103
     go_wp2
     go_loopw [5, 6] (fun vm vi wr => ∃ k : Nat, k ≤ x.f3.length ∧ vi = .int .i64 k ∧ vm = .int .i64 (vmx n x.f3 k : Nat) ∧ Below (w.alloc (.cells #[.int .i64 x.f0, .bool x.f1.f0, .slice A2 x.f1.f1.length c2, .int .i64 x.f1.f2, .string x.f2, .slice A5 x.f3.length c5, .slice A6 x.f4.length c6] 34)).heap.size (w.alloc (.cells #[.int .i64 x.f0, .bool x.f1.f0, .slice A2 x.f1.f1.length c2, .int .i64 x.f1.f2, .string x.f2, .slice A5 x.f3.length c5, .slice A6 x.f4.length c6] 34)) wr) (fun _ vi _ => x.f3.length - (intOf vi).toNat)
     case atStart => exact ⟨0, Nat.zero_le _, rfl, rfl, Below.refl _ _⟩
     case round =>
      obtain ⟨k, hk, rfl, rfl, hB⟩ := hrel
      have HB := Lib.hid hB
      have HBW := Lib.hid (HB0.out.trans (hB.mono HB0.out.size))
      obtain ⟨hcl0, hfz0⟩ := bcells G0.out hB
      clear hB
      by_cases hlt : k < x.f3.length
      · obtain ⟨ad, a0, a1, a2, a3, a4, a5, a6, rfl, hKa, p0, p1, p2, p3, p4, p5, p6⟩ := at_V HC.out HBW.out k hlt
        have hs : Hid (max ((vmx n x.f3 k : Nat) : Int) ((vdeep n (rd_T34 x.f3 (k : Int)) : Nat) : Int) = ((vmx n x.f3 (k + 1) : Nat) : Int)) := Lib.hid (by rw [vmx_succ n x.f3 k hlt]; omega)
        have hw : wrap64 ((k : Int) + 1) = ((k + 1 : Nat) : Int) := by unfold wrap64; omega
        have HCC := Lib.hid (IH.out _ [a0, a1, a2, a3, a4, a5, a6] wr (k34.K_below HBW.out hKa))
        clear hKa
        go_wp2_with (go_at_call 103; (with_reducible refine (HCC.out).mono ?_); rintro e w2 ⟨rfl, hB2⟩; have HB2 := Lib.hid (HB.out.trans (hB2.mono HB.out.size)); clear hB2)
        go_roundw
        case rel => exact ⟨k + 1, by omega, by go_num, by rw [hs.out], HB2.out⟩
        case measure => simp [intOf]; omega
      · obtain rfl : k = x.f3.length := by omega
        have hg := GE.out x.f3.length
        go_wp2
        go_ret
        exact ⟨congrArg (fun z : Int => Ending.returned (.int .i64 z)) (by omega), HBW.out⟩
  · have hv : vdeep (n + 1) x = 0 := by unfold vdeep; rw [if_neg h56]
    rw [hv]
    have h5b : (x.f0 != 5) = true := by simp; exact fun h => h56 (.inl h)
    have h6b : (x.f0 != 6) = true := by simp; exact fun h => h56 (.inr h)
    clear hv h56
    go_enter Tryz.func103, Tryz.ntmps103
    go_wp2
    go_ret
    exact ⟨rfl, (Below.refl _ _).alloc (Nat.le_refl _) _⟩
set_option maxHeartbeats 1000000 in
theorem rSize_any : ∀ (x : V) (cs : List Value) (w : World), k34.K w x cs →
 Calls Tryz.prog 77 #[.agg cs.toArray] w fun e w' => e = .returned (.int .i64 (vsize x)) ∧ Below w.heap.size w w' := by
 refine V.ind fun x ih => ?_
 intro cs w hK
 obtain ⟨A2, c2, A5, c5, A6, c6, rfl, l2, g2, l5, g5, l6, g6⟩ := k34_open hK
 have HC := Lib.hid g5
 have hlen := g5.2.1
 have IH := Lib.hid ih
 clear g2 l2 l5 g5 l6 g6 hK ih
 have HV := Lib.hid (vsize_eq x)
 obtain ⟨W1, hW1⟩ : ∃ W1, W1 = w.alloc (.cells #[.int .i64 x.f0, .bool x.f1.f0, .slice A2 x.f1.f1.length c2, .int .i64 x.f1.f2, .string x.f2, .slice A5 x.f3.length c5, .slice A6 x.f4.length c6] 34) := ⟨_, rfl⟩
 have hb1 : Below w.heap.size w W1 := by rw [hW1]; exact (Below.refl _ _).alloc (Nat.le_refl _) _
 have hx1 : W1.heap[w.heap.size]? = some (.cells #[.int .i64 x.f0, .bool x.f1.f0, .slice A2 x.f1.f1.length c2, .int .i64 x.f1.f2, .string x.f2, .slice A5 x.f3.length c5, .slice A6 x.f4.length c6] 34 (0, 0)) := by rw [hW1]; exact blk_new _ _
 have HW1 := Lib.hid hW1
 have HB1 := Lib.hid hb1
 have HX1 := Lib.hid hx1
 clear hW1 hb1 hx1
 go_enter Tryz.func77, Tryz.ntmps77
 go_upto_region 1 with (fail)
 rw [← HW1.out]
 go_wp2
 go_loopw [3, 4] (fun vm vi wr => ∃ k : Nat, k ≤ x.f3.length ∧ vi = .int .i64 k ∧ vm = .int .i64 (vszUp x.f3 k : Nat) ∧ Hid (Below W1.heap.size W1 wr)) (fun _ vi _ => x.f3.length - (intOf vi).toNat)
 case atStart => exact ⟨0, Nat.zero_le _, rfl, by unfold vszUp vsizes; simp, Lib.hid (Below.refl _ _)⟩
 case round =>
  obtain ⟨k, hk, rfl, rfl, HB⟩ := hrel
  have HBW := Lib.hid (HB1.out.trans (HB.out.mono HB1.out.size))
  obtain ⟨hcl0, hfz0⟩ := bcells HX1.out HB.out
  have hle := vszUp_le x.f3 k
  have hk0 : (0 : Int) ≤ (k : Int) := by omega
  by_cases hlt : k < x.f3.length
  · have hlt2 : (k : Int) < (x.f3.length : Int) := by omega
    have hltd : decide (k < x.f3.length) = true := by simpa using hlt
    by_cases hbig : 1048576 ≤ vszUp x.f3 k
    · have hr : Hid (min (vszUp x.f3 k : Int) 1048576 = (vsize x : Int)) := Lib.hid (by rw [HV.out, vszUp_stop x.f3 hbig _ hk]; omega)
      have hb2 : ¬ (vszUp x.f3 k : Int) < 1048576 := by omega
      go_wp2
      go_ret
      exact ⟨by rw [← hr.out]; rfl, HBW.out⟩
    · have hs : Hid ((vszUp x.f3 k : Int) + (vsize (rd_T34 x.f3 (k : Int)) : Int) = ((vszUp x.f3 (k + 1) : Nat) : Int)) := Lib.hid (by rw [vszUp_succ x.f3 k hlt, if_neg hbig]; omega)
      have hb2 : (vszUp x.f3 k : Int) < 1048576 := by omega
      have hm := vsize_le (rd_T34 x.f3 (k : Int))
      obtain ⟨ad, a0, a1, a2, a3, a4, a5, a6, rfl, hKa, p0, p1, p2, p3, p4, p5, p6⟩ := at_V HC.out HBW.out k hlt
      have HCC := Lib.hid (IH.out _ (show rd_T34 x.f3 (k : Int) ∈ x.f3 by unfold rd_T34; simp [hlt]) [a0, a1, a2, a3, a4, a5, a6] wr (k34.K_below HBW.out hKa))
      have hw : wrap64 ((k : Int) + 1) = ((k + 1 : Nat) : Int) := by unfold wrap64; omega
      clear hKa
      go_wp2_with (go_at_call 77; (with_reducible refine (HCC.out).mono ?_); rintro e w2 ⟨rfl, hB2⟩; have HB2 := Lib.hid (HB.out.trans (hB2.mono HB.out.size)); clear hB2)
      go_roundw
      case rel => exact ⟨k + 1, by omega, by go_num, by rw [hs.out], HB2⟩
      case measure => simp [intOf]; omega
  · obtain rfl : k = x.f3.length := by omega
    have hr : Hid (min (vszUp x.f3 x.f3.length : Int) 1048576 = (vsize x : Int)) := Lib.hid (by rw [HV.out]; omega)
    have hlt2 : ¬ (x.f3.length : Int) < (x.f3.length : Int) := by omega
    go_wp2
    go_ret
    exact ⟨by rw [← hr.out]; rfl, HBW.out⟩
set_option maxHeartbeats 1000000 in
theorem rDeep_any (x : V) (cs : List Value) (w : World) (hK : k34.K w x cs) :
 Calls Tryz.prog 76 #[.agg cs.toArray] w fun e w' => e = .returned (.int .i64 (vdeep 1000 x)) ∧ Below w.heap.size w w' := by
 obtain ⟨A2, c2, A5, c5, A6, c6, rfl, _⟩ := k34_open hK
 have HK := Lib.hid hK
 clear hK
 have hd : ∀ (cs' : List Value) (w' : World), k34.K w' x cs' → Calls Tryz.prog 103 #[.agg cs'.toArray, .int .i64 1000] w' fun e w2 => e = .returned (.int .i64 (vdeep 1000 x)) ∧ Below w'.heap.size w' w2 := fun cs' w' h => rdeep_any 1000 (Nat.le_refl _) x cs' w' h
 have HD := Lib.hid hd
 clear hd
 go_enter Tryz.func76, Tryz.ntmps76
 go_wp2_with (first | (go_at_call 103; (with_reducible refine (HD.out _ _ ?hK).mono ?_); (case hK => exact k34.K_below ((Below.refl _ _).alloc (Nat.le_refl _) _) HK.out); rintro e w2 ⟨rfl, hB2⟩))
 go_ret
 exact ⟨rfl, below_box (Below.refl _ _) (Nat.le_refl _) hB2⟩
set_option maxHeartbeats 2000000 in
theorem Trim_any (d : List Int) (A : Option Addr) (c : Nat) (w : World) (hC : Kd.C (Kd.int .i64) w A d.length d) (hc : d.length ≤ c) (hl : d.length ≤ 1048576) (hok : okD d) :
 Calls Tryz.prog 107 #[.slice A d.length c] w fun e w' => e = .returned (.slice A (decs (dval d)).length c) ∧ w' = w ∧ d.take (decs (dval d)).length = decs (dval d) ∧ (decs (dval d)).length ≤ d.length := by
 have HTK := fun (j : Nat) (hj : j ≤ d.length) => (print_take_int (P := Tryz.prog) (k := .i64) 40 3 Tryz.underlying40 (i := (Tryz.prog.info? 3).get (by kernel_rfl)) (by kernel_rfl) (by kernel_rfl) A c d (j : Int) (by omega) (by omega) hc).1
 obtain ⟨n, hn⟩ : ∃ n, n = d.length := ⟨_, rfl⟩
 have HD : Hid (∀ m, m ≤ n → dval (d.take m) = dval d → (m = 0 ∨ d.getD (m - 1) 0 ≠ 0) → d.take m = decs (dval d)) := Lib.hid (fun m hm h1 h2 => dtrim_done hok (by omega) h1 h2)
 have HTS : Hid (∀ m, m + 1 ≤ n → dval (d.take (m + 1)) = dval d → d.getD m 0 = 0 → dval (d.take m) = dval d) := Lib.hid (fun m hm h1 h2 => dtrim_step (by omega) h1 h2)
 have HT2 : Hid (∀ (j : Nat), j ≤ n → ∀ W : World, (Instr.slice 40 (.slice A n c) none (some (.int .i64 (j : Int))) none).run Tryz.prog W = .ok (.slice A j c) W) := Lib.hid (fun j hj W => by
  have := HTK j (by omega) W
  rw [Int.toNat_natCast, List.length_take, Nat.min_eq_left (by omega), ← hn] at this
  exact this)
 have HC := Lib.hid hC
 have HN := Lib.hid hn
 rw [← hn]
 rw [← hn] at hc hl HC
 clear hC hn hok HTK
 go_enter Tryz.func107, Tryz.ntmps107
 go_wp2
 go_loopw [3] (fun vi wr => ∃ m : Nat, m ≤ n ∧ vi = .int .i64 m ∧ Hid (dval (d.take m) = dval d) ∧ wr = w) (fun vi _ => (intOf vi).toNat)
 case atStart => exact ⟨n, Nat.le_refl _, rfl, Lib.hid (by rw [HN.out, List.take_length]), rfl⟩
 case round =>
  obtain ⟨m, hm, rfl, HV, rfl⟩ := hrel
  by_cases hz : m = 0
  · subst hz
    have hzz : ¬ (0 : Int) < ((0 : Nat) : Int) := by omega
    have hcut := HT2.out 0 (by omega) wr
    have HE := Lib.hid (HD.out 0 (by omega) HV.out (.inl rfl))
    have hlen : (decs (dval d)).length = 0 := by rw [← HE.out]; rfl
    have HLN := Lib.hid hlen
    clear hlen
    go_wp2
    go_ret
    exact ⟨by rw [HLN.out]; rfl, rfl, by rw [HLN.out, ← HE.out], by rw [HLN.out]; omega⟩
  · obtain ⟨j, rfl⟩ : ∃ j, m = j + 1 := ⟨m - 1, by omega⟩
    have hzz : (0 : Int) < ((j + 1 : Nat) : Int) := by omega
    have hjj : (((j + 1 : Nat) : Int) - 1) = (j : Int) := by omega
    have hj0 : (0 : Int) ≤ (j : Int) := by omega
    have hjn : (j : Int) < (n : Int) := by omega
    obtain ⟨ad, rfl, hx⟩ := Kd.at_int HC.out (j : Int) (by omega) (by omega)
    rw [Int.toNat_natCast] at hx
    have hxe : rd d (j : Int) = d.getD j 0 := by unfold rd; rw [Int.toNat_natCast]
    obtain ⟨x, hxx⟩ : ∃ x, x = d.getD j 0 := ⟨_, rfl⟩
    rw [hxe, ← hxx] at hx
    by_cases h0 : x = 0
    · have hb0 : (x == 0) = true := by simp [h0]
      have HV2 := Lib.hid (HTS.out j hm HV.out (by rw [← hxx]; exact h0))
      clear hxe hxx h0 hz
      go_wp2
      go_roundw
      case rel => exact ⟨j, by omega, by first | rfl | (congr 1; omega), HV2, by first | rfl | trivial⟩
      case measure => simp [intOf]
    · have hb0 : (x == 0) = false := by simpa using h0
      have HE := Lib.hid (HD.out (j + 1) hm HV.out (.inr (by rw [Nat.add_sub_cancel, ← hxx]; exact h0)))
      have hcut := HT2.out (j + 1) hm wr
      have HLN : Hid ((decs (dval d)).length = j + 1) := Lib.hid (by rw [← HE.out, List.length_take, ← HN.out, Nat.min_eq_left hm])
      clear hxe hxx h0 hz
      go_wp2
      go_ret
      exact ⟨by rw [HLN.out]; rfl, rfl, by rw [HLN.out]; exact HE.out, by rw [HLN.out]; exact hm⟩
set_option maxHeartbeats 4000000 in
theorem carry_any (d : List Int) (A : Option Addr) (c : Nat) (w : World) (hC : Kd.C (Kd.int .i64) w A d.length d) (hl : d.length ≤ 1000000) (hd : ∀ x ∈ d, 0 ≤ x ∧ x ≤ 18) :
 Calls Tryz.prog 106 #[.slice A d.length c] w fun e w' => ∃ v : Value, e = .returned v ∧ Kd.R (Kd.int .i64) 3 w' w.heap.size (fun _ => True) v (decs (dval d)) ∧ Below w.heap.size w w' := by
 obtain ⟨n, hn⟩ : ∃ n, n = d.length := ⟨_, rfl⟩
 obtain ⟨T, hT⟩ : ∃ T, T = dval d := ⟨_, rfl⟩
 have h0 : TimesTo T 1 d [] 0 := ⟨okD_nil, by rw [hT]; simp [dval]⟩
 rw [← hT]
 have HC := Lib.hid hC
 have HN := Lib.hid hn
 have HD := Lib.hid hd
 have H0 := Lib.hid h0
 rw [← hn]
 rw [← hn] at hl HC
 clear hC hn hd h0 hT
 go_enter Tryz.func106, Tryz.ntmps106
 go_wp2
 go_loopw [3, 4, 5] (fun vo vm vi wr => ∃ (i mo : Nat) (o : List Int) (G : Option Addr) (cap : Nat), i ≤ n ∧ vi = .int .i64 i ∧ vm = .int .i64 mo ∧ vo = .slice G i cap ∧ mo ≤ 2 ∧ Hid (o.length = i ∧ TimesTo T 1 (d.drop i) o mo) ∧ Hid (Kd.R (Kd.int .i64) 3 wr w.heap.size (fun _ => True) (.slice G i cap) o ∧ Below w.heap.size w wr)) (fun vo vm vi _ => n - (intOf vi).toNat)
 case atStart => exact ⟨0, 0, [], none, 0, Nat.zero_le _, rfl, rfl, rfl, by omega, Lib.hid ⟨rfl, by rw [List.drop_zero]; exact H0.out⟩, Lib.hid ⟨Kd.R_nil _ _ _ _ _, Below.refl _ _⟩⟩
 case round =>
  obtain ⟨i, mo, o, G, cap, hi, rfl, rfl, rfl, hmo, HT, HR⟩ := hrel
  by_cases hlt : i < n
  · have hlt2 : (i : Int) < (n : Int) := by omega
    obtain ⟨ad, rfl, hx⟩ := Kd.at_int (Kd.C_below HC.out HR.out.2) (i : Int) (by omega) (by omega)
    rw [Int.toNat_natCast] at hx
    obtain ⟨x, hxe⟩ : ∃ x, x = rd d (i : Int) := ⟨_, rfl⟩
    have hxd : d.drop i = x :: d.drop (i + 1) := by
     rw [List.drop_eq_getElem_cons (by rw [← HN.out]; exact hlt), hxe]
     unfold rd
     rw [Int.toNat_natCast, List.getD_eq_getElem?_getD, List.getElem?_eq_getElem (by rw [← HN.out]; exact hlt)]
     rfl
    have hxr : 0 ≤ x ∧ x ≤ 18 := HD.out x (List.mem_of_mem_drop (by rw [hxd]; exact List.mem_cons_self))
    rw [← hxe] at hx
    obtain ⟨x', rfl⟩ : ∃ x' : Nat, x = (x' : Int) := ⟨x.toNat, by omega⟩
    have HST : Hid ((o ++ [((mo : Int) + x') % 10]).length = i + 1 ∧ (mo + x') / 10 ≤ 2 ∧ TimesTo T 1 (d.drop (i + 1)) (o ++ [((mo : Int) + x') % 10]) ((mo + x') / 10)) := Lib.hid (by
     obtain ⟨h1, h3⟩ := HT.out
     rw [hxd] at h3
     have h4 := h3.step hxr.1
     rw [Int.toNat_natCast, Nat.one_mul, show (((mo + x') % 10 : Nat) : Int) = ((mo : Int) + x') % 10 by omega] at h4
     exact ⟨by simp [h1], by omega, h4⟩)
    have hx1 : (0 : Int) ≤ (x' : Int) := by omega
    have hx2 : (x' : Int) ≤ 18 := by omega
    have hm1 : (0 : Int) ≤ (mo : Int) := by omega
    have hm2 : (mo : Int) ≤ 2 := by omega
    have HSZ : Hid (w.heap.size ≤ wr.heap.size) := Lib.hid HR.out.2.size
    have hol : o.length ≤ 1048576 := by rw [HT.out.1]; omega
    clear hxe hxd hxr
    go_wp2_with (at_builtin; refine Kd.R_append (Kd.int .i64) (w0 := w) w.heap.size rfl (.tmp 18) (.tmp 21) 40 3 (.int .i64 0) 8 rfl Tryz.underlying40 infoI_ rfl (by decide) (by decide) (.slice G i cap) o _ _ (fun _ => True) (fun _ => False) rfl rfl rfl (fun _ h => h.elim) (fun _ _ => trivial) HR.out.1 HR.out.2 HSZ.out (by omega) ?_; intro v1 w7 hR7 hB7 hg7 hat7)
    obtain ⟨G7, cap7, rfl⟩ := Kd.R_slice hR7
    have hl7 : (o ++ [((mo : Int) + x') % 10]).length = i + 1 := HST.out.1
    rw [hl7] at hR7
    have HR7 := Lib.hid (And.intro hR7 hB7)
    clear hR7 hB7 hg7 hat7 hol
    go_roundw
    case rel => exact ⟨i + 1, (mo + x') / 10, o ++ [((mo : Int) + x') % 10], G7, cap7, hlt, by go_num, congrArg (Value.int .i64) (by omega), by rw [← hl7, List.length_append], HST.out.2.1, Lib.hid ⟨HST.out.1, HST.out.2.2⟩, HR7⟩
    case measure => simp [intOf]; omega
  · obtain rfl : i = n := by omega
    have hlt2 : ¬ (i : Int) < (i : Int) := by omega
    have HT2 : Hid (o.length ≤ 1000000 ∧ TimesTo T 1 [] o mo) := Lib.hid (by
     obtain ⟨h1, h3⟩ := HT.out
     rw [HN.out, List.drop_length] at h3
     exact ⟨by omega, h3⟩)
    have HLO := Lib.hid HT.out.1
    clear HT
    go_wp2
    go_loopw [3, 4] (fun vo vm w3 => ∃ (mo : Nat) (o : List Int) (G : Option Addr) (cap : Nat), vm = .int .i64 mo ∧ vo = .slice G o.length cap ∧ mo ≤ 2 ∧ Hid (o.length + mo ≤ 1000002 ∧ TimesTo T 1 [] o mo) ∧ Hid (Kd.R (Kd.int .i64) 3 w3 w.heap.size (fun _ => True) (.slice G o.length cap) o ∧ Below w.heap.size w w3)) (fun vo vm _ => (intOf vm).toNat)
    case atStart => exact ⟨mo, o, G, cap, rfl, by rw [HLO.out], hmo, Lib.hid ⟨by have := HT2.out.1; omega, HT2.out.2⟩, Lib.hid (by rw [HLO.out]; exact HR.out)⟩
    case round =>
     clear HR HT2 HLO
     obtain ⟨mo, o, G, cap, rfl, rfl, hmo, HT, HR⟩ := hrel
     have hm0 : (0 : Int) ≤ (mo : Int) := by omega
     have hm2 : (mo : Int) ≤ 2 := by omega
     by_cases hz : mo = 0
     · subst hz
       have hzz : ¬ (0 : Int) < ((0 : Nat) : Int) := by omega
       have hv : dval o = T := by have := HT.out.2.2; simpa [dval] using this
       have hr := Kd.R_reads' HR.out.1
       have ht := Trim_any o G cap wr hr.2.2 hr.2.1 (by have := HT.out.1; omega) HT.out.2.1
       rw [hv] at ht
       have HTR := Lib.hid ht
       clear hv hr ht
       go_wp2_with (go_at_call 107; (with_reducible refine (HTR.out).mono ?_); rintro e w5 ⟨rfl, rfl, hT1, hT2⟩; have HTK := Lib.hid (And.intro hT1 hT2); clear hT1 hT2)
       go_ret
       exact ⟨_, rfl, by have := Kd.R_take HR.out.1 HTK.out.2; rw [HTK.out.1] at this; exact this, HR.out.2⟩
     · have hzz : (0 : Int) < (mo : Int) := by omega
       have HST : Hid (TimesTo T 1 [] (o ++ [(mo : Int) % 10]) (mo / 10)) := Lib.hid (by
        have h4 := HT.out.2.more
        rw [show ((mo % 10 : Nat) : Int) = (mo : Int) % 10 by omega] at h4
        exact h4)
       have hol : o.length ≤ 1048586 := by have := HT.out.1; omega
       have hol2 : Hid (o.length + mo ≤ 1000002) := Lib.hid HT.out.1
       have HSZ : Hid (w.heap.size ≤ wr.heap.size) := Lib.hid HR.out.2.size
       clear hz
       go_wp2_with (at_builtin; refine Kd.R_append (Kd.int .i64) (w0 := w) w.heap.size rfl (.tmp 27) (.tmp 30) 40 3 (.int .i64 0) 8 rfl Tryz.underlying40 infoI_ rfl (by decide) (by decide) (.slice G o.length cap) o _ _ (fun _ => True) (fun _ => False) rfl rfl rfl (fun _ h => h.elim) (fun _ _ => trivial) HR.out.1 HR.out.2 HSZ.out (by omega) ?_; intro v1 w7 hR7 hB7 hg7 hat7)
       obtain ⟨G7, cap7, rfl⟩ := Kd.R_slice hR7
       have HR7 := Lib.hid (And.intro hR7 hB7)
       clear hR7 hB7 hg7 hat7 hol
       have hmd : mo / 10 < mo := by omega
       go_roundw
       case rel => exact ⟨mo / 10, o ++ [(mo : Int) % 10], G7, cap7, congrArg (Value.int .i64) (by omega), by rw [List.length_append], by omega, Lib.hid ⟨by have := hol2.out; rw [List.length_append, List.length_singleton]; omega, HST.out⟩, HR7⟩
       case measure => simp [intOf]; omega
structure LimbAt (k : Nat) (j rest : Nat) (ys : List Int) : Prop where
 len : ys.length = (decs k).length
 le : j ≤ ys.length
 head : ys.take j = (decs k).take j
 ok : okD ys
 rest : rest = dval ((decs k).drop j) % 4294967296
 quo : dval (ys.drop j) = dval ((decs k).drop j) / 4294967296
theorem LimbAt.step {k j rest : Nat} {ys : List Int} (h : LimbAt k (j + 1) rest ys) : 0 ≤ ys.getD j 0 ∧ ys.getD j 0 ≤ 9 ∧ LimbAt k j ((rest * 10 + (ys.getD j 0).toNat) % 4294967296) (ys.set j (((rest * 10 + (ys.getD j 0).toNat) / 4294967296 : Nat) : Int)) := by
 have hj : j < ys.length := h.le
 have hx := okD_getD h.ok j
 have hxe : ys.getD j 0 = (decs k).getD j 0 := by
  have h1 : (ys.take (j + 1))[j]? = ((decs k).take (j + 1))[j]? := by rw [h.head]
  rw [List.getElem?_take_of_lt (by omega), List.getElem?_take_of_lt (by omega)] at h1
  rw [List.getD_eq_getElem?_getD, List.getD_eq_getElem?_getD, h1]
 have hj2 : j < (decs k).length := by rw [← h.len]; exact hj
 have hd : dval ((decs k).drop j) = (ys.getD j 0).toNat + 10 * dval ((decs k).drop (j + 1)) := by
  rw [hxe, List.drop_eq_getElem_cons hj2, dval, List.getD_eq_getElem?_getD, List.getElem?_eq_getElem hj2]
  rfl
 have hr := h.rest
 have hq := h.quo
 have hrl : rest < 4294967296 := by rw [hr]; exact Nat.mod_lt _ (by decide)
 have hx9 : (ys.getD j 0).toNat ≤ 9 := by omega
 have hxx : 0 ≤ ys.getD j 0 ∧ ys.getD j 0 ≤ 9 := by omega
 generalize (ys.getD j 0).toNat = x at *
 generalize dval ((decs k).drop (j + 1)) = t at *
 refine ⟨hxx.1, hxx.2, by simp [h.len], by simp; omega, ?_, ?_, ?_, ?_⟩
 · rw [List.take_set_of_le (Nat.le_refl _)]
   have h1 := congrArg (List.take j) h.head
   rw [List.take_take, List.take_take, Nat.min_eq_left (by omega)] at h1
   exact h1
 · intro y hy
   rcases List.mem_or_eq_of_mem_set hy with hy | rfl
   · exact h.ok y hy
   · have : (rest * 10 + x) / 4294967296 ≤ 9 := by omega
     omega
 · rw [hd, hr]; omega
 · have h1 : (ys.set j (((rest * 10 + x) / 4294967296 : Nat) : Int)).drop j = (((rest * 10 + x) / 4294967296 : Nat) : Int) :: ys.drop (j + 1) := by
    rw [List.drop_eq_getElem_cons (by rw [List.length_set]; exact hj), List.getElem_set_self, List.drop_set_of_lt (by omega)]
   rw [h1, dval, Int.toNat_natCast, hq, hd, hr]
   omega
theorem shl_back (s : Nat) (h : s < 42949672970) : wrap64 ((s : Int) - wrap64 (((s / 4294967296 : Nat) : Int) * 4294967296)) = ((s % 4294967296 : Nat) : Int) := by
 have h1 : s = s / 4294967296 * 4294967296 + s % 4294967296 := by omega
 have h2 : s % 4294967296 < 4294967296 := by omega
 have h3 : s / 4294967296 ≤ 10 := by omega
 generalize s / 4294967296 = q at *
 generalize s % 4294967296 = r at *
 have e1 : wrap64 ((q : Int) * 4294967296) = (q : Int) * 4294967296 := by unfold wrap64; omega
 rw [e1]
 have e2 : (s : Int) - (q : Int) * 4294967296 = (r : Int) := by omega
 rw [e2]
 unfold wrap64
 omega
theorem limb_sum (rest x : Nat) (h1 : rest < 4294967296) (h2 : x ≤ 9) : wrap64 (wrap64 ((rest : Int) * 10) + (x : Int)) = ((rest * 10 + x : Nat) : Int) := by
 have e1 : wrap64 ((rest : Int) * 10) = (rest : Int) * 10 := by unfold wrap64; omega
 rw [e1]
 unfold wrap64
 omega
set_option maxHeartbeats 4000000 in
theorem Limbs_any (m : Nat) (A : Option Addr) (c : Nat) (w : World) (hC : Kd.C (Kd.int .i64) w A (decs m).length (decs m)) (hl : (decs m).length ≤ 1000000) :
 Calls Tryz.prog 108 #[.slice A (decs m).length c] w fun e w' => ∃ v : Value, e = .returned v ∧ Kd.R (Kd.int .u32) 90 w' w.heap.size (fun _ => True) v (limbs m) ∧ Below w.heap.size w w' := by
 have HLM : Hid (∀ k, k ≤ m → (decs k).length ≤ 1000000) := Lib.hid (fun k hk => Nat.le_trans (decs_len (Nat.lt_of_le_of_lt hk (by have := dval_lt (okD_decs m); rw [dval_decs] at this; exact this))) hl)
 have HLO : Hid (∀ o k, o ++ limbs k = limbs m → o.length ≤ 1000000) := Lib.hid (fun o k h => by
  have h1 : (limbs m).length ≤ (decs m).length := limbs_len (by
   have h1 := dval_lt (okD_decs m)
   rw [dval_decs] at h1
   exact Nat.lt_of_lt_of_le h1 (Nat.pow_le_pow_left (by decide) _))
  have := congrArg List.length h
  rw [List.length_append] at this
  omega)
 obtain ⟨n, hn⟩ : ∃ n, n = (decs m).length := ⟨_, rfl⟩
 have HC := Lib.hid hC
 have HN := Lib.hid hn
 rw [← hn]
 rw [← hn] at HC hl
 clear hC hn
 go_enter Tryz.func108, Tryz.ntmps108
 go_wp2_with (at_builtin; refine Kd.R_append_row (Value.int .i64) (0 : Int) w.heap.size rfl (.tmp 7) (.tmp 8) 40 3 (.int .i64 0) 8 rfl Tryz.underlying40 infoI_ rfl (by decide) _ [] _ _ _ _ (fun _ => True) rfl rfl (fun _ _ => trivial) (Kd.R_nil _ _ _ _ _) HC.out (Below.refl _ _) (Nat.le_refl _) (by simp; omega) ?_; intro v1 w1 hR1 hB1 hg1 hat1; obtain ⟨G1, d1, rfl⟩ := Kd.R_slice hR1)
 simp only [List.nil_append, ← HN.out] at hR1 ⊢
 have HR1 := Lib.hid (And.intro hR1 hB1)
 clear hR1 hB1 hg1 hat1
 go_loopg [3, 4] m (fun k vo vw wr => ∃ (o : List Int) (G : Option Addr) (cap : Nat) (B : Option Addr) (ln d : Nat), vo = .slice G o.length cap ∧ vw = .slice B ln d ∧ k ≤ m ∧ Hid (ln = (decs k).length ∧ Kd.R (Kd.int .i64) 3 wr w.heap.size (fun _ => True) (.slice B ln d) (decs k)) ∧ Hid (Kd.R (Kd.int .u32) 90 wr w.heap.size (fun _ => True) (.slice G o.length cap) o ∧ Below w.heap.size w wr) ∧ Hid (o ++ limbs k = limbs m))
 case atStart => exact ⟨[], none, 0, G1, n, d1, rfl, rfl, Nat.le_refl _, Lib.hid ⟨HN.out, HR1.out.1⟩, Lib.hid ⟨Kd.R_nil _ _ _ _ _, HR1.out.2⟩, Lib.hid rfl⟩
 case round =>
  obtain ⟨o, G, cap, B, ln, d, rfl, rfl, hk, HW, HO, HE⟩ := hrel
  by_cases hz : gk = 0
  · subst hz
    have hl0 : ln = 0 := by rw [HW.out.1, decs_zero]; rfl
    subst hl0
    have HEE : Hid (o = limbs m) := Lib.hid (by have := HE.out; rw [limbs_zero, List.append_nil] at this; exact this)
    go_wp2
    go_ret
    exact ⟨_, rfl, by rw [← HEE.out]; exact HO.out.1, HO.out.2⟩
  · have hlp : 0 < ln := by rw [HW.out.1, decs_pos hz]; simp
    obtain ⟨g, d2, e, -⟩ := Kd.R_form HW.out.2 (by rw [← HW.out.1]; exact hlp)
    injection e with e1 e2 e3
    subst e1 e3
    clear e2
    have hlm : ln ≤ 1000000 := by rw [HW.out.1]; exact HLM.out gk hk
    have HZ := Lib.hid hz
    have HG : Hid (w.heap.size ≤ g) := Lib.hid (Kd.R_base HW.out.2 g rfl)
    clear hz
    go_wp2
    go_loopw [5, 6] (fun vr vi w3 => ∃ (j rest : Nat) (ys : List Int), vi = .int .i64 ((j : Int) - 1) ∧ vr = .int .i64 rest ∧ j ≤ ln ∧ Hid (rest < 4294967296 ∧ ys.length = ln ∧ LimbAt gk j rest ys) ∧ Hid (Kd.R (Kd.int .i64) 3 w3 w.heap.size (fun _ => True) (.slice (some ⟨g, 0, none⟩) ln d) ys ∧ Kd.R (Kd.int .u32) 90 w3 w.heap.size (fun _ => True) (.slice G o.length cap) o ∧ Below w.heap.size w w3)) (fun vr vi _ => (intOf vi + 1).toNat)
    case atStart => exact ⟨ln, 0, decs gk, rfl, rfl, Nat.le_refl _, Lib.hid ⟨by decide, HW.out.1.symm, ⟨rfl, by rw [HW.out.1]; exact Nat.le_refl _, rfl, okD_decs _, by rw [HW.out.1, List.drop_length]; rfl, by rw [HW.out.1, List.drop_length]; rfl⟩⟩, Lib.hid ⟨HW.out.2, HO.out.1, HO.out.2⟩⟩
    case round =>
     obtain ⟨j, rest, ys, rfl, rfl, hj, HL, HR⟩ := hrel
     by_cases hj0 : j = 0
     · subst hj0
       have hT := HL.out.2.2
       have hv : dval ys = gk / 4294967296 := by have := hT.quo; rw [List.drop_zero, List.drop_zero, dval_decs] at this; exact this
       have hr : rest = gk % 4294967296 := by have := hT.rest; rw [List.drop_zero, dval_decs] at this; exact this
       have hca := Lib.hid (fun W (hW : Kd.R (Kd.int .i64) 3 W w.heap.size (fun _ => True) (.slice (some ⟨g, 0, none⟩) ln d) ys) => carry_any ys (some ⟨g, 0, none⟩) d W (Kd.R_reads' hW).2.2 (by rw [HL.out.2.1]; exact hlm) (fun y hy => by have := hT.ok y hy; omega))
       have HNX : Hid ((o ++ [(rest : Int) % 4294967296]) ++ limbs (gk / 4294967296) = limbs m) := Lib.hid (by rw [← HE.out, limbs_pos HZ.out, hr, show ((gk % 4294967296 : Nat) : Int) % 4294967296 = ((gk % 4294967296 : Nat) : Int) by omega]; simp)
       have hol : o.length ≤ 1000000 := HLO.out o gk HE.out
       have HLT : Hid (gk / 4294967296 < gk) := Lib.hid (by have := HZ.out; omega)
       have HYL := Lib.hid HL.out.2.1
       have HRB := Lib.hid HL.out.1
       have HSZ : Hid (w.heap.size ≤ wr.heap.size) := Lib.hid HR.out.2.2.size
       have hr0 : (0 : Int) ≤ (rest : Int) := by omega
       rw [hv] at hca
       clear hT hv hr HL HE
       go_wp2_with (first
        | (at_builtin; refine Kd.R_append (Kd.int .u32) (w0 := w) w.heap.size rfl (.tmp 39) (.tmp 42) 29 90 (.int .u32 0) 4 rfl Tryz.underlying29 infoU rfl (by decide) (by decide) (.slice G o.length cap) o _ _ (fun _ => True) (fun _ => False) rfl rfl rfl (fun _ h => h.elim) (fun _ _ => trivial) HR.out.2.1 HR.out.2.2 HSZ.out (by omega) ?_; intro v1 w7 hR7 hB7 hg7 hat7; obtain ⟨G7, cap7, rfl⟩ := Kd.R_slice hR7; have HO7 := Lib.hid hR7; have HW7 := Lib.hid (Kd.R_over' HR.out.1 (Kd.R_typed HR.out.2.1) (by decide) hg7); have HB7 := Lib.hid hB7; clear hR7 hB7 hg7 hat7)
        | (go_at_call 106; have hcc := hca.out _ HW7.out; rw [HYL.out] at hcc; refine hcc.mono ?_; rintro e w8 ⟨v8, rfl, hR8, hB8⟩; obtain ⟨B8, d8, rfl⟩ := Kd.R_slice hR8; have HR8 := Lib.hid (Kd.R_lower hR8 HB7.out.size); have HO8 := Lib.hid (And.intro (Kd.R_below HO7.out hB8) (HB7.out.trans (hB8.mono HB7.out.size))); clear hR8 hB8 hcc))
       have hkm : gk / 4294967296 ≤ m := by have := HLT.out; omega
       go_roundg (gk / 4294967296)
       case measure => exact HLT.out
       case rel => exact ⟨o ++ [(rest : Int) % 4294967296], G7, cap7, B8, _, d8, by rw [List.length_append]; rfl, rfl, hkm, Lib.hid ⟨rfl, HR8.out⟩, HO8, HNX⟩
     · obtain ⟨i, rfl⟩ : ∃ i, j = i + 1 := ⟨j - 1, by omega⟩
       obtain ⟨hx0, hx9, hst⟩ := HL.out.2.2.step
       obtain ⟨hcx, hfx⟩ := Kd.R_celln (0 : Int) HR.out.1 (i : Int) (by omega) (by omega)
       rw [Int.toNat_natCast] at hcx hfx
       have hxe : rdOf (0 : Int) ys (i : Int) = ys.getD i 0 := by unfold rdOf; rw [Int.toNat_natCast]
       rw [hxe] at hcx
       obtain ⟨x, hx⟩ : ∃ x : Nat, ys.getD i 0 = (x : Int) := ⟨(ys.getD i 0).toNat, by omega⟩
       rw [hx, Int.toNat_natCast] at hst
       rw [hx] at hcx hx9
       have hii : (((i + 1 : Nat) : Int) - 1) = (i : Int) := by omega
       rw [hii]
       have hi0 : (0 : Int) ≤ (i : Int) := by omega
       have hin : (i : Int) < (ln : Int) := by omega
       clear hxe hx hx0 hii hj0
       go_wp2
       have hrb := HL.out.1
       obtain ⟨s, hs⟩ : ∃ s, s = rest * 10 + x := ⟨_, rfl⟩
       have E1 : wrap64 (wrap64 ((rest : Int) * 10) + (x : Int)) = (s : Int) := by rw [hs]; exact limb_sum rest x hrb (by omega)
       have E2 : (s : Int) / 4294967296 = ((s / 4294967296 : Nat) : Int) := by omega
       have E3 := shl_back s (by omega)
       rw [E1, E2, E3]
       rw [← hs] at hst
       have hp := Kd.R_putn HR.out.1 (i : Int) ((s / 4294967296 : Nat) : Int)
       rw [Int.toNat_natCast] at hp
       refine ⟨⟨i, s % 4294967296, _, rfl, rfl, by omega, Lib.hid ⟨Nat.mod_lt _ (by decide), by rw [List.length_set]; exact HL.out.2.1, hst⟩, Lib.hid ⟨hp, ?_, HR.out.2.2.setCell (p := ⟨g, i, none⟩) HG.out _⟩⟩, by show ((i : Int) - 1 + 1).toNat < ((i : Int) + 1).toNat; omega⟩
       obtain ⟨cells, hcg⟩ := Kd.R_typed HR.out.1 g rfl
       exact Kd.R_set HR.out.2.1 hcg (by decide) i _
end Go.Proofs.YtmfpakolfpoamaaGreatDoor.P

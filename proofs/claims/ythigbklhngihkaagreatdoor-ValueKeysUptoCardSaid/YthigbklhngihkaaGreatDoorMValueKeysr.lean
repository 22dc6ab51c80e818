import Derived.Test.YthigbklhngihkaaGreatDoorMValueKeysq
import Derived.Test.YthigbklhngihkaaGreatDoorRows
import Derived.ChangeArms
import Derived.ChangeSlices
import Derived.DataReads
import Derived.DataElems
set_option linter.unusedVariables false
set_option linter.unusedSimpArgs false
set_option maxRecDepth 100000
namespace Go.Proofs.YthigbklhngihkaaGreatDoor.P
open Go.RowKit Go.Proofs.YthigbklhngihkaaGreatDoorW.PrintWords Go.Proofs.YthigbklhngihkaaGreatDoorW.PrintMore Go.Proofs.YthigbklhngihkaaGreatDoorW.PrintLast
def FirstAt (l : List ByteArray) (s : ByteArray) (r : Int) : Prop := (∃ i : Nat, ∃ h : i < l.length, r = i ∧ l[i] = s ∧ ∀ j, ∀ h : j < l.length, j < i → l[j] ≠ s) ∨ (r = -1 ∧ ∀ j, ∀ h : j < l.length, l[j] ≠ s)
def IdxPost (l : List ByteArray) (s : ByteArray) (w : World) (e : Ending) (w' : World) : Prop := ∃ r : Int, e = .returned (.int .i64 r) ∧ FirstAt l s r ∧ w' = w
set_option maxHeartbeats 1000000 in
theorem sIndex_any (l : List ByteArray) (A : Option Addr) (c : Nat) (s : ByteArray) (w : World) (hC : Kd.string.C w A l.length l) (hn : l.length ≤ 1073741824) : Calls Tryz.prog 117 #[.slice A l.length c, .string s] w (IdxPost l s w) := by
 have HC := Lib.hid hC
 have HP : Hid (∀ r : Int, FirstAt l s r → IdxPost l s w (.returned (.int .i64 r)) w) := Lib.hid (fun r h => ⟨r, rfl, h, rfl⟩)
 generalize IdxPost l s w = P at *
 clear hC
 go_enter Tryz.func117, Tryz.ntmps117
 go_wp2
 go_loopw [8] (fun vi wr => ∃ k : Nat, k ≤ l.length ∧ vi = .int .i64 k ∧ Hid (∀ j, ∀ h : j < l.length, j < k → l[j] ≠ s) ∧ wr = w) (fun vi _ => l.length - (intOf vi).toNat)
 case atStart => exact ⟨0, Nat.zero_le _, rfl, Lib.hid (fun j h hj => absurd hj (by omega)), rfl⟩
 case round =>
  obtain ⟨k, hk, rfl, HZ, rfl⟩ := hrel
  by_cases hlt : k < l.length
  · have hlt2 : (k : Int) < (l.length : Int) := by omega
    have hk0 : (0 : Int) ≤ (k : Int) := by omega
    obtain ⟨ad, rfl, hx⟩ := Kd.at_string HC.out (k : Int) (by omega) (by omega)
    rw [Int.toNat_natCast] at hx
    have hr : rdOf ByteArray.empty l (k : Int) = l[k] := by unfold rdOf; simp [hlt]
    rw [hr] at hx
    have hw : wrap64 ((k : Int) + 1) = ((k + 1 : Nat) : Int) := by unfold wrap64; omega
    by_cases he : s = l[k]
    · have heb : (s.toList == l[k].toList) = true := by rw [he]; simp
      have HF := Lib.hid (HP.out k (.inl ⟨k, hlt, rfl, he.symm, HZ.out⟩))
      generalize l[k] = t at *
      go_wp2
      exact HF.out
    · have heb : (s.toList == l[k].toList) = false := by rw [beq_eq_false_iff_ne]; exact fun e => he (toL_inj2.1 e)
      have HZ2 : Hid (∀ j, ∀ h : j < l.length, j < k + 1 → l[j] ≠ s) := Lib.hid (fun j h hj => by
       rcases Nat.lt_or_ge j k with h1 | h1
       · exact HZ.out j h h1
       · have e : j = k := by omega
         subst e
         exact fun e => he e.symm)
      generalize l[k] = t at *
      go_wp2
      go_roundw
      case rel => exact ⟨k + 1, hlt, by go_num, HZ2, trivial⟩
      case measure => first | (rw [hw]; show l.length - (k + 1) < l.length - k; omega) | (show l.length - (k + 1) < l.length - k; omega)
  · obtain rfl : k = l.length := by omega
    have HF := Lib.hid (HP.out (-1) (.inr ⟨rfl, fun j h => HZ.out j h h⟩))
    have hlt2 : ¬ (l.length : Int) < (l.length : Int) := by omega
    go_wp2
    exact HF.out
def getV (v : V) (s : ByteArray) : Option V := if v.f0 = 6 then lkp s (v.f4.zip v.f3) else none
theorem lkp_at {α : Type} {ks : List ByteArray} {xs : List α} {s : ByteArray} : ∀ {i : Nat} (h : i < ks.length), ks[i] = s → (∀ j, ∀ h : j < ks.length, j < i → ks[j] ≠ s) → lkp s (ks.zip xs) = xs[i]? := by
 induction ks generalizing xs with
 | nil => intro i h; simp at h
 | cons k ks ih =>
  intro i h he hb
  cases xs with
  | nil => simp [lkp]
  | cons x xs =>
   cases i with
   | zero =>
    simp at he
    simp [lkp, he]
   | succ i =>
    have h0 := hb 0 (by simp) (by omega)
    simp at h0
    rw [List.zip_cons_cons]
    unfold lkp
    rw [if_neg h0]
    simp at he
    have := ih (xs := xs) (i := i) (by simpa using h) he (fun j hj hji => by have := hb (j + 1) (by simpa using hj) (by omega); simpa using this)
    rw [List.getElem?_cons_succ]
    exact this
theorem get_at {v : V} {s : ByteArray} {r : Int} (h : FirstAt v.f4 s r) : getV v s = if v.f0 = 6 ∧ 0 ≤ r ∧ r < v.f3.length then v.f3[r.toNat]? else none := by
 unfold getV
 by_cases h6 : v.f0 = 6
 · rw [if_pos h6]
   rcases h with ⟨i, hi, rfl, he, hb⟩ | ⟨rfl, hb⟩
   · rw [lkp_at hi he hb]
     by_cases hl : i < v.f3.length
     · rw [if_pos ⟨h6, by omega, by omega⟩, Int.toNat_natCast]
     · rw [if_neg (by omega)]
       exact List.getElem?_eq_none (by omega)
   · rw [if_neg (by omega)]
     refine lkp_none fun p hp => ?_
     obtain ⟨j, hj, e⟩ := List.mem_iff_getElem.1 (List.of_mem_zip hp).1
     rw [← e]
     exact hb j hj
 · rw [if_neg h6, if_neg (fun hh => h6 hh.1)]
def PlacePost (v : V) (s : ByteArray) (w : World) (e : Ending) (w' : World) : Prop := ∃ (r : Int) (b : Bool), e = .returned (.tuple #[.int .i64 r, .bool b]) ∧ ((b = true ∧ ∃ i : Nat, ∃ h : i < v.f3.length, r = i ∧ getV v s = some v.f3[i]) ∨ (b = false ∧ getV v s = none)) ∧ Below w.heap.size w w'
set_option maxHeartbeats 2000000 in
theorem place_any (v : V) (cs : List Value) (s : ByteArray) (w : World) (hK : k28.K w v cs) (hO : OkV v) : Calls Tryz.prog 74 #[.agg cs.toArray, .string s] w (PlacePost v s w) := by
 obtain ⟨A2, c2, A5, c5, A6, c6, rfl, l2, g2, l5, g5, l6, g6⟩ := k28_open hK
 obtain ⟨W1, hW1⟩ : ∃ W1, W1 = w.alloc (.cells #[.int .i64 v.f0, .bool v.f1.f0, .slice A2 v.f1.f1.length c2, .int .i64 v.f1.f2, .string v.f2, .slice A5 v.f3.length c5, .slice A6 v.f4.length c6] 28) := ⟨_, rfl⟩
 have hb1 : Below w.heap.size w W1 := by rw [hW1]; exact (Below.refl _ _).alloc (Nat.le_refl _) _
 have hx1 : W1.heap[w.heap.size]? = some (.cells #[.int .i64 v.f0, .bool v.f1.f0, .slice A2 v.f1.f1.length c2, .int .i64 v.f1.f2, .string v.f2, .slice A5 v.f3.length c5, .slice A6 v.f4.length c6] 28 (0, 0)) := by rw [hW1]; exact blk_new _ _
 have HI := Lib.hid (sIndex_any v.f4 A6 c6 s W1 (Kd.C_below g6 hb1) hO.len4)
 have HPO : Hid (∀ e w', IdxPost v.f4 s W1 e w' → ∃ r : Int, e = .returned (.int .i64 r) ∧ FirstAt v.f4 s r ∧ w' = W1) := Lib.hid (fun e w' h => h)
 have HL : Hid ((v.f3.length : Int) ≤ 1073741824) := Lib.hid (by have := hO.len3; omega)
 have HPP : Hid (∀ r W, FirstAt v.f4 s r → Below w.heap.size w W → PlacePost v s w (.returned (.tuple #[.int .i64 r, .bool (decide (v.f0 = 6 ∧ 0 ≤ r ∧ r < v.f3.length))])) W) := Lib.hid (fun r W h1 h2 => ⟨r, _, rfl, by
  rw [get_at h1]
  by_cases h : v.f0 = 6 ∧ 0 ≤ r ∧ r < v.f3.length
  · left
    refine ⟨by simp [h], r.toNat, by omega, by omega, ?_⟩
    rw [if_pos h, List.getElem?_eq_getElem]
  · right
    exact ⟨by simpa using h, by rw [if_neg h]⟩, h2⟩)
 generalize PlacePost v s w = P at *
 generalize IdxPost v.f4 s W1 = P2 at *
 have HW1 := Lib.hid hW1
 have HB1 := Lib.hid hb1
 have HX1 := Lib.hid hx1
 clear hW1 hb1 hx1 hK hO l2 g2 l5 g5 l6 g6
 go_enter Tryz.func74, Tryz.ntmps74
 go_upto_region 1 with (fail)
 rw [← HW1.out]
 clear HW1
 obtain ⟨hcx, hfx⟩ := bcells HX1.out (Below.refl _ _)
 go_upto_region 2 with (go_at_call 117; (with_reducible refine (HI.out).mono ?_); intro e w2 hp; obtain ⟨r, rfl, hf, rfl⟩ := HPO.out e w2 hp; have HF := Lib.hid hf; clear hp hf)
 have HFI := Lib.hid (fun W (hW : Below w.heap.size w W) => HPP.out r W HF.out hW)
 clear HPP HF HI HPO
 have hbd := HB1.out
 by_cases h6 : v.f0 = 6
 · have h6b : (v.f0 == 6) = true := by simp [h6]
   by_cases hr : 0 ≤ r
   · by_cases hl : r < (v.f3.length : Int)
     · have hd : decide (v.f0 = 6 ∧ 0 ≤ r ∧ r < (v.f3.length : Int)) = true := by simp [h6, hr, hl]
       rw [hd] at HFI
       clear hd h6
       go_quiet (fail)
       go_wp2
       exact HFI.out _ (pw_below_drewN HB1.out _)
     · have hd : decide (v.f0 = 6 ∧ 0 ≤ r ∧ r < (v.f3.length : Int)) = false := by simp; omega
       rw [hd] at HFI
       clear hd h6
       go_quiet (fail)
       go_wp2
       exact HFI.out _ (pw_below_drewN HB1.out _)
   · have hd : decide (v.f0 = 6 ∧ 0 ≤ r ∧ r < (v.f3.length : Int)) = false := by simp; omega
     rw [hd] at HFI
     clear hd h6
     go_quiet (fail)
     go_wp2
     exact HFI.out _ (pw_below_drewN HB1.out _)
 · have h6b : (v.f0 == 6) = false := by simp [h6]
   have hd : decide (v.f0 = 6 ∧ 0 ≤ r ∧ r < (v.f3.length : Int)) = false := by simp [h6]
   rw [hd] at HFI
   clear hd h6
   go_quiet (fail)
   go_wp2
   exact HFI.out _ (pw_below_drewN HB1.out _)
def GetPost (v : V) (s : ByteArray) (w : World) (e : Ending) (w' : World) : Prop := ∃ cs : List Value, e = .returned (.tuple #[.agg cs.toArray, .bool (getV v s).isSome]) ∧ k28.M w' w.heap.size (fun _ => True) ((getV v s).getD zeroV) cs ∧ Below w.heap.size w w'
set_option maxHeartbeats 4000000 in
theorem Get_any (v : V) (cs : List Value) (s : ByteArray) (w : World) (hK : k28.K w v cs) (hO : OkV v) : Calls Tryz.prog 31 #[.agg cs.toArray, .string s] w (GetPost v s w) := by
 have HPL := Lib.hid (fun W (hW : Below w.heap.size w W) => place_any v cs s W (k28.K_below hW hK) hO)
 have HPO : Hid (∀ W e w', PlacePost v s W e w' → ∃ (r : Int) (b : Bool), e = .returned (.tuple #[.int .i64 r, .bool b]) ∧ ((b = true ∧ ∃ i : Nat, ∃ h : i < v.f3.length, r = i ∧ getV v s = some v.f3[i]) ∨ (b = false ∧ getV v s = none)) ∧ Below W.heap.size W w') := Lib.hid (fun W e w' h => h)
 obtain ⟨A2, c2, A5, c5, A6, c6, rfl, l2, g2, l5, g5, l6, g6⟩ := k28_open hK
 obtain ⟨W1, hW1⟩ : ∃ W1, W1 = (w.alloc (.cells #[.int .i64 v.f0, .bool v.f1.f0, .slice A2 v.f1.f1.length c2, .int .i64 v.f1.f2, .string v.f2, .slice A5 v.f3.length c5, .slice A6 v.f4.length c6] 28)).alloc (.cells #[.int .i64 0, .bool false, .slice none 0 0, .int .i64 0, .string ⟨#[]⟩, .slice none 0 0, .slice none 0 0] 28) := ⟨_, rfl⟩
 have hb1 : Below w.heap.size w W1 := by rw [hW1]; exact ((Below.refl _ _).alloc (Nat.le_refl _) _).alloc (by simp) _
 have hx1 : W1.heap[w.heap.size]? = some (.cells #[.int .i64 v.f0, .bool v.f1.f0, .slice A2 v.f1.f1.length c2, .int .i64 v.f1.f2, .string v.f2, .slice A5 v.f3.length c5, .slice A6 v.f4.length c6] 28 (0, 0)) := by rw [hW1]; exact blk_alloc (blk_new _ _) _
 have hy1 : W1.heap[w.heap.size + 1]? = some (.cells #[.int .i64 0, .bool false, .slice none 0 0, .int .i64 0, .string ⟨#[]⟩, .slice none 0 0, .slice none 0 0] 28 (0, 0)) := by
  rw [hW1]
  have := blk_new (w.alloc (.cells #[.int .i64 v.f0, .bool v.f1.f0, .slice A2 v.f1.f1.length c2, .int .i64 v.f1.f2, .string v.f2, .slice A5 v.f3.length c5, .slice A6 v.f4.length c6] 28)) (.cells #[.int .i64 0, .bool false, .slice none 0 0, .int .i64 0, .string ⟨#[]⟩, .slice none 0 0, .slice none 0 0] 28)
  rw [World.size_alloc] at this
  exact this
 have hs1 : W1.heap.size = w.heap.size + 2 := by rw [hW1]; simp
 have HG5 := Lib.hid g5
 have HOK := Lib.hid hO
 have HPP : Hid (∀ cs W b u, (getV v s).isSome = b → (getV v s).getD zeroV = u → k28.M W w.heap.size (fun _ => True) u cs → Below w.heap.size w W → GetPost v s w (.returned (.tuple #[.agg cs.toArray, .bool b])) W) := Lib.hid (fun cs W b u h1 h2 h3 h4 => ⟨cs, by rw [h1], by rw [h2]; exact h3, h4⟩)
 generalize GetPost v s w = P at *
 generalize hPL : PlacePost v s = PL at *
 have HW1 := Lib.hid hW1
 have HB1 := Lib.hid hb1
 have HX1 := Lib.hid hx1
 have HY1 := Lib.hid hy1
 have HS1 := Lib.hid hs1
 clear hW1 hb1 hx1 hy1 hs1 hK hO hPL l2 g2 l5 g5 l6 g6
 go_enter Tryz.func31, Tryz.ntmps31
 go_upto_region 1 with (fail)
 rw [← HW1.out]
 clear HW1
 obtain ⟨hcx, hfxx⟩ := bcells HX1.out (Below.refl _ _)
 go_upto_region 2 with (go_at_call 74; (with_reducible refine (HPL.out _ HB1.out).mono ?_); intro e w2 hp; obtain ⟨r, b, rfl, hf, hB2⟩ := HPO.out _ e w2 hp; have HF := Lib.hid hf; have HQ2 := Lib.hid hB2; obtain ⟨hcx2, hfx2⟩ := bcells HX1.out hB2; obtain ⟨hcy2, hfy2⟩ := bcells HY1.out hB2; clear hp hf hB2)
 have HB2 := Lib.hid (HB1.out.trans (HQ2.out.mono HB1.out.size))
 rcases HF.out with ⟨rfl, i, hi, rfl, hg⟩ | ⟨rfl, hg⟩
 · have hi2 : (i : Int) < (v.f3.length : Int) := by omega
   have hi0 : (0 : Int) ≤ (i : Int) := by omega
   obtain ⟨ad, a0, a1, a2, a3, a4, a5, a6, rfl, hKa, p0, p1, p2, p3, p4, p5, p6⟩ := at_V HG5.out HB2.out i hi
   have hrd : rd_T28 v.f3 (i : Int) = v.f3[i] := by unfold rd_T28; simp [hi]
   rw [hrd] at hKa
   have HC := Lib.hid (Clone_any v.f3[i] [a0, a1, a2, a3, a4, a5, a6] w2 (k28.K_below HB2.out hKa) (HOK.out.kids _ (List.getElem_mem hi)))
   have HP2 : Hid (∀ cs W, k28.M W w.heap.size (fun _ => True) v.f3[i] cs → Below w.heap.size w W → P (.returned (.tuple #[.agg cs.toArray, .bool true])) W) := Lib.hid (fun cs W h1 h2 => HPP.out cs W true _ (by rw [hg]; rfl) (by rw [hg]; rfl) h1 h2)
   generalize v.f3[i] = x at *
   have hg1 : w.heap.size + 1 < w2.heap.size := by have := HQ2.out.size; have := HS1.out; omega
   have HG1 := Lib.hid hg1
   clear hKa hrd hg hi HF HPP hcx hfxx hg1
   go_wp2_with (go_at_call 66; (with_reducible refine (HC.out).mono ?_); rintro e w8 ⟨cs8, rfl, hM8, hB8⟩; have HM8 := Lib.hid hM8; obtain ⟨v2, v5, v6, rfl, r2, r5, r6⟩ := k28_openM hM8; obtain ⟨E2, s2, rfl⟩ := Kd.R_slice r2; obtain ⟨E5, s5, rfl⟩ := Kd.R_slice r5; obtain ⟨E6, s6, rfl⟩ := Kd.R_slice r6; have HQ8 := Lib.hid (HQ2.out.trans (hB8.mono HQ2.out.size)); have HY8 := Lib.hid (blk_below2 HY1.out HQ8.out); obtain ⟨hc8, hf8⟩ := bcells HY1.out HQ8.out; have HB8 := Lib.hid (HB1.out.trans (HQ8.out.mono HB1.out.size)); clear hM8 r2 r5 r6 hB8)
   obtain ⟨X, hX⟩ : ∃ X, X = ((((((w8.setCell ⟨w.heap.size + 1, 0, none⟩ (.int .i64 x.f0)).setCell ⟨w.heap.size + 1, 1, none⟩ (.bool x.f1.f0)).setCell ⟨w.heap.size + 1, 2, none⟩ (.slice E2 x.f1.f1.length s2)).setCell ⟨w.heap.size + 1, 3, none⟩ (.int .i64 x.f1.f2)).setCell ⟨w.heap.size + 1, 4, none⟩ (.string x.f2)).setCell ⟨w.heap.size + 1, 5, none⟩ (.slice E5 x.f3.length s5)).setCell ⟨w.heap.size + 1, 6, none⟩ (.slice E6 x.f4.length s6) := ⟨_, rfl⟩
   obtain ⟨hfx, hm, hbw⟩ := into_box HM8.out HG1.out HY8.out rfl hX
   rw [← hX]
   have HFIN := Lib.hid (HP2.out _ X (k28.M_lower (by have := HG1.out; omega) hm) (HB8.out.trans (hbw _ (Nat.le_succ _))))
   clear hX hm hbw hc8 hf8 hcx2 hfx2 hcy2 hfy2
   have hrc := blk_cell hfx
   refine bodyPost_ret (v := .tuple #[.agg #[.int .i64 x.f0, .bool x.f1.f0, .slice E2 x.f1.f1.length s2, .int .i64 x.f1.f2, .string x.f2, .slice E5 x.f3.length s5, .slice E6 x.f4.length s6], .bool true]) ?_ rfl HFIN.out
   simp [results, Tryz.f31, go_sem, hrc]
 · have HP2 : Hid (∀ cs W, k28.M W w.heap.size (fun _ => True) zeroV cs → Below w.heap.size w W → P (.returned (.tuple #[.agg cs.toArray, .bool false])) W) := Lib.hid (fun cs W h1 h2 => HPP.out cs W false _ (by rw [hg]; rfl) (by rw [hg]; rfl) h1 h2)
   clear HPP HF hg hcx hfxx
   have hy2 := blk_below2 HY1.out HQ2.out
   go_wp2
   obtain ⟨X, hX⟩ : ∃ X, X = ((((((w2.setCell ⟨w.heap.size + 1, 0, none⟩ (.int .i64 0)).setCell ⟨w.heap.size + 1, 1, none⟩ (.bool false)).setCell ⟨w.heap.size + 1, 2, none⟩ (.slice none 0 0)).setCell ⟨w.heap.size + 1, 3, none⟩ (.int .i64 0)).setCell ⟨w.heap.size + 1, 4, none⟩ (.string ⟨#[]⟩)).setCell ⟨w.heap.size + 1, 5, none⟩ (.slice none 0 0)).setCell ⟨w.heap.size + 1, 6, none⟩ (.slice none 0 0) := ⟨_, rfl⟩
   obtain ⟨hfx, hm, hbw⟩ := into_box (zero_M w2 (w.heap.size + 2)) (by omega) hy2 rfl hX
   rw [← hX]
   have HFIN := Lib.hid (HP2.out _ X (k28.M_lower (by omega) hm) (HB2.out.trans (hbw _ (Nat.le_succ _))))
   clear hX hm hbw hcx2 hfx2 hcy2 hfy2
   have hrc := blk_cell hfx
   refine bodyPost_ret (v := .tuple #[.agg #[.int .i64 0, .bool false, .slice none 0 0, .int .i64 0, .string ⟨#[]⟩, .slice none 0 0, .slice none 0 0], .bool false]) ?_ rfl HFIN.out
   simp [results, Tryz.f31, go_sem, hrc]
theorem obj_bad {ks : List ByteArray} {l : List V} (h : objE ks l ≠ 0) : objV ks l = zeroV := by unfold objV; rw [if_neg h]
theorem obj_good {ks : List ByteArray} {l : List V} (h : objE ks l = 0) : objV ks l = objRaw ks l := by unfold objV; rw [if_pos h]
theorem obj_same {ks : List ByteArray} {l : List V} (h : objE ks l = 0) : ks.length = l.length := by
 by_cases e : ks.length = l.length
 · exact e
 · unfold objE at h; rw [if_neg e] at h; cases h
theorem last_at {α : Type} (ks : List ByteArray) (xs : List α) (h1 : ks.length = xs.length) (j : Nat) (hj : j < ks.length) : ∀ i, j < i → i ≤ ks.length → (∀ t, ∀ h : t < ks.length, j < t → t < i → ks[t] ≠ ks[j]) → lastUp (ks.zip xs) ks[j] i = some (xs[j]'(by omega)) := by
 intro i
 induction i with
 | zero => intro h; omega
 | succ i ih =>
  intro hi hn hne
  have z : i < (ks.zip xs).length := by rw [List.length_zip]; omega
  rw [lastUp_succ _ _ i z, List.getElem_zip]
  by_cases e : i = j
  · subst e
    rw [if_pos rfl]
  · rw [if_neg (hne i (by omega) (by omega) (by omega))]
    exact ih (by omega) (by omega) (fun t h h1 h2 => hne t h h1 (by omega))
theorem obj_get {ks : List ByteArray} {l : List V} (h : objE ks l = 0) (j : Nat) (hj : j < ks.length) : ∃ x, getV (objV ks l) ks[j] = some x ∧ ((∀ t, ∀ h : t < ks.length, j < t → ks[t] ≠ ks[j]) → x = rd_T28 l (j : Int)) := by
 have hn := obj_same h
 have hg : getV (objV ks l) ks[j] = lastUp (ks.zip l) ks[j] (ks.zip l).length := by
  rw [obj_good h]
  unfold getV objRaw
  simp only [if_true]
  rw [List.zip_map']
  show lkp ks[j] ((kvs ks l).map fun a => a) = _
  rw [List.map_id']
  exact lkp_objUp _ _ _ (Nat.le_refl _)
 have hz : (ks.zip l).length = ks.length := by rw [List.length_zip]; omega
 have hs := (lastUp_isSome (ks.zip l) ks[j] _ (Nat.le_refl _)).2 (by rw [List.take_length]; exact (zip_key hn.symm).2 (List.getElem_mem hj))
 obtain ⟨x, hx⟩ := Option.isSome_iff_exists.1 hs
 refine ⟨x, hg.trans hx, fun hl => ?_⟩
 rw [hz] at hx
 have := last_at ks l hn j hj ks.length hj (Nat.le_refl _) (fun t h h1 _ => hl t h h1)
 rw [this] at hx
 rw [← Option.some.inj hx]
 unfold rd_T28
 rw [Int.toNat_natCast, List.getD_eq_getElem?_getD, List.getElem?_eq_getElem (by omega)]
 rfl
theorem obj_rises {ks : List ByteArray} {l : List V} (h : objE ks l = 0) (k : Nat) (hk : k + 1 < (objV ks l).f4.length) : sless ((objV ks l).f4.getD k ByteArray.empty) ((objV ks l).f4.getD (k + 1) ByteArray.empty) = true := by
 rw [obj_good h] at hk ⊢
 have hr : ((kvs ks l).map Prod.fst).Pairwise fun a b => sless a b = true := List.pairwise_map.2 (objUp_rises _ _ (Nat.le_refl _))
 have hk' : k + 1 < ((kvs ks l).map Prod.fst).length := hk
 show sless (((kvs ks l).map Prod.fst).getD k ByteArray.empty) (((kvs ks l).map Prod.fst).getD (k + 1) ByteArray.empty) = true
 rw [List.getD_eq_getElem?_getD, List.getD_eq_getElem?_getD, List.getElem?_eq_getElem (by omega), List.getElem?_eq_getElem hk']
 exact List.pairwise_iff_getElem.1 hr k (k + 1) (by omega) hk' (by omega)
theorem obj_len {ks : List ByteArray} {l : List V} (h : objE ks l = 0) : (objV ks l).f4.length ≤ ks.length := by
 rw [obj_good h]
 have := objUp_len (ks.zip l) _ (Nat.le_refl _)
 show ((kvs ks l).map Prod.fst).length ≤ _
 rw [List.length_map]
 have hz : (ks.zip l).length ≤ ks.length := by rw [List.length_zip]; omega
 exact Nat.le_trans this hz
theorem sless_le {a b : ByteArray} (h : sless b a = true) : (Op.bytesLess a.toList b.toList || a.toList == b.toList) = false := by
 have h1 : Op.bytesLess a.toList b.toList = false := sless_asymm h
 have h2 : (a.toList == b.toList) = false := by rw [beq_eq_false_iff_ne]; exact fun e => sless_ne h (toL_inj2.1 e).symm
 rw [h1, h2]; rfl
theorem below_on {a W w' : World} (h : Below a.heap.size a W) (k : Below W.heap.size W w') : Below a.heap.size a w' := h.trans (k.mono h.size)
theorem box7_below {wr w7 : World} (h : Below wr.heap.size wr w7) (a0 a1 a2 a3 a4 a5 a6 : Value) : Below wr.heap.size wr (((((((w7.setCell ⟨wr.heap.size, 0, none⟩ a0).setCell ⟨wr.heap.size, 1, none⟩ a1).setCell ⟨wr.heap.size, 2, none⟩ a2).setCell ⟨wr.heap.size, 3, none⟩ a3).setCell ⟨wr.heap.size, 4, none⟩ a4).setCell ⟨wr.heap.size, 5, none⟩ a5).setCell ⟨wr.heap.size, 6, none⟩ a6) := by
 iterate 7 refine Below.setCell ?_ (by simp) _
 exact h
set_option maxHeartbeats 4000000 in
theorem keys5_walk (ks : List ByteArray) (A : Option Addr) (c : Nat) (l : List V) (B : Option Addr) (d : Nat) (w : World) (hLD : LaidW w) (hA : Kd.string.C w A ks.length ks) (hB : k28.C w B l.length l) (hks : ∀ k ∈ ks, k.size ≤ 1073741824) (hn : ks.length ≤ 1048576) (hO : ∀ x ∈ l, OkV x) (hm : l.length ≤ 1048576) :
 Calls Tryz.prog 7 #[.slice A ks.length c, .slice B l.length d] w fun e w' => e = .returned (.bool true) ∧ Below w.heap.size w w' := by
 have HAL := Lib.hid (fun W (hW : Below w.heap.size w W) => alive5_any W (hLD.below hW))
 have HOB := Lib.hid (fun W (hW : Below w.heap.size w W) => Object_any ks l A c B d W (hLD.below hW) (Kd.C_below hA hW) (k28.C_below hB hW) hO hks hn)
 have HA := Lib.hid hA
 have HNN := Lib.hid hn
 by_cases hE : objE ks l = 0
 · have hO6 : OkV (objV ks l) := by rw [obj_good hE]; exact okV_obj hO hks (by omega)
   have HGT := Lib.hid (fun W cs j (hK : k28.K W (objV ks l) cs) => Get_any (objV ks l) cs (ks.getD j ByteArray.empty) W hK hO6)
   have HGV : Hid (∀ j, j < ks.length → ∃ x, getV (objV ks l) (ks.getD j ByteArray.empty) = some x ∧ ((∀ t, j < t → t < ks.length → ks.getD t ByteArray.empty ≠ ks.getD j ByteArray.empty) → x = rd_T28 l (j : Int))) := Lib.hid (fun j hj => by
    obtain ⟨x, hx, hl⟩ := obj_get hE j hj
    have e : ∀ t, ∀ h : t < ks.length, ks.getD t ByteArray.empty = ks[t] := fun t h => by rw [List.getD_eq_getElem?_getD, List.getElem?_eq_getElem h]; rfl
    rw [e j hj]
    exact ⟨x, hx, fun h => hl (fun t ht h1 => by rw [← e t ht]; exact h t h1 ht)⟩)
   have HRI := Lib.hid (obj_rises hE)
   have HLN := Lib.hid (obj_len hE)
   have HSAM := Lib.hid (obj_same hE)
   have HBB := Lib.hid hB
   have hE2 : Hid (objE ks l = 0) := Lib.hid hE
   unfold ObjPost at HOB
   unfold GetPost at HGT
   generalize objE ks l = E at *
   obtain rfl := hE
   generalize objV ks l = v at *
   clear hLD hA hB hO hks hE2 hO6
   go_enter Tryz.func7, Tryz.ntmps7
   go_upto_region 6 with (first
    | (go_at_call 15; (with_reducible refine (HAL.out _ (Below.refl _ _)).mono ?_); rintro e w2 ⟨rfl, hB2⟩; have HB2 := Lib.hid hB2; clear hB2)
    | (go_at_call 22; (with_reducible refine (HOB.out _ HB2.out).mono ?_); rintro e w4 ⟨cs4, rfl, hM4, hB4⟩; have HM4 := Lib.hid hM4; have HB4 := Lib.hid (HB2.out.trans (hB4.mono HB2.out.size)); obtain ⟨z2, z5, z6, rfl, r2, r5, r6⟩ := k28_openM hM4; obtain ⟨E2, s2, rfl⟩ := Kd.R_slice r2; obtain ⟨E5, s5, rfl⟩ := Kd.R_slice r5; obtain ⟨E6, s6, rfl⟩ := Kd.R_slice r6; have HK6 := Lib.hid (Kd.R_reads' r6).2.2; clear hM4 hB4 r2 r5 r6; obtain ⟨hcz, hfz⟩ := bcells (blk_new w4 (.cells #[.int .i64 0, .bool false, .slice none 0 0, .int .i64 0, .string ⟨#[]⟩, .slice none 0 0, .slice none 0 0] 28)) (Below.refl _ _))
    | (go_at_call 17; (with_reducible refine (num5_any _ _).mono ?_); rintro e w5 ⟨rfl, rfl⟩))
   clear HAL HOB HB2 hcz hfz
   obtain ⟨W5, hW5⟩ : ∃ W5, W5 = w4.alloc (.cells #[.int .i64 v.f0, .bool v.f1.f0, .slice E2 v.f1.f1.length s2, .int .i64 v.f1.f2, .string v.f2, .slice E5 v.f3.length s5, .slice E6 v.f4.length s6] 28) := ⟨_, rfl⟩
   rw [← hW5]
   have HX5 : Hid (W5.heap[w4.heap.size]? = some (.cells #[.int .i64 v.f0, .bool v.f1.f0, .slice E2 v.f1.f1.length s2, .int .i64 v.f1.f2, .string v.f2, .slice E5 v.f3.length s5, .slice E6 v.f4.length s6] 28 (0, 0))) := Lib.hid (by rw [hW5]; exact blk_new _ _)
   have HB5 : Hid (Below w.heap.size w W5) := Lib.hid (by rw [hW5]; exact HB4.out.alloc HB4.out.size _)
   have HK5 : Hid (k28.K W5 v [.int .i64 v.f0, .bool v.f1.f0, .slice E2 v.f1.f1.length s2, .int .i64 v.f1.f2, .string v.f2, .slice E5 v.f3.length s5, .slice E6 v.f4.length s6]) := Lib.hid (by rw [hW5]; exact k28.K_below (below_alloc (Below.refl _ _) _) (k28.K_of_M HM4.out))
   have HS5 : Hid (Kd.string.C W5 E6 v.f4.length v.f4) := Lib.hid (by rw [hW5]; exact Kd.C_below HK6.out (below_alloc (Below.refl _ _) _))
   clear hW5 HK6 HM4 HB4
   generalize w4.heap.size = g at *
   go_wp2
   have hL6 : v.f4.length ≤ 1048576 := Nat.le_trans HLN.out HNN.out
   go_loopw [7] (fun vi wr => ∃ m : Nat, 1 ≤ m ∧ (m ≤ v.f4.length ∨ m = 1) ∧ vi = .int .i64 (m : Int) ∧ Hid (Below W5.heap.size W5 wr)) (fun vi _ => v.f4.length + 1 - (intOf vi).toNat)
   case atStart => exact ⟨1, Nat.le_refl _, .inr rfl, rfl, Lib.hid (Below.refl _ _)⟩
   case round =>
    obtain ⟨m, hm0, hk, rfl, HB⟩ := hrel
    obtain ⟨hcx, hfx⟩ := bcells HX5.out HB.out
    by_cases hlt : m < v.f4.length
    · obtain ⟨k, hm⟩ : ∃ k, k + 1 = m := ⟨m - 1, by omega⟩
      obtain ⟨ad, rfl, hx⟩ := Kd.at_string (Kd.C_below HS5.out HB.out) (m : Int) (by omega) (by omega)
      obtain ⟨ad', he, hy⟩ := Kd.at_string (Kd.C_below HS5.out HB.out) (k : Int) (by omega) (by omega)
      obtain rfl := Option.some.inj he
      rw [Int.toNat_natCast] at hx hy
      have e1 : rdOf ByteArray.empty v.f4 (m : Int) = v.f4.getD m ByteArray.empty := by unfold rdOf; rw [Int.toNat_natCast]
      have e2 : rdOf ByteArray.empty v.f4 (k : Int) = v.f4.getD k ByteArray.empty := by unfold rdOf; rw [Int.toNat_natCast]
      rw [e1] at hx
      rw [e2] at hy
      have hle := sless_le (HRI.out k (by omega))
      rw [hm] at hle
      obtain ⟨a, ha⟩ : ∃ a, a = v.f4.getD m ByteArray.empty := ⟨_, rfl⟩
      obtain ⟨b, hb⟩ : ∃ b, b = v.f4.getD k ByteArray.empty := ⟨_, rfl⟩
      rw [← ha] at hle hx
      rw [← hb] at hle hy
      have g3 : (m : Int) < (v.f4.length : Int) := by omega
      have g5 : IntKind.i64.wrap ((m : Int) - 1) = (k : Int) := by rw [wrap_in _ (by omega)]; omega
      have g6 : (k : Int) < (v.f4.length : Int) := by omega
      have hw : wrap64 ((m : Int) + 1) = ((m + 1 : Nat) : Int) := by unfold wrap64; omega
      clear e1 e2 hk ha hb
      go_wp2
      go_quiet (fail)
      go_wp2
      go_roundw
      case rel => exact ⟨m + 1, by omega, .inl (by omega), by go_num, Lib.hid (pw_below_drewN HB.out _)⟩
      case measure => simp [intOf]; omega
    · have hlt2 : ¬ ((m : Int) < (v.f4.length : Int)) := by omega
      clear hk hlt hm0
      have hn2 : ks.length ≤ 1048576 := HNN.out
      have HBA := Lib.hid (HB5.out.trans (HB.out.mono HB5.out.size))
      go_wp2
      clear hcx hfx
      go_loopw [8] (fun vi wr => ∃ (k : Nat) (z : Int), k ≤ ks.length ∧ z + 1 = (k : Int) ∧ vi = .int .i64 z ∧ Hid (Below W5.heap.size W5 wr)) (fun vi _ => (intOf vi + 1).toNat)
      case atStart => exact ⟨ks.length, (ks.length : Int) - 1, Nat.le_refl _, by omega, congrArg (Value.int .i64) (by first | rfl | (unfold wrap64; omega)), HB⟩
      case round =>
       clear HB HBA
       obtain ⟨k, z, hk, hz, rfl, HB⟩ := hrel
       have HBA := Lib.hid (HB5.out.trans (HB.out.mono HB5.out.size))
       rcases k with _ | j
       · obtain rfl : z = -1 := by omega
         obtain ⟨hcx, hfx⟩ := bcells HX5.out HB.out
         have hle : (v.f4.length : Int) ≤ (ks.length : Int) := by have := HLN.out; omega
         go_wp2
         go_ret
         exact ⟨rfl, HBA.out⟩
       · obtain rfl : z = (j : Int) := by omega
         have hj0 : (0 : Int) ≤ (j : Int) := by omega
         have hw : wrap64 ((j : Int) + 1) = ((j + 1 : Nat) : Int) := by unfold wrap64; omega
         have hjn : j < ks.length := by omega
         clear hz hk
         go_wp2
         go_loopw [9, 10] (fun vb vt wr => ∃ (t : Nat) (b : Bool), j < t ∧ t ≤ ks.length ∧ vt = .int .i64 t ∧ vb = .bool b ∧ Hid (b = true → ∀ i, j < i → i < t → ks.getD i ByteArray.empty ≠ ks.getD j ByteArray.empty) ∧ Hid (Below W5.heap.size W5 wr)) (fun vb vt _ => ks.length - (intOf vt).toNat)
         case atStart => exact ⟨j + 1, true, by omega, by omega, by go_num, rfl, Lib.hid (fun _ i h1 h2 => by omega), HB⟩
         case round =>
          clear HB HBA
          obtain ⟨t, b, hjt, htn, rfl, rfl, HD, HB⟩ := hrel
          have HBA := Lib.hid (HB5.out.trans (HB.out.mono HB5.out.size))
          obtain ⟨ad, rfl, hy⟩ := Kd.at_string (Kd.C_below HA.out HBA.out) (j : Int) (by omega) (by omega)
          rw [Int.toNat_natCast] at hy
          have e2 : rdOf ByteArray.empty ks (j : Int) = ks.getD j ByteArray.empty := by unfold rdOf; rw [Int.toNat_natCast]
          rw [e2] at hy
          have hj2 : (j : Int) < (ks.length : Int) := by omega
          by_cases hlt : t < ks.length
          · obtain ⟨ad', he, hx⟩ := Kd.at_string (Kd.C_below HA.out HBA.out) (t : Int) (by omega) (by omega)
            obtain rfl := Option.some.inj he
            rw [Int.toNat_natCast] at hx
            have e1 : rdOf ByteArray.empty ks (t : Int) = ks.getD t ByteArray.empty := by unfold rdOf; rw [Int.toNat_natCast]
            rw [e1] at hx
            have hw2 : wrap64 ((t : Int) + 1) = ((t + 1 : Nat) : Int) := by unfold wrap64; omega
            have ht2 : (t : Int) < (ks.length : Int) := by omega
            have ht0 : (0 : Int) ≤ (t : Int) := by omega
            cases b with
            | false =>
             go_wp2
             go_quiet (fail)
             go_wp2
             go_roundw
             case rel => exact ⟨t + 1, false, by omega, by omega, by go_num, rfl, Lib.hid (fun h => by cases h), Lib.hid (pw_below_drewN HB.out _)⟩
             case measure => simp [intOf]; omega
            | true =>
             by_cases hst : ks.getD t ByteArray.empty = ks.getD j ByteArray.empty
             · have h1 : ((ks.getD t ByteArray.empty).toList == (ks.getD j ByteArray.empty).toList) = true := by rw [hst]; simp
               have h2 : ((ks.getD t ByteArray.empty).toList != (ks.getD j ByteArray.empty).toList) = false := by rw [hst]; simp
               clear hst HD
               generalize ks.getD t ByteArray.empty = p at *
               generalize ks.getD j ByteArray.empty = q at *
               go_wp2
               go_quiet (fail)
               go_wp2
               go_roundw
               case rel => exact ⟨t + 1, false, by omega, by omega, by go_num, rfl, Lib.hid (fun h => by cases h), Lib.hid (pw_below_drewN HB.out _)⟩
               case measure => simp [intOf]; omega
             · have h1 : ((ks.getD t ByteArray.empty).toList == (ks.getD j ByteArray.empty).toList) = false := by rw [beq_eq_false_iff_ne]; exact fun e => hst (toL_inj2.1 e)
               have h2 : ((ks.getD t ByteArray.empty).toList != (ks.getD j ByteArray.empty).toList) = true := by rw [bne, h1]; rfl
               have HD2 : Hid (true = true → ∀ i, j < i → i < t + 1 → ks.getD i ByteArray.empty ≠ ks.getD j ByteArray.empty) := Lib.hid (fun _ i g1 g2 => by
                rcases Nat.lt_or_ge i t with g | g
                · exact HD.out rfl i g1 g
                · obtain rfl : i = t := by omega
                  exact hst)
               clear hst HD
               obtain ⟨p, hp⟩ : ∃ p, p = ks.getD t ByteArray.empty := ⟨_, rfl⟩
               obtain ⟨q, hq⟩ : ∃ q, q = ks.getD j ByteArray.empty := ⟨_, rfl⟩
               rw [← hp] at h1 h2 hx
               rw [← hq] at h1 h2 hy
               clear hp hq e1 e2
               go_wp2
               go_quiet (fail)
               go_wp2
               go_roundw
               case rel => exact ⟨t + 1, true, by omega, by omega, by go_num, rfl, Lib.hid (fun _ => HD2.out trivial), Lib.hid (pw_below_drewN HB.out _)⟩
               case measure => simp [intOf]; omega
          · obtain rfl : t = ks.length := by omega
            have ht2 : ¬ (ks.length : Int) < (ks.length : Int) := by omega
            obtain ⟨x, hxv, hxl⟩ := HGV.out j hjn
            have HGJ : Hid (∀ W, Below W5.heap.size W5 W → Calls Tryz.prog 31 #[.agg #[.int .i64 v.f0, .bool v.f1.f0, .slice E2 v.f1.f1.length s2, .int .i64 v.f1.f2, .string v.f2, .slice E5 v.f3.length s5, .slice E6 v.f4.length s6], .string (ks.getD j ByteArray.empty)] W fun e w' => ∃ cs : List Value, e = .returned (.tuple #[.agg cs.toArray, .bool true]) ∧ k28.M w' W.heap.size (fun _ => True) x cs ∧ Below W.heap.size W w') := Lib.hid (fun W hW => by
             have h := HGT.out W _ j (k28.K_below hW HK5.out)
             rw [hxv] at h
             exact h)
            have HXL : Hid (b = true → x = rd_T28 l (j : Int)) := Lib.hid (fun hb => hxl (fun t h1 h2 => HD.out hb t h1 h2))
            have HHY := Lib.hid hy
            clear hxv hxl HGV HGT HD HRI HLN e2 hy
            generalize ks.getD j ByteArray.empty = q at *
            go_upto_region 19 with (fail)
            go_cut [11, 12] (fun v11 v12 wc => ∃ (g2 : Nat) (F2 : Option Addr) (t2 : Nat) (F5 : Option Addr) (t5 : Nat) (F6 : Option Addr) (t6 : Nat), v11 = .pointer (some ⟨g2, 0, none⟩) ∧ v12 = .bool true ∧ Hid (wc.heap[g2]? = some (.cells #[.int .i64 x.f0, .bool x.f1.f0, .slice F2 x.f1.f1.length t2, .int .i64 x.f1.f2, .string x.f2, .slice F5 x.f3.length t5, .slice F6 x.f4.length t6] 28 (0, 0))) ∧ Hid (k28.K wc x [.int .i64 x.f0, .bool x.f1.f0, .slice F2 x.f1.f1.length t2, .int .i64 x.f1.f2, .string x.f2, .slice F5 x.f3.length t5, .slice F6 x.f4.length t6]) ∧ Hid (Below W5.heap.size W5 wc))
            case first =>
             obtain ⟨hcx, hfx⟩ := bcells HX5.out HB.out
             have hy := HHY.out
             have hxw := blk_below2 HX5.out HB.out
             have hoa1 := fun (o : Obj) => (bcells (blk_drew (blk_alloc hxw o)) (Below.refl _ _)).1
             have hoa2 := fun (o : Obj) => pw_cell_below (below_drew (below_alloc (Below.refl wr.heap.size wr) o)) hy
             go_region_held3 (fun w' => w'.cell? ⟨g, 0, none⟩ = some (.int .i64 v.f0) ∧ w'.cell? ⟨g, 1, none⟩ = some (.bool v.f1.f0) ∧ w'.cell? ⟨g, 2, none⟩ = some (.slice E2 v.f1.f1.length s2) ∧ w'.cell? ⟨g, 3, none⟩ = some (.int .i64 v.f1.f2) ∧ w'.cell? ⟨g, 4, none⟩ = some (.string v.f2) ∧ w'.cell? ⟨g, 5, none⟩ = some (.slice E5 v.f3.length s5) ∧ w'.cell? ⟨g, 6, none⟩ = some (.slice E6 v.f4.length s6) ∧ w'.cell? (ad.add j) = some (.string q)) (go_keep) (first
              | (go_at_call 31; (with_reducible refine (HGJ.out _ (by first | exact below_drew HB.out | exact below_alloc (below_drew HB.out) _ | exact below_drew (below_alloc HB.out _))).mono ?_); rintro e_ w7 ⟨cs7, rfl, hM7, hB7⟩; have HM7 := Lib.hid hM7; have HR7 := Lib.hid hB7; obtain ⟨p72, p75, p76, rfl, r2, r5, r6⟩ := k28_openM hM7; obtain ⟨F2, t2, rfl⟩ := Kd.R_slice r2; obtain ⟨F5, t5, rfl⟩ := Kd.R_slice r5; obtain ⟨F6, t6, rfl⟩ := Kd.R_slice r6; have HQr : Hid (Below wr.heap.size wr w7) := Lib.hid (below_on (a := wr) (by first | exact below_drew (Below.refl wr.heap.size wr) | exact below_alloc (below_drew (Below.refl wr.heap.size wr)) _ | exact below_drew (below_alloc (Below.refl wr.heap.size wr) _)) hB7); have HQ7 := Lib.hid (HB.out.trans (HQr.out.mono HB.out.size)); have hy7 := pw_cell_below HQr.out hy; obtain ⟨hcx7, hfx7⟩ := bcells HX5.out HQ7.out; have hoc1 := fun (o : Obj) => (bcells (blk_alloc (blk_below2 HX5.out HQ7.out) o) (Below.refl _ _)).1; have hoc2 := fun (o : Obj) => pw_cell_below ((Below.refl w7.heap.size w7).alloc (Nat.le_refl _) o) hy7; (first | (have hzb : w7.heap[wr.heap.size]? = some (.cells #[.int .i64 0, .bool false, .slice none 0 0, .int .i64 0, .string ⟨#[]⟩, .slice none 0 0, .slice none 0 0] 28 (0, 0)) := (by first | exact blk_below2 (blk_drew (blk_new wr _)) HR7.out | exact blk_below2 (blk_new wr.drew _) HR7.out); obtain ⟨hcz, hfz⟩ := bcells hzb (Below.refl _ _); have hsx := fun a0 a1 a2 a3 a4 a5 a6 => (bcells HX5.out (HB.out.trans ((box7_below HQr.out a0 a1 a2 a3 a4 a5 a6).mono HB.out.size))).1; have hsy := fun a0 a1 a2 a3 a4 a5 a6 => pw_cell_below (box7_below HQr.out a0 a1 a2 a3 a4 a5 a6) hy) | (obtain ⟨hcz, hfz⟩ := bcells (blk_new w7 (.cells #[.int .i64 0, .bool false, .slice none 0 0, .int .i64 0, .string ⟨#[]⟩, .slice none 0 0, .slice none 0 0] 28)) (Below.refl _ _))); clear hM7 hB7 r2 r5 r6))
             · go_wp2
               go_meet
               case rel => exact ⟨w7.heap.size, F2, t2, F5, t5, F6, t6, rfl, rfl, Lib.hid (blk_new _ _), Lib.hid (k28.K_below (below_alloc (Below.refl _ _) _) (k28.K_of_M HM7.out)), Lib.hid (below_alloc HQ7.out _)⟩
             · obtain ⟨hfx7, hm7, -⟩ := into_box HM7.out (by simp) hzb rfl rfl
               have HM8 := Lib.hid hm7
               have HF8 := Lib.hid hfx7
               clear hfx7 hm7
               go_wp2
               go_meet
               case rel => exact ⟨wr.heap.size, F2, t2, F5, t5, F6, t6, rfl, rfl, HF8, Lib.hid (k28.K_of_M HM8.out), Lib.hid (HB.out.trans ((box7_below HQr.out _ _ _ _ _ _ _).mono HB.out.size))⟩
            case rest =>
             obtain ⟨g2, F2, t2, F5, t5, F6, t6, rfl, rfl, HY, HKX, HBc⟩ := hcut
             have HBA2 := Lib.hid (HB5.out.trans (HBc.out.mono HB5.out.size))
             have hw3 : wrap64 ((j : Int) - 1) = (j : Int) - 1 := by unfold wrap64; omega
             cases b with
             | false =>
              clear HXL
              go_wp2
              go_quiet (fail)
              go_wp2
              go_roundw
              case rel => exact ⟨j, (j : Int) - 1, by omega, by omega, by go_num, Lib.hid (pw_below_drewN HBc.out _)⟩
              case measure => simp [intOf]
             | true =>
              have hx := HXL.out rfl
              obtain ⟨bd, b0, b1, b2, b3, b4, b5, b6, rfl, hKb, q0, q1, q2, q3, q4, q5, q6⟩ := at_V HBB.out HBA2.out j (by have := HSAM.out; omega)
              rw [← hx] at hKb
              have HKB := Lib.hid hKb
              have hjl : (j : Int) < (l.length : Int) := by have := HSAM.out; omega
              obtain ⟨hcy, hfy⟩ := bcells HY.out (Below.refl _ _)
              clear hx hKb HXL
              go_upto_region 20 with (fail)
              go_still_tail 10, (by kernel_rfl)
              change wpList _ _ _ _ _ (wc.drewN 1)
              have HBD : Hid (Below w.heap.size w (wc.drewN 1)) := Lib.hid (pw_below_drewN HBA2.out _)
              have HBE : Hid (Below W5.heap.size W5 (wc.drewN 1)) := Lib.hid (pw_below_drewN HBc.out _)
              have HCC := Lib.hid (Same_any x [.int .i64 x.f0, .bool x.f1.f0, .slice F2 x.f1.f1.length t2, .int .i64 x.f1.f2, .string x.f2, .slice F5 x.f3.length t5, .slice F6 x.f4.length t6] x [b0, b1, b2, b3, b4, b5, b6] (wc.drewN 1) (k28.K_below (pw_below_drewN (Below.refl wc.heap.size wc) 1) HKX.out) (k28.K_below (pw_below_drewN HBA2.out 1) HKB.out))
              rw [same_refl] at HCC
              clear hcy hfy q0 q1 q2 q3 q4 q5 q6 HKX HKB HY
              generalize wc.drewN 1 = wd at HBD HBE HCC ⊢
              go_wp2_with (first | (go_at_call 18; (with_reducible refine (HCC.out).mono ?_); rintro e w9 ⟨rfl, hB9⟩; have HB9 := Lib.hid (HBE.out.trans (hB9.mono HBE.out.size)); clear hB9))
              go_roundw
              case rel => exact ⟨j, (j : Int) - 1, by omega, by omega, by go_num, HB9⟩
              case measure => simp [intOf]
 · have hz := obj_bad hE
   unfold ObjPost at HOB
   rw [hz] at HOB
   generalize objE ks l = E at *
   have hEb : (E != 0) = true := by simp [hE]
   clear hLD hA hB hO hks hz hE HA
   go_enter Tryz.func7, Tryz.ntmps7
   go_wp2_with (first
    | (go_at_call 15; (with_reducible refine (HAL.out _ (Below.refl _ _)).mono ?_); rintro e w2 ⟨rfl, hB2⟩; have HB2 := Lib.hid hB2; clear hB2)
    | (go_at_call 22; (with_reducible refine (HOB.out _ HB2.out).mono ?_); rintro e w4 ⟨cs4, rfl, hM4, hB4⟩; have HB4 := Lib.hid (HB2.out.trans (hB4.mono HB2.out.size)); obtain ⟨z2, z5, z6, rfl, r2, r5, r6⟩ := k28_openM hM4; obtain ⟨E2, s2, rfl⟩ := Kd.R_slice r2; obtain ⟨E5, s5, rfl⟩ := Kd.R_slice r5; obtain ⟨E6, s6, rfl⟩ := Kd.R_slice r6; clear hM4 hB4 r2 r5 r6; obtain ⟨hcz, hfz⟩ := bcells (blk_new w4 (.cells #[.int .i64 0, .bool false, .slice none 0 0, .int .i64 0, .string ⟨#[]⟩, .slice none 0 0, .slice none 0 0] 28)) (Below.refl _ _))
    | (go_at_call 17; (with_reducible refine (num5_any _ _).mono ?_); rintro e w5 ⟨rfl, rfl⟩))
   go_ret
   exact ⟨rfl, HB4.out.alloc HB4.out.size _⟩
theorem keys5_row (ks : List ByteArray) (A : Option Addr) (c : Nat) (l : List V) (B : Option Addr) (d : Nat) (w : World) (hLD : LaidW w) (h1 : ks.length ≤ c) (hA : Kd.string.C w A ks.length ks) (hks : ∀ k ∈ ks, k.size ≤ 1073741824) (hn : ks.length ≤ 1048576) (h2 : l.length ≤ d) (hB : k28.C w B l.length l) (hO : ∀ x ∈ l, OkV x) (hm : l.length ≤ 1048576) :
 Calls Tryz.prog 7 #[.slice A ks.length c, .slice B l.length d] w fun e w' => e = .returned (.bool true) ∧ Below w.heap.size w w' := keys5_walk ks A c l B d w hLD hA hB hks hn hO hm
end Go.Proofs.YthigbklhngihkaaGreatDoor.P
namespace Go.Proofs.YthigbklhngihkaaGreatDoor.P
open Go.RowKit Go.Proofs.YthigbklhngihkaaGreatDoorW.PrintWords Go.Proofs.YthigbklhngihkaaGreatDoorW.PrintMore
section
open _root_.Go.Proofs.YthigbklhngihkaaGreatDoor.Rows
theorem one_le_bulk {H : Type} (d : DataW H) : 1 ≤ uptoBulk d := by
 cases d with
 | lit l => cases l <;> simp [uptoBulk]
 | nil => simp [uptoBulk]
 | ptr d => simp [uptoBulk]
 | slice elems spare => simp [uptoBulk]
 | agg parts => simp [uptoBulk]
 | iface t d => simp [uptoBulk]
 | map entries => simp [uptoBulk]
 | held h => simp [uptoBulk]
theorem length_le_bulk {H : Type} (l : List (DataW H)) : l.length ≤ uptoBulkAll l := by
 induction l with
 | nil => simp [uptoBulkAll]
 | cons x r ih => have := one_le_bulk x; simp only [uptoBulkAll, List.length_cons]; omega
theorem mem_le_bulk {H : Type} {l : List (DataW H)} {d : DataW H} (h : d ∈ l) : uptoBulk d ≤ uptoBulkAll l := by
 induction l with
 | nil => simp at h
 | cons x r ih =>
  simp only [uptoBulkAll]
  rcases List.mem_cons.1 h with rfl | h
  · omega
  · have := ih h; omega
end
section
variable {H : Type} {enc : TypeId × Value → H} {P : Program} {w : World} {base : Nat} {spare : Nat → Bool} {held : Bool}
theorem open_row {α : Type} {d : Kd α} {okv : α → Prop} {t e : TypeId} {fuel : Nat} {cs : List Value} {x : DataW H × List MemPlace} (ht : P.underlying t = some (.slice e)) (hsz : d.sz = P.cellsOf e)
 (ih : ∀ n cs x, n < fuel → DataW.trod enc P w base spare held n e cs = some x → Rows.uptoBulk x.1 ≤ 1048576 → ∃ y : α, d.K w y cs ∧ okv y) (hbulk : Rows.uptoBulk x.1 ≤ 1048576) (h : DataW.trod enc P w base spare held fuel t cs = some x) :
 ∃ (A : Option Addr) (c : Nat) (ys : List α), cs = [.slice A ys.length c] ∧ ys.length ≤ c ∧ ys.length ≤ 1048576 ∧ d.C w A ys.length ys ∧ ∀ y ∈ ys, okv y := by
 rcases DataW.trod_slice ht h with ⟨rfl, _⟩ | ⟨a, len, cap, elems, rest, n, rfl, rfl, rfl, hb, hl, hm, hel0, hel, _, _⟩
 · exact ⟨none, 0, [], rfl, Nat.le_refl _, Nat.zero_le _, Kd.C_nil d w, fun y hy => by simp at hy⟩
 · have each : ∀ i, i < len → ∃ (cs : List Value) (y : α), w.cells? base (a.add (i * P.cellsOf e)) (P.cellsOf e) = some cs ∧ d.K w y cs ∧ okv y := fun i hi => by
    have h1 := hel i hi
    obtain ⟨z, hz⟩ : ∃ z, elems[i]? = some z := ⟨elems[i], List.getElem?_eq_getElem (by omega)⟩
    rw [hz, Option.bind_eq_some_iff] at h1
    obtain ⟨cs, h2, h3⟩ := h1
    obtain ⟨y, hy, hk⟩ := ih n cs z (Nat.lt_succ_self _) h3 (by
     have hm : z.1 ∈ elems.map (·.1) := List.mem_map_of_mem (List.mem_of_getElem? hz)
     have := mem_le_bulk hm
     replace hbulk : Rows.uptoBulk (DataW.slice (elems.map (·.1)) (rest.map (·.1))) ≤ 1048576 := hbulk
     rw [Rows.uptoBulk] at hbulk
     omega)
    exact ⟨cs, y, h2, hy, hk⟩
   have pick : ∀ m, m ≤ len → ∃ ys : List α, ys.length = m ∧ ∀ i y, ys[i]? = some y → (∃ cs, w.cells? base (a.add (i * P.cellsOf e)) (P.cellsOf e) = some cs ∧ d.K w y cs) ∧ okv y := by
    intro m
    induction m with
    | zero => exact fun _ => ⟨[], rfl, fun i y hy => by simp at hy⟩
    | succ m ihm =>
     intro hm
     obtain ⟨ys, hy1, hy2⟩ := ihm (by omega)
     obtain ⟨cs, y, h1, h2, h3⟩ := each m (by omega)
     refine ⟨ys ++ [y], by simp [hy1], fun i z hz => ?_⟩
     rcases Nat.lt_or_ge i m with hi | hi
     · rw [List.getElem?_append_left (by omega)] at hz
       exact hy2 i z hz
     · rw [List.getElem?_append_right (by omega), hy1] at hz
       have : i = m := by
        rcases Nat.lt_or_ge m i with h | h
        · rw [List.getElem?_eq_none (by simp; omega)] at hz; simp at hz
        · omega
       subst this
       simp at hz
       subst hz
       exact ⟨⟨cs, h1, h2⟩, h3⟩
   obtain ⟨ys, hy1, hy2⟩ := pick len (Nat.le_refl _)
   have hll : len ≤ 1048576 := by
    have := length_le_bulk (elems.map (·.1))
    rw [List.length_map, hel0] at this
    replace hbulk : Rows.uptoBulk (DataW.slice (elems.map (·.1)) (rest.map (·.1))) ≤ 1048576 := hbulk
    rw [Rows.uptoBulk] at hbulk
    omega
   refine ⟨some a, cap, ys, by rw [hy1], by omega, by omega, ⟨rfl, by unfold maxLen at hm; omega, fun _ => ⟨a, rfl, fun j p hj => ?_⟩⟩, fun y hy => ?_⟩
   · obtain ⟨⟨cs, h1, h2⟩, _⟩ := hy2 j p hj
     obtain ⟨_, h4, h5⟩ := World.cells?_some h1
     refine ⟨cs, by rw [hsz]; exact h4, h2, fun i u hu => ?_⟩
     have hi : i < P.cellsOf e := by have := (List.getElem?_eq_some_iff.1 hu).1; omega
     have := h5 i hi
     rw [hu] at this
     rw [← this, hsz, Addr.add_add]
   · obtain ⟨i, hi⟩ := List.getElem?_of_mem hy
     exact (hy2 i y hi).2
end
theorem field_at {H : Type} {enc : TypeId × Value → H} {P : Program} {w : World} {base : Nat} {spare : Nat → Bool} {held : Bool} {n : Nat} {cs : List Value} {xs : List (DataW H × List MemPlace)} {fs : Array Field}
 (hf : ∀ (i : Nat) (f : Field), fs[i]? = some f → DataW.trod enc P w base spare held n f.type ((cs.drop f.offset).take (P.cellsOf f.type)) = xs[i]?) (i t off k : Nat) (h : (fs[i]?).map (fun f => (f.type, f.offset)) = some (t, off)) (hk : P.cellsOf t = k) :
 DataW.trod enc P w base spare held n t ((cs.drop off).take k) = xs[i]? := by
 obtain ⟨f, h1, h2⟩ := Option.map_eq_some_iff.1 h
 simp only [Prod.mk.injEq] at h2
 obtain ⟨rfl, rfl⟩ := h2
 subst hk
 exact hf i f h1
section
variable {H : Type} {enc : TypeId × Value → H} {w : World} {base : Nat} {spare : Nat → Bool} {held : Bool}
theorem open_val : ∀ (fuel : Nat) (cs : List Value) (x : DataW H × List MemPlace), DataW.trod enc Tryz.prog w base spare held fuel 28 cs = some x → Rows.uptoBulk x.1 ≤ 1048576 → ∃ y : S28, k28.K w y cs ∧ OkV y := by
 intro fuel
 induction fuel using Nat.strongRecOn with
 | _ fuel ih =>
  intro cs x h hbulk
  obtain ⟨xs, n, rfl, rfl, hlen, hxl, hf⟩ := DataW.trod_struct Tryz.underlying28 h
  replace hbulk : Rows.uptoBulk (DataW.agg (xs.map (·.1))) ≤ 1048576 := hbulk
  rw [Rows.uptoBulk] at hbulk
  have part : ∀ (i : Nat) y, xs[i]? = some y → Rows.uptoBulk y.1 ≤ 1048576 := fun i y hy => by
   have := mem_le_bulk (List.mem_map_of_mem (f := (·.1)) (List.mem_of_getElem? hy))
   omega
  have hsz : Tryz.prog.cellsOf 28 = 7 := by kernel_rfl
  rw [hsz] at hlen
  obtain ⟨c0, c1, c2, c3, c4, c5, c6, rfl⟩ := list7 hlen
  have e3 : Tryz.prog.cellsOf 3 = 1 := by kernel_rfl
  have e24 : Tryz.prog.cellsOf 24 = 3 := by kernel_rfl
  have e9 : Tryz.prog.cellsOf 9 = 1 := by kernel_rfl
  have e25 : Tryz.prog.cellsOf 25 = 1 := by kernel_rfl
  have e26 : Tryz.prog.cellsOf 26 = 1 := by kernel_rfl
  have q0 : DataW.trod enc Tryz.prog w base spare held n 3 [c0] = xs[0]? := field_at hf 0 3 0 1 rfl e3
  have q1 : DataW.trod enc Tryz.prog w base spare held n 24 [c1, c2, c3] = xs[1]? := field_at hf 1 24 1 3 rfl e24
  have q2 : DataW.trod enc Tryz.prog w base spare held n 9 [c4] = xs[2]? := field_at hf 2 9 4 1 rfl e9
  have q3 : DataW.trod enc Tryz.prog w base spare held n 25 [c5] = xs[3]? := field_at hf 3 25 5 1 rfl e25
  have q4 : DataW.trod enc Tryz.prog w base spare held n 26 [c6] = xs[4]? := field_at hf 4 26 6 1 rfl e26
  obtain ⟨y0, g0⟩ : ∃ y, xs[0]? = some y := ⟨xs[0]'(by rw [hxl]; decide), List.getElem?_eq_getElem _⟩
  obtain ⟨y1, g1⟩ : ∃ y, xs[1]? = some y := ⟨xs[1]'(by rw [hxl]; decide), List.getElem?_eq_getElem _⟩
  obtain ⟨y2, g2⟩ : ∃ y, xs[2]? = some y := ⟨xs[2]'(by rw [hxl]; decide), List.getElem?_eq_getElem _⟩
  obtain ⟨y3, g3⟩ : ∃ y, xs[3]? = some y := ⟨xs[3]'(by rw [hxl]; decide), List.getElem?_eq_getElem _⟩
  obtain ⟨y4, g4⟩ : ∃ y, xs[4]? = some y := ⟨xs[4]'(by rw [hxl]; decide), List.getElem?_eq_getElem _⟩
  rw [g0] at q0
  rw [g1] at q1
  rw [g2] at q2
  rw [g3] at q3
  rw [g4] at q4
  obtain ⟨n0, p0, _, w0⟩ := DataW.trod_int Tryz.underlying3 q0
  obtain ⟨s, p2, hy2, _⟩ := DataW.trod_string Tryz.underlying9 q2
  have w2 : s.size ≤ 1073741824 := by
   have := part _ _ g2
   rw [hy2] at this
   replace this : Rows.uptoBulk (DataW.lit (.string s.data.toList) : DataW H) ≤ 1048576 := this
   rw [Rows.uptoBulk, Array.length_toList] at this
   have : s.size = s.data.size := rfl
   omega
  obtain ⟨zs, m, rfl, hy1, _, hzl, hz⟩ := DataW.trod_struct Tryz.underlying24 q1
  have e4 : Tryz.prog.cellsOf 4 = 1 := by kernel_rfl
  have e22 : Tryz.prog.cellsOf 22 = 1 := by kernel_rfl
  have r0 : DataW.trod enc Tryz.prog w base spare held m 4 [c1] = zs[0]? := field_at hz 0 4 0 1 rfl e4
  have r1 : DataW.trod enc Tryz.prog w base spare held m 22 [c2] = zs[1]? := field_at hz 1 22 1 1 rfl e22
  have r2 : DataW.trod enc Tryz.prog w base spare held m 3 [c3] = zs[2]? := field_at hz 2 3 2 1 rfl e3
  obtain ⟨z0, t0⟩ : ∃ y, zs[0]? = some y := ⟨zs[0]'(by rw [hzl]; decide), List.getElem?_eq_getElem _⟩
  obtain ⟨z1, t1⟩ : ∃ y, zs[1]? = some y := ⟨zs[1]'(by rw [hzl]; decide), List.getElem?_eq_getElem _⟩
  obtain ⟨z2, t2⟩ : ∃ y, zs[2]? = some y := ⟨zs[2]'(by rw [hzl]; decide), List.getElem?_eq_getElem _⟩
  rw [t0] at r0
  rw [t1] at r1
  rw [t2] at r2
  have hb1 := part _ _ g1
  rw [hy1] at hb1
  replace hb1 : Rows.uptoBulk (DataW.agg (zs.map (·.1))) ≤ 1048576 := hb1
  rw [Rows.uptoBulk] at hb1
  have hbz : Rows.uptoBulk z1.1 ≤ 1048576 := by
   have := mem_le_bulk (List.mem_map_of_mem (f := (·.1)) (List.mem_of_getElem? t1))
   omega
  obtain ⟨b, b0, _⟩ := DataW.trod_bool Tryz.underlying4 r0
  obtain ⟨ex, b2, _, w3⟩ := DataW.trod_int Tryz.underlying3 r2
  obtain ⟨A1, k1, co, b1, l1, m1, C1, ok1⟩ := open_row (d := Kd.int .u32) (okv := fun n => (Lit.int .u32 n).wf = true) Tryz.underlying22 (by kernel_rfl) (fun n cs x _ hx _ => by
   obtain ⟨v, rfl, _, hv⟩ := DataW.trod_int Tryz.underlying131 hx
   exact ⟨v, rfl, hv⟩) hbz r1
  obtain ⟨A3, k3, li, b3, l3, m3, C3, ok3⟩ := open_row (d := k28) (okv := OkV) Tryz.underlying25 (by rw [hsz]; rfl) (fun n cs x hn hx hb => ih n (by omega) cs x hx hb) (part _ _ g3) q3
  obtain ⟨A4, k4, ke, b4, l4, m4, C4, ok4⟩ := open_row (d := Kd.string) (okv := fun s => s.size ≤ 1073741824) Tryz.underlying26 (by kernel_rfl) (fun n cs x _ hx hb => by
   obtain ⟨v, rfl, rfl, hv⟩ := DataW.trod_string Tryz.underlying9 hx
   replace hb : Rows.uptoBulk (DataW.lit (.string v.data.toList) : DataW H) ≤ 1048576 := hb
   rw [Rows.uptoBulk, Array.length_toList] at hb
   exact ⟨v, rfl, by have : v.size = v.data.size := rfl; omega⟩) (part _ _ g4) q4
  simp only [List.cons.injEq, and_true] at p0 p2 b0 b1 b2 b3 b4
  subst p0 p2 b0 b1 b2 b3 b4
  exact ⟨⟨n0, ⟨b, co, ex⟩, s, li, ke⟩, k28_mk w ⟨n0, ⟨b, co, ex⟩, s, li, ke⟩ l1 C1 l3 C3 l4 C4, OkV.mk _ w0 ok1 w3 w2 ok4 (by simp only; omega) (by simp only; omega) (by simp only; omega) ok3⟩
end
end Go.Proofs.YthigbklhngihkaaGreatDoor.P

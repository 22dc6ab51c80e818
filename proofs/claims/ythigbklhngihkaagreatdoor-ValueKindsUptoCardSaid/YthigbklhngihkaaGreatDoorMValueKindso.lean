import Derived.Test.YthigbklhngihkaaGreatDoorMValueKindsn
set_option linter.unusedVariables false
set_option linter.unusedSimpArgs false
set_option maxRecDepth 100000
namespace Go.Proofs.YthigbklhngihkaaGreatDoor.P
open Go.RowKit Go.Proofs.YthigbklhngihkaaGreatDoorW.PrintWords Go.Proofs.YthigbklhngihkaaGreatDoorW.PrintMore Go.Proofs.YthigbklhngihkaaGreatDoorW.PrintLast
structure MergeArgs (w0 : World) (g : Nat) (U : PEl → Prop) (A X Y B : List PEl) (N : Nat) (W : World) : Prop where
 nx : X ≠ []
 ny : Y ≠ []
 hN : N = (A ++ X ++ Y ++ B).length
 hU : ∀ e ∈ X ++ Y, U e
 sx : X.Pairwise elt
 sy : Y.Pairwise elt
 tags : ∀ x ∈ X, ∀ y ∈ Y, x.tag < y.tag
 sw : SW w0 g (A ++ X ++ Y ++ B) W
def MergeDone (w0 : World) (g : Nat) (A X Y B : List PEl) (w' : World) : Prop := ∃ S', S'.Perm (X ++ Y) ∧ S'.Pairwise elt ∧ SW w0 g (A ++ S' ++ B) w'
def MergeCalls (w0 : World) (g cb : Nat) (U : PEl → Prop) (n : Nat) : Prop := ∀ (A X Y B : List PEl) (N cap : Nat) (W : World), X.length + Y.length ≤ n → N ≤ 1048576 → MergeArgs w0 g U A X Y B N W →
 Calls Tryz.prog 199 #[.slice (some ⟨g, 0, none⟩) N cap, .int .i64 A.length, .int .i64 (A.length + X.length : Nat), .int .i64 (A.length + X.length + Y.length : Nat), .func (.func 120) #[] #[.pointer (some ⟨cb, 0, none⟩)]] W fun e w' => e = .returned (.tuple #[]) ∧ MergeDone w0 g A X Y B w'
def St1 (w0 : World) (g : Nat) (A X Y B : List PEl) (i j : Nat) (W : World) : Prop := SW w0 g (A ++ X.take i ++ Y.take j ++ X.drop i ++ Y.drop j ++ B) W
def St2 (w0 : World) (g : Nat) (A X Y B : List PEl) (i j : Nat) (W : World) : Prop := ∃ S1 : List PEl, S1.Perm (X.take i ++ Y.take j) ∧ S1.Pairwise elt ∧ SW w0 g (A ++ S1 ++ X.drop i ++ Y.drop j ++ B) W
theorem st3 {w0 : World} {g : Nat} {A X Y B S1 S2 : List PEl} {i j : Nat} {W : World} (h1 : S1.Perm (X.take i ++ Y.take j)) (p1 : S1.Pairwise elt) (h2 : S2.Perm (X.drop i ++ Y.drop j)) (p2 : S2.Pairwise elt) (hc : ∀ u ∈ X.take i ++ Y.take j, ∀ v ∈ X.drop i ++ Y.drop j, elt u v) (h : SW w0 g (A ++ S1 ++ S2 ++ B) W) : MergeDone w0 g A X Y B W := by
 refine ⟨S1 ++ S2, ?_, List.pairwise_append.2 ⟨p1, p2, fun u hu v hv => hc u (h1.mem_iff.1 hu) v (h2.mem_iff.1 hv)⟩, by simpa using h⟩
 refine (h1.append h2).trans ?_
 have e : X ++ Y = (X.take i ++ X.drop i) ++ (Y.take j ++ Y.drop j) := by rw [List.take_append_drop, List.take_append_drop]
 rw [e]
 simp only [List.append_assoc]
 refine List.Perm.append_left _ ?_
 rw [← List.append_assoc, ← List.append_assoc]
 exact List.Perm.append_right _ List.perm_append_comm
theorem tri (p q : Prop) : (p ∧ q) ∨ (p ∧ ¬ q) ∨ ¬ p := by by_cases hp : p <;> by_cases hq : q <;> simp [hp, hq]
theorem len4 (A X Y B : List PEl) (i j : Nat) (S : List PEl) (h : S.length = (X.take i ++ Y.take j).length) : (A ++ S ++ X.drop i ++ Y.drop j ++ B).length = (A ++ X ++ Y ++ B).length := by
 simp only [List.length_append, List.length_take, List.length_drop] at h ⊢
 omega
set_option maxHeartbeats 4000000 in
theorem symMerge_step (w0 : World) (g cb : Nat) (U : PEl → Prop) (hg : g < w0.heap.size) (hcmp : CmpIn w0 g cb U) (n : Nat) (ih : MergeCalls w0 g cb U n) (A X Y B : List PEl) (N cap : Nat) (W : World) (hn : X.length + Y.length ≤ n + 1) (hcap : N ≤ 1048576) (h2x : 2 ≤ X.length) (h2y : 2 ≤ Y.length) (hM : MergeArgs w0 g U A X Y B N W) :
 Calls Tryz.prog 199 #[.slice (some ⟨g, 0, none⟩) N cap, .int .i64 A.length, .int .i64 (A.length + X.length : Nat), .int .i64 (A.length + X.length + Y.length : Nat), .func (.func 120) #[] #[.pointer (some ⟨cb, 0, none⟩)]] W fun e w' => e = .returned (.tuple #[]) ∧ MergeDone w0 g A X Y B w' := by
 obtain ⟨a, ha⟩ : ∃ a, a = A.length := ⟨_, rfl⟩
 obtain ⟨m, hm⟩ : ∃ m, m = A.length + X.length := ⟨_, rfl⟩
 obtain ⟨b, hb⟩ : ∃ b, b = A.length + X.length + Y.length := ⟨_, rfl⟩
 obtain ⟨md, hmd⟩ : ∃ md, md = (a + b) / 2 := ⟨_, rfl⟩
 obtain ⟨nn, hnn⟩ : ∃ nn, nn = md + m := ⟨_, rfl⟩
 rw [← hb, ← hm, ← ha]
 have hbN : b ≤ N := by rw [hM.hN]; simp only [List.length_append]; omega
 have hmx : m = a + X.length := by omega
 have hby : b = m + Y.length := by omega
 have c1 : ((m : Int) - (a : Int) == 1) = false := by simp; omega
 have c2 : ((b : Int) - (m : Int) == 1) = false := by simp; omega
 have c3 : ((a : Int) + (b : Int)) / 2 = (md : Int) := by omega
 have c4 : (md : Int) + (m : Int) = (nn : Int) := by omega
 have c5 : (nn : Int) - 1 = ((nn - 1 : Nat) : Int) := by omega
 have bnd : (a : Int) + (b : Int) ≤ 2097152 ∧ (md : Int) ≤ 1048576 ∧ (m : Int) ≤ 1048576 ∧ (b : Int) ≤ 1048576 ∧ (nn : Int) ≤ 2097152 ∧ (0 : Int) ≤ (md : Int) := ⟨by omega, by omega, by omega, by omega, by omega, by omega⟩
 obtain ⟨bnd1, bnd2, bnd3, bnd4, bnd5, bnd6⟩ := bnd
 have HSPAN : ∃ s0 r0 : Nat, ((md < m ∧ nn = b + s0 ∧ r0 = md) ∨ (¬ md < m ∧ s0 = a ∧ r0 = m)) ∧ Span X Y a m nn s0 r0 := by
  by_cases hlt : md < m
  · exact ⟨nn - b, md, .inl ⟨hlt, by omega, rfl⟩, hM.sx, hM.sy, hM.tags, hmx, fun c h1 h2 => ⟨by omega, by omega, by omega, by omega⟩, by omega, ⟨by omega, by omega, .inr (by omega)⟩, ⟨by omega, by omega, .inr (by omega)⟩⟩
  · exact ⟨a, m, .inr ⟨hlt, rfl, rfl⟩, hM.sx, hM.sy, hM.tags, hmx, fun c h1 h2 => ⟨by omega, by omega, by omega, by omega⟩, by omega, ⟨by omega, by omega, .inl rfl⟩, ⟨by omega, by omega, .inl rfl⟩⟩
 obtain ⟨s0, r0, hsr, hspan⟩ := HSPAN
 have HFIN : Hid (∀ s, s0 ≤ s → s ≤ r0 → Cut X Y a m nn s0 r0 s s → a ≤ s ∧ s ≤ m ∧ s + m ≤ nn ∧ nn ≤ b + s ∧ s ≤ md ∧ md + m = nn ∧ (∀ u ∈ X.take (s - a) ++ Y.take (nn - s - m), ∀ v ∈ X.drop (s - a) ++ Y.drop (nn - s - m), elt u v)) := Lib.hid (fun s h1 h2 hk => by
  have e1 := hspan.bot
  have e2 := hspan.top
  exact ⟨by omega, by omega, by omega, by omega, by omega, hnn.symm, hk.final hspan h1 h2⟩)
 have HM := Lib.hid hM
 have HIH := Lib.hid ih
 have HSP := Lib.hid hspan
 have HCMP := Lib.hid hcmp
 have HA := Lib.hid ha
 have HMX := Lib.hid hmx
 have HBY := Lib.hid hby
 have HNNl := Lib.hid hn
 have HN := Lib.hid hM.hN
 have hu := Tryz.underlying102
 have h0r := hspan.le
 have hrm : r0 ≤ m := hspan.top.1
 have H2 : Hid (2 ≤ X.length ∧ 2 ≤ Y.length) := Lib.hid ⟨h2x, h2y⟩
 clear hb ha hm hM ih hspan hcmp hmx hby hn h2x h2y hmd hnn
 rcases hsr with ⟨k1, k2, k3⟩ | ⟨k1, k2, k3⟩
 all_goals
  first | have k4 : (nn : Int) - (b : Int) = (s0 : Int) := by omega | skip
  first | have k5 : (md : Int) < (m : Int) := by omega | have k5 : ¬ (md : Int) < (m : Int) := by omega
  have K2 := Lib.hid k2
  have K3 := Lib.hid k3
  clear k2 k3
  go_enter Tryz.func199, Tryz.ntmps199
  go_wp2
  go_loopw [20, 21] (fun vs vr wr => ∃ s r : Nat, vs = .int .i64 s ∧ vr = .int .i64 r ∧ s0 ≤ s ∧ s ≤ r ∧ r ≤ r0 ∧ Hid (Cut X Y a m nn s0 r0 s r) ∧ Hid (SW w0 g (A ++ X ++ Y ++ B) wr)) (fun vs vr _ => (intOf vr).toNat - (intOf vs).toNat)
  case atStart => exact ⟨s0, r0, by first | rfl | (rw [k4]) | (rw [K2.out]), by first | rfl | (rw [K3.out]), Nat.le_refl _, h0r, Nat.le_refl _, Lib.hid ⟨fun c h1 h2 => absurd h2 (by omega), fun c h1 h2 => absurd h2 (by omega)⟩, HM.out.sw⟩
  case round =>
   obtain ⟨s, r, rfl, rfl, hs0, hsr, hrr, HC, HS⟩ := hrel
   by_cases hlt : s < r
   · obtain ⟨c, hce⟩ : ∃ c, c = (s + r) / 2 := ⟨_, rfl⟩
     have hc1 : s ≤ c ∧ c < r := by omega
     have ha4 := HSP.out.at_ c (by omega) (by omega)
     obtain ⟨pc, hpc⟩ : ∃ pc, pc = nn - 1 - c := ⟨_, rfl⟩
     have c6 : ((s : Int) + (r : Int)) / 2 = (c : Int) := by omega
     have c7 : ((nn - 1 : Nat) : Int) - (c : Int) = (pc : Int) := by omega
     obtain ⟨x, hx⟩ : ∃ x, x = X.getD (c - a) zP := ⟨_, rfl⟩
     obtain ⟨y, hy⟩ : ∃ y, y = Y.getD (nn - 1 - c - m) zP := ⟨_, rfl⟩
     have hlx : c - a < X.length := by have := HMX.out; omega
     have hly : nn - 1 - c - m < Y.length := by omega
     have hxm : x ∈ X := by rw [hx]; exact getD_mem hlx
     have hym : y ∈ Y := by rw [hy]; exact getD_mem hly
     have hS := HS.out.drew
     have hx1 : (A ++ X ++ Y ++ B)[c]? = some x := by
      rw [List.append_assoc, List.append_assoc, List.getElem?_append_right (by rw [← HA.out]; omega), List.getElem?_append_left (by rw [← HA.out]; omega), hx, ← HA.out, List.getD_eq_getElem?_getD, List.getElem?_eq_getElem hlx]; rfl
     have hy1 : (A ++ X ++ Y ++ B)[pc]? = some y := by
      have hl : (A ++ X).length = m := by rw [List.length_append, ← HA.out]; exact HMX.out.symm
      rw [List.append_assoc, List.getElem?_append_right (by rw [hl]; omega), List.getElem?_append_left (by rw [hl]; omega), hl, hy, show pc - m = nn - 1 - c - m by omega, List.getD_eq_getElem?_getD, List.getElem?_eq_getElem hly]; rfl
     have r1 := hS.at_ _ _ hy1
     have r2 := hS.at_ _ _ hx1
     have i1 := info_pair _ (hS.ok y (List.mem_of_getElem? hy1)).len
     have i2 := info_pair _ (hS.ok x (List.mem_of_getElem? hx1)).len
     have HKD := Lib.hid hS.keep
     have HCC : Hid (∀ W, KeepG w0 g W → Calls Tryz.prog 120 #[.agg y.row.toArray, .agg x.row.toArray, .pointer (some ⟨cb, 0, none⟩)] W fun e w' => e = .returned (.int .i64 (vord y.key x.key)) ∧ Below W.heap.size W w') := Lib.hid (fun W hW => HCMP.out W hW y x (HM.out.hU y (List.mem_append_right _ hym)) (HM.out.hU x (List.mem_append_left _ hxm)))
     have q1 : (0 : Int) ≤ (pc : Int) := by omega
     have q2 : (pc : Int) < (N : Int) := by have := HBY.out; omega
     have q3 : (0 : Int) ≤ (c : Int) := by omega
     have q4 : (c : Int) < (N : Int) := by omega
     have q5 : (s : Int) + (r : Int) ≤ 4194304 := by omega
     have q6 : IntKind.i64.wrap (pc : Int) = (pc : Int) := by rw [wrap_in _ (by omega)]
     have HUP : Hid (¬ vord y.key x.key < 0 → Cut X Y a m nn s0 r0 (c + 1) r) := Lib.hid (fun h => HC.out.up HSP.out (by omega) (by omega) (by unfold Pr; rw [← hx, ← hy]; exact h))
     have HDN : Hid (vord y.key x.key < 0 → Cut X Y a m nn s0 r0 s c) := Lib.hid (fun h => HC.out.down HSP.out (by omega) (by omega) (by unfold Pr; rw [← hx, ← hy]; exact h))
     clear hce hx hy hlx hly hxm hym hS hx1 hy1 hpc ha4 HC
     by_cases hc : vord y.key x.key < 0
     · go_upto_region 35 with (fail)
       refine wp_region_any (by kernel_rfl) ?_
       change wpAny _ _ _ _ _ _ _ (World.drew _)
       refine tq 0 (h := ?_)
       refine tq 1 (h := ?_)
       simp only [lst]
       refine tq 2 (h := ?_)
       refine tq 3 (h := ?_)
       simp only [lst]
       refine tq 4 (h := ?_)
       refine tq 5 (h := ?_)
       simp only [lst]
       refine tq 7 (h := ?_)
       refine tq 8 (h := ?_)
       simp only [lst]
       refine tq 9 (h := ?_)
       simp only [lst]
       refine two 6 10 rfl rfl (by kernel_rfl) (by rfl) (by rfl) (fun K_ hK_ => ?_) (fun K_ hK_ => ?_)
       refine wp_load_mid _ _ rfl _ _ rfl _ _ r1 hu rfl i1 ?_
       refine hK_ _ _ ?_
       clear hK_ K_
       simp only [Act.put, lgt, List.setIfInBounds_toArray, lst]
       refine one 10 rfl (by kernel_rfl) (by rfl) fun K_ hK_ => ?_
       refine wp_load_mid _ _ rfl _ _ rfl _ _ r2 hu rfl i2 ?_
       refine hK_ _ _ ?_
       clear hK_ K_
       simp only [Act.put, lgt, List.setIfInBounds_toArray, lst]
       refine one 11 rfl (by kernel_rfl) (by rfl) fun K_ hK_ => ?_
       simp only [lgt]
       go_simp
       refine (HCC.out _ HKD.out).mono ?_
       rintro e_ w5 ⟨rfl, hB5⟩
       have HB5 := Lib.hid hB5
       clear hB5
       simp only [Oper.upon]
       refine hK_ _ _ ?_
       clear hK_ K_
       refine tq 12 (h := ?_)
       refine tq 13 (h := ?_)
       refine wpAny_done (by kernel_rfl) ?_ _
       simp only [lst]
       rotate_left
       refine wp_load_mid _ _ rfl _ _ rfl _ _ r2 hu rfl i2 ?_
       refine hK_ _ _ ?_
       clear hK_ K_
       simp only [Act.put, lgt, List.setIfInBounds_toArray, lst]
       refine one 6 rfl (by kernel_rfl) (by rfl) fun K_ hK_ => ?_
       refine wp_load_mid _ _ rfl _ _ rfl _ _ r1 hu rfl i1 ?_
       refine hK_ _ _ ?_
       clear hK_ K_
       simp only [Act.put, lgt, List.setIfInBounds_toArray, lst]
       refine one 11 rfl (by kernel_rfl) (by rfl) fun K_ hK_ => ?_
       simp only [lgt]
       go_simp
       refine (HCC.out _ HKD.out).mono ?_
       rintro e_ w5 ⟨rfl, hB5⟩
       have HB5 := Lib.hid hB5
       clear hB5
       simp only [Oper.upon]
       refine hK_ _ _ ?_
       clear hK_ K_
       refine tq 12 (h := ?_)
       refine tq 13 (h := ?_)
       refine wpAny_done (by kernel_rfl) ?_ _
       simp only [lst]
       rotate_left
       all_goals
        clear r1 r2 i1 i2 HCC HKD q1 q2 q3 q4 q6 c7
        have HS5 := Lib.hid (HS.out.drew.grow hg HB5.out)
        have HC2 := Lib.hid (HDN.out hc)
        clear c6
        go_wp2_with fail
        go_roundw
        case rel => exact ⟨s, c, rfl, rfl, hs0, hc1.1, by omega, HC2, HS5⟩
        case measure => show c - s < r - s; omega
     · go_upto_region 35 with (fail)
       refine wp_region_any (by kernel_rfl) ?_
       change wpAny _ _ _ _ _ _ _ (World.drew _)
       refine tq 0 (h := ?_)
       refine tq 1 (h := ?_)
       simp only [lst]
       refine tq 2 (h := ?_)
       refine tq 3 (h := ?_)
       simp only [lst]
       refine tq 4 (h := ?_)
       refine tq 5 (h := ?_)
       simp only [lst]
       refine tq 7 (h := ?_)
       refine tq 8 (h := ?_)
       simp only [lst]
       refine tq 9 (h := ?_)
       simp only [lst]
       refine two 6 10 rfl rfl (by kernel_rfl) (by rfl) (by rfl) (fun K_ hK_ => ?_) (fun K_ hK_ => ?_)
       refine wp_load_mid _ _ rfl _ _ rfl _ _ r1 hu rfl i1 ?_
       refine hK_ _ _ ?_
       clear hK_ K_
       simp only [Act.put, lgt, List.setIfInBounds_toArray, lst]
       refine one 10 rfl (by kernel_rfl) (by rfl) fun K_ hK_ => ?_
       refine wp_load_mid _ _ rfl _ _ rfl _ _ r2 hu rfl i2 ?_
       refine hK_ _ _ ?_
       clear hK_ K_
       simp only [Act.put, lgt, List.setIfInBounds_toArray, lst]
       refine one 11 rfl (by kernel_rfl) (by rfl) fun K_ hK_ => ?_
       simp only [lgt]
       go_simp
       refine (HCC.out _ HKD.out).mono ?_
       rintro e_ w5 ⟨rfl, hB5⟩
       have HB5 := Lib.hid hB5
       clear hB5
       simp only [Oper.upon]
       refine hK_ _ _ ?_
       clear hK_ K_
       refine tq 12 (h := ?_)
       refine tq 13 (h := ?_)
       refine wpAny_done (by kernel_rfl) ?_ _
       simp only [lst]
       rotate_left
       refine wp_load_mid _ _ rfl _ _ rfl _ _ r2 hu rfl i2 ?_
       refine hK_ _ _ ?_
       clear hK_ K_
       simp only [Act.put, lgt, List.setIfInBounds_toArray, lst]
       refine one 6 rfl (by kernel_rfl) (by rfl) fun K_ hK_ => ?_
       refine wp_load_mid _ _ rfl _ _ rfl _ _ r1 hu rfl i1 ?_
       refine hK_ _ _ ?_
       clear hK_ K_
       simp only [Act.put, lgt, List.setIfInBounds_toArray, lst]
       refine one 11 rfl (by kernel_rfl) (by rfl) fun K_ hK_ => ?_
       simp only [lgt]
       go_simp
       refine (HCC.out _ HKD.out).mono ?_
       rintro e_ w5 ⟨rfl, hB5⟩
       have HB5 := Lib.hid hB5
       clear hB5
       simp only [Oper.upon]
       refine hK_ _ _ ?_
       clear hK_ K_
       refine tq 12 (h := ?_)
       refine tq 13 (h := ?_)
       refine wpAny_done (by kernel_rfl) ?_ _
       simp only [lst]
       rotate_left
       all_goals
        clear r1 r2 i1 i2 HCC HKD q1 q2 q3 q4 q6 c7
        have HS5 := Lib.hid (HS.out.drew.grow hg HB5.out)
        have HC2 := Lib.hid (HUP.out hc)
        have hw : (c : Int) + 1 ≤ 1048576 := by omega
        clear c6
        go_wp2_with fail
        go_roundw
        case rel => exact ⟨c + 1, r, by first | rfl | exact congrArg (Value.int .i64) (wrap64_up c (by omega)), rfl, by omega, by omega, hrr, HC2, HS5⟩
        case measure => first | (rw [wrap64_up c (by omega)]; show r - (c + 1) < r - s; omega) | (show r - (c + 1) < r - s; omega)
   · obtain rfl : s = r := by omega
     obtain ⟨f1, f2, f3, f4, f5, f6, hcut⟩ := HFIN.out s hs0 hrr HC.out
     obtain ⟨e, hee⟩ : ∃ e, e = nn - s := ⟨_, rfl⟩
     obtain ⟨i, hi⟩ : ∃ i, i = s - a := ⟨_, rfl⟩
     obtain ⟨j, hj⟩ : ∃ j, j = nn - s - m := ⟨_, rfl⟩
     rw [← hi, ← hj] at hcut
     have c8 : (nn : Int) - (s : Int) = (e : Int) := by omega
     have b1 : m ≤ e ∧ e ≤ b ∧ e = m + j ∧ s = a + i ∧ md = a + i + j ∧ i ≤ X.length ∧ j ≤ Y.length := by
      have := HMX.out
      have := HBY.out
      exact ⟨by omega, by omega, by omega, by omega, by omega, by omega, by omega⟩
     have l1 : (X.take i).length = i := by rw [List.length_take]; omega
     have l2 : (X.drop i).length = X.length - i := List.length_drop
     have l3 : (Y.take j).length = j := by rw [List.length_take]; omega
     have l4 : (Y.drop j).length = Y.length - j := List.length_drop
     have HX1 : Hid ((X.take i).Pairwise elt ∧ (X.drop i).Pairwise elt ∧ (Y.take j).Pairwise elt ∧ (Y.drop j).Pairwise elt) := Lib.hid ⟨HM.out.sx.sublist (List.take_sublist _ _), HM.out.sx.sublist (List.drop_sublist _ _), HM.out.sy.sublist (List.take_sublist _ _), HM.out.sy.sublist (List.drop_sublist _ _)⟩
     have e0 : A ++ X ++ Y ++ B = A ++ X.take i ++ X.drop i ++ Y.take j ++ (Y.drop j ++ B) := by
      have e1 : A ++ X ++ Y ++ B = A ++ (X.take i ++ X.drop i) ++ (Y.take j ++ Y.drop j) ++ B := by rw [List.take_append_drop, List.take_append_drop]
      rw [e1]; simp only [List.append_assoc]
     have HS' := HS.out
     rw [e0] at HS'
     have HROT : Hid (s < m → m < e → Calls Tryz.prog 246 #[.slice (some ⟨g, 0, none⟩) N cap, .int .i64 s, .int .i64 m, .int .i64 e, .func (.func 120) #[] #[.pointer (some ⟨cb, 0, none⟩)]] wr fun e w' => e = .returned (.tuple #[]) ∧ St1 w0 g A X Y B i j w') := Lib.hid (fun h1 h2 => by
      have h := rotate_in w0 g (A ++ X.take i) (X.drop i) (Y.take j) (Y.drop j ++ B) N cap (.func (.func 120) #[] #[.pointer (some ⟨cb, 0, none⟩)]) wr (by intro e; rw [e] at l2; simp at l2; have := HMX.out; omega) (by intro e; rw [e] at l3; simp at l3; omega) (by rw [HN.out, e0]) hcap HS'
      have e2 : (A ++ X.take i).length = s := by rw [List.length_append, l1, ← HA.out]; omega
      rw [e2, l2, l3, show s + (X.length - i) = m by have := HMX.out; omega, show m + j = e by omega] at h
      refine h.mono ?_
      rintro e w' ⟨rfl, h3⟩
      exact ⟨rfl, by unfold St1; simp only [List.append_assoc] at h3 ⊢; exact h3⟩)
     have HE1 : Hid (¬ (s < m ∧ m < e) → St1 w0 g A X Y B i j wr) := Lib.hid (fun h => by
      unfold St1
      have hz : X.drop i = [] ∨ Y.take j = [] := by
       by_cases h1 : s < m
       · exact .inr (List.eq_nil_of_length_eq_zero (by rw [l3]; omega))
       · exact .inl (List.eq_nil_of_length_eq_zero (by rw [l2]; have := HMX.out; omega))
      rcases hz with hz | hz <;> rw [hz] at HS' ⊢ <;> simp only [List.append_assoc, List.append_nil, List.nil_append] at HS' ⊢ <;> exact HS')
     have HR1 : Hid (∀ w1, St1 w0 g A X Y B i j w1 → a < s → s < md → Calls Tryz.prog 199 #[.slice (some ⟨g, 0, none⟩) N cap, .int .i64 a, .int .i64 s, .int .i64 md, .func (.func 120) #[] #[.pointer (some ⟨cb, 0, none⟩)]] w1 fun e w' => e = .returned (.tuple #[]) ∧ St2 w0 g A X Y B i j w') := Lib.hid (fun w1 hw1 h1 h2 => by
      have h := HIH.out A (X.take i) (Y.take j) (X.drop i ++ Y.drop j ++ B) N cap w1 (by rw [l1, l3]; have := HNNl.out; have := H2.out; have := HMX.out; have := HBY.out; omega) hcap ⟨by intro e; rw [e] at l1; simp at l1; omega, by intro e; rw [e] at l3; simp at l3; omega, by rw [HN.out, ← len4 A X Y B i j (X.take i ++ Y.take j) rfl]; simp only [List.length_append]; omega, fun u hu => HM.out.hU u (by
       rcases List.mem_append.1 hu with hu | hu
       · exact List.mem_append_left _ (List.mem_of_mem_take hu)
       · exact List.mem_append_right _ (List.mem_of_mem_take hu)), HX1.out.1, HX1.out.2.2.1, fun u hu v hv => HM.out.tags u (List.mem_of_mem_take hu) v (List.mem_of_mem_take hv), by unfold St1 at hw1; simp only [List.append_assoc] at hw1 ⊢; exact hw1⟩
      rw [l1, l3, ← HA.out, show a + i = s by omega, show s + j = md by omega] at h
      refine h.mono ?_
      rintro e w' ⟨rfl, S1, p1, p2, p3⟩
      exact ⟨rfl, S1, p1, p2, by simp only [List.append_assoc] at p3 ⊢; exact p3⟩)
     have HE2 : Hid (∀ w1, St1 w0 g A X Y B i j w1 → ¬ (a < s ∧ s < md) → St2 w0 g A X Y B i j w1) := Lib.hid (fun w1 hw1 h => by
      refine ⟨X.take i ++ Y.take j, List.Perm.refl _, ?_, by unfold St1 at hw1; simp only [List.append_assoc] at hw1 ⊢; exact hw1⟩
      have hz : X.take i = [] ∨ Y.take j = [] := by
       by_cases h1 : a < s
       · exact .inr (List.eq_nil_of_length_eq_zero (by rw [l3]; omega))
       · exact .inl (List.eq_nil_of_length_eq_zero (by rw [l1]; omega))
      rcases hz with hz | hz <;> rw [hz]
      · rw [List.nil_append]; exact HX1.out.2.2.1
      · rw [List.append_nil]; exact HX1.out.1)
     have HR2 : Hid (∀ w2, St2 w0 g A X Y B i j w2 → md < e → e < b → Calls Tryz.prog 199 #[.slice (some ⟨g, 0, none⟩) N cap, .int .i64 md, .int .i64 e, .int .i64 b, .func (.func 120) #[] #[.pointer (some ⟨cb, 0, none⟩)]] w2 fun e w' => e = .returned (.tuple #[]) ∧ MergeDone w0 g A X Y B w') := Lib.hid (fun w2 hw2 h1 h2 => by
      obtain ⟨S1, p1, p2, p3⟩ := hw2
      have hsl : S1.length = i + j := by rw [p1.length_eq, List.length_append, l1, l3]
      have h := HIH.out (A ++ S1) (X.drop i) (Y.drop j) B N cap w2 (by rw [l2, l4]; have := HNNl.out; have := H2.out; have := HMX.out; have := HBY.out; omega) hcap ⟨by intro e; rw [e] at l2; simp at l2; have := HMX.out; omega, by intro e; rw [e] at l4; simp at l4; have := HBY.out; omega, by rw [HN.out, ← len4 A X Y B i j S1 p1.length_eq], fun u hu => HM.out.hU u (by
       rcases List.mem_append.1 hu with hu | hu
       · exact List.mem_append_left _ (List.mem_of_mem_drop hu)
       · exact List.mem_append_right _ (List.mem_of_mem_drop hu)), HX1.out.2.1, HX1.out.2.2.2, fun u hu v hv => HM.out.tags u (List.mem_of_mem_drop hu) v (List.mem_of_mem_drop hv), p3⟩
      rw [l2, l4, show (A ++ S1).length = md by rw [List.length_append, hsl, ← HA.out]; omega, show md + (X.length - i) = e by have := HMX.out; omega, show e + (Y.length - j) = b by have := HBY.out; omega] at h
      refine h.mono ?_
      rintro e w' ⟨rfl, S2, t1, t2, t3⟩
      exact ⟨rfl, st3 p1 p2 t1 t2 hcut t3⟩)
     have HE3 : Hid (∀ w2, St2 w0 g A X Y B i j w2 → ¬ (md < e ∧ e < b) → MergeDone w0 g A X Y B w2) := Lib.hid (fun w2 hw2 h => by
      obtain ⟨S1, p1, p2, p3⟩ := hw2
      refine st3 (S2 := X.drop i ++ Y.drop j) p1 p2 (List.Perm.refl _) ?_ hcut (by simp only [List.append_assoc] at p3 ⊢; exact p3)
      have hz : X.drop i = [] ∨ Y.drop j = [] := by
       by_cases h1 : md < e
       · exact .inr (List.eq_nil_of_length_eq_zero (by rw [l4]; have := HBY.out; omega))
       · exact .inl (List.eq_nil_of_length_eq_zero (by rw [l2]; have := HMX.out; omega))
      rcases hz with hz | hz <;> rw [hz]
      · rw [List.nil_append]; exact HX1.out.2.2.2
      · rw [List.append_nil]; exact HX1.out.2.1)
     clear hcut l1 l2 l3 l4 e0 HS' hee hi hj b1 f1 f2 f3 f4 f5 f6 HC hs0 hsr hrr hlt c3
     rcases tri ((s : Int) < (m : Int)) ((m : Int) < (e : Int)) with ⟨d1, d2⟩ | ⟨d1, d2⟩ | d1 <;> rcases tri ((a : Int) < (s : Int)) ((s : Int) < (md : Int)) with ⟨d3, d4⟩ | ⟨d3, d4⟩ | d3 <;> rcases tri ((md : Int) < (e : Int)) ((e : Int) < (b : Int)) with ⟨d5, d6⟩ | ⟨d5, d6⟩ | d5
     all_goals try (exfalso; omega)
     all_goals
      first | have HT1 := Lib.hid (HE1.out (by omega)) | skip
      go_wp2_with (first
       | (go_at_call 246; (with_reducible refine (HROT.out (by omega) (by omega)).mono ?_); rintro e w1 ⟨rfl, hT1⟩; have HT1 := Lib.hid hT1; clear hT1)
       | (go_at_call 199; (with_reducible refine (HR1.out _ HT1.out (by omega) (by omega)).mono ?_); rintro e w2 ⟨rfl, hT2⟩; have HT2 := Lib.hid hT2; clear hT2)
       | (go_at_call 199; (first | have HT2 := Lib.hid (HE2.out _ HT1.out (by omega)) | skip); (with_reducible refine (HR2.out _ HT2.out (by omega) (by omega)).mono ?_); rintro e w3 ⟨rfl, hT3⟩; have HT3 := Lib.hid hT3; clear hT3))
      all_goals first | have HT2 := Lib.hid (HE2.out _ HT1.out (by omega)) | skip
      all_goals first | have HT3 := Lib.hid (HE3.out _ HT2.out (by omega)) | skip
      all_goals (first | exact bodyPost_end (v := .tuple #[]) (by simp [results, Tryz.f199, go_sem]) rfl ⟨rfl, HT3.out⟩ | (refine bodyPost_ret (v := .tuple #[]) ?_ rfl ⟨rfl, HT3.out⟩ <;> simp [results, Tryz.f199, go_sem]))
theorem symMerge_in (w0 : World) (g cb : Nat) (U : PEl → Prop) (hg : g < w0.heap.size) (hcmp : CmpIn w0 g cb U) : ∀ n, MergeCalls w0 g cb U n := by
 intro n
 induction n with
 | zero =>
  intro A X Y B N cap W h _ hM
  have := List.length_pos_iff.2 hM.nx
  omega
 | succ n ih =>
  intro A X Y B N cap W h hcap hM
  have hx := List.length_pos_iff.2 hM.nx
  have hy := List.length_pos_iff.2 hM.ny
  by_cases h1 : X.length = 1
  · obtain ⟨x, rfl⟩ := List.length_eq_one_iff.1 h1
    refine (merge_one w0 g cb U hg hcmp A Y B x N cap W hM.hN hcap (fun e he => hM.hU e (by simpa using he)) hM.sy (fun y hy => hM.tags x List.mem_cons_self y hy) hM.sw).mono ?_
    rintro e w' ⟨rfl, h2⟩
    exact ⟨rfl, h2⟩
  · by_cases h2 : Y.length = 1
    · obtain ⟨y, rfl⟩ := List.length_eq_one_iff.1 h2
      refine (merge_last w0 g cb U hg hcmp A X B y N cap W hM.hN hcap (fun e he => hM.hU e (by
       rcases List.mem_cons.1 he with rfl | he
       · simp
       · exact List.mem_append_left _ he)) hM.sx (fun x hx => hM.tags x hx y List.mem_cons_self) (by omega) hM.sw).mono ?_
      rintro e w' ⟨rfl, h3⟩
      exact ⟨rfl, h3⟩
    · exact symMerge_step w0 g cb U hg hcmp n ih A X Y B N cap W h hcap (by omega) (by omega) hM
inductive BL (z : Nat) : List PEl → List PEl → Prop
 | last (o c : List PEl) : o.length ≤ z → c.Perm o → c.Pairwise elt → BL z o c
 | more (o1 c1 o c : List PEl) : o1.length = z → c1.Perm o1 → c1.Pairwise elt → BL z o c → BL z (o1 ++ o) (c1 ++ c)
theorem BL.perm {z : Nat} {o c : List PEl} (h : BL z o c) : c.Perm o := by
 induction h with
 | last o c _ h _ => exact h
 | more o1 c1 o c _ h1 _ _ ih => exact h1.append ih
def Done (z : Nat) (o1 c1 : List PEl) : Prop := ∀ o c, BL z o c → BL z (o1 ++ o) (c1 ++ c)
theorem Done.nil (z : Nat) : Done z [] [] := fun o c h => by simpa using h
theorem Done.snoc {z : Nat} {o1 c1 p s : List PEl} (h : Done z o1 c1) (hp : p.length = z) (hs : s.Perm p) (hss : s.Pairwise elt) : Done z (o1 ++ p) (c1 ++ s) := fun o c hb => by
 rw [List.append_assoc, List.append_assoc]
 exact h _ _ (.more p s o c hp hs hss hb)
theorem BL.whole {z : Nat} {o c : List PEl} (h : BL z o c) (hl : o.length ≤ z) : c.Perm o ∧ c.Pairwise elt := by
 refine ⟨h.perm, ?_⟩
 cases h with
 | last _ _ _ _ h => exact h
 | more o1 c1 o c h1 h2 h3 h4 =>
  rw [List.length_append] at hl
  obtain rfl : o = [] := List.eq_nil_of_length_eq_zero (by omega)
  have := h4.perm
  rw [List.perm_nil] at this
  rw [this, List.append_nil]
  exact h3
theorem BL.split {z : Nat} {o c : List PEl} (h : BL z o c) (hl : z < o.length) : ∃ o1 c1 o2 c2, o = o1 ++ o2 ∧ c = c1 ++ c2 ∧ o1.length = z ∧ c1.Perm o1 ∧ c1.Pairwise elt ∧ BL z o2 c2 := by
 cases h with
 | last _ _ h _ _ => omega
 | more o1 c1 o c h1 h2 h3 h4 => exact ⟨o1, c1, o, c, rfl, rfl, h1, h2, h3, h4⟩
theorem BL.first {z : Nat} {o c : List PEl} (h : BL z o c) (hl : z ≤ o.length) : ∃ o1 c1 o2 c2, o = o1 ++ o2 ∧ c = c1 ++ c2 ∧ o1.length = z ∧ c1.Perm o1 ∧ c1.Pairwise elt ∧ BL z o2 c2 := by
 cases h with
 | last _ _ h1 h2 h3 => exact ⟨o, c, [], [], by simp, by simp, by omega, h2, h3, .last _ _ (Nat.zero_le _) (List.Perm.refl _) List.Pairwise.nil⟩
 | more o1 c1 o c h1 h2 h3 h4 => exact ⟨o1, c1, o, c, rfl, rfl, h1, h2, h3, h4⟩
theorem tags_apart {p q X Y o : List PEl} (ht : (p ++ q ++ o).Pairwise (fun x y => x.tag < y.tag)) (hx : X.Perm p) (hy : Y.Perm q) : ∀ x ∈ X, ∀ y ∈ Y, x.tag < y.tag := fun x hx' y hy' => by
 have h1 := (List.pairwise_append.1 ht).1
 exact (List.pairwise_append.1 h1).2.2 x (hx.mem_iff.1 hx') y (hy.mem_iff.1 hy')
structure SortArgs (w0 : World) (g cb : Nat) (U : PEl → Prop) (O : List PEl) (N : Nat) : Prop where
 hg : g < w0.heap.size
 cmp : CmpIn w0 g cb U
 hN : N = O.length
 hcap : N ≤ 1048576
 hU : ∀ e ∈ O, U e
 tags : O.Pairwise (fun x y : PEl => x.tag < y.tag)
theorem Done.perm {z : Nat} {o c : List PEl} (h : Done z o c) : c.Perm o := by
 have := (h [] [] (.last _ _ (Nat.zero_le _) (List.Perm.refl _) List.Pairwise.nil)).perm
 simpa using this
theorem Done.len {z : Nat} {o c : List PEl} (h : Done z o c) : c.length = o.length := h.perm.length_eq
def InB (w0 : World) (g : Nat) (O : List PEl) (a : Nat) (W : World) : Prop := ∃ o1 c1 o2 : List PEl, O = o1 ++ o2 ∧ o1.length = a ∧ Done 20 o1 c1 ∧ SW w0 g (c1 ++ o2) W
theorem InB.drew {w0 : World} {g : Nat} {O : List PEl} {a : Nat} {W : World} (h : InB w0 g O a W) : InB w0 g O a W.drew := by
 obtain ⟨o1, c1, o2, h1, h2, h3, h4⟩ := h
 exact ⟨o1, c1, o2, h1, h2, h3, h4.drew⟩
def InZ (w0 : World) (g : Nat) (O : List PEl) (z : Nat) (W : World) : Prop := ∃ c : List PEl, BL z O c ∧ SW w0 g c W
theorem InZ.drew {w0 : World} {g : Nat} {O : List PEl} {z : Nat} {W : World} (h : InZ w0 g O z W) : InZ w0 g O z W.drew := by
 obtain ⟨c, h1, h2⟩ := h
 exact ⟨c, h1, h2.drew⟩
def InM (w0 : World) (g : Nat) (O : List PEl) (z a : Nat) (W : World) : Prop := ∃ o1 c1 o2 c2 : List PEl, O = o1 ++ o2 ∧ o1.length = a ∧ Done (2 * z) o1 c1 ∧ BL z o2 c2 ∧ SW w0 g (c1 ++ c2) W
theorem InM.drew {w0 : World} {g : Nat} {O : List PEl} {z a : Nat} {W : World} (h : InM w0 g O z a W) : InM w0 g O z a W.drew := by
 obtain ⟨o1, c1, o2, c2, h1, h2, h3, h4, h5⟩ := h
 exact ⟨o1, c1, o2, c2, h1, h2, h3, h4, h5.drew⟩
theorem ins_block {w0 : World} {g cb : Nat} {U : PEl → Prop} {O : List PEl} {N : Nat} (hA : SortArgs w0 g cb U O N) (cap a b : Nat) (W : World) (hb : b = a + 20) (hbN : b ≤ N) (h : InB w0 g O a W) :
 Calls Tryz.prog 198 #[.slice (some ⟨g, 0, none⟩) N cap, .int .i64 a, .int .i64 b, .func (.func 120) #[] #[.pointer (some ⟨cb, 0, none⟩)]] W fun e w' => e = .returned (.tuple #[]) ∧ InB w0 g O b w' := by
 obtain ⟨o1, c1, o2, h1, h2, h3, h4⟩ := h
 have hN := hA.hN
 have hl : (o2.take 20).length = 20 := by rw [h1, List.length_append] at hN; rw [List.length_take]; omega
 have hc1 : c1.length = a := by rw [h3.len, h2]
 have hsub : (o2.take 20).Sublist O := by rw [h1]; exact (List.take_sublist _ _).trans (List.sublist_append_right _ _)
 have h := insertion_in w0 g cb U hA.hg hA.cmp c1 (o2.take 20) (o2.drop 20) N cap W (by rw [List.append_assoc, List.take_append_drop, List.length_append, hc1, hN, h1, List.length_append, h2]) hA.hcap (fun e he => hA.hU e (hsub.subset he)) (hA.tags.sublist hsub) (by rw [List.append_assoc, List.take_append_drop]; exact h4)
 rw [hl, hc1, ← hb] at h
 refine h.mono ?_
 rintro e w' ⟨rfl, S', p1, p2, p3⟩
 exact ⟨rfl, o1 ++ o2.take 20, c1 ++ S', o2.drop 20, by rw [List.append_assoc, List.take_append_drop]; exact h1, by rw [List.length_append, hl, h2]; exact hb.symm, h3.snoc hl p1 p2, p3⟩
theorem ins_last {w0 : World} {g cb : Nat} {U : PEl → Prop} {O : List PEl} {N : Nat} (hA : SortArgs w0 g cb U O N) (cap a : Nat) (W : World) (haN : a ≤ N) (hb : N < a + 20) (h : InB w0 g O a W) :
 Calls Tryz.prog 198 #[.slice (some ⟨g, 0, none⟩) N cap, .int .i64 a, .int .i64 N, .func (.func 120) #[] #[.pointer (some ⟨cb, 0, none⟩)]] W fun e w' => e = .returned (.tuple #[]) ∧ InZ w0 g O 20 w' := by
 obtain ⟨o1, c1, o2, h1, h2, h3, h4⟩ := h
 have hN := hA.hN
 have hl : N = a + o2.length := by rw [hN, h1, List.length_append, h2]
 have hc1 : c1.length = a := by rw [h3.len, h2]
 have hsub : o2.Sublist O := by rw [h1]; exact List.sublist_append_right _ _
 have h := insertion_in w0 g cb U hA.hg hA.cmp c1 o2 [] N cap W (by rw [List.append_nil, List.length_append, hc1]; exact hl) hA.hcap (fun e he => hA.hU e (hsub.subset he)) (hA.tags.sublist hsub) (by rw [List.append_nil]; exact h4)
 rw [hc1, ← hl] at h
 refine h.mono ?_
 rintro e w' ⟨rfl, S', p1, p2, p3⟩
 rw [List.append_nil] at p3
 refine ⟨rfl, c1 ++ S', ?_, p3⟩
 rw [h1]
 exact h3 _ _ (.last _ _ (by omega) p1 p2)
theorem inM_start {w0 : World} {g : Nat} {O : List PEl} {z : Nat} {W : World} (h : InZ w0 g O z W) : InM w0 g O z 0 W := by
 obtain ⟨c, h1, h2⟩ := h
 exact ⟨[], [], O, c, rfl, rfl, Done.nil _, h1, h2⟩
theorem merge_block {w0 : World} {g cb : Nat} {U : PEl → Prop} {O : List PEl} {N : Nat} (hA : SortArgs w0 g cb U O N) (cap z a m b : Nat) (W : World) (hz : 0 < z) (hm : m = a + z) (hb : b = a + 2 * z) (hbN : b ≤ N) (h : InM w0 g O z a W) :
 Calls Tryz.prog 199 #[.slice (some ⟨g, 0, none⟩) N cap, .int .i64 a, .int .i64 m, .int .i64 b, .func (.func 120) #[] #[.pointer (some ⟨cb, 0, none⟩)]] W fun e w' => e = .returned (.tuple #[]) ∧ InM w0 g O z b w' := by
 obtain ⟨o1, c1, o2, c2, h1, h2, h3, h4, h5⟩ := h
 have hN := hA.hN
 have hl : N = a + o2.length := by rw [hN, h1, List.length_append, h2]
 have hc1 : c1.length = a := by rw [h3.len, h2]
 obtain ⟨p, X, o3, c3, rfl, rfl, lp, px, sx, h6⟩ := h4.first (by omega)
 rw [List.length_append] at hl
 obtain ⟨q, Y, o4, c4, rfl, rfl, lq, py, sy, h7⟩ := h6.first (by omega)
 have lX : X.length = z := by rw [px.length_eq, lp]
 have lY : Y.length = z := by rw [py.length_eq, lq]
 have hlen : c4.length = o4.length := h7.perm.length_eq
 have htg : (p ++ q ++ o4).Pairwise (fun x y : PEl => x.tag < y.tag) := by
  have ht := hA.tags
  rw [h1] at ht
  rw [List.append_assoc]
  exact (List.pairwise_append.1 ht).2.1
 have h := symMerge_in w0 g cb U hA.hg hA.cmp (X.length + Y.length) c1 X Y c4 N cap W (Nat.le_refl _) hA.hcap ⟨by intro e; rw [e] at lX; simp at lX; omega, by intro e; rw [e] at lY; simp at lY; omega, by
  simp only [List.length_append] at hl ⊢; omega, fun e he => hA.hU e (by
  rw [h1]
  rcases List.mem_append.1 he with he | he
  · exact List.mem_append_right _ (List.mem_append_left _ (px.mem_iff.1 he))
  · exact List.mem_append_right _ (List.mem_append_right _ (List.mem_append_left _ (py.mem_iff.1 he)))), sx, sy, tags_apart htg px py, by simp only [List.append_assoc] at h5 ⊢; exact h5⟩
 rw [lX, lY, hc1, ← hm, show m + z = b by omega] at h
 refine h.mono ?_
 rintro e w' ⟨rfl, S', p1, p2, p3⟩
 refine ⟨rfl, o1 ++ (p ++ q), c1 ++ S', o4, c4, by rw [h1]; simp only [List.append_assoc], by rw [List.length_append, List.length_append, h2, lp, lq]; omega, h3.snoc (by rw [List.length_append, lp, lq]; omega) (p1.trans (px.append py)) p2, h7, p3⟩
theorem merge_tail {w0 : World} {g cb : Nat} {U : PEl → Prop} {O : List PEl} {N : Nat} (hA : SortArgs w0 g cb U O N) (cap z a m : Nat) (W : World) (hz : 0 < z) (hm : m = a + z) (hmN : m < N) (hb : N < a + 2 * z) (h : InM w0 g O z a W) :
 Calls Tryz.prog 199 #[.slice (some ⟨g, 0, none⟩) N cap, .int .i64 a, .int .i64 m, .int .i64 N, .func (.func 120) #[] #[.pointer (some ⟨cb, 0, none⟩)]] W fun e w' => e = .returned (.tuple #[]) ∧ InZ w0 g O (2 * z) w' := by
 obtain ⟨o1, c1, o2, c2, h1, h2, h3, h4, h5⟩ := h
 have hN := hA.hN
 have hl : N = a + o2.length := by rw [hN, h1, List.length_append, h2]
 have hc1 : c1.length = a := by rw [h3.len, h2]
 obtain ⟨p, X, o3, Y, rfl, rfl, lp, px, sx, h6⟩ := h4.first (by omega)
 rw [List.length_append] at hl
 obtain ⟨py, sy⟩ := h6.whole (by omega)
 have lX : X.length = z := by rw [px.length_eq, lp]
 have lY : Y.length = o3.length := py.length_eq
 have htg : (p ++ o3 ++ []).Pairwise (fun x y : PEl => x.tag < y.tag) := by
  have ht := hA.tags
  rw [h1] at ht
  rw [List.append_nil]
  exact (List.pairwise_append.1 ht).2.1
 have h := symMerge_in w0 g cb U hA.hg hA.cmp (X.length + Y.length) c1 X Y [] N cap W (Nat.le_refl _) hA.hcap ⟨by intro e; rw [e] at lX; simp at lX; omega, by intro e; rw [e] at lY; simp at lY; omega, by
  simp only [List.length_append, List.length_nil]; omega, fun e he => hA.hU e (by
  rw [h1]
  rcases List.mem_append.1 he with he | he
  · exact List.mem_append_right _ (List.mem_append_left _ (px.mem_iff.1 he))
  · exact List.mem_append_right _ (List.mem_append_right _ (py.mem_iff.1 he))), sx, sy, tags_apart htg px py, by simp only [List.append_assoc, List.append_nil] at h5 ⊢; exact h5⟩
 rw [lX, hc1, ← hm, show m + Y.length = N by omega] at h
 refine h.mono ?_
 rintro e w' ⟨rfl, S', p1, p2, p3⟩
 rw [List.append_nil] at p3
 refine ⟨rfl, c1 ++ S', ?_, p3⟩
 rw [h1]
 exact h3 _ _ (.last _ _ (by rw [List.length_append]; omega) (p1.trans (px.append py)) p2)
theorem merge_none {w0 : World} {g cb : Nat} {U : PEl → Prop} {O : List PEl} {N : Nat} (hA : SortArgs w0 g cb U O N) (z a : Nat) (W : World) (hz : 0 < z) (hm : N ≤ a + z) (h : InM w0 g O z a W) : InZ w0 g O (2 * z) W := by
 obtain ⟨o1, c1, o2, c2, h1, h2, h3, h4, h5⟩ := h
 have hN := hA.hN
 have hl : N = a + o2.length := by rw [hN, h1, List.length_append, h2]
 obtain ⟨py, sy⟩ := h4.whole (by omega)
 refine ⟨c1 ++ c2, ?_, h5⟩
 rw [h1]
 exact h3 _ _ (.last _ _ (by omega) py sy)
set_option maxHeartbeats 4000000 in
theorem stable_in (w0 : World) (g cb : Nat) (U : PEl → Prop) (O : List PEl) (N cap : Nat) (W : World) (hA : SortArgs w0 g cb U O N) (h : SW w0 g O W) :
 Calls Tryz.prog 160 #[.slice (some ⟨g, 0, none⟩) N cap, .int .i64 N, .func (.func 120) #[] #[.pointer (some ⟨cb, 0, none⟩)]] W fun e w' => e = .returned (.tuple #[]) ∧ ∃ S', S'.Perm O ∧ S'.Pairwise elt ∧ SW w0 g S' w' := by
 have hcap := hA.hcap
 have hO := hA.hN
 have H0 : Hid (InB w0 g O 0 W) := Lib.hid ⟨[], [], O, rfl, rfl, Done.nil _, h⟩
 have HA := Lib.hid hA
 have HO := Lib.hid hO
 clear hA h hO
 go_enter Tryz.func160, Tryz.ntmps160
 go_wp2
 go_loopw [7, 8] (fun va vb wr => ∃ a b : Nat, va = .int .i64 a ∧ vb = .int .i64 b ∧ b = a + 20 ∧ a ≤ N ∧ Hid (InB w0 g O a wr)) (fun va vb _ => N + 1 - (intOf va).toNat)
 case atStart => exact ⟨0, 20, rfl, rfl, rfl, Nat.zero_le _, H0⟩
 case round =>
  obtain ⟨a, b, rfl, rfl, hab, haN, HB⟩ := hrel
  have HAB := Lib.hid hab
  by_cases hlt : b ≤ N
  · have hlt2 : (b : Int) ≤ (N : Int) := by omega
    have HC := Lib.hid (ins_block HA.out cap a b wr hab hlt HB.out)
    have q1 : (b : Int) + 20 ≤ 1048600 := by omega
    clear hab haN
    go_wp2_with (go_at_call 198; (with_reducible refine (HC.out).mono ?_); rintro e w1 ⟨rfl, hT⟩; have HT := Lib.hid hT; clear hT)
    go_roundw
    case rel => exact ⟨b, b + 20, rfl, by first | rfl | (rw [wrap_in _ (by omega)]; rfl), rfl, hlt, HT⟩
    case measure => have := HAB.out; show N + 1 - b < N + 1 - a; omega
  · have hlt2 : ¬ (b : Int) ≤ (N : Int) := by omega
    have HC := Lib.hid (ins_last HA.out cap a wr haN (by omega) HB.out)
    clear hab haN hlt
    go_wp2_with (go_at_call 198; (with_reducible refine (HC.out).mono ?_); rintro e w1 ⟨rfl, hT⟩; have HT := Lib.hid hT; clear hT)
    clear hlt2 HC HB HAB H0
    go_loopw [6] (fun vz wr => ∃ z : Nat, vz = .int .i64 z ∧ 20 ≤ z ∧ z ≤ 2097152 ∧ Hid (InZ w0 g O z wr)) (fun vz _ => N - (intOf vz).toNat)
    case atStart => exact ⟨20, rfl, Nat.le_refl _, by omega, HT⟩
    case round =>
     obtain ⟨z, rfl, hz1, hz2, HZ⟩ := hrel
     by_cases hzN : z < N
     · have hzN2 : (z : Int) < (N : Int) := by omega
       have c1 : 2 * (z : Int) = ((2 * z : Nat) : Int) := by omega
       have c2 : (z : Int) * 2 = ((2 * z : Nat) : Int) := by omega
       have q1 : ((2 * z : Nat) : Int) ≤ 2097152 := by omega
       obtain ⟨z2, hzz⟩ : ∃ z2, z2 = 2 * z := ⟨_, rfl⟩
       rw [← hzz] at c1 c2 q1
       have HZZ := Lib.hid hzz
       have HM0 := Lib.hid (inM_start HZ.out)
       clear hzz
       go_wp2
       go_loopw [7, 8] (fun va vb wq => ∃ a b : Nat, va = .int .i64 a ∧ vb = .int .i64 b ∧ b = a + z2 ∧ a ≤ N ∧ Hid (InM w0 g O z a wq)) (fun va vb _ => N + 1 - (intOf va).toNat)
       case atStart => exact ⟨0, z2, rfl, by first | rfl | (rw [c1, wrap_in _ (by omega)]) | (rw [c1]), by omega, Nat.zero_le _, by first | exact HM0 | exact Lib.hid (HM0.out.drew)⟩
       case round =>
        obtain ⟨a, b, rfl, rfl, hab, haN, HB⟩ := hrel
        have HAB := Lib.hid hab
        obtain ⟨m, hm⟩ : ∃ m, m = a + z := ⟨_, rfl⟩
        have c3 : (a : Int) + (z : Int) = (m : Int) := by omega
        have q2 : (m : Int) ≤ 2097152 := by omega
        have q3 : (b : Int) + (z2 : Int) ≤ 8388608 := by omega
        have HMM := Lib.hid hm
        by_cases hlt : b ≤ N
        · have hlt2 : (b : Int) ≤ (N : Int) := by omega
          have HC := Lib.hid (merge_block HA.out cap z a m b wr (by omega) hm (by rw [hab, HZZ.out]) hlt HB.out)
          clear hab haN hm
          go_wp2_with (go_at_call 199; (with_reducible refine (HC.out).mono ?_); rintro e w1 ⟨rfl, hT⟩; have HT2 := Lib.hid hT; clear hT)
          go_roundw
          case rel => exact ⟨b, b + z2, rfl, by first | rfl | (rw [c1, wrap_in _ (by omega)]; rfl) | (rw [c1]; rfl), rfl, hlt, HT2⟩
          case measure => have := HAB.out; have := HZZ.out; show N + 1 - b < N + 1 - a; omega
        · have hlt2 : ¬ (b : Int) ≤ (N : Int) := by omega
          have HH : Hid (20 ≤ z2 ∧ z2 ≤ 2097152 ∧ z < z2) := Lib.hid (by have := HZZ.out; omega)
          by_cases hmN : m < N
          · have hmN2 : (m : Int) < (N : Int) := by omega
            have HC := Lib.hid (merge_tail HA.out cap z a m wr (by omega) hm hmN (by have := HZZ.out; omega) HB.out)
            clear hab haN hlt hm
            go_wp2_with (go_at_call 199; (with_reducible refine (HC.out).mono ?_); rintro e w1 ⟨rfl, hT⟩; have HT2 := Lib.hid hT; clear hT)
            rw [← HZZ.out] at HT2
            go_roundw
            case rel => exact ⟨z2, by first | rfl | (rw [c2, wrap_in _ (by omega)]) | (rw [c2]), HH.out.1, HH.out.2.1, HT2⟩
            case measure => have := HH.out; first | (show N - z2 < N - z; omega) | (rw [c2]; show N - z2 < N - z; omega) | (rw [c2, wrap_in _ (by omega)]; show N - z2 < N - z; omega)
          · have hmN2 : ¬ (m : Int) < (N : Int) := by omega
            have HT2 := Lib.hid (merge_none HA.out z a wr (by omega) (by omega) HB.out)
            rw [← HZZ.out] at HT2
            clear hab haN hlt hm
            go_wp2
            go_roundw
            case rel => exact ⟨z2, by first | rfl | (rw [c2, wrap_in _ (by omega)]) | (rw [c2]), HH.out.1, HH.out.2.1, by first | exact HT2 | exact Lib.hid HT2.out.drew⟩
            case measure => have := HH.out; first | (show N - z2 < N - z; omega) | (rw [c2]; show N - z2 < N - z; omega) | (rw [c2, wrap_in _ (by omega)]; show N - z2 < N - z; omega)
     · have hzN2 : ¬ (z : Int) < (N : Int) := by omega
       have HE : Hid (∃ S', S'.Perm O ∧ S'.Pairwise elt ∧ SW w0 g S' wr) := Lib.hid (by
        obtain ⟨c, k1, k2⟩ := HZ.out
        obtain ⟨k3, k4⟩ := k1.whole (by have := HO.out; omega)
        exact ⟨c, k3, k4, k2⟩)
       go_wp2
       exact bodyPost_end (v := .tuple #[]) (by simp [results, Tryz.f160, go_sem]) rfl ⟨rfl, HE.out⟩
structure KeyEl (w : World) (e : PEl) : Prop where
 ex : ∃ kc vc : List Value, e.row = kc ++ vc ∧ vc.length = 7 ∧ k28.K w e.key kc
 ok : OkV e.key
 num : NumOk e.key
theorem KeyEl.below {w w' : World} {e : PEl} (h : KeyEl w e) (hb : Below w.heap.size w w') : KeyEl w' e := by
 obtain ⟨kc, vc, h1, h2, h3⟩ := h.ex
 exact ⟨⟨kc, vc, h1, h2, k28.K_below hb h3⟩, h.ok, h.num⟩
set_option maxHeartbeats 1000000 in
theorem order_call (x y : PEl) (w : World) (cb : Nat) (hx : KeyEl w x) (hy : KeyEl w y) (hcb : w.heap[cb]? = some (.cells #[.func (.func 63) #[] #[]] 84 (0, 0))) :
 Calls Tryz.prog 120 #[.agg x.row.toArray, .agg y.row.toArray, .pointer (some ⟨cb, 0, none⟩)] w fun e w' => e = .returned (.int .i64 (vord x.key y.key)) ∧ Below w.heap.size w w' := by
 obtain ⟨kc, vc, e1, e2, hk⟩ := hx.ex
 obtain ⟨lc, uc, f1, f2, hl⟩ := hy.ex
 rw [e1, f1]
 have hord : ∀ W, Below w.heap.size w W → Calls Tryz.prog 63 #[.agg kc.toArray, .agg lc.toArray] W fun e w' => e = .returned (.int .i64 (vord x.key y.key)) ∧ Below W.heap.size W w' := fun W hW =>
  Order_any x.key y.key kc lc W (k28.K_below hW hk) (k28.K_below hW hl) hx.ok hy.ok hx.num hy.num
 obtain ⟨A2, c2, A5, c5, A6, c6, rfl, -⟩ := k28_open hk
 obtain ⟨B2, d2, B5, d5, B6, d6, rfl, -⟩ := k28_open hl
 obtain ⟨v0, v1, v2, v3, v4, v5, v6, rfl⟩ := list7 e2
 obtain ⟨u0, u1, u2, u3, u4, u5, u6, rfl⟩ := list7 f2
 generalize vord x.key y.key = r at *
 have HORD := Lib.hid hord
 obtain ⟨W2, hW2⟩ : ∃ W2, W2 = (w.alloc (.cells #[.int .i64 x.key.f0, .bool x.key.f1.f0, .slice A2 x.key.f1.f1.length c2, .int .i64 x.key.f1.f2, .string x.key.f2, .slice A5 x.key.f3.length c5, .slice A6 x.key.f4.length c6, v0, v1, v2, v3, v4, v5, v6] 102)).alloc (.cells #[.int .i64 y.key.f0, .bool y.key.f1.f0, .slice B2 y.key.f1.f1.length d2, .int .i64 y.key.f1.f2, .string y.key.f2, .slice B5 y.key.f3.length d5, .slice B6 y.key.f4.length d6, u0, u1, u2, u3, u4, u5, u6] 102) := ⟨_, rfl⟩
 have hz : W2.heap.size = w.heap.size + 2 := by rw [hW2]; simp
 have hA2 : Below w.heap.size w W2 := by rw [hW2]; exact ((Below.refl _ _).alloc (Nat.le_refl _) _).alloc (by simp) _
 have hbx : W2.heap[w.heap.size]? = some (.cells #[.int .i64 x.key.f0, .bool x.key.f1.f0, .slice A2 x.key.f1.f1.length c2, .int .i64 x.key.f1.f2, .string x.key.f2, .slice A5 x.key.f3.length c5, .slice A6 x.key.f4.length c6, v0, v1, v2, v3, v4, v5, v6] 102 (0, 0)) := by rw [hW2]; exact blk_alloc (blk_new _ _) _
 have hby : W2.heap[w.heap.size + 1]? = some (.cells #[.int .i64 y.key.f0, .bool y.key.f1.f0, .slice B2 y.key.f1.f1.length d2, .int .i64 y.key.f1.f2, .string y.key.f2, .slice B5 y.key.f3.length d5, .slice B6 y.key.f4.length d6, u0, u1, u2, u3, u4, u5, u6] 102 (0, 0)) := by
  rw [hW2]
  have := blk_new (w.alloc (.cells #[.int .i64 x.key.f0, .bool x.key.f1.f0, .slice A2 x.key.f1.f1.length c2, .int .i64 x.key.f1.f2, .string x.key.f2, .slice A5 x.key.f3.length c5, .slice A6 x.key.f4.length c6, v0, v1, v2, v3, v4, v5, v6] 102)) (.cells #[.int .i64 y.key.f0, .bool y.key.f1.f0, .slice B2 y.key.f1.f1.length d2, .int .i64 y.key.f1.f2, .string y.key.f2, .slice B5 y.key.f3.length d5, .slice B6 y.key.f4.length d6, u0, u1, u2, u3, u4, u5, u6] 102)
  rw [World.size_alloc] at this
  exact this
 have hcw : W2.heap[cb]? = some (.cells #[.func (.func 63) #[] #[]] 84 (0, 0)) := (hA2.block cb (blk_lt hcb)).trans hcb
 obtain ⟨hc1, hf1⟩ := bcells hbx (Below.refl _ _)
 obtain ⟨hc2, hf2⟩ := bcells hby (Below.refl _ _)
 obtain ⟨hc3, hf3⟩ := bcells hcw (Below.refl _ _)
 have HA2 := Lib.hid hA2
 have HW2 := Lib.hid hW2
 have HZ := Lib.hid hz
 clear hA2 hz hbx hby hcw hcb hk hl hord hW2 hx hy e1 f1 e2 f2
 go_enter Tryz.func120, Tryz.ntmps120
 go_upto_region 1 with (fail)
 rw [← HW2.out]
 go_wp2_with (first | (go_at_call 63; (with_reducible refine (HORD.out _ HA2.out).mono ?_); rintro e w2 ⟨rfl, hB2⟩; have HB2 := Lib.hid hB2; clear hB2))
 go_ret
 exact ⟨rfl, HA2.out.trans (HB2.out.mono (by have := HZ.out; omega))⟩
theorem cmp_sorted (w00 w0 : World) (g cb : Nat) (h00 : Below w00.heap.size w00 w0) (hg : w00.heap.size ≤ g) (hcg : cb ≠ g) (hcb : w0.heap[cb]? = some (.cells #[.func (.func 63) #[] #[]] 84 (0, 0))) : CmpIn w0 g cb (KeyEl w00) := by
 intro W hW x y hx hy
 have hb : Below w00.heap.size w00 W := hW.below h00 hg h00.size
 exact order_call x y W cb (hx.below hb) (hy.below hb) ((hW.block cb (blk_lt hcb) hcg).trans hcb)
theorem sortStable_in (w0 : World) (g cb : Nat) (U : PEl → Prop) (O : List PEl) (N cap : Nat) (W : World) (hA : SortArgs w0 g cb U O N) (h : SW w0 g O W) :
 Calls Tryz.prog 119 #[.slice (some ⟨g, 0, none⟩) N cap, .func (.func 120) #[] #[.pointer (some ⟨cb, 0, none⟩)]] W fun e w' => e = .returned (.tuple #[]) ∧ ∃ S', S'.Perm O ∧ S'.Pairwise elt ∧ SW w0 g S' w' := by
 have HS := Lib.hid (stable_in w0 g cb U O N cap W hA h)
 clear hA h
 go_enter Tryz.func119, Tryz.ntmps119
 go_wp2_with (go_at_call 160; (with_reducible refine (HS.out).mono ?_); rintro e w1 ⟨rfl, hT⟩; have HT := Lib.hid hT; clear hT)
 exact bodyPost_end (v := .tuple #[]) (by simp [results, Tryz.f119, go_sem]) rfl ⟨rfl, HT.out⟩
theorem SW.base {w0 w1 W : World} {g : Nat} {els : List PEl} (h : SW w1 g els W) (k : KeepG w0 g w1) : SW w0 g els W := ⟨k.trans h.keep, h.at_, h.there, h.ok⟩
theorem sorted_in (w00 w0 : World) (g : Nat) (O : List PEl) (N cap : Nat) (hN : N = O.length) (hcap : N ≤ 1048576) (h00 : Below w00.heap.size w00 w0) (hg0 : w00.heap.size ≤ g) (hg : g < w0.heap.size) (hU : ∀ e ∈ O, KeyEl w00 e) (ht : O.Pairwise (fun x y : PEl => x.tag < y.tag)) (h : SW w0 g O w0) :
 Calls Tryz.prog 76 #[.slice (some ⟨g, 0, none⟩) N cap, .func (.func 63) #[] #[]] w0 fun e w' => e = .returned (.slice (some ⟨g, 0, none⟩) N cap) ∧ ∃ S', S'.Perm O ∧ S'.Pairwise elt ∧ SW w0 g S' w' := by
 obtain ⟨W2, hW2⟩ : ∃ W2, W2 = w0.alloc (.cells #[.func (.func 63) #[] #[]] 84) := ⟨_, rfl⟩
 have hb2 : Below w0.heap.size w0 W2 := by rw [hW2]; exact (Below.refl _ _).alloc (Nat.le_refl _) _
 have hz : W2.heap.size = w0.heap.size + 1 := by rw [hW2]; simp
 have hcb : W2.heap[w0.heap.size]? = some (.cells #[.func (.func 63) #[] #[]] 84 (0, 0)) := by rw [hW2]; exact blk_new _ _
 have hsw : SW W2 g O W2 := ⟨KeepG.refl _ _, (h.grow hg hb2).at_, (h.grow hg hb2).there, h.ok⟩
 have hc : CmpIn W2 g w0.heap.size (KeyEl w00) := cmp_sorted w00 W2 g w0.heap.size (h00.trans (hb2.mono h00.size)) hg0 (by omega) hcb
 have HS := Lib.hid (sortStable_in W2 g w0.heap.size (KeyEl w00) O N cap W2 ⟨by omega, hc, hN, hcap, hU, ht⟩ hsw)
 have HK := Lib.hid ((KeepG.refl w0 g).then hb2 (Nat.le_refl _))
 have HW2 := Lib.hid hW2
 clear hW2 hb2 hz hcb hsw hc hU ht h h00 hN
 go_enter Tryz.func76, Tryz.ntmps76
 go_upto_region 1 with (fail)
 rw [← HW2.out]
 go_wp2_with (go_at_call 119; (with_reducible refine (HS.out).mono ?_); rintro e w1 ⟨rfl, hT⟩; have HT := Lib.hid hT; clear hT)
 go_ret
 obtain ⟨S', k1, k2, k3⟩ := HT.out
 exact ⟨rfl, S', k1, k2, k3.base HK.out⟩
structure PairMid2 (w w2 wr : World) (ks l : List V) (v : Value) (k : Nat) : Prop where
 ex : ∃ rows : List (List Value), rows.length = k ∧ Kd.R (Kd.raw 14) 102 wr w2.heap.size (fun _ => True) v rows ∧ ∀ (j : Nat) (r : List Value), rows[j]? = some r → ∃ kc vc, r = kc ++ vc ∧ k28.K w (rd_T28 ks (j : Int)) kc ∧ k28.K w (rd_T28 l (j : Int)) vc
 below : Below w2.heap.size w2 wr
 nil : k = 0 → v = .slice none 0 0
abbrev PairMid (w wr : World) := PairMid2 w w wr
def PairEl (w : World) (e : PEl) : Prop := ∃ kc vc : List Value, e.row = kc ++ vc ∧ k28.K w e.key kc ∧ k28.K w e.val vc
def pels (rows : List (List Value)) (ks l : List V) (n : Nat) : List PEl := (List.range n).map fun j => ⟨rows.getD j [], rd_T28 ks (j : Int), rd_T28 l (j : Int), j⟩
def Sorted (ks l ys : List V) : Prop := ∃ S : List PEl, S.Perm (pels [] ks l ks.length) ∧ S.Pairwise elt ∧ ys = S.map PEl.val
def lask (l ks : List V) : Int := if orL [vchks l, vchks ks] ≠ 0 then orL [vchks l, vchks ks] else if l.length ≠ ks.length then 3 else 0
theorem orL_none : ∀ {l : List Int}, orL l = 0 → ∀ x ∈ l, x = 0
 | [], _, x, hx => by cases hx
 | y :: l, h, x, hx => by
  rw [orL] at h
  by_cases hy : y = 0
  · rw [if_pos hy] at h
    rcases List.mem_cons.1 hx with rfl | hx
    · exact hy
    · exact orL_none h x hx
  · rw [if_neg hy] at h
    exact absurd h hy
theorem mem_valls : ∀ {l : List V} {x y : V}, x ∈ l → y ∈ vall x → y ∈ valls l
 | z :: l, x, y, h, hy => by
  rw [valls]
  rcases List.mem_cons.1 h with rfl | h
  · exact List.mem_append_left _ hy
  · exact List.mem_append_right _ (mem_valls h hy)
theorem num_of_own {x : V} (h : vown x = 0) (h3 : x.f0 = 3) : decOkB x.f1 = true := by
 unfold vown at h
 split at h
 · omega
 · split at h
   · contradiction
   · split at h
     · omega
     · split at h
       · rename_i hh
         simp only [Bool.and_eq_true] at hh
         have hn := hh.1.1
         unfold vnumbers at hn
         rw [if_pos h3] at hn
         simp only [beq_iff_eq] at hn
         unfold dchk at hn
         by_cases hd : decOkB x.f1 = true
         · exact hd
         · simp [hd] at hn
       · omega
theorem numOk_of_vall : ∀ x : V, (∀ y ∈ vall x, vown y = 0) → NumOk x := V.ind fun x ih h => by
 refine .mk x (fun h3 => num_of_own (h x (by rw [vall_eq]; exact List.mem_cons_self)) h3) fun y hy => ih y hy fun z hz => h z ?_
 rw [vall_eq]
 exact List.mem_cons_of_mem _ (mem_valls hy hz)
theorem numOk_of_vchk {x : V} (h : vchk x = 0) : NumOk x := by
 refine numOk_of_vall x fun y hy => ?_
 unfold vchk at h
 split at h
 · omega
 · split at h
   · omega
   · exact orL_none h _ (List.mem_map.2 ⟨y, hy, rfl⟩)

theorem dval_snoc (o : List Int) (x : Int) : dval (o ++ [x]) = dval o + 10 ^ o.length * x.toNat := by rw [dval_app]; simp [dval]
def TimesTo (T b : Nat) (rest : List Int) (o : List Int) (mo : Nat) : Prop := okD o ∧ dval o + 10 ^ o.length * (mo + b * dval rest) = T
theorem TimesTo.step {T b : Nat} {x : Int} {rest o : List Int} {mo : Nat} (h : TimesTo T b (x :: rest) o mo) (hx : 0 ≤ x) : TimesTo T b rest (o ++ [(((mo + b * x.toNat) % 10 : Nat) : Int)]) ((mo + b * x.toNat) / 10) := by
 obtain ⟨h1, h2⟩ := h
 refine ⟨okD_app.2 ⟨h1, fun y hy => by rw [List.mem_singleton.1 hy]; omega⟩, ?_⟩
 rw [dval_snoc, List.length_append, List.length_singleton, Nat.pow_succ, ← h2, dval, Int.toNat_natCast, Nat.mul_add b, ← Nat.add_assoc, Nat.mul_left_comm b 10]
 generalize mo + b * x.toNat = s
 generalize b * dval rest = q
 have : s + 10 * q = s % 10 + 10 * (s / 10 + q) := by omega
 rw [this, Nat.mul_add (10 ^ o.length), Nat.mul_assoc (10 ^ o.length) 10]
 omega
theorem TimesTo.more {T b : Nat} {o : List Int} {mo : Nat} (h : TimesTo T b [] o mo) : TimesTo T b [] (o ++ [((mo % 10 : Nat) : Int)]) (mo / 10) := by
 obtain ⟨h1, h2⟩ := h
 refine ⟨okD_app.2 ⟨h1, fun y hy => by rw [List.mem_singleton.1 hy]; omega⟩, ?_⟩
 rw [dval_snoc, List.length_append, List.length_singleton, Nat.pow_succ, ← h2, Int.toNat_natCast]
 simp only [dval, Nat.mul_zero, Nat.add_zero]
 have : mo = mo % 10 + 10 * (mo / 10) := by omega
 generalize hq : mo / 10 = q at *
 generalize hr : mo % 10 = r at *
 rw [this, Nat.mul_add (10 ^ o.length), Nat.mul_assoc (10 ^ o.length) 10]
 omega
def LastOk (o : List Int) : Prop := ∀ h : o ≠ [], o.getLast h ≠ 0
theorem TimesTo.done {T b : Nat} {o : List Int} (h : TimesTo T b [] o 0) (hl : LastOk o) : o = decs T := by
 obtain ⟨h1, h2⟩ := h
 simp only [dval, Nat.mul_zero, Nat.add_zero] at h2
 have := dcanon_of_last h1 hl
 rw [← h2]
 exact this.symm
structure LimbAt (k : Nat) (j rest : Nat) (ys : List Int) : Prop where
 len : ys.length = (decs k).length
 le : j ≤ ys.length
 head : ys.take j = (decs k).take j
 ok : okD ys
 rest : rest = dval ((decs k).drop j) % 4294967296
 quo : dval (ys.drop j) = dval ((decs k).drop j) / 4294967296
theorem LimbAt.step {k j rest : Nat} {ys : List Int} (h : LimbAt k (j + 1) rest ys) : 0 ≤ ys.getD j 0 ∧ ys.getD j 0 ≤ 9 ∧ LimbAt k j ((rest * 10 + (ys.getD j 0).toNat) % 4294967296) (ys.set j (((rest * 10 + (ys.getD j 0).toNat) / 4294967296 : Nat) : Int)) := by
 have hj : j < ys.length := h.le
 have hx := okD_getD h.ok j
 have hxe : ys.getD j 0 = (decs k).getD j 0 := by
  have h1 : (ys.take (j + 1))[j]? = ((decs k).take (j + 1))[j]? := by rw [h.head]
  rw [List.getElem?_take_of_lt (by omega), List.getElem?_take_of_lt (by omega)] at h1
  rw [List.getD_eq_getElem?_getD, List.getD_eq_getElem?_getD, h1]
 have hj2 : j < (decs k).length := by rw [← h.len]; exact hj
 have hd : dval ((decs k).drop j) = (ys.getD j 0).toNat + 10 * dval ((decs k).drop (j + 1)) := by
  rw [hxe, List.drop_eq_getElem_cons hj2, dval, List.getD_eq_getElem?_getD, List.getElem?_eq_getElem hj2]
  rfl
 have hr := h.rest
 have hq := h.quo
 have hrl : rest < 4294967296 := by rw [hr]; exact Nat.mod_lt _ (by decide)
 have hx9 : (ys.getD j 0).toNat ≤ 9 := by omega
 have hxx : 0 ≤ ys.getD j 0 ∧ ys.getD j 0 ≤ 9 := by omega
 generalize (ys.getD j 0).toNat = x at *
 generalize dval ((decs k).drop (j + 1)) = t at *
 refine ⟨hxx.1, hxx.2, by simp [h.len], by simp; omega, ?_, ?_, ?_, ?_⟩
 · rw [List.take_set_of_le (Nat.le_refl _)]
   have h1 := congrArg (List.take j) h.head
   rw [List.take_take, List.take_take, Nat.min_eq_left (by omega)] at h1
   exact h1
 · intro y hy
   rcases List.mem_or_eq_of_mem_set hy with hy | rfl
   · exact h.ok y hy
   · have : (rest * 10 + x) / 4294967296 ≤ 9 := by omega
     omega
 · rw [hd, hr]; omega
 · have h1 : (ys.set j (((rest * 10 + x) / 4294967296 : Nat) : Int)).drop j = (((rest * 10 + x) / 4294967296 : Nat) : Int) :: ys.drop (j + 1) := by
    rw [List.drop_eq_getElem_cons (by rw [List.length_set]; exact hj), List.getElem_set_self, List.drop_set_of_lt (by omega)]
   rw [h1, dval, Int.toNat_natCast, hq, hd, hr]
   omega
def strip (m : Nat) : Nat × Nat := if h : m ≠ 0 ∧ m % 10 = 0 then ((strip (m / 10)).1, (strip (m / 10)).2 + 1) else (m, 0)
termination_by m
decreasing_by all_goals omega
theorem strip_ten {m : Nat} (h : m ≠ 0) (h0 : m % 10 = 0) : strip m = ((strip (m / 10)).1, (strip (m / 10)).2 + 1) := by rw [strip, dif_pos ⟨h, h0⟩]
theorem strip_end {m : Nat} (h0 : m % 10 ≠ 0) : strip m = (m, 0) := by rw [strip, dif_neg (fun hh => h0 hh.2)]
def madeD (neg : Bool) (m : Nat) (e : Int) : D × Int :=
 if m = 0 then (⟨false, [], 0⟩, 0) else if 300 < (decs (strip m).1).length then (⟨false, [], 0⟩, 51) else if e + (strip m).2 < -1000 ∨ 1000 < e + (strip m).2 then (⟨false, [], 0⟩, 52) else (⟨neg, limbs (strip m).1, e + (strip m).2⟩, 0)
structure MadeAt (w W : World) (neg : Bool) (m : Nat) (e : Int) (A : Option Addr) (n c : Nat) (B : Option Addr) (ln d k z : Nat) : Prop where
 nz : k ≠ 0
 le : k ≤ m
 one : (strip m).1 = (strip k).1
 two : (strip m).2 = (strip k).2 + z
 len : ln = (decs k).length
 row : Kd.C (Kd.int .i64) w B (decs k).length (decs k)
 cap : ln ≤ d
 box : W.heap[w.heap.size]? = some (.cells #[.bool neg, .slice A n c, .int .i64 (e + z)] 144 (0, 0))
 res : W.heap[w.heap.size + 1]? = some (.cells #[.bool false, .slice none 0 0, .int .i64 0] 24 (0, 0))
 below : Below w.heap.size w W
theorem decs_drop {k : Nat} (h : k ≠ 0) : (decs k).drop 1 = decs (k / 10) := by rw [decs_pos h]; rfl
theorem strip_len : ∀ m : Nat, (strip m).2 ≤ (decs m).length := by
 intro m
 induction m using Nat.strongRecOn with
 | _ m ih =>
  by_cases h : m ≠ 0 ∧ m % 10 = 0
  · rw [strip_ten h.1 h.2, decs_pos h.1, List.length_cons]
    have := ih (m / 10) (by omega)
    omega
  · rw [strip, dif_neg h]
    exact Nat.zero_le _
theorem MadeAt.step {w W : World} {neg : Bool} {m : Nat} {e : Int} {A : Option Addr} {n c : Nat} {B : Option Addr} {ln d k z : Nat} (h : MadeAt w W neg m e A n c B ln d k z) (h0 : k % 10 = 0) :
 MadeAt w (W.setCell ⟨w.heap.size, 2, none⟩ (.int .i64 (e + (z + 1 : Nat)))) neg m e A n c (if d = 1 then B else B.map (·.add 1)) (ln - 1) (d - 1) (k / 10) (z + 1) := by
 have hk := h.nz
 have hdl : (decs (k / 10)).length + 1 = ln := by rw [h.len, decs_pos hk, List.length_cons]
 refine ⟨by omega, by have := h.le; omega, by rw [h.one, strip_ten hk h0], by rw [h.two, strip_ten hk h0]; show (strip (k / 10)).2 + 1 + z = _; omega, by omega, ?_, by have := h.cap; omega, ?_, ?_, h.below.setCell (p := ⟨w.heap.size, 2, none⟩) (Nat.le_refl _) _⟩
 · have := Kd.C_drop h.row (m := 1) (by rw [← h.len]; omega) (c := d) (by rw [← h.len]; exact h.cap)
   rw [decs_drop hk] at this
   exact this
 · have := blk_set h.box 2 (.int .i64 (e + (z + 1 : Nat)))
   rw [this]
   rfl
 · exact blk_far h.res (by simp) _
def intD (n : Nat) : D := (madeD false n 0).1
def numI (n : Nat) : V := ⟨3, intD n, ⟨#[]⟩, [], []⟩
theorem num_end {w w2 : World} {r : D} {G : Option Addr} {c : Nat} (hx : w2.heap[w.heap.size]? = some (.cells #[.int .i64 0, .bool false, .slice none 0 0, .int .i64 0, .string ⟨#[]⟩, .slice none 0 0, .slice none 0 0] 28 (0, 0))) (hR : Kd.R (Kd.int .u32) 131 w2 w.heap.size (fun _ => True) (.slice G r.f1.length c) r.f1) (hB : Below w.heap.size w w2) {X : World}
 (hX : X = ((((((w2.setCell ⟨w.heap.size, 0, none⟩ (.int .i64 3)).setCell ⟨w.heap.size, 1, none⟩ (.bool r.f0)).setCell ⟨w.heap.size, 2, none⟩ (.slice G r.f1.length c)).setCell ⟨w.heap.size, 3, none⟩ (.int .i64 r.f2)).setCell ⟨w.heap.size, 4, none⟩ (.string ⟨#[]⟩)).setCell ⟨w.heap.size, 5, none⟩ (.slice none 0 0)).setCell ⟨w.heap.size, 6, none⟩ (.slice none 0 0)) :
 X.heap[w.heap.size]? = some (.cells #[.int .i64 3, .bool r.f0, .slice G r.f1.length c, .int .i64 r.f2, .string ⟨#[]⟩, .slice none 0 0, .slice none 0 0] 28 (0, 0)) ∧ k28.M X w.heap.size (fun _ => True) (⟨3, r, ⟨#[]⟩, [], []⟩ : V) [.int .i64 3, .bool r.f0, .slice G r.f1.length c, .int .i64 r.f2, .string ⟨#[]⟩, .slice none 0 0, .slice none 0 0] ∧ Below w.heap.size w X := by
 have h1 := blk_set hx 0 (.int .i64 3)
 have h2 := blk_set h1 1 (.bool r.f0)
 have h3 := blk_set h2 2 (.slice G r.f1.length c)
 have h4 := blk_set h3 3 (.int .i64 r.f2)
 have h5 := blk_set h4 4 (.string ⟨#[]⟩)
 have h6 := blk_set h5 5 (.slice none 0 0)
 have h7 := blk_set h6 6 (.slice none 0 0)
 refine ⟨by rw [hX]; exact h7, ?_, ?_⟩
 · have hR2 : Kd.R (Kd.int .u32) 131 X w.heap.size (fun _ => True) (.slice G r.f1.length c) r.f1 := by
    rw [hX]
    exact Kd.R_set (Kd.R_set (Kd.R_set (Kd.R_set (Kd.R_set (Kd.R_set (Kd.R_set hR hx (by decide) 0 _) h1 (by decide) 1 _) h2 (by decide) 2 _) h3 (by decide) 3 _) h4 (by decide) 4 _) h5 (by decide) 5 _) h6 (by decide) 6 _
   exact k28_mkM X w.heap.size (fun _ => True) (⟨3, r, ⟨#[]⟩, [], []⟩ : V) hR2 (Kd.R_nil _ _ _ _ _) (Kd.R_nil _ _ _ _ _)
 · rw [hX]
   exact ((((((hB.setCell (p := ⟨w.heap.size, 0, none⟩) (by simp) _).setCell (p := ⟨w.heap.size, 1, none⟩) (by simp) _).setCell (p := ⟨w.heap.size, 2, none⟩) (by simp) _).setCell (p := ⟨w.heap.size, 3, none⟩) (by simp) _).setCell (p := ⟨w.heap.size, 4, none⟩) (by simp) _).setCell (p := ⟨w.heap.size, 5, none⟩) (by simp) _).setCell (p := ⟨w.heap.size, 6, none⟩) (by simp) _
end Go.Proofs.YthigbklhngihkaaGreatDoor.P

import Derived.Test.YthigbklhngihkaaGreatDoorMValueOrdero
set_option linter.unusedVariables false
set_option linter.unusedSimpArgs false
set_option maxRecDepth 100000
namespace Go.Proofs.YthigbklhngihkaaGreatDoor.P
open Go.RowKit Go.Proofs.YthigbklhngihkaaGreatDoorW.PrintWords Go.Proofs.YthigbklhngihkaaGreatDoorW.PrintMore Go.Proofs.YthigbklhngihkaaGreatDoorW.PrintLast
structure MergeArgs (w0 : World) (g : Nat) (U : PEl → Prop) (A X Y B : List PEl) (N : Nat) (W : World) : Prop where
 nx : X ≠ []
 ny : Y ≠ []
 hN : N = (A ++ X ++ Y ++ B).length
 hU : ∀ e ∈ X ++ Y, U e
 sx : X.Pairwise elt
 sy : Y.Pairwise elt
 tags : ∀ x ∈ X, ∀ y ∈ Y, x.tag < y.tag
 sw : SW w0 g (A ++ X ++ Y ++ B) W
def MergeDone (w0 : World) (g : Nat) (A X Y B : List PEl) (w' : World) : Prop := ∃ S', S'.Perm (X ++ Y) ∧ S'.Pairwise elt ∧ SW w0 g (A ++ S' ++ B) w'
def MergeCalls (w0 : World) (g cb : Nat) (U : PEl → Prop) (n : Nat) : Prop := ∀ (A X Y B : List PEl) (N cap : Nat) (W : World), X.length + Y.length ≤ n → N ≤ 1048576 → MergeArgs w0 g U A X Y B N W →
 Calls Tryz.prog 199 #[.slice (some ⟨g, 0, none⟩) N cap, .int .i64 A.length, .int .i64 (A.length + X.length : Nat), .int .i64 (A.length + X.length + Y.length : Nat), .func (.func 120) #[] #[.pointer (some ⟨cb, 0, none⟩)]] W fun e w' => e = .returned (.tuple #[]) ∧ MergeDone w0 g A X Y B w'
def St1 (w0 : World) (g : Nat) (A X Y B : List PEl) (i j : Nat) (W : World) : Prop := SW w0 g (A ++ X.take i ++ Y.take j ++ X.drop i ++ Y.drop j ++ B) W
def St2 (w0 : World) (g : Nat) (A X Y B : List PEl) (i j : Nat) (W : World) : Prop := ∃ S1 : List PEl, S1.Perm (X.take i ++ Y.take j) ∧ S1.Pairwise elt ∧ SW w0 g (A ++ S1 ++ X.drop i ++ Y.drop j ++ B) W
theorem st3 {w0 : World} {g : Nat} {A X Y B S1 S2 : List PEl} {i j : Nat} {W : World} (h1 : S1.Perm (X.take i ++ Y.take j)) (p1 : S1.Pairwise elt) (h2 : S2.Perm (X.drop i ++ Y.drop j)) (p2 : S2.Pairwise elt) (hc : ∀ u ∈ X.take i ++ Y.take j, ∀ v ∈ X.drop i ++ Y.drop j, elt u v) (h : SW w0 g (A ++ S1 ++ S2 ++ B) W) : MergeDone w0 g A X Y B W := by
 refine ⟨S1 ++ S2, ?_, List.pairwise_append.2 ⟨p1, p2, fun u hu v hv => hc u (h1.mem_iff.1 hu) v (h2.mem_iff.1 hv)⟩, by simpa using h⟩
 refine (h1.append h2).trans ?_
 have e : X ++ Y = (X.take i ++ X.drop i) ++ (Y.take j ++ Y.drop j) := by rw [List.take_append_drop, List.take_append_drop]
 rw [e]
 simp only [List.append_assoc]
 refine List.Perm.append_left _ ?_
 rw [← List.append_assoc, ← List.append_assoc]
 exact List.Perm.append_right _ List.perm_append_comm
theorem len4 (A X Y B : List PEl) (i j : Nat) (S : List PEl) (h : S.length = (X.take i ++ Y.take j).length) : (A ++ S ++ X.drop i ++ Y.drop j ++ B).length = (A ++ X ++ Y ++ B).length := by
 simp only [List.length_append, List.length_take, List.length_drop] at h ⊢
 omega
set_option maxHeartbeats 4000000 in
theorem symMerge_step (w0 : World) (g cb : Nat) (U : PEl → Prop) (hg : g < w0.heap.size) (hcmp : CmpIn w0 g cb U) (n : Nat) (ih : MergeCalls w0 g cb U n) (A X Y B : List PEl) (N cap : Nat) (W : World) (hn : X.length + Y.length ≤ n + 1) (hcap : N ≤ 1048576) (h2x : 2 ≤ X.length) (h2y : 2 ≤ Y.length) (hM : MergeArgs w0 g U A X Y B N W) :
 Calls Tryz.prog 199 #[.slice (some ⟨g, 0, none⟩) N cap, .int .i64 A.length, .int .i64 (A.length + X.length : Nat), .int .i64 (A.length + X.length + Y.length : Nat), .func (.func 120) #[] #[.pointer (some ⟨cb, 0, none⟩)]] W fun e w' => e = .returned (.tuple #[]) ∧ MergeDone w0 g A X Y B w' := by
 obtain ⟨a, ha⟩ : ∃ a, a = A.length := ⟨_, rfl⟩
 obtain ⟨m, hm⟩ : ∃ m, m = A.length + X.length := ⟨_, rfl⟩
 obtain ⟨b, hb⟩ : ∃ b, b = A.length + X.length + Y.length := ⟨_, rfl⟩
 obtain ⟨md, hmd⟩ : ∃ md, md = (a + b) / 2 := ⟨_, rfl⟩
 obtain ⟨nn, hnn⟩ : ∃ nn, nn = md + m := ⟨_, rfl⟩
 rw [← hb, ← hm, ← ha]
 have hbN : b ≤ N := by rw [hM.hN]; simp only [List.length_append]; omega
 have hmx : m = a + X.length := by omega
 have hby : b = m + Y.length := by omega
 have c1 : ((m : Int) - (a : Int) == 1) = false := by simp; omega
 have c2 : ((b : Int) - (m : Int) == 1) = false := by simp; omega
 have c3 : ((a : Int) + (b : Int)) / 2 = (md : Int) := by omega
 have c4 : (md : Int) + (m : Int) = (nn : Int) := by omega
 have c5 : (nn : Int) - 1 = ((nn - 1 : Nat) : Int) := by omega
 have bnd : (a : Int) + (b : Int) ≤ 2097152 ∧ (md : Int) ≤ 1048576 ∧ (m : Int) ≤ 1048576 ∧ (b : Int) ≤ 1048576 ∧ (nn : Int) ≤ 2097152 ∧ (0 : Int) ≤ (md : Int) := ⟨by omega, by omega, by omega, by omega, by omega, by omega⟩
 obtain ⟨bnd1, bnd2, bnd3, bnd4, bnd5, bnd6⟩ := bnd
 have HSPAN : ∃ s0 r0 : Nat, ((md < m ∧ nn = b + s0 ∧ r0 = md) ∨ (¬ md < m ∧ s0 = a ∧ r0 = m)) ∧ Span X Y a m nn s0 r0 := by
  by_cases hlt : md < m
  · exact ⟨nn - b, md, .inl ⟨hlt, by omega, rfl⟩, hM.sx, hM.sy, hM.tags, hmx, fun c h1 h2 => ⟨by omega, by omega, by omega, by omega⟩, by omega, ⟨by omega, by omega, .inr (by omega)⟩, ⟨by omega, by omega, .inr (by omega)⟩⟩
  · exact ⟨a, m, .inr ⟨hlt, rfl, rfl⟩, hM.sx, hM.sy, hM.tags, hmx, fun c h1 h2 => ⟨by omega, by omega, by omega, by omega⟩, by omega, ⟨by omega, by omega, .inl rfl⟩, ⟨by omega, by omega, .inl rfl⟩⟩
 obtain ⟨s0, r0, hsr, hspan⟩ := HSPAN
 have HFIN : Hid (∀ s, s0 ≤ s → s ≤ r0 → Cut X Y a m nn s0 r0 s s → a ≤ s ∧ s ≤ m ∧ s + m ≤ nn ∧ nn ≤ b + s ∧ s ≤ md ∧ md + m = nn ∧ (∀ u ∈ X.take (s - a) ++ Y.take (nn - s - m), ∀ v ∈ X.drop (s - a) ++ Y.drop (nn - s - m), elt u v)) := Lib.hid (fun s h1 h2 hk => by
  have e1 := hspan.bot
  have e2 := hspan.top
  exact ⟨by omega, by omega, by omega, by omega, by omega, hnn.symm, hk.final hspan h1 h2⟩)
 have HM := Lib.hid hM
 have HIH := Lib.hid ih
 have HSP := Lib.hid hspan
 have HCMP := Lib.hid hcmp
 have HA := Lib.hid ha
 have HMX := Lib.hid hmx
 have HBY := Lib.hid hby
 have HNNl := Lib.hid hn
 have HN := Lib.hid hM.hN
 have hu := Tryz.underlying102
 have h0r := hspan.le
 have hrm : r0 ≤ m := hspan.top.1
 have H2 : Hid (2 ≤ X.length ∧ 2 ≤ Y.length) := Lib.hid ⟨h2x, h2y⟩
 clear hb ha hm hM ih hspan hcmp hmx hby hn h2x h2y hmd hnn
 rcases hsr with ⟨k1, k2, k3⟩ | ⟨k1, k2, k3⟩
 · have k4 : (nn : Int) - (b : Int) = (s0 : Int) := by omega
   have k5 : (md : Int) < (m : Int) := by omega
   have K3 := Lib.hid k3
   clear k2 k3
   go_enter Tryz.func199, Tryz.ntmps199
   go_wp2
   go_loopw [20, 21] (fun vs vr wr => ∃ s r : Nat, vs = .int .i64 s ∧ vr = .int .i64 r ∧ s0 ≤ s ∧ s ≤ r ∧ r ≤ r0 ∧ Hid (Cut X Y a m nn s0 r0 s r) ∧ Hid (SW w0 g (A ++ X ++ Y ++ B) wr)) (fun vs vr _ => (intOf vr).toNat - (intOf vs).toNat)
   case atStart => exact ⟨s0, r0, by first | rfl | (rw [k4]), by first | rfl | (rw [K3.out]), Nat.le_refl _, h0r, Nat.le_refl _, Lib.hid ⟨fun c h1 h2 => absurd h2 (by omega), fun c h1 h2 => absurd h2 (by omega)⟩, HM.out.sw⟩
   case round =>
    obtain ⟨s, r, rfl, rfl, hs0, hsr, hrr, HC, HS⟩ := hrel
    by_cases hlt : s < r
    · obtain ⟨c, hce⟩ : ∃ c, c = (s + r) / 2 := ⟨_, rfl⟩
      have hc1 : s ≤ c ∧ c < r := by omega
      have ha4 := HSP.out.at_ c (by omega) (by omega)
      obtain ⟨pc, hpc⟩ : ∃ pc, pc = nn - 1 - c := ⟨_, rfl⟩
      have c6 : ((s : Int) + (r : Int)) / 2 = (c : Int) := by omega
      have c7 : ((nn - 1 : Nat) : Int) - (c : Int) = (pc : Int) := by omega
      obtain ⟨x, hx⟩ : ∃ x, x = X.getD (c - a) zP := ⟨_, rfl⟩
      obtain ⟨y, hy⟩ : ∃ y, y = Y.getD (nn - 1 - c - m) zP := ⟨_, rfl⟩
      have hlx : c - a < X.length := by have := HMX.out; omega
      have hly : nn - 1 - c - m < Y.length := by omega
      have hxm : x ∈ X := by rw [hx]; exact getD_mem hlx
      have hym : y ∈ Y := by rw [hy]; exact getD_mem hly
      have hS := HS.out.drew
      have hx1 : (A ++ X ++ Y ++ B)[c]? = some x := by
       rw [List.append_assoc, List.append_assoc, List.getElem?_append_right (by rw [← HA.out]; omega), List.getElem?_append_left (by rw [← HA.out]; omega), hx, ← HA.out, List.getD_eq_getElem?_getD, List.getElem?_eq_getElem hlx]; rfl
      have hy1 : (A ++ X ++ Y ++ B)[pc]? = some y := by
       have hl : (A ++ X).length = m := by rw [List.length_append, ← HA.out]; exact HMX.out.symm
       rw [List.append_assoc, List.getElem?_append_right (by rw [hl]; omega), List.getElem?_append_left (by rw [hl]; omega), hl, hy, show pc - m = nn - 1 - c - m by omega, List.getD_eq_getElem?_getD, List.getElem?_eq_getElem hly]; rfl
      have r1 := hS.at_ _ _ hy1
      have r2 := hS.at_ _ _ hx1
      have i1 := info_pair _ (hS.ok y (List.mem_of_getElem? hy1)).len
      have i2 := info_pair _ (hS.ok x (List.mem_of_getElem? hx1)).len
      have HKD := Lib.hid hS.keep
      have HCC : Hid (∀ W, KeepG w0 g W → Calls Tryz.prog 120 #[.agg y.row.toArray, .agg x.row.toArray, .pointer (some ⟨cb, 0, none⟩)] W fun e w' => e = .returned (.int .i64 (vord y.key x.key)) ∧ Below W.heap.size W w') := Lib.hid (fun W hW => HCMP.out W hW y x (HM.out.hU y (List.mem_append_right _ hym)) (HM.out.hU x (List.mem_append_left _ hxm)))
      have q1 : (0 : Int) ≤ (pc : Int) := by omega
      have q2 : (pc : Int) < (N : Int) := by have := HBY.out; omega
      have q3 : (0 : Int) ≤ (c : Int) := by omega
      have q4 : (c : Int) < (N : Int) := by omega
      have q5 : (s : Int) + (r : Int) ≤ 4194304 := by omega
      have q6 : IntKind.i64.wrap (pc : Int) = (pc : Int) := by rw [wrap_in _ (by omega)]
      have HUP : Hid (¬ vord y.key x.key < 0 → Cut X Y a m nn s0 r0 (c + 1) r) := Lib.hid (fun h => HC.out.up HSP.out (by omega) (by omega) (by unfold Pr; rw [← hx, ← hy]; exact h))
      have HDN : Hid (vord y.key x.key < 0 → Cut X Y a m nn s0 r0 s c) := Lib.hid (fun h => HC.out.down HSP.out (by omega) (by omega) (by unfold Pr; rw [← hx, ← hy]; exact h))
      clear hce hx hy hlx hly hxm hym hS hx1 hy1 hpc ha4 HC
      by_cases hc : vord y.key x.key < 0
      · go_upto_region 35 with (fail)
        refine wp_region_any (by kernel_rfl) ?_
        change wpAny _ _ _ _ _ _ _ (World.drew _)
        refine tq 0 (h := ?_)
        refine tq 1 (h := ?_)
        simp only [lst]
        refine tq 2 (h := ?_)
        refine tq 3 (h := ?_)
        simp only [lst]
        refine tq 4 (h := ?_)
        refine tq 5 (h := ?_)
        simp only [lst]
        refine tq 7 (h := ?_)
        refine tq 8 (h := ?_)
        simp only [lst]
        refine tq 9 (h := ?_)
        simp only [lst]
        refine two 6 10 rfl rfl (by kernel_rfl) (by rfl) (by rfl) (fun K_ hK_ => ?_) (fun K_ hK_ => ?_)
        refine wp_load_mid _ _ rfl _ _ rfl _ _ r1 hu rfl i1 ?_
        refine hK_ _ _ ?_
        clear hK_ K_
        simp only [Act.put, lgt, List.setIfInBounds_toArray, lst]
        refine one 10 rfl (by kernel_rfl) (by rfl) fun K_ hK_ => ?_
        refine wp_load_mid _ _ rfl _ _ rfl _ _ r2 hu rfl i2 ?_
        refine hK_ _ _ ?_
        clear hK_ K_
        simp only [Act.put, lgt, List.setIfInBounds_toArray, lst]
        refine one 11 rfl (by kernel_rfl) (by rfl) fun K_ hK_ => ?_
        simp only [lgt]
        go_simp
        refine (HCC.out _ HKD.out).mono ?_
        rintro e_ w5 ⟨rfl, hB5⟩
        have HB5 := Lib.hid hB5
        clear hB5
        simp only [Oper.upon]
        refine hK_ _ _ ?_
        clear hK_ K_
        refine tq 12 (h := ?_)
        refine tq 13 (h := ?_)
        refine wpAny_done (by kernel_rfl) ?_ _
        simp only [lst]
        rotate_left
        refine wp_load_mid _ _ rfl _ _ rfl _ _ r2 hu rfl i2 ?_
        refine hK_ _ _ ?_
        clear hK_ K_
        simp only [Act.put, lgt, List.setIfInBounds_toArray, lst]
        refine one 6 rfl (by kernel_rfl) (by rfl) fun K_ hK_ => ?_
        refine wp_load_mid _ _ rfl _ _ rfl _ _ r1 hu rfl i1 ?_
        refine hK_ _ _ ?_
        clear hK_ K_
        simp only [Act.put, lgt, List.setIfInBounds_toArray, lst]
        refine one 11 rfl (by kernel_rfl) (by rfl) fun K_ hK_ => ?_
        simp only [lgt]
        go_simp
        refine (HCC.out _ HKD.out).mono ?_
        rintro e_ w5 ⟨rfl, hB5⟩
        have HB5 := Lib.hid hB5
        clear hB5
        simp only [Oper.upon]
        refine hK_ _ _ ?_
        clear hK_ K_
        refine tq 12 (h := ?_)
        refine tq 13 (h := ?_)
        refine wpAny_done (by kernel_rfl) ?_ _
        simp only [lst]
        rotate_left
        all_goals
         clear r1 r2 i1 i2 HCC HKD q1 q2 q3 q4 q6 c7
         have HS5 := Lib.hid (HS.out.drew.grow hg HB5.out)
         have HC2 := Lib.hid (HDN.out hc)
         clear c6
         go_wp2_with fail
         go_roundw
         case rel => exact ⟨s, c, rfl, rfl, hs0, hc1.1, by omega, HC2, HS5⟩
         case measure => show c - s < r - s; omega
      · go_upto_region 35 with (fail)
        refine wp_region_any (by kernel_rfl) ?_
        change wpAny _ _ _ _ _ _ _ (World.drew _)
        refine tq 0 (h := ?_)
        refine tq 1 (h := ?_)
        simp only [lst]
        refine tq 2 (h := ?_)
        refine tq 3 (h := ?_)
        simp only [lst]
        refine tq 4 (h := ?_)
        refine tq 5 (h := ?_)
        simp only [lst]
        refine tq 7 (h := ?_)
        refine tq 8 (h := ?_)
        simp only [lst]
        refine tq 9 (h := ?_)
        simp only [lst]
        refine two 6 10 rfl rfl (by kernel_rfl) (by rfl) (by rfl) (fun K_ hK_ => ?_) (fun K_ hK_ => ?_)
        refine wp_load_mid _ _ rfl _ _ rfl _ _ r1 hu rfl i1 ?_
        refine hK_ _ _ ?_
        clear hK_ K_
        simp only [Act.put, lgt, List.setIfInBounds_toArray, lst]
        refine one 10 rfl (by kernel_rfl) (by rfl) fun K_ hK_ => ?_
        refine wp_load_mid _ _ rfl _ _ rfl _ _ r2 hu rfl i2 ?_
        refine hK_ _ _ ?_
        clear hK_ K_
        simp only [Act.put, lgt, List.setIfInBounds_toArray, lst]
        refine one 11 rfl (by kernel_rfl) (by rfl) fun K_ hK_ => ?_
        simp only [lgt]
        go_simp
        refine (HCC.out _ HKD.out).mono ?_
        rintro e_ w5 ⟨rfl, hB5⟩
        have HB5 := Lib.hid hB5
        clear hB5
        simp only [Oper.upon]
        refine hK_ _ _ ?_
        clear hK_ K_
        refine tq 12 (h := ?_)
        refine tq 13 (h := ?_)
        refine wpAny_done (by kernel_rfl) ?_ _
        simp only [lst]
        rotate_left
        refine wp_load_mid _ _ rfl _ _ rfl _ _ r2 hu rfl i2 ?_
        refine hK_ _ _ ?_
        clear hK_ K_
        simp only [Act.put, lgt, List.setIfInBounds_toArray, lst]
        refine one 6 rfl (by kernel_rfl) (by rfl) fun K_ hK_ => ?_
        refine wp_load_mid _ _ rfl _ _ rfl _ _ r1 hu rfl i1 ?_
        refine hK_ _ _ ?_
        clear hK_ K_
        simp only [Act.put, lgt, List.setIfInBounds_toArray, lst]
        refine one 11 rfl (by kernel_rfl) (by rfl) fun K_ hK_ => ?_
        simp only [lgt]
        go_simp
        refine (HCC.out _ HKD.out).mono ?_
        rintro e_ w5 ⟨rfl, hB5⟩
        have HB5 := Lib.hid hB5
        clear hB5
        simp only [Oper.upon]
        refine hK_ _ _ ?_
        clear hK_ K_
        refine tq 12 (h := ?_)
        refine tq 13 (h := ?_)
        refine wpAny_done (by kernel_rfl) ?_ _
        simp only [lst]
        rotate_left
        all_goals
         clear r1 r2 i1 i2 HCC HKD q1 q2 q3 q4 q6 c7
         have HS5 := Lib.hid (HS.out.drew.grow hg HB5.out)
         have HC2 := Lib.hid (HUP.out hc)
         have hw : (c : Int) + 1 ≤ 1048576 := by omega
         clear c6
         go_wp2_with fail
         go_roundw
         case rel => exact ⟨c + 1, r, by first | rfl | exact congrArg (Value.int .i64) (wrap64_up c (by omega)), rfl, by omega, by omega, hrr, HC2, HS5⟩
         case measure => first | (rw [wrap64_up c (by omega)]; show r - (c + 1) < r - s; omega) | (show r - (c + 1) < r - s; omega)
    · obtain rfl : s = r := by omega
      obtain ⟨f1, f2, f3, f4, f5, f6, hcut⟩ := HFIN.out s hs0 hrr HC.out
      obtain ⟨e, hee⟩ : ∃ e, e = nn - s := ⟨_, rfl⟩
      obtain ⟨i, hi⟩ : ∃ i, i = s - a := ⟨_, rfl⟩
      obtain ⟨j, hj⟩ : ∃ j, j = nn - s - m := ⟨_, rfl⟩
      rw [← hi, ← hj] at hcut
      have c8 : (nn : Int) - (s : Int) = (e : Int) := by omega
      have b1 : m ≤ e ∧ e ≤ b ∧ e = m + j ∧ s = a + i ∧ md = a + i + j ∧ i ≤ X.length ∧ j ≤ Y.length := by
       have := HMX.out
       have := HBY.out
       exact ⟨by omega, by omega, by omega, by omega, by omega, by omega, by omega⟩
      have l1 : (X.take i).length = i := by rw [List.length_take]; omega
      have l2 : (X.drop i).length = X.length - i := List.length_drop
      have l3 : (Y.take j).length = j := by rw [List.length_take]; omega
      have l4 : (Y.drop j).length = Y.length - j := List.length_drop
      have HX1 : Hid ((X.take i).Pairwise elt ∧ (X.drop i).Pairwise elt ∧ (Y.take j).Pairwise elt ∧ (Y.drop j).Pairwise elt) := Lib.hid ⟨HM.out.sx.sublist (List.take_sublist _ _), HM.out.sx.sublist (List.drop_sublist _ _), HM.out.sy.sublist (List.take_sublist _ _), HM.out.sy.sublist (List.drop_sublist _ _)⟩
      have e0 : A ++ X ++ Y ++ B = A ++ X.take i ++ X.drop i ++ Y.take j ++ (Y.drop j ++ B) := by
       have e1 : A ++ X ++ Y ++ B = A ++ (X.take i ++ X.drop i) ++ (Y.take j ++ Y.drop j) ++ B := by rw [List.take_append_drop, List.take_append_drop]
       rw [e1]; simp only [List.append_assoc]
      have HS' := HS.out
      rw [e0] at HS'
      have HROT : Hid (s < m → m < e → Calls Tryz.prog 246 #[.slice (some ⟨g, 0, none⟩) N cap, .int .i64 s, .int .i64 m, .int .i64 e, .func (.func 120) #[] #[.pointer (some ⟨cb, 0, none⟩)]] wr fun e w' => e = .returned (.tuple #[]) ∧ St1 w0 g A X Y B i j w') := Lib.hid (fun h1 h2 => by
       have h := rotate_in w0 g (A ++ X.take i) (X.drop i) (Y.take j) (Y.drop j ++ B) N cap (.func (.func 120) #[] #[.pointer (some ⟨cb, 0, none⟩)]) wr (by intro e; rw [e] at l2; simp at l2; have := HMX.out; omega) (by intro e; rw [e] at l3; simp at l3; omega) (by rw [HN.out, e0]) hcap HS'
       have e2 : (A ++ X.take i).length = s := by rw [List.length_append, l1, ← HA.out]; omega
       rw [e2, l2, l3, show s + (X.length - i) = m by have := HMX.out; omega, show m + j = e by omega] at h
       refine h.mono ?_
       rintro e w' ⟨rfl, h3⟩
       exact ⟨rfl, by unfold St1; simp only [List.append_assoc] at h3 ⊢; exact h3⟩)
      have HE1 : Hid (¬ (s < m ∧ m < e) → St1 w0 g A X Y B i j wr) := Lib.hid (fun h => by
       unfold St1
       have hz : X.drop i = [] ∨ Y.take j = [] := by
        by_cases h1 : s < m
        · exact .inr (List.eq_nil_of_length_eq_zero (by rw [l3]; omega))
        · exact .inl (List.eq_nil_of_length_eq_zero (by rw [l2]; have := HMX.out; omega))
       rcases hz with hz | hz <;> rw [hz] at HS' ⊢ <;> simp only [List.append_assoc, List.append_nil, List.nil_append] at HS' ⊢ <;> exact HS')
      have HR1 : Hid (∀ w1, St1 w0 g A X Y B i j w1 → a < s → s < md → Calls Tryz.prog 199 #[.slice (some ⟨g, 0, none⟩) N cap, .int .i64 a, .int .i64 s, .int .i64 md, .func (.func 120) #[] #[.pointer (some ⟨cb, 0, none⟩)]] w1 fun e w' => e = .returned (.tuple #[]) ∧ St2 w0 g A X Y B i j w') := Lib.hid (fun w1 hw1 h1 h2 => by
       have h := HIH.out A (X.take i) (Y.take j) (X.drop i ++ Y.drop j ++ B) N cap w1 (by rw [l1, l3]; have := HNNl.out; have := H2.out; have := HMX.out; have := HBY.out; omega) hcap ⟨by intro e; rw [e] at l1; simp at l1; omega, by intro e; rw [e] at l3; simp at l3; omega, by rw [HN.out, ← len4 A X Y B i j (X.take i ++ Y.take j) rfl]; simp only [List.length_append]; omega, fun u hu => HM.out.hU u (by
        rcases List.mem_append.1 hu with hu | hu
        · exact List.mem_append_left _ (List.mem_of_mem_take hu)
        · exact List.mem_append_right _ (List.mem_of_mem_take hu)), HX1.out.1, HX1.out.2.2.1, fun u hu v hv => HM.out.tags u (List.mem_of_mem_take hu) v (List.mem_of_mem_take hv), by unfold St1 at hw1; simp only [List.append_assoc] at hw1 ⊢; exact hw1⟩
       rw [l1, l3, ← HA.out, show a + i = s by omega, show s + j = md by omega] at h
       refine h.mono ?_
       rintro e w' ⟨rfl, S1, p1, p2, p3⟩
       exact ⟨rfl, S1, p1, p2, by simp only [List.append_assoc] at p3 ⊢; exact p3⟩)
      have HE2 : Hid (∀ w1, St1 w0 g A X Y B i j w1 → ¬ (a < s ∧ s < md) → St2 w0 g A X Y B i j w1) := Lib.hid (fun w1 hw1 h => by
       refine ⟨X.take i ++ Y.take j, List.Perm.refl _, ?_, by unfold St1 at hw1; simp only [List.append_assoc] at hw1 ⊢; exact hw1⟩
       have hz : X.take i = [] ∨ Y.take j = [] := by
        by_cases h1 : a < s
        · exact .inr (List.eq_nil_of_length_eq_zero (by rw [l3]; omega))
        · exact .inl (List.eq_nil_of_length_eq_zero (by rw [l1]; omega))
       rcases hz with hz | hz <;> rw [hz]
       · rw [List.nil_append]; exact HX1.out.2.2.1
       · rw [List.append_nil]; exact HX1.out.1)
      have HR2 : Hid (∀ w2, St2 w0 g A X Y B i j w2 → md < e → e < b → Calls Tryz.prog 199 #[.slice (some ⟨g, 0, none⟩) N cap, .int .i64 md, .int .i64 e, .int .i64 b, .func (.func 120) #[] #[.pointer (some ⟨cb, 0, none⟩)]] w2 fun e w' => e = .returned (.tuple #[]) ∧ MergeDone w0 g A X Y B w') := Lib.hid (fun w2 hw2 h1 h2 => by
       obtain ⟨S1, p1, p2, p3⟩ := hw2
       have hsl : S1.length = i + j := by rw [p1.length_eq, List.length_append, l1, l3]
       have h := HIH.out (A ++ S1) (X.drop i) (Y.drop j) B N cap w2 (by rw [l2, l4]; have := HNNl.out; have := H2.out; have := HMX.out; have := HBY.out; omega) hcap ⟨by intro e; rw [e] at l2; simp at l2; have := HMX.out; omega, by intro e; rw [e] at l4; simp at l4; have := HBY.out; omega, by rw [HN.out, ← len4 A X Y B i j S1 p1.length_eq], fun u hu => HM.out.hU u (by
        rcases List.mem_append.1 hu with hu | hu
        · exact List.mem_append_left _ (List.mem_of_mem_drop hu)
        · exact List.mem_append_right _ (List.mem_of_mem_drop hu)), HX1.out.2.1, HX1.out.2.2.2, fun u hu v hv => HM.out.tags u (List.mem_of_mem_drop hu) v (List.mem_of_mem_drop hv), p3⟩
       rw [l2, l4, show (A ++ S1).length = md by rw [List.length_append, hsl, ← HA.out]; omega, show md + (X.length - i) = e by have := HMX.out; omega, show e + (Y.length - j) = b by have := HBY.out; omega] at h
       refine h.mono ?_
       rintro e w' ⟨rfl, S2, t1, t2, t3⟩
       exact ⟨rfl, st3 p1 p2 t1 t2 hcut t3⟩)
      have HE3 : Hid (∀ w2, St2 w0 g A X Y B i j w2 → ¬ (md < e ∧ e < b) → MergeDone w0 g A X Y B w2) := Lib.hid (fun w2 hw2 h => by
       obtain ⟨S1, p1, p2, p3⟩ := hw2
       refine st3 (S2 := X.drop i ++ Y.drop j) p1 p2 (List.Perm.refl _) ?_ hcut (by simp only [List.append_assoc] at p3 ⊢; exact p3)
       have hz : X.drop i = [] ∨ Y.drop j = [] := by
        by_cases h1 : md < e
        · exact .inr (List.eq_nil_of_length_eq_zero (by rw [l4]; have := HBY.out; omega))
        · exact .inl (List.eq_nil_of_length_eq_zero (by rw [l2]; have := HMX.out; omega))
       rcases hz with hz | hz <;> rw [hz]
       · rw [List.nil_append]; exact HX1.out.2.2.2
       · rw [List.append_nil]; exact HX1.out.2.1)
      clear hcut l1 l2 l3 l4 e0 HS' hee hi hj b1 f1 f2 f3 f4 f5 f6 HC hs0 hsr hrr hlt c3
      by_cases d1 : s < m ∧ m < e
      · have d1x : (s : Int) < (m : Int) := by omega
        have d1y : (m : Int) < (e : Int) := by omega
        by_cases d2 : a < s ∧ s < md
        · have d2x : (a : Int) < (s : Int) := by omega
          have d2y : (s : Int) < (md : Int) := by omega
          by_cases d3 : md < e ∧ e < b
          · have d3x : (md : Int) < (e : Int) := by omega
            have d3y : (e : Int) < (b : Int) := by omega
            go_wp2_with (first
             | (go_at_call 246; (with_reducible refine (HROT.out d1.1 d1.2).mono ?_); rintro e w1 ⟨rfl, hT1⟩; have HT1 := Lib.hid hT1; clear hT1)
             | (go_at_call 199; (with_reducible refine (HR1.out _ HT1.out d2.1 d2.2).mono ?_); rintro e w2 ⟨rfl, hT2⟩; have HT2 := Lib.hid hT2; clear hT2)
             | (go_at_call 199; (with_reducible refine (HR2.out _ HT2.out d3.1 d3.2).mono ?_); rintro e w3 ⟨rfl, hT3⟩; have HT3 := Lib.hid hT3; clear hT3))
            all_goals (first | exact bodyPost_end (v := .tuple #[]) (by simp [results, Tryz.f199, go_sem]) rfl ⟨rfl, HT3.out⟩ | (refine bodyPost_ret (v := .tuple #[]) ?_ rfl ⟨rfl, HT3.out⟩ <;> simp [results, Tryz.f199, go_sem]))
          · have d3x : (md : Int) < (e : Int) → ¬ (e : Int) < (b : Int) := by omega
            by_cases d3y : md < e
            · have d3z : (md : Int) < (e : Int) := by omega
              have d3w : ¬ (e : Int) < (b : Int) := by omega
              clear d3x
              go_wp2_with (first
               | (go_at_call 246; (with_reducible refine (HROT.out d1.1 d1.2).mono ?_); rintro e w1 ⟨rfl, hT1⟩; have HT1 := Lib.hid hT1; clear hT1)
               | (go_at_call 199; (with_reducible refine (HR1.out _ HT1.out d2.1 d2.2).mono ?_); rintro e w2 ⟨rfl, hT2⟩; have HT2 := Lib.hid hT2; clear hT2))
              all_goals have HT3 := Lib.hid (HE3.out _ HT2.out d3)
              all_goals (first | exact bodyPost_end (v := .tuple #[]) (by simp [results, Tryz.f199, go_sem]) rfl ⟨rfl, HT3.out⟩ | (refine bodyPost_ret (v := .tuple #[]) ?_ rfl ⟨rfl, HT3.out⟩ <;> simp [results, Tryz.f199, go_sem]))
            · have d3z : ¬ (md : Int) < (e : Int) := by omega
              clear d3x
              go_wp2_with (first
               | (go_at_call 246; (with_reducible refine (HROT.out d1.1 d1.2).mono ?_); rintro e w1 ⟨rfl, hT1⟩; have HT1 := Lib.hid hT1; clear hT1)
               | (go_at_call 199; (with_reducible refine (HR1.out _ HT1.out d2.1 d2.2).mono ?_); rintro e w2 ⟨rfl, hT2⟩; have HT2 := Lib.hid hT2; clear hT2))
              all_goals have HT3 := Lib.hid (HE3.out _ HT2.out d3)
              all_goals (first | exact bodyPost_end (v := .tuple #[]) (by simp [results, Tryz.f199, go_sem]) rfl ⟨rfl, HT3.out⟩ | (refine bodyPost_ret (v := .tuple #[]) ?_ rfl ⟨rfl, HT3.out⟩ <;> simp [results, Tryz.f199, go_sem]))
        · have d2x : (a : Int) < (s : Int) → ¬ (s : Int) < (md : Int) := by omega
          by_cases d2y : a < s
          · have d2z : (a : Int) < (s : Int) := by omega
            have d2w : ¬ (s : Int) < (md : Int) := by omega
            clear d2x
            by_cases d3 : md < e ∧ e < b
            · have d3x : (md : Int) < (e : Int) := by omega
              have d3y : (e : Int) < (b : Int) := by omega
              go_wp2_with (first
               | (go_at_call 246; (with_reducible refine (HROT.out d1.1 d1.2).mono ?_); rintro e w1 ⟨rfl, hT1⟩; have HT1 := Lib.hid hT1; clear hT1)
               | (go_at_call 199; have HT2 := Lib.hid (HE2.out _ HT1.out d2); (with_reducible refine (HR2.out _ HT2.out d3.1 d3.2).mono ?_); rintro e w3 ⟨rfl, hT3⟩; have HT3 := Lib.hid hT3; clear hT3))
              all_goals (first | exact bodyPost_end (v := .tuple #[]) (by simp [results, Tryz.f199, go_sem]) rfl ⟨rfl, HT3.out⟩ | (refine bodyPost_ret (v := .tuple #[]) ?_ rfl ⟨rfl, HT3.out⟩ <;> simp [results, Tryz.f199, go_sem]))
            · have d3x : (md : Int) < (e : Int) → ¬ (e : Int) < (b : Int) := by omega
              by_cases d3y : md < e
              · have d3z : (md : Int) < (e : Int) := by omega
                have d3w : ¬ (e : Int) < (b : Int) := by omega
                clear d3x
                go_wp2_with (first
                 | (go_at_call 246; (with_reducible refine (HROT.out d1.1 d1.2).mono ?_); rintro e w1 ⟨rfl, hT1⟩; have HT1 := Lib.hid hT1; clear hT1))
                all_goals have HT2 := Lib.hid (HE2.out _ HT1.out d2)
                all_goals have HT3 := Lib.hid (HE3.out _ HT2.out d3)
                all_goals (first | exact bodyPost_end (v := .tuple #[]) (by simp [results, Tryz.f199, go_sem]) rfl ⟨rfl, HT3.out⟩ | (refine bodyPost_ret (v := .tuple #[]) ?_ rfl ⟨rfl, HT3.out⟩ <;> simp [results, Tryz.f199, go_sem]))
              · have d3z : ¬ (md : Int) < (e : Int) := by omega
                clear d3x
                go_wp2_with (first
                 | (go_at_call 246; (with_reducible refine (HROT.out d1.1 d1.2).mono ?_); rintro e w1 ⟨rfl, hT1⟩; have HT1 := Lib.hid hT1; clear hT1))
                all_goals have HT2 := Lib.hid (HE2.out _ HT1.out d2)
                all_goals have HT3 := Lib.hid (HE3.out _ HT2.out d3)
                all_goals (first | exact bodyPost_end (v := .tuple #[]) (by simp [results, Tryz.f199, go_sem]) rfl ⟨rfl, HT3.out⟩ | (refine bodyPost_ret (v := .tuple #[]) ?_ rfl ⟨rfl, HT3.out⟩ <;> simp [results, Tryz.f199, go_sem]))
          · have d2z : ¬ (a : Int) < (s : Int) := by omega
            clear d2x
            by_cases d3 : md < e ∧ e < b
            · have d3x : (md : Int) < (e : Int) := by omega
              have d3y : (e : Int) < (b : Int) := by omega
              go_wp2_with (first
               | (go_at_call 246; (with_reducible refine (HROT.out d1.1 d1.2).mono ?_); rintro e w1 ⟨rfl, hT1⟩; have HT1 := Lib.hid hT1; clear hT1)
               | (go_at_call 199; have HT2 := Lib.hid (HE2.out _ HT1.out d2); (with_reducible refine (HR2.out _ HT2.out d3.1 d3.2).mono ?_); rintro e w3 ⟨rfl, hT3⟩; have HT3 := Lib.hid hT3; clear hT3))
              all_goals (first | exact bodyPost_end (v := .tuple #[]) (by simp [results, Tryz.f199, go_sem]) rfl ⟨rfl, HT3.out⟩ | (refine bodyPost_ret (v := .tuple #[]) ?_ rfl ⟨rfl, HT3.out⟩ <;> simp [results, Tryz.f199, go_sem]))
            · have d3x : (md : Int) < (e : Int) → ¬ (e : Int) < (b : Int) := by omega
              by_cases d3y : md < e
              · have d3z : (md : Int) < (e : Int) := by omega
                have d3w : ¬ (e : Int) < (b : Int) := by omega
                clear d3x
                go_wp2_with (first
                 | (go_at_call 246; (with_reducible refine (HROT.out d1.1 d1.2).mono ?_); rintro e w1 ⟨rfl, hT1⟩; have HT1 := Lib.hid hT1; clear hT1))
                all_goals have HT2 := Lib.hid (HE2.out _ HT1.out d2)
                all_goals have HT3 := Lib.hid (HE3.out _ HT2.out d3)
                all_goals (first | exact bodyPost_end (v := .tuple #[]) (by simp [results, Tryz.f199, go_sem]) rfl ⟨rfl, HT3.out⟩ | (refine bodyPost_ret (v := .tuple #[]) ?_ rfl ⟨rfl, HT3.out⟩ <;> simp [results, Tryz.f199, go_sem]))
              · have d3z : ¬ (md : Int) < (e : Int) := by omega
                clear d3x
                go_wp2_with (first
                 | (go_at_call 246; (with_reducible refine (HROT.out d1.1 d1.2).mono ?_); rintro e w1 ⟨rfl, hT1⟩; have HT1 := Lib.hid hT1; clear hT1))
                all_goals have HT2 := Lib.hid (HE2.out _ HT1.out d2)
                all_goals have HT3 := Lib.hid (HE3.out _ HT2.out d3)
                all_goals (first | exact bodyPost_end (v := .tuple #[]) (by simp [results, Tryz.f199, go_sem]) rfl ⟨rfl, HT3.out⟩ | (refine bodyPost_ret (v := .tuple #[]) ?_ rfl ⟨rfl, HT3.out⟩ <;> simp [results, Tryz.f199, go_sem]))
      · have d1x : (s : Int) < (m : Int) → ¬ (m : Int) < (e : Int) := by omega
        by_cases d1y : s < m
        · have d1z : (s : Int) < (m : Int) := by omega
          have d1w : ¬ (m : Int) < (e : Int) := by omega
          clear d1x
          by_cases d2 : a < s ∧ s < md
          · have d2x : (a : Int) < (s : Int) := by omega
            have d2y : (s : Int) < (md : Int) := by omega
            by_cases d3 : md < e ∧ e < b
            · have d3x : (md : Int) < (e : Int) := by omega
              have d3y : (e : Int) < (b : Int) := by omega
              have HT1 := Lib.hid (HE1.out d1)
              go_wp2_with (first
               | (go_at_call 199; (with_reducible refine (HR1.out _ HT1.out d2.1 d2.2).mono ?_); rintro e w2 ⟨rfl, hT2⟩; have HT2 := Lib.hid hT2; clear hT2)
               | (go_at_call 199; (with_reducible refine (HR2.out _ HT2.out d3.1 d3.2).mono ?_); rintro e w3 ⟨rfl, hT3⟩; have HT3 := Lib.hid hT3; clear hT3))
              all_goals (first | exact bodyPost_end (v := .tuple #[]) (by simp [results, Tryz.f199, go_sem]) rfl ⟨rfl, HT3.out⟩ | (refine bodyPost_ret (v := .tuple #[]) ?_ rfl ⟨rfl, HT3.out⟩ <;> simp [results, Tryz.f199, go_sem]))
            · have d3x : (md : Int) < (e : Int) → ¬ (e : Int) < (b : Int) := by omega
              by_cases d3y : md < e
              · have d3z : (md : Int) < (e : Int) := by omega
                have d3w : ¬ (e : Int) < (b : Int) := by omega
                clear d3x
                have HT1 := Lib.hid (HE1.out d1)
                go_wp2_with (first
                 | (go_at_call 199; (with_reducible refine (HR1.out _ HT1.out d2.1 d2.2).mono ?_); rintro e w2 ⟨rfl, hT2⟩; have HT2 := Lib.hid hT2; clear hT2))
                all_goals have HT3 := Lib.hid (HE3.out _ HT2.out d3)
                all_goals (first | exact bodyPost_end (v := .tuple #[]) (by simp [results, Tryz.f199, go_sem]) rfl ⟨rfl, HT3.out⟩ | (refine bodyPost_ret (v := .tuple #[]) ?_ rfl ⟨rfl, HT3.out⟩ <;> simp [results, Tryz.f199, go_sem]))
              · have d3z : ¬ (md : Int) < (e : Int) := by omega
                clear d3x
                have HT1 := Lib.hid (HE1.out d1)
                go_wp2_with (first
                 | (go_at_call 199; (with_reducible refine (HR1.out _ HT1.out d2.1 d2.2).mono ?_); rintro e w2 ⟨rfl, hT2⟩; have HT2 := Lib.hid hT2; clear hT2))
                all_goals have HT3 := Lib.hid (HE3.out _ HT2.out d3)
                all_goals (first | exact bodyPost_end (v := .tuple #[]) (by simp [results, Tryz.f199, go_sem]) rfl ⟨rfl, HT3.out⟩ | (refine bodyPost_ret (v := .tuple #[]) ?_ rfl ⟨rfl, HT3.out⟩ <;> simp [results, Tryz.f199, go_sem]))
          · have d2x : (a : Int) < (s : Int) → ¬ (s : Int) < (md : Int) := by omega
            by_cases d2y : a < s
            · have d2z : (a : Int) < (s : Int) := by omega
              have d2w : ¬ (s : Int) < (md : Int) := by omega
              clear d2x
              by_cases d3 : md < e ∧ e < b
              · have d3x : (md : Int) < (e : Int) := by omega
                have d3y : (e : Int) < (b : Int) := by omega
                have HT1 := Lib.hid (HE1.out d1)
                go_wp2_with (first
                 | (go_at_call 199; have HT2 := Lib.hid (HE2.out _ HT1.out d2); (with_reducible refine (HR2.out _ HT2.out d3.1 d3.2).mono ?_); rintro e w3 ⟨rfl, hT3⟩; have HT3 := Lib.hid hT3; clear hT3))
                all_goals (first | exact bodyPost_end (v := .tuple #[]) (by simp [results, Tryz.f199, go_sem]) rfl ⟨rfl, HT3.out⟩ | (refine bodyPost_ret (v := .tuple #[]) ?_ rfl ⟨rfl, HT3.out⟩ <;> simp [results, Tryz.f199, go_sem]))
              · have d3x : (md : Int) < (e : Int) → ¬ (e : Int) < (b : Int) := by omega
                by_cases d3y : md < e
                · have d3z : (md : Int) < (e : Int) := by omega
                  have d3w : ¬ (e : Int) < (b : Int) := by omega
                  clear d3x
                  have HT1 := Lib.hid (HE1.out d1)
                  go_wp2
                  all_goals have HT2 := Lib.hid (HE2.out _ HT1.out d2)
                  all_goals have HT3 := Lib.hid (HE3.out _ HT2.out d3)
                  all_goals (first | exact bodyPost_end (v := .tuple #[]) (by simp [results, Tryz.f199, go_sem]) rfl ⟨rfl, HT3.out⟩ | (refine bodyPost_ret (v := .tuple #[]) ?_ rfl ⟨rfl, HT3.out⟩ <;> simp [results, Tryz.f199, go_sem]))
                · have d3z : ¬ (md : Int) < (e : Int) := by omega
                  clear d3x
                  have HT1 := Lib.hid (HE1.out d1)
                  go_wp2
                  all_goals have HT2 := Lib.hid (HE2.out _ HT1.out d2)
                  all_goals have HT3 := Lib.hid (HE3.out _ HT2.out d3)
                  all_goals (first | exact bodyPost_end (v := .tuple #[]) (by simp [results, Tryz.f199, go_sem]) rfl ⟨rfl, HT3.out⟩ | (refine bodyPost_ret (v := .tuple #[]) ?_ rfl ⟨rfl, HT3.out⟩ <;> simp [results, Tryz.f199, go_sem]))
            · have d2z : ¬ (a : Int) < (s : Int) := by omega
              clear d2x
              by_cases d3 : md < e ∧ e < b
              · have d3x : (md : Int) < (e : Int) := by omega
                have d3y : (e : Int) < (b : Int) := by omega
                have HT1 := Lib.hid (HE1.out d1)
                go_wp2_with (first
                 | (go_at_call 199; have HT2 := Lib.hid (HE2.out _ HT1.out d2); (with_reducible refine (HR2.out _ HT2.out d3.1 d3.2).mono ?_); rintro e w3 ⟨rfl, hT3⟩; have HT3 := Lib.hid hT3; clear hT3))
                all_goals (first | exact bodyPost_end (v := .tuple #[]) (by simp [results, Tryz.f199, go_sem]) rfl ⟨rfl, HT3.out⟩ | (refine bodyPost_ret (v := .tuple #[]) ?_ rfl ⟨rfl, HT3.out⟩ <;> simp [results, Tryz.f199, go_sem]))
              · have d3x : (md : Int) < (e : Int) → ¬ (e : Int) < (b : Int) := by omega
                by_cases d3y : md < e
                · have d3z : (md : Int) < (e : Int) := by omega
                  have d3w : ¬ (e : Int) < (b : Int) := by omega
                  clear d3x
                  have HT1 := Lib.hid (HE1.out d1)
                  go_wp2
                  all_goals have HT2 := Lib.hid (HE2.out _ HT1.out d2)
                  all_goals have HT3 := Lib.hid (HE3.out _ HT2.out d3)
                  all_goals (first | exact bodyPost_end (v := .tuple #[]) (by simp [results, Tryz.f199, go_sem]) rfl ⟨rfl, HT3.out⟩ | (refine bodyPost_ret (v := .tuple #[]) ?_ rfl ⟨rfl, HT3.out⟩ <;> simp [results, Tryz.f199, go_sem]))
                · have d3z : ¬ (md : Int) < (e : Int) := by omega
                  clear d3x
                  have HT1 := Lib.hid (HE1.out d1)
                  go_wp2
                  all_goals have HT2 := Lib.hid (HE2.out _ HT1.out d2)
                  all_goals have HT3 := Lib.hid (HE3.out _ HT2.out d3)
                  all_goals (first | exact bodyPost_end (v := .tuple #[]) (by simp [results, Tryz.f199, go_sem]) rfl ⟨rfl, HT3.out⟩ | (refine bodyPost_ret (v := .tuple #[]) ?_ rfl ⟨rfl, HT3.out⟩ <;> simp [results, Tryz.f199, go_sem]))
        · have d1z : ¬ (s : Int) < (m : Int) := by omega
          clear d1x
          by_cases d2 : a < s ∧ s < md
          · have d2x : (a : Int) < (s : Int) := by omega
            have d2y : (s : Int) < (md : Int) := by omega
            by_cases d3 : md < e ∧ e < b
            · have d3x : (md : Int) < (e : Int) := by omega
              have d3y : (e : Int) < (b : Int) := by omega
              have HT1 := Lib.hid (HE1.out d1)
              go_wp2_with (first
               | (go_at_call 199; (with_reducible refine (HR1.out _ HT1.out d2.1 d2.2).mono ?_); rintro e w2 ⟨rfl, hT2⟩; have HT2 := Lib.hid hT2; clear hT2)
               | (go_at_call 199; (with_reducible refine (HR2.out _ HT2.out d3.1 d3.2).mono ?_); rintro e w3 ⟨rfl, hT3⟩; have HT3 := Lib.hid hT3; clear hT3))
              all_goals (first | exact bodyPost_end (v := .tuple #[]) (by simp [results, Tryz.f199, go_sem]) rfl ⟨rfl, HT3.out⟩ | (refine bodyPost_ret (v := .tuple #[]) ?_ rfl ⟨rfl, HT3.out⟩ <;> simp [results, Tryz.f199, go_sem]))
            · have d3x : (md : Int) < (e : Int) → ¬ (e : Int) < (b : Int) := by omega
              by_cases d3y : md < e
              · have d3z : (md : Int) < (e : Int) := by omega
                have d3w : ¬ (e : Int) < (b : Int) := by omega
                clear d3x
                have HT1 := Lib.hid (HE1.out d1)
                go_wp2_with (first
                 | (go_at_call 199; (with_reducible refine (HR1.out _ HT1.out d2.1 d2.2).mono ?_); rintro e w2 ⟨rfl, hT2⟩; have HT2 := Lib.hid hT2; clear hT2))
                all_goals have HT3 := Lib.hid (HE3.out _ HT2.out d3)
                all_goals (first | exact bodyPost_end (v := .tuple #[]) (by simp [results, Tryz.f199, go_sem]) rfl ⟨rfl, HT3.out⟩ | (refine bodyPost_ret (v := .tuple #[]) ?_ rfl ⟨rfl, HT3.out⟩ <;> simp [results, Tryz.f199, go_sem]))
              · have d3z : ¬ (md : Int) < (e : Int) := by omega
                clear d3x
                have HT1 := Lib.hid (HE1.out d1)
                go_wp2_with (first
                 | (go_at_call 199; (with_reducible refine (HR1.out _ HT1.out d2.1 d2.2).mono ?_); rintro e w2 ⟨rfl, hT2⟩; have HT2 := Lib.hid hT2; clear hT2))
                all_goals have HT3 := Lib.hid (HE3.out _ HT2.out d3)
                all_goals (first | exact bodyPost_end (v := .tuple #[]) (by simp [results, Tryz.f199, go_sem]) rfl ⟨rfl, HT3.out⟩ | (refine bodyPost_ret (v := .tuple #[]) ?_ rfl ⟨rfl, HT3.out⟩ <;> simp [results, Tryz.f199, go_sem]))
          · have d2x : (a : Int) < (s : Int) → ¬ (s : Int) < (md : Int) := by omega
            by_cases d2y : a < s
            · have d2z : (a : Int) < (s : Int) := by omega
              have d2w : ¬ (s : Int) < (md : Int) := by omega
              clear d2x
              by_cases d3 : md < e ∧ e < b
              · have d3x : (md : Int) < (e : Int) := by omega
                have d3y : (e : Int) < (b : Int) := by omega
                have HT1 := Lib.hid (HE1.out d1)
                go_wp2_with (first
                 | (go_at_call 199; have HT2 := Lib.hid (HE2.out _ HT1.out d2); (with_reducible refine (HR2.out _ HT2.out d3.1 d3.2).mono ?_); rintro e w3 ⟨rfl, hT3⟩; have HT3 := Lib.hid hT3; clear hT3))
                all_goals (first | exact bodyPost_end (v := .tuple #[]) (by simp [results, Tryz.f199, go_sem]) rfl ⟨rfl, HT3.out⟩ | (refine bodyPost_ret (v := .tuple #[]) ?_ rfl ⟨rfl, HT3.out⟩ <;> simp [results, Tryz.f199, go_sem]))
              · have d3x : (md : Int) < (e : Int) → ¬ (e : Int) < (b : Int) := by omega
                by_cases d3y : md < e
                · have d3z : (md : Int) < (e : Int) := by omega
                  have d3w : ¬ (e : Int) < (b : Int) := by omega
                  clear d3x
                  have HT1 := Lib.hid (HE1.out d1)
                  go_wp2
                  all_goals have HT2 := Lib.hid (HE2.out _ HT1.out d2)
                  all_goals have HT3 := Lib.hid (HE3.out _ HT2.out d3)
                  all_goals (first | exact bodyPost_end (v := .tuple #[]) (by simp [results, Tryz.f199, go_sem]) rfl ⟨rfl, HT3.out⟩ | (refine bodyPost_ret (v := .tuple #[]) ?_ rfl ⟨rfl, HT3.out⟩ <;> simp [results, Tryz.f199, go_sem]))
                · have d3z : ¬ (md : Int) < (e : Int) := by omega
                  clear d3x
                  have HT1 := Lib.hid (HE1.out d1)
                  go_wp2
                  all_goals have HT2 := Lib.hid (HE2.out _ HT1.out d2)
                  all_goals have HT3 := Lib.hid (HE3.out _ HT2.out d3)
                  all_goals (first | exact bodyPost_end (v := .tuple #[]) (by simp [results, Tryz.f199, go_sem]) rfl ⟨rfl, HT3.out⟩ | (refine bodyPost_ret (v := .tuple #[]) ?_ rfl ⟨rfl, HT3.out⟩ <;> simp [results, Tryz.f199, go_sem]))
            · have d2z : ¬ (a : Int) < (s : Int) := by omega
              clear d2x
              by_cases d3 : md < e ∧ e < b
              · have d3x : (md : Int) < (e : Int) := by omega
                have d3y : (e : Int) < (b : Int) := by omega
                have HT1 := Lib.hid (HE1.out d1)
                go_wp2_with (first
                 | (go_at_call 199; have HT2 := Lib.hid (HE2.out _ HT1.out d2); (with_reducible refine (HR2.out _ HT2.out d3.1 d3.2).mono ?_); rintro e w3 ⟨rfl, hT3⟩; have HT3 := Lib.hid hT3; clear hT3))
                all_goals (first | exact bodyPost_end (v := .tuple #[]) (by simp [results, Tryz.f199, go_sem]) rfl ⟨rfl, HT3.out⟩ | (refine bodyPost_ret (v := .tuple #[]) ?_ rfl ⟨rfl, HT3.out⟩ <;> simp [results, Tryz.f199, go_sem]))
              · have d3x : (md : Int) < (e : Int) → ¬ (e : Int) < (b : Int) := by omega
                by_cases d3y : md < e
                · have d3z : (md : Int) < (e : Int) := by omega
                  have d3w : ¬ (e : Int) < (b : Int) := by omega
                  clear d3x
                  have HT1 := Lib.hid (HE1.out d1)
                  go_wp2
                  all_goals have HT2 := Lib.hid (HE2.out _ HT1.out d2)
                  all_goals have HT3 := Lib.hid (HE3.out _ HT2.out d3)
                  all_goals (first | exact bodyPost_end (v := .tuple #[]) (by simp [results, Tryz.f199, go_sem]) rfl ⟨rfl, HT3.out⟩ | (refine bodyPost_ret (v := .tuple #[]) ?_ rfl ⟨rfl, HT3.out⟩ <;> simp [results, Tryz.f199, go_sem]))
                · have d3z : ¬ (md : Int) < (e : Int) := by omega
                  clear d3x
                  have HT1 := Lib.hid (HE1.out d1)
                  go_wp2
                  all_goals have HT2 := Lib.hid (HE2.out _ HT1.out d2)
                  all_goals have HT3 := Lib.hid (HE3.out _ HT2.out d3)
                  all_goals (first | exact bodyPost_end (v := .tuple #[]) (by simp [results, Tryz.f199, go_sem]) rfl ⟨rfl, HT3.out⟩ | (refine bodyPost_ret (v := .tuple #[]) ?_ rfl ⟨rfl, HT3.out⟩ <;> simp [results, Tryz.f199, go_sem]))
 · have k5 : ¬ (md : Int) < (m : Int) := by omega
   have K2 := Lib.hid k2
   have K3 := Lib.hid k3
   clear k2 k3
   go_enter Tryz.func199, Tryz.ntmps199
   go_wp2
   go_loopw [20, 21] (fun vs vr wr => ∃ s r : Nat, vs = .int .i64 s ∧ vr = .int .i64 r ∧ s0 ≤ s ∧ s ≤ r ∧ r ≤ r0 ∧ Hid (Cut X Y a m nn s0 r0 s r) ∧ Hid (SW w0 g (A ++ X ++ Y ++ B) wr)) (fun vs vr _ => (intOf vr).toNat - (intOf vs).toNat)
   case atStart => exact ⟨s0, r0, by first | rfl | (rw [K2.out]), by first | rfl | (rw [K3.out]), Nat.le_refl _, h0r, Nat.le_refl _, Lib.hid ⟨fun c h1 h2 => absurd h2 (by omega), fun c h1 h2 => absurd h2 (by omega)⟩, HM.out.sw⟩
   case round =>
    obtain ⟨s, r, rfl, rfl, hs0, hsr, hrr, HC, HS⟩ := hrel
    by_cases hlt : s < r
    · obtain ⟨c, hce⟩ : ∃ c, c = (s + r) / 2 := ⟨_, rfl⟩
      have hc1 : s ≤ c ∧ c < r := by omega
      have ha4 := HSP.out.at_ c (by omega) (by omega)
      obtain ⟨pc, hpc⟩ : ∃ pc, pc = nn - 1 - c := ⟨_, rfl⟩
      have c6 : ((s : Int) + (r : Int)) / 2 = (c : Int) := by omega
      have c7 : ((nn - 1 : Nat) : Int) - (c : Int) = (pc : Int) := by omega
      obtain ⟨x, hx⟩ : ∃ x, x = X.getD (c - a) zP := ⟨_, rfl⟩
      obtain ⟨y, hy⟩ : ∃ y, y = Y.getD (nn - 1 - c - m) zP := ⟨_, rfl⟩
      have hlx : c - a < X.length := by have := HMX.out; omega
      have hly : nn - 1 - c - m < Y.length := by omega
      have hxm : x ∈ X := by rw [hx]; exact getD_mem hlx
      have hym : y ∈ Y := by rw [hy]; exact getD_mem hly
      have hS := HS.out.drew
      have hx1 : (A ++ X ++ Y ++ B)[c]? = some x := by
       rw [List.append_assoc, List.append_assoc, List.getElem?_append_right (by rw [← HA.out]; omega), List.getElem?_append_left (by rw [← HA.out]; omega), hx, ← HA.out, List.getD_eq_getElem?_getD, List.getElem?_eq_getElem hlx]; rfl
      have hy1 : (A ++ X ++ Y ++ B)[pc]? = some y := by
       have hl : (A ++ X).length = m := by rw [List.length_append, ← HA.out]; exact HMX.out.symm
       rw [List.append_assoc, List.getElem?_append_right (by rw [hl]; omega), List.getElem?_append_left (by rw [hl]; omega), hl, hy, show pc - m = nn - 1 - c - m by omega, List.getD_eq_getElem?_getD, List.getElem?_eq_getElem hly]; rfl
      have r1 := hS.at_ _ _ hy1
      have r2 := hS.at_ _ _ hx1
      have i1 := info_pair _ (hS.ok y (List.mem_of_getElem? hy1)).len
      have i2 := info_pair _ (hS.ok x (List.mem_of_getElem? hx1)).len
      have HKD := Lib.hid hS.keep
      have HCC : Hid (∀ W, KeepG w0 g W → Calls Tryz.prog 120 #[.agg y.row.toArray, .agg x.row.toArray, .pointer (some ⟨cb, 0, none⟩)] W fun e w' => e = .returned (.int .i64 (vord y.key x.key)) ∧ Below W.heap.size W w') := Lib.hid (fun W hW => HCMP.out W hW y x (HM.out.hU y (List.mem_append_right _ hym)) (HM.out.hU x (List.mem_append_left _ hxm)))
      have q1 : (0 : Int) ≤ (pc : Int) := by omega
      have q2 : (pc : Int) < (N : Int) := by have := HBY.out; omega
      have q3 : (0 : Int) ≤ (c : Int) := by omega
      have q4 : (c : Int) < (N : Int) := by omega
      have q5 : (s : Int) + (r : Int) ≤ 4194304 := by omega
      have q6 : IntKind.i64.wrap (pc : Int) = (pc : Int) := by rw [wrap_in _ (by omega)]
      have HUP : Hid (¬ vord y.key x.key < 0 → Cut X Y a m nn s0 r0 (c + 1) r) := Lib.hid (fun h => HC.out.up HSP.out (by omega) (by omega) (by unfold Pr; rw [← hx, ← hy]; exact h))
      have HDN : Hid (vord y.key x.key < 0 → Cut X Y a m nn s0 r0 s c) := Lib.hid (fun h => HC.out.down HSP.out (by omega) (by omega) (by unfold Pr; rw [← hx, ← hy]; exact h))
      clear hce hx hy hlx hly hxm hym hS hx1 hy1 hpc ha4 HC
      by_cases hc : vord y.key x.key < 0
      · go_upto_region 35 with (fail)
        refine wp_region_any (by kernel_rfl) ?_
        change wpAny _ _ _ _ _ _ _ (World.drew _)
        refine tq 0 (h := ?_)
        refine tq 1 (h := ?_)
        simp only [lst]
        refine tq 2 (h := ?_)
        refine tq 3 (h := ?_)
        simp only [lst]
        refine tq 4 (h := ?_)
        refine tq 5 (h := ?_)
        simp only [lst]
        refine tq 7 (h := ?_)
        refine tq 8 (h := ?_)
        simp only [lst]
        refine tq 9 (h := ?_)
        simp only [lst]
        refine two 6 10 rfl rfl (by kernel_rfl) (by rfl) (by rfl) (fun K_ hK_ => ?_) (fun K_ hK_ => ?_)
        refine wp_load_mid _ _ rfl _ _ rfl _ _ r1 hu rfl i1 ?_
        refine hK_ _ _ ?_
        clear hK_ K_
        simp only [Act.put, lgt, List.setIfInBounds_toArray, lst]
        refine one 10 rfl (by kernel_rfl) (by rfl) fun K_ hK_ => ?_
        refine wp_load_mid _ _ rfl _ _ rfl _ _ r2 hu rfl i2 ?_
        refine hK_ _ _ ?_
        clear hK_ K_
        simp only [Act.put, lgt, List.setIfInBounds_toArray, lst]
        refine one 11 rfl (by kernel_rfl) (by rfl) fun K_ hK_ => ?_
        simp only [lgt]
        go_simp
        refine (HCC.out _ HKD.out).mono ?_
        rintro e_ w5 ⟨rfl, hB5⟩
        have HB5 := Lib.hid hB5
        clear hB5
        simp only [Oper.upon]
        refine hK_ _ _ ?_
        clear hK_ K_
        refine tq 12 (h := ?_)
        refine tq 13 (h := ?_)
        refine wpAny_done (by kernel_rfl) ?_ _
        simp only [lst]
        rotate_left
        refine wp_load_mid _ _ rfl _ _ rfl _ _ r2 hu rfl i2 ?_
        refine hK_ _ _ ?_
        clear hK_ K_
        simp only [Act.put, lgt, List.setIfInBounds_toArray, lst]
        refine one 6 rfl (by kernel_rfl) (by rfl) fun K_ hK_ => ?_
        refine wp_load_mid _ _ rfl _ _ rfl _ _ r1 hu rfl i1 ?_
        refine hK_ _ _ ?_
        clear hK_ K_
        simp only [Act.put, lgt, List.setIfInBounds_toArray, lst]
        refine one 11 rfl (by kernel_rfl) (by rfl) fun K_ hK_ => ?_
        simp only [lgt]
        go_simp
        refine (HCC.out _ HKD.out).mono ?_
        rintro e_ w5 ⟨rfl, hB5⟩
        have HB5 := Lib.hid hB5
        clear hB5
        simp only [Oper.upon]
        refine hK_ _ _ ?_
        clear hK_ K_
        refine tq 12 (h := ?_)
        refine tq 13 (h := ?_)
        refine wpAny_done (by kernel_rfl) ?_ _
        simp only [lst]
        rotate_left
        all_goals
         clear r1 r2 i1 i2 HCC HKD q1 q2 q3 q4 q6 c7
         have HS5 := Lib.hid (HS.out.drew.grow hg HB5.out)
         have HC2 := Lib.hid (HDN.out hc)
         clear c6
         go_wp2_with fail
         go_roundw
         case rel => exact ⟨s, c, rfl, rfl, hs0, hc1.1, by omega, HC2, HS5⟩
         case measure => show c - s < r - s; omega
      · go_upto_region 35 with (fail)
        refine wp_region_any (by kernel_rfl) ?_
        change wpAny _ _ _ _ _ _ _ (World.drew _)
        refine tq 0 (h := ?_)
        refine tq 1 (h := ?_)
        simp only [lst]
        refine tq 2 (h := ?_)
        refine tq 3 (h := ?_)
        simp only [lst]
        refine tq 4 (h := ?_)
        refine tq 5 (h := ?_)
        simp only [lst]
        refine tq 7 (h := ?_)
        refine tq 8 (h := ?_)
        simp only [lst]
        refine tq 9 (h := ?_)
        simp only [lst]
        refine two 6 10 rfl rfl (by kernel_rfl) (by rfl) (by rfl) (fun K_ hK_ => ?_) (fun K_ hK_ => ?_)
        refine wp_load_mid _ _ rfl _ _ rfl _ _ r1 hu rfl i1 ?_
        refine hK_ _ _ ?_
        clear hK_ K_
        simp only [Act.put, lgt, List.setIfInBounds_toArray, lst]
        refine one 10 rfl (by kernel_rfl) (by rfl) fun K_ hK_ => ?_
        refine wp_load_mid _ _ rfl _ _ rfl _ _ r2 hu rfl i2 ?_
        refine hK_ _ _ ?_
        clear hK_ K_
        simp only [Act.put, lgt, List.setIfInBounds_toArray, lst]
        refine one 11 rfl (by kernel_rfl) (by rfl) fun K_ hK_ => ?_
        simp only [lgt]
        go_simp
        refine (HCC.out _ HKD.out).mono ?_
        rintro e_ w5 ⟨rfl, hB5⟩
        have HB5 := Lib.hid hB5
        clear hB5
        simp only [Oper.upon]
        refine hK_ _ _ ?_
        clear hK_ K_
        refine tq 12 (h := ?_)
        refine tq 13 (h := ?_)
        refine wpAny_done (by kernel_rfl) ?_ _
        simp only [lst]
        rotate_left
        refine wp_load_mid _ _ rfl _ _ rfl _ _ r2 hu rfl i2 ?_
        refine hK_ _ _ ?_
        clear hK_ K_
        simp only [Act.put, lgt, List.setIfInBounds_toArray, lst]
        refine one 6 rfl (by kernel_rfl) (by rfl) fun K_ hK_ => ?_
        refine wp_load_mid _ _ rfl _ _ rfl _ _ r1 hu rfl i1 ?_
        refine hK_ _ _ ?_
        clear hK_ K_
        simp only [Act.put, lgt, List.setIfInBounds_toArray, lst]
        refine one 11 rfl (by kernel_rfl) (by rfl) fun K_ hK_ => ?_
        simp only [lgt]
        go_simp
        refine (HCC.out _ HKD.out).mono ?_
        rintro e_ w5 ⟨rfl, hB5⟩
        have HB5 := Lib.hid hB5
        clear hB5
        simp only [Oper.upon]
        refine hK_ _ _ ?_
        clear hK_ K_
        refine tq 12 (h := ?_)
        refine tq 13 (h := ?_)
        refine wpAny_done (by kernel_rfl) ?_ _
        simp only [lst]
        rotate_left
        all_goals
         clear r1 r2 i1 i2 HCC HKD q1 q2 q3 q4 q6 c7
         have HS5 := Lib.hid (HS.out.drew.grow hg HB5.out)
         have HC2 := Lib.hid (HUP.out hc)
         have hw : (c : Int) + 1 ≤ 1048576 := by omega
         clear c6
         go_wp2_with fail
         go_roundw
         case rel => exact ⟨c + 1, r, by first | rfl | exact congrArg (Value.int .i64) (wrap64_up c (by omega)), rfl, by omega, by omega, hrr, HC2, HS5⟩
         case measure => first | (rw [wrap64_up c (by omega)]; show r - (c + 1) < r - s; omega) | (show r - (c + 1) < r - s; omega)
    · obtain rfl : s = r := by omega
      obtain ⟨f1, f2, f3, f4, f5, f6, hcut⟩ := HFIN.out s hs0 hrr HC.out
      obtain ⟨e, hee⟩ : ∃ e, e = nn - s := ⟨_, rfl⟩
      obtain ⟨i, hi⟩ : ∃ i, i = s - a := ⟨_, rfl⟩
      obtain ⟨j, hj⟩ : ∃ j, j = nn - s - m := ⟨_, rfl⟩
      rw [← hi, ← hj] at hcut
      have c8 : (nn : Int) - (s : Int) = (e : Int) := by omega
      have b1 : m ≤ e ∧ e ≤ b ∧ e = m + j ∧ s = a + i ∧ md = a + i + j ∧ i ≤ X.length ∧ j ≤ Y.length := by
       have := HMX.out
       have := HBY.out
       exact ⟨by omega, by omega, by omega, by omega, by omega, by omega, by omega⟩
      have l1 : (X.take i).length = i := by rw [List.length_take]; omega
      have l2 : (X.drop i).length = X.length - i := List.length_drop
      have l3 : (Y.take j).length = j := by rw [List.length_take]; omega
      have l4 : (Y.drop j).length = Y.length - j := List.length_drop
      have HX1 : Hid ((X.take i).Pairwise elt ∧ (X.drop i).Pairwise elt ∧ (Y.take j).Pairwise elt ∧ (Y.drop j).Pairwise elt) := Lib.hid ⟨HM.out.sx.sublist (List.take_sublist _ _), HM.out.sx.sublist (List.drop_sublist _ _), HM.out.sy.sublist (List.take_sublist _ _), HM.out.sy.sublist (List.drop_sublist _ _)⟩
      have e0 : A ++ X ++ Y ++ B = A ++ X.take i ++ X.drop i ++ Y.take j ++ (Y.drop j ++ B) := by
       have e1 : A ++ X ++ Y ++ B = A ++ (X.take i ++ X.drop i) ++ (Y.take j ++ Y.drop j) ++ B := by rw [List.take_append_drop, List.take_append_drop]
       rw [e1]; simp only [List.append_assoc]
      have HS' := HS.out
      rw [e0] at HS'
      have HROT : Hid (s < m → m < e → Calls Tryz.prog 246 #[.slice (some ⟨g, 0, none⟩) N cap, .int .i64 s, .int .i64 m, .int .i64 e, .func (.func 120) #[] #[.pointer (some ⟨cb, 0, none⟩)]] wr fun e w' => e = .returned (.tuple #[]) ∧ St1 w0 g A X Y B i j w') := Lib.hid (fun h1 h2 => by
       have h := rotate_in w0 g (A ++ X.take i) (X.drop i) (Y.take j) (Y.drop j ++ B) N cap (.func (.func 120) #[] #[.pointer (some ⟨cb, 0, none⟩)]) wr (by intro e; rw [e] at l2; simp at l2; have := HMX.out; omega) (by intro e; rw [e] at l3; simp at l3; omega) (by rw [HN.out, e0]) hcap HS'
       have e2 : (A ++ X.take i).length = s := by rw [List.length_append, l1, ← HA.out]; omega
       rw [e2, l2, l3, show s + (X.length - i) = m by have := HMX.out; omega, show m + j = e by omega] at h
       refine h.mono ?_
       rintro e w' ⟨rfl, h3⟩
       exact ⟨rfl, by unfold St1; simp only [List.append_assoc] at h3 ⊢; exact h3⟩)
      have HE1 : Hid (¬ (s < m ∧ m < e) → St1 w0 g A X Y B i j wr) := Lib.hid (fun h => by
       unfold St1
       have hz : X.drop i = [] ∨ Y.take j = [] := by
        by_cases h1 : s < m
        · exact .inr (List.eq_nil_of_length_eq_zero (by rw [l3]; omega))
        · exact .inl (List.eq_nil_of_length_eq_zero (by rw [l2]; have := HMX.out; omega))
       rcases hz with hz | hz <;> rw [hz] at HS' ⊢ <;> simp only [List.append_assoc, List.append_nil, List.nil_append] at HS' ⊢ <;> exact HS')
      have HR1 : Hid (∀ w1, St1 w0 g A X Y B i j w1 → a < s → s < md → Calls Tryz.prog 199 #[.slice (some ⟨g, 0, none⟩) N cap, .int .i64 a, .int .i64 s, .int .i64 md, .func (.func 120) #[] #[.pointer (some ⟨cb, 0, none⟩)]] w1 fun e w' => e = .returned (.tuple #[]) ∧ St2 w0 g A X Y B i j w') := Lib.hid (fun w1 hw1 h1 h2 => by
       have h := HIH.out A (X.take i) (Y.take j) (X.drop i ++ Y.drop j ++ B) N cap w1 (by rw [l1, l3]; have := HNNl.out; have := H2.out; have := HMX.out; have := HBY.out; omega) hcap ⟨by intro e; rw [e] at l1; simp at l1; omega, by intro e; rw [e] at l3; simp at l3; omega, by rw [HN.out, ← len4 A X Y B i j (X.take i ++ Y.take j) rfl]; simp only [List.length_append]; omega, fun u hu => HM.out.hU u (by
        rcases List.mem_append.1 hu with hu | hu
        · exact List.mem_append_left _ (List.mem_of_mem_take hu)
        · exact List.mem_append_right _ (List.mem_of_mem_take hu)), HX1.out.1, HX1.out.2.2.1, fun u hu v hv => HM.out.tags u (List.mem_of_mem_take hu) v (List.mem_of_mem_take hv), by unfold St1 at hw1; simp only [List.append_assoc] at hw1 ⊢; exact hw1⟩
       rw [l1, l3, ← HA.out, show a + i = s by omega, show s + j = md by omega] at h
       refine h.mono ?_
       rintro e w' ⟨rfl, S1, p1, p2, p3⟩
       exact ⟨rfl, S1, p1, p2, by simp only [List.append_assoc] at p3 ⊢; exact p3⟩)
      have HE2 : Hid (∀ w1, St1 w0 g A X Y B i j w1 → ¬ (a < s ∧ s < md) → St2 w0 g A X Y B i j w1) := Lib.hid (fun w1 hw1 h => by
       refine ⟨X.take i ++ Y.take j, List.Perm.refl _, ?_, by unfold St1 at hw1; simp only [List.append_assoc] at hw1 ⊢; exact hw1⟩
       have hz : X.take i = [] ∨ Y.take j = [] := by
        by_cases h1 : a < s
        · exact .inr (List.eq_nil_of_length_eq_zero (by rw [l3]; omega))
        · exact .inl (List.eq_nil_of_length_eq_zero (by rw [l1]; omega))
       rcases hz with hz | hz <;> rw [hz]
       · rw [List.nil_append]; exact HX1.out.2.2.1
       · rw [List.append_nil]; exact HX1.out.1)
      have HR2 : Hid (∀ w2, St2 w0 g A X Y B i j w2 → md < e → e < b → Calls Tryz.prog 199 #[.slice (some ⟨g, 0, none⟩) N cap, .int .i64 md, .int .i64 e, .int .i64 b, .func (.func 120) #[] #[.pointer (some ⟨cb, 0, none⟩)]] w2 fun e w' => e = .returned (.tuple #[]) ∧ MergeDone w0 g A X Y B w') := Lib.hid (fun w2 hw2 h1 h2 => by
       obtain ⟨S1, p1, p2, p3⟩ := hw2
       have hsl : S1.length = i + j := by rw [p1.length_eq, List.length_append, l1, l3]
       have h := HIH.out (A ++ S1) (X.drop i) (Y.drop j) B N cap w2 (by rw [l2, l4]; have := HNNl.out; have := H2.out; have := HMX.out; have := HBY.out; omega) hcap ⟨by intro e; rw [e] at l2; simp at l2; have := HMX.out; omega, by intro e; rw [e] at l4; simp at l4; have := HBY.out; omega, by rw [HN.out, ← len4 A X Y B i j S1 p1.length_eq], fun u hu => HM.out.hU u (by
        rcases List.mem_append.1 hu with hu | hu
        · exact List.mem_append_left _ (List.mem_of_mem_drop hu)
        · exact List.mem_append_right _ (List.mem_of_mem_drop hu)), HX1.out.2.1, HX1.out.2.2.2, fun u hu v hv => HM.out.tags u (List.mem_of_mem_drop hu) v (List.mem_of_mem_drop hv), p3⟩
       rw [l2, l4, show (A ++ S1).length = md by rw [List.length_append, hsl, ← HA.out]; omega, show md + (X.length - i) = e by have := HMX.out; omega, show e + (Y.length - j) = b by have := HBY.out; omega] at h
       refine h.mono ?_
       rintro e w' ⟨rfl, S2, t1, t2, t3⟩
       exact ⟨rfl, st3 p1 p2 t1 t2 hcut t3⟩)
      have HE3 : Hid (∀ w2, St2 w0 g A X Y B i j w2 → ¬ (md < e ∧ e < b) → MergeDone w0 g A X Y B w2) := Lib.hid (fun w2 hw2 h => by
       obtain ⟨S1, p1, p2, p3⟩ := hw2
       refine st3 (S2 := X.drop i ++ Y.drop j) p1 p2 (List.Perm.refl _) ?_ hcut (by simp only [List.append_assoc] at p3 ⊢; exact p3)
       have hz : X.drop i = [] ∨ Y.drop j = [] := by
        by_cases h1 : md < e
        · exact .inr (List.eq_nil_of_length_eq_zero (by rw [l4]; have := HBY.out; omega))
        · exact .inl (List.eq_nil_of_length_eq_zero (by rw [l2]; have := HMX.out; omega))
       rcases hz with hz | hz <;> rw [hz]
       · rw [List.nil_append]; exact HX1.out.2.2.2
       · rw [List.append_nil]; exact HX1.out.2.1)
      clear hcut l1 l2 l3 l4 e0 HS' hee hi hj b1 f1 f2 f3 f4 f5 f6 HC hs0 hsr hrr hlt c3
      by_cases d1 : s < m ∧ m < e
      · have d1x : (s : Int) < (m : Int) := by omega
        have d1y : (m : Int) < (e : Int) := by omega
        by_cases d2 : a < s ∧ s < md
        · have d2x : (a : Int) < (s : Int) := by omega
          have d2y : (s : Int) < (md : Int) := by omega
          by_cases d3 : md < e ∧ e < b
          · have d3x : (md : Int) < (e : Int) := by omega
            have d3y : (e : Int) < (b : Int) := by omega
            go_wp2_with (first
             | (go_at_call 246; (with_reducible refine (HROT.out d1.1 d1.2).mono ?_); rintro e w1 ⟨rfl, hT1⟩; have HT1 := Lib.hid hT1; clear hT1)
             | (go_at_call 199; (with_reducible refine (HR1.out _ HT1.out d2.1 d2.2).mono ?_); rintro e w2 ⟨rfl, hT2⟩; have HT2 := Lib.hid hT2; clear hT2)
             | (go_at_call 199; (with_reducible refine (HR2.out _ HT2.out d3.1 d3.2).mono ?_); rintro e w3 ⟨rfl, hT3⟩; have HT3 := Lib.hid hT3; clear hT3))
            all_goals (first | exact bodyPost_end (v := .tuple #[]) (by simp [results, Tryz.f199, go_sem]) rfl ⟨rfl, HT3.out⟩ | (refine bodyPost_ret (v := .tuple #[]) ?_ rfl ⟨rfl, HT3.out⟩ <;> simp [results, Tryz.f199, go_sem]))
          · have d3x : (md : Int) < (e : Int) → ¬ (e : Int) < (b : Int) := by omega
            by_cases d3y : md < e
            · have d3z : (md : Int) < (e : Int) := by omega
              have d3w : ¬ (e : Int) < (b : Int) := by omega
              clear d3x
              go_wp2_with (first
               | (go_at_call 246; (with_reducible refine (HROT.out d1.1 d1.2).mono ?_); rintro e w1 ⟨rfl, hT1⟩; have HT1 := Lib.hid hT1; clear hT1)
               | (go_at_call 199; (with_reducible refine (HR1.out _ HT1.out d2.1 d2.2).mono ?_); rintro e w2 ⟨rfl, hT2⟩; have HT2 := Lib.hid hT2; clear hT2))
              all_goals have HT3 := Lib.hid (HE3.out _ HT2.out d3)
              all_goals (first | exact bodyPost_end (v := .tuple #[]) (by simp [results, Tryz.f199, go_sem]) rfl ⟨rfl, HT3.out⟩ | (refine bodyPost_ret (v := .tuple #[]) ?_ rfl ⟨rfl, HT3.out⟩ <;> simp [results, Tryz.f199, go_sem]))
            · have d3z : ¬ (md : Int) < (e : Int) := by omega
              clear d3x
              go_wp2_with (first
               | (go_at_call 246; (with_reducible refine (HROT.out d1.1 d1.2).mono ?_); rintro e w1 ⟨rfl, hT1⟩; have HT1 := Lib.hid hT1; clear hT1)
               | (go_at_call 199; (with_reducible refine (HR1.out _ HT1.out d2.1 d2.2).mono ?_); rintro e w2 ⟨rfl, hT2⟩; have HT2 := Lib.hid hT2; clear hT2))
              all_goals have HT3 := Lib.hid (HE3.out _ HT2.out d3)
              all_goals (first | exact bodyPost_end (v := .tuple #[]) (by simp [results, Tryz.f199, go_sem]) rfl ⟨rfl, HT3.out⟩ | (refine bodyPost_ret (v := .tuple #[]) ?_ rfl ⟨rfl, HT3.out⟩ <;> simp [results, Tryz.f199, go_sem]))
        · have d2x : (a : Int) < (s : Int) → ¬ (s : Int) < (md : Int) := by omega
          by_cases d2y : a < s
          · have d2z : (a : Int) < (s : Int) := by omega
            have d2w : ¬ (s : Int) < (md : Int) := by omega
            clear d2x
            by_cases d3 : md < e ∧ e < b
            · have d3x : (md : Int) < (e : Int) := by omega
              have d3y : (e : Int) < (b : Int) := by omega
              go_wp2_with (first
               | (go_at_call 246; (with_reducible refine (HROT.out d1.1 d1.2).mono ?_); rintro e w1 ⟨rfl, hT1⟩; have HT1 := Lib.hid hT1; clear hT1)
               | (go_at_call 199; have HT2 := Lib.hid (HE2.out _ HT1.out d2); (with_reducible refine (HR2.out _ HT2.out d3.1 d3.2).mono ?_); rintro e w3 ⟨rfl, hT3⟩; have HT3 := Lib.hid hT3; clear hT3))
              all_goals (first | exact bodyPost_end (v := .tuple #[]) (by simp [results, Tryz.f199, go_sem]) rfl ⟨rfl, HT3.out⟩ | (refine bodyPost_ret (v := .tuple #[]) ?_ rfl ⟨rfl, HT3.out⟩ <;> simp [results, Tryz.f199, go_sem]))
            · have d3x : (md : Int) < (e : Int) → ¬ (e : Int) < (b : Int) := by omega
              by_cases d3y : md < e
              · have d3z : (md : Int) < (e : Int) := by omega
                have d3w : ¬ (e : Int) < (b : Int) := by omega
                clear d3x
                go_wp2_with (first
                 | (go_at_call 246; (with_reducible refine (HROT.out d1.1 d1.2).mono ?_); rintro e w1 ⟨rfl, hT1⟩; have HT1 := Lib.hid hT1; clear hT1))
                all_goals have HT2 := Lib.hid (HE2.out _ HT1.out d2)
                all_goals have HT3 := Lib.hid (HE3.out _ HT2.out d3)
                all_goals (first | exact bodyPost_end (v := .tuple #[]) (by simp [results, Tryz.f199, go_sem]) rfl ⟨rfl, HT3.out⟩ | (refine bodyPost_ret (v := .tuple #[]) ?_ rfl ⟨rfl, HT3.out⟩ <;> simp [results, Tryz.f199, go_sem]))
              · have d3z : ¬ (md : Int) < (e : Int) := by omega
                clear d3x
                go_wp2_with (first
                 | (go_at_call 246; (with_reducible refine (HROT.out d1.1 d1.2).mono ?_); rintro e w1 ⟨rfl, hT1⟩; have HT1 := Lib.hid hT1; clear hT1))
                all_goals have HT2 := Lib.hid (HE2.out _ HT1.out d2)
                all_goals have HT3 := Lib.hid (HE3.out _ HT2.out d3)
                all_goals (first | exact bodyPost_end (v := .tuple #[]) (by simp [results, Tryz.f199, go_sem]) rfl ⟨rfl, HT3.out⟩ | (refine bodyPost_ret (v := .tuple #[]) ?_ rfl ⟨rfl, HT3.out⟩ <;> simp [results, Tryz.f199, go_sem]))
          · have d2z : ¬ (a : Int) < (s : Int) := by omega
            clear d2x
            by_cases d3 : md < e ∧ e < b
            · have d3x : (md : Int) < (e : Int) := by omega
              have d3y : (e : Int) < (b : Int) := by omega
              go_wp2_with (first
               | (go_at_call 246; (with_reducible refine (HROT.out d1.1 d1.2).mono ?_); rintro e w1 ⟨rfl, hT1⟩; have HT1 := Lib.hid hT1; clear hT1)
               | (go_at_call 199; have HT2 := Lib.hid (HE2.out _ HT1.out d2); (with_reducible refine (HR2.out _ HT2.out d3.1 d3.2).mono ?_); rintro e w3 ⟨rfl, hT3⟩; have HT3 := Lib.hid hT3; clear hT3))
              all_goals (first | exact bodyPost_end (v := .tuple #[]) (by simp [results, Tryz.f199, go_sem]) rfl ⟨rfl, HT3.out⟩ | (refine bodyPost_ret (v := .tuple #[]) ?_ rfl ⟨rfl, HT3.out⟩ <;> simp [results, Tryz.f199, go_sem]))
            · have d3x : (md : Int) < (e : Int) → ¬ (e : Int) < (b : Int) := by omega
              by_cases d3y : md < e
              · have d3z : (md : Int) < (e : Int) := by omega
                have d3w : ¬ (e : Int) < (b : Int) := by omega
                clear d3x
                go_wp2_with (first
                 | (go_at_call 246; (with_reducible refine (HROT.out d1.1 d1.2).mono ?_); rintro e w1 ⟨rfl, hT1⟩; have HT1 := Lib.hid hT1; clear hT1))
                all_goals have HT2 := Lib.hid (HE2.out _ HT1.out d2)
                all_goals have HT3 := Lib.hid (HE3.out _ HT2.out d3)
                all_goals (first | exact bodyPost_end (v := .tuple #[]) (by simp [results, Tryz.f199, go_sem]) rfl ⟨rfl, HT3.out⟩ | (refine bodyPost_ret (v := .tuple #[]) ?_ rfl ⟨rfl, HT3.out⟩ <;> simp [results, Tryz.f199, go_sem]))
              · have d3z : ¬ (md : Int) < (e : Int) := by omega
                clear d3x
                go_wp2_with (first
                 | (go_at_call 246; (with_reducible refine (HROT.out d1.1 d1.2).mono ?_); rintro e w1 ⟨rfl, hT1⟩; have HT1 := Lib.hid hT1; clear hT1))
                all_goals have HT2 := Lib.hid (HE2.out _ HT1.out d2)
                all_goals have HT3 := Lib.hid (HE3.out _ HT2.out d3)
                all_goals (first | exact bodyPost_end (v := .tuple #[]) (by simp [results, Tryz.f199, go_sem]) rfl ⟨rfl, HT3.out⟩ | (refine bodyPost_ret (v := .tuple #[]) ?_ rfl ⟨rfl, HT3.out⟩ <;> simp [results, Tryz.f199, go_sem]))
      · have d1x : (s : Int) < (m : Int) → ¬ (m : Int) < (e : Int) := by omega
        by_cases d1y : s < m
        · have d1z : (s : Int) < (m : Int) := by omega
          have d1w : ¬ (m : Int) < (e : Int) := by omega
          clear d1x
          by_cases d2 : a < s ∧ s < md
          · have d2x : (a : Int) < (s : Int) := by omega
            have d2y : (s : Int) < (md : Int) := by omega
            by_cases d3 : md < e ∧ e < b
            · have d3x : (md : Int) < (e : Int) := by omega
              have d3y : (e : Int) < (b : Int) := by omega
              have HT1 := Lib.hid (HE1.out d1)
              go_wp2_with (first
               | (go_at_call 199; (with_reducible refine (HR1.out _ HT1.out d2.1 d2.2).mono ?_); rintro e w2 ⟨rfl, hT2⟩; have HT2 := Lib.hid hT2; clear hT2)
               | (go_at_call 199; (with_reducible refine (HR2.out _ HT2.out d3.1 d3.2).mono ?_); rintro e w3 ⟨rfl, hT3⟩; have HT3 := Lib.hid hT3; clear hT3))
              all_goals (first | exact bodyPost_end (v := .tuple #[]) (by simp [results, Tryz.f199, go_sem]) rfl ⟨rfl, HT3.out⟩ | (refine bodyPost_ret (v := .tuple #[]) ?_ rfl ⟨rfl, HT3.out⟩ <;> simp [results, Tryz.f199, go_sem]))
            · have d3x : (md : Int) < (e : Int) → ¬ (e : Int) < (b : Int) := by omega
              by_cases d3y : md < e
              · have d3z : (md : Int) < (e : Int) := by omega
                have d3w : ¬ (e : Int) < (b : Int) := by omega
                clear d3x
                have HT1 := Lib.hid (HE1.out d1)
                go_wp2_with (first
                 | (go_at_call 199; (with_reducible refine (HR1.out _ HT1.out d2.1 d2.2).mono ?_); rintro e w2 ⟨rfl, hT2⟩; have HT2 := Lib.hid hT2; clear hT2))
                all_goals have HT3 := Lib.hid (HE3.out _ HT2.out d3)
                all_goals (first | exact bodyPost_end (v := .tuple #[]) (by simp [results, Tryz.f199, go_sem]) rfl ⟨rfl, HT3.out⟩ | (refine bodyPost_ret (v := .tuple #[]) ?_ rfl ⟨rfl, HT3.out⟩ <;> simp [results, Tryz.f199, go_sem]))
              · have d3z : ¬ (md : Int) < (e : Int) := by omega
                clear d3x
                have HT1 := Lib.hid (HE1.out d1)
                go_wp2_with (first
                 | (go_at_call 199; (with_reducible refine (HR1.out _ HT1.out d2.1 d2.2).mono ?_); rintro e w2 ⟨rfl, hT2⟩; have HT2 := Lib.hid hT2; clear hT2))
                all_goals have HT3 := Lib.hid (HE3.out _ HT2.out d3)
                all_goals (first | exact bodyPost_end (v := .tuple #[]) (by simp [results, Tryz.f199, go_sem]) rfl ⟨rfl, HT3.out⟩ | (refine bodyPost_ret (v := .tuple #[]) ?_ rfl ⟨rfl, HT3.out⟩ <;> simp [results, Tryz.f199, go_sem]))
          · have d2x : (a : Int) < (s : Int) → ¬ (s : Int) < (md : Int) := by omega
            by_cases d2y : a < s
            · have d2z : (a : Int) < (s : Int) := by omega
              have d2w : ¬ (s : Int) < (md : Int) := by omega
              clear d2x
              by_cases d3 : md < e ∧ e < b
              · have d3x : (md : Int) < (e : Int) := by omega
                have d3y : (e : Int) < (b : Int) := by omega
                have HT1 := Lib.hid (HE1.out d1)
                go_wp2_with (first
                 | (go_at_call 199; have HT2 := Lib.hid (HE2.out _ HT1.out d2); (with_reducible refine (HR2.out _ HT2.out d3.1 d3.2).mono ?_); rintro e w3 ⟨rfl, hT3⟩; have HT3 := Lib.hid hT3; clear hT3))
                all_goals (first | exact bodyPost_end (v := .tuple #[]) (by simp [results, Tryz.f199, go_sem]) rfl ⟨rfl, HT3.out⟩ | (refine bodyPost_ret (v := .tuple #[]) ?_ rfl ⟨rfl, HT3.out⟩ <;> simp [results, Tryz.f199, go_sem]))
              · have d3x : (md : Int) < (e : Int) → ¬ (e : Int) < (b : Int) := by omega
                by_cases d3y : md < e
                · have d3z : (md : Int) < (e : Int) := by omega
                  have d3w : ¬ (e : Int) < (b : Int) := by omega
                  clear d3x
                  have HT1 := Lib.hid (HE1.out d1)
                  go_wp2
                  all_goals have HT2 := Lib.hid (HE2.out _ HT1.out d2)
                  all_goals have HT3 := Lib.hid (HE3.out _ HT2.out d3)
                  all_goals (first | exact bodyPost_end (v := .tuple #[]) (by simp [results, Tryz.f199, go_sem]) rfl ⟨rfl, HT3.out⟩ | (refine bodyPost_ret (v := .tuple #[]) ?_ rfl ⟨rfl, HT3.out⟩ <;> simp [results, Tryz.f199, go_sem]))
                · have d3z : ¬ (md : Int) < (e : Int) := by omega
                  clear d3x
                  have HT1 := Lib.hid (HE1.out d1)
                  go_wp2
                  all_goals have HT2 := Lib.hid (HE2.out _ HT1.out d2)
                  all_goals have HT3 := Lib.hid (HE3.out _ HT2.out d3)
                  all_goals (first | exact bodyPost_end (v := .tuple #[]) (by simp [results, Tryz.f199, go_sem]) rfl ⟨rfl, HT3.out⟩ | (refine bodyPost_ret (v := .tuple #[]) ?_ rfl ⟨rfl, HT3.out⟩ <;> simp [results, Tryz.f199, go_sem]))
            · have d2z : ¬ (a : Int) < (s : Int) := by omega
              clear d2x
              by_cases d3 : md < e ∧ e < b
              · have d3x : (md : Int) < (e : Int) := by omega
                have d3y : (e : Int) < (b : Int) := by omega
                have HT1 := Lib.hid (HE1.out d1)
                go_wp2_with (first
                 | (go_at_call 199; have HT2 := Lib.hid (HE2.out _ HT1.out d2); (with_reducible refine (HR2.out _ HT2.out d3.1 d3.2).mono ?_); rintro e w3 ⟨rfl, hT3⟩; have HT3 := Lib.hid hT3; clear hT3))
                all_goals (first | exact bodyPost_end (v := .tuple #[]) (by simp [results, Tryz.f199, go_sem]) rfl ⟨rfl, HT3.out⟩ | (refine bodyPost_ret (v := .tuple #[]) ?_ rfl ⟨rfl, HT3.out⟩ <;> simp [results, Tryz.f199, go_sem]))
              · have d3x : (md : Int) < (e : Int) → ¬ (e : Int) < (b : Int) := by omega
                by_cases d3y : md < e
                · have d3z : (md : Int) < (e : Int) := by omega
                  have d3w : ¬ (e : Int) < (b : Int) := by omega
                  clear d3x
                  have HT1 := Lib.hid (HE1.out d1)
                  go_wp2
                  all_goals have HT2 := Lib.hid (HE2.out _ HT1.out d2)
                  all_goals have HT3 := Lib.hid (HE3.out _ HT2.out d3)
                  all_goals (first | exact bodyPost_end (v := .tuple #[]) (by simp [results, Tryz.f199, go_sem]) rfl ⟨rfl, HT3.out⟩ | (refine bodyPost_ret (v := .tuple #[]) ?_ rfl ⟨rfl, HT3.out⟩ <;> simp [results, Tryz.f199, go_sem]))
                · have d3z : ¬ (md : Int) < (e : Int) := by omega
                  clear d3x
                  have HT1 := Lib.hid (HE1.out d1)
                  go_wp2
                  all_goals have HT2 := Lib.hid (HE2.out _ HT1.out d2)
                  all_goals have HT3 := Lib.hid (HE3.out _ HT2.out d3)
                  all_goals (first | exact bodyPost_end (v := .tuple #[]) (by simp [results, Tryz.f199, go_sem]) rfl ⟨rfl, HT3.out⟩ | (refine bodyPost_ret (v := .tuple #[]) ?_ rfl ⟨rfl, HT3.out⟩ <;> simp [results, Tryz.f199, go_sem]))
        · have d1z : ¬ (s : Int) < (m : Int) := by omega
          clear d1x
          by_cases d2 : a < s ∧ s < md
          · have d2x : (a : Int) < (s : Int) := by omega
            have d2y : (s : Int) < (md : Int) := by omega
            by_cases d3 : md < e ∧ e < b
            · have d3x : (md : Int) < (e : Int) := by omega
              have d3y : (e : Int) < (b : Int) := by omega
              have HT1 := Lib.hid (HE1.out d1)
              go_wp2_with (first
               | (go_at_call 199; (with_reducible refine (HR1.out _ HT1.out d2.1 d2.2).mono ?_); rintro e w2 ⟨rfl, hT2⟩; have HT2 := Lib.hid hT2; clear hT2)
               | (go_at_call 199; (with_reducible refine (HR2.out _ HT2.out d3.1 d3.2).mono ?_); rintro e w3 ⟨rfl, hT3⟩; have HT3 := Lib.hid hT3; clear hT3))
              all_goals (first | exact bodyPost_end (v := .tuple #[]) (by simp [results, Tryz.f199, go_sem]) rfl ⟨rfl, HT3.out⟩ | (refine bodyPost_ret (v := .tuple #[]) ?_ rfl ⟨rfl, HT3.out⟩ <;> simp [results, Tryz.f199, go_sem]))
            · have d3x : (md : Int) < (e : Int) → ¬ (e : Int) < (b : Int) := by omega
              by_cases d3y : md < e
              · have d3z : (md : Int) < (e : Int) := by omega
                have d3w : ¬ (e : Int) < (b : Int) := by omega
                clear d3x
                have HT1 := Lib.hid (HE1.out d1)
                go_wp2_with (first
                 | (go_at_call 199; (with_reducible refine (HR1.out _ HT1.out d2.1 d2.2).mono ?_); rintro e w2 ⟨rfl, hT2⟩; have HT2 := Lib.hid hT2; clear hT2))
                all_goals have HT3 := Lib.hid (HE3.out _ HT2.out d3)
                all_goals (first | exact bodyPost_end (v := .tuple #[]) (by simp [results, Tryz.f199, go_sem]) rfl ⟨rfl, HT3.out⟩ | (refine bodyPost_ret (v := .tuple #[]) ?_ rfl ⟨rfl, HT3.out⟩ <;> simp [results, Tryz.f199, go_sem]))
              · have d3z : ¬ (md : Int) < (e : Int) := by omega
                clear d3x
                have HT1 := Lib.hid (HE1.out d1)
                go_wp2_with (first
                 | (go_at_call 199; (with_reducible refine (HR1.out _ HT1.out d2.1 d2.2).mono ?_); rintro e w2 ⟨rfl, hT2⟩; have HT2 := Lib.hid hT2; clear hT2))
                all_goals have HT3 := Lib.hid (HE3.out _ HT2.out d3)
                all_goals (first | exact bodyPost_end (v := .tuple #[]) (by simp [results, Tryz.f199, go_sem]) rfl ⟨rfl, HT3.out⟩ | (refine bodyPost_ret (v := .tuple #[]) ?_ rfl ⟨rfl, HT3.out⟩ <;> simp [results, Tryz.f199, go_sem]))
          · have d2x : (a : Int) < (s : Int) → ¬ (s : Int) < (md : Int) := by omega
            by_cases d2y : a < s
            · have d2z : (a : Int) < (s : Int) := by omega
              have d2w : ¬ (s : Int) < (md : Int) := by omega
              clear d2x
              by_cases d3 : md < e ∧ e < b
              · have d3x : (md : Int) < (e : Int) := by omega
                have d3y : (e : Int) < (b : Int) := by omega
                have HT1 := Lib.hid (HE1.out d1)
                go_wp2_with (first
                 | (go_at_call 199; have HT2 := Lib.hid (HE2.out _ HT1.out d2); (with_reducible refine (HR2.out _ HT2.out d3.1 d3.2).mono ?_); rintro e w3 ⟨rfl, hT3⟩; have HT3 := Lib.hid hT3; clear hT3))
                all_goals (first | exact bodyPost_end (v := .tuple #[]) (by simp [results, Tryz.f199, go_sem]) rfl ⟨rfl, HT3.out⟩ | (refine bodyPost_ret (v := .tuple #[]) ?_ rfl ⟨rfl, HT3.out⟩ <;> simp [results, Tryz.f199, go_sem]))
              · have d3x : (md : Int) < (e : Int) → ¬ (e : Int) < (b : Int) := by omega
                by_cases d3y : md < e
                · have d3z : (md : Int) < (e : Int) := by omega
                  have d3w : ¬ (e : Int) < (b : Int) := by omega
                  clear d3x
                  have HT1 := Lib.hid (HE1.out d1)
                  go_wp2
                  all_goals have HT2 := Lib.hid (HE2.out _ HT1.out d2)
                  all_goals have HT3 := Lib.hid (HE3.out _ HT2.out d3)
                  all_goals (first | exact bodyPost_end (v := .tuple #[]) (by simp [results, Tryz.f199, go_sem]) rfl ⟨rfl, HT3.out⟩ | (refine bodyPost_ret (v := .tuple #[]) ?_ rfl ⟨rfl, HT3.out⟩ <;> simp [results, Tryz.f199, go_sem]))
                · have d3z : ¬ (md : Int) < (e : Int) := by omega
                  clear d3x
                  have HT1 := Lib.hid (HE1.out d1)
                  go_wp2
                  all_goals have HT2 := Lib.hid (HE2.out _ HT1.out d2)
                  all_goals have HT3 := Lib.hid (HE3.out _ HT2.out d3)
                  all_goals (first | exact bodyPost_end (v := .tuple #[]) (by simp [results, Tryz.f199, go_sem]) rfl ⟨rfl, HT3.out⟩ | (refine bodyPost_ret (v := .tuple #[]) ?_ rfl ⟨rfl, HT3.out⟩ <;> simp [results, Tryz.f199, go_sem]))
            · have d2z : ¬ (a : Int) < (s : Int) := by omega
              clear d2x
              by_cases d3 : md < e ∧ e < b
              · have d3x : (md : Int) < (e : Int) := by omega
                have d3y : (e : Int) < (b : Int) := by omega
                have HT1 := Lib.hid (HE1.out d1)
                go_wp2_with (first
                 | (go_at_call 199; have HT2 := Lib.hid (HE2.out _ HT1.out d2); (with_reducible refine (HR2.out _ HT2.out d3.1 d3.2).mono ?_); rintro e w3 ⟨rfl, hT3⟩; have HT3 := Lib.hid hT3; clear hT3))
                all_goals (first | exact bodyPost_end (v := .tuple #[]) (by simp [results, Tryz.f199, go_sem]) rfl ⟨rfl, HT3.out⟩ | (refine bodyPost_ret (v := .tuple #[]) ?_ rfl ⟨rfl, HT3.out⟩ <;> simp [results, Tryz.f199, go_sem]))
              · have d3x : (md : Int) < (e : Int) → ¬ (e : Int) < (b : Int) := by omega
                by_cases d3y : md < e
                · have d3z : (md : Int) < (e : Int) := by omega
                  have d3w : ¬ (e : Int) < (b : Int) := by omega
                  clear d3x
                  have HT1 := Lib.hid (HE1.out d1)
                  go_wp2
                  all_goals have HT2 := Lib.hid (HE2.out _ HT1.out d2)
                  all_goals have HT3 := Lib.hid (HE3.out _ HT2.out d3)
                  all_goals (first | exact bodyPost_end (v := .tuple #[]) (by simp [results, Tryz.f199, go_sem]) rfl ⟨rfl, HT3.out⟩ | (refine bodyPost_ret (v := .tuple #[]) ?_ rfl ⟨rfl, HT3.out⟩ <;> simp [results, Tryz.f199, go_sem]))
                · have d3z : ¬ (md : Int) < (e : Int) := by omega
                  clear d3x
                  have HT1 := Lib.hid (HE1.out d1)
                  go_wp2
                  all_goals have HT2 := Lib.hid (HE2.out _ HT1.out d2)
                  all_goals have HT3 := Lib.hid (HE3.out _ HT2.out d3)
                  all_goals (first | exact bodyPost_end (v := .tuple #[]) (by simp [results, Tryz.f199, go_sem]) rfl ⟨rfl, HT3.out⟩ | (refine bodyPost_ret (v := .tuple #[]) ?_ rfl ⟨rfl, HT3.out⟩ <;> simp [results, Tryz.f199, go_sem]))
end Go.Proofs.YthigbklhngihkaaGreatDoor.P

import Derived.Test.YthigbklhngihkaaGreatDoorMOrderOwno
set_option linter.unusedVariables false
set_option linter.unusedSimpArgs false
set_option maxRecDepth 100000
namespace Go.Proofs.YthigbklhngihkaaGreatDoor.P
open Go.RowKit Go.Proofs.YthigbklhngihkaaGreatDoorW.PrintWords Go.Proofs.YthigbklhngihkaaGreatDoorW.PrintMore Go.Proofs.YthigbklhngihkaaGreatDoorW.PrintLast
structure MergeArgs (w0 : World) (g : Nat) (U : PEl → Prop) (A X Y B : List PEl) (N : Nat) (W : World) : Prop where
 nx : X ≠ []
 ny : Y ≠ []
 hN : N = (A ++ X ++ Y ++ B).length
 hU : ∀ e ∈ X ++ Y, U e
 sx : X.Pairwise elt
 sy : Y.Pairwise elt
 tags : ∀ x ∈ X, ∀ y ∈ Y, x.tag < y.tag
 sw : SW w0 g (A ++ X ++ Y ++ B) W
def MergeDone (w0 : World) (g : Nat) (A X Y B : List PEl) (w' : World) : Prop := ∃ S', S'.Perm (X ++ Y) ∧ S'.Pairwise elt ∧ SW w0 g (A ++ S' ++ B) w'
def MergeCalls (w0 : World) (g cb : Nat) (U : PEl → Prop) (n : Nat) : Prop := ∀ (A X Y B : List PEl) (N cap : Nat) (W : World), X.length + Y.length ≤ n → N ≤ 1048576 → MergeArgs w0 g U A X Y B N W →
 Calls Tryz.prog 199 #[.slice (some ⟨g, 0, none⟩) N cap, .int .i64 A.length, .int .i64 (A.length + X.length : Nat), .int .i64 (A.length + X.length + Y.length : Nat), .func (.func 120) #[] #[.pointer (some ⟨cb, 0, none⟩)]] W fun e w' => e = .returned (.tuple #[]) ∧ MergeDone w0 g A X Y B w'
def St1 (w0 : World) (g : Nat) (A X Y B : List PEl) (i j : Nat) (W : World) : Prop := SW w0 g (A ++ X.take i ++ Y.take j ++ X.drop i ++ Y.drop j ++ B) W
def St2 (w0 : World) (g : Nat) (A X Y B : List PEl) (i j : Nat) (W : World) : Prop := ∃ S1 : List PEl, S1.Perm (X.take i ++ Y.take j) ∧ S1.Pairwise elt ∧ SW w0 g (A ++ S1 ++ X.drop i ++ Y.drop j ++ B) W
theorem st3 {w0 : World} {g : Nat} {A X Y B S1 S2 : List PEl} {i j : Nat} {W : World} (h1 : S1.Perm (X.take i ++ Y.take j)) (p1 : S1.Pairwise elt) (h2 : S2.Perm (X.drop i ++ Y.drop j)) (p2 : S2.Pairwise elt) (hc : ∀ u ∈ X.take i ++ Y.take j, ∀ v ∈ X.drop i ++ Y.drop j, elt u v) (h : SW w0 g (A ++ S1 ++ S2 ++ B) W) : MergeDone w0 g A X Y B W := by
 refine ⟨S1 ++ S2, ?_, List.pairwise_append.2 ⟨p1, p2, fun u hu v hv => hc u (h1.mem_iff.1 hu) v (h2.mem_iff.1 hv)⟩, by simpa using h⟩
 refine (h1.append h2).trans ?_
 have e : X ++ Y = (X.take i ++ X.drop i) ++ (Y.take j ++ Y.drop j) := by rw [List.take_append_drop, List.take_append_drop]
 rw [e]
 simp only [List.append_assoc]
 refine List.Perm.append_left _ ?_
 rw [← List.append_assoc, ← List.append_assoc]
 exact List.Perm.append_right _ List.perm_append_comm
theorem tri (p q : Prop) : (p ∧ q) ∨ (p ∧ ¬ q) ∨ ¬ p := by by_cases hp : p <;> by_cases hq : q <;> simp [hp, hq]
theorem len4 (A X Y B : List PEl) (i j : Nat) (S : List PEl) (h : S.length = (X.take i ++ Y.take j).length) : (A ++ S ++ X.drop i ++ Y.drop j ++ B).length = (A ++ X ++ Y ++ B).length := by
 simp only [List.length_append, List.length_take, List.length_drop] at h ⊢
 omega
set_option maxHeartbeats 4000000 in
theorem symMerge_step (w0 : World) (g cb : Nat) (U : PEl → Prop) (hg : g < w0.heap.size) (hcmp : CmpIn w0 g cb U) (n : Nat) (ih : MergeCalls w0 g cb U n) (A X Y B : List PEl) (N cap : Nat) (W : World) (hn : X.length + Y.length ≤ n + 1) (hcap : N ≤ 1048576) (h2x : 2 ≤ X.length) (h2y : 2 ≤ Y.length) (hM : MergeArgs w0 g U A X Y B N W) :
 Calls Tryz.prog 199 #[.slice (some ⟨g, 0, none⟩) N cap, .int .i64 A.length, .int .i64 (A.length + X.length : Nat), .int .i64 (A.length + X.length + Y.length : Nat), .func (.func 120) #[] #[.pointer (some ⟨cb, 0, none⟩)]] W fun e w' => e = .returned (.tuple #[]) ∧ MergeDone w0 g A X Y B w' := by
 obtain ⟨a, ha⟩ : ∃ a, a = A.length := ⟨_, rfl⟩
 obtain ⟨m, hm⟩ : ∃ m, m = A.length + X.length := ⟨_, rfl⟩
 obtain ⟨b, hb⟩ : ∃ b, b = A.length + X.length + Y.length := ⟨_, rfl⟩
 obtain ⟨md, hmd⟩ : ∃ md, md = (a + b) / 2 := ⟨_, rfl⟩
 obtain ⟨nn, hnn⟩ : ∃ nn, nn = md + m := ⟨_, rfl⟩
 rw [← hb, ← hm, ← ha]
 have hbN : b ≤ N := by rw [hM.hN]; simp only [List.length_append]; omega
 have hmx : m = a + X.length := by omega
 have hby : b = m + Y.length := by omega
 have c1 : ((m : Int) - (a : Int) == 1) = false := by simp; omega
 have c2 : ((b : Int) - (m : Int) == 1) = false := by simp; omega
 have c3 : ((a : Int) + (b : Int)) / 2 = (md : Int) := by omega
 have c4 : (md : Int) + (m : Int) = (nn : Int) := by omega
 have c5 : (nn : Int) - 1 = ((nn - 1 : Nat) : Int) := by omega
 have bnd : (a : Int) + (b : Int) ≤ 2097152 ∧ (md : Int) ≤ 1048576 ∧ (m : Int) ≤ 1048576 ∧ (b : Int) ≤ 1048576 ∧ (nn : Int) ≤ 2097152 ∧ (0 : Int) ≤ (md : Int) := ⟨by omega, by omega, by omega, by omega, by omega, by omega⟩
 obtain ⟨bnd1, bnd2, bnd3, bnd4, bnd5, bnd6⟩ := bnd
 have HSPAN : ∃ s0 r0 : Nat, ((md < m ∧ nn = b + s0 ∧ r0 = md) ∨ (¬ md < m ∧ s0 = a ∧ r0 = m)) ∧ Span X Y a m nn s0 r0 := by
  by_cases hlt : md < m
  · exact ⟨nn - b, md, .inl ⟨hlt, by omega, rfl⟩, hM.sx, hM.sy, hM.tags, hmx, fun c h1 h2 => ⟨by omega, by omega, by omega, by omega⟩, by omega, ⟨by omega, by omega, .inr (by omega)⟩, ⟨by omega, by omega, .inr (by omega)⟩⟩
  · exact ⟨a, m, .inr ⟨hlt, rfl, rfl⟩, hM.sx, hM.sy, hM.tags, hmx, fun c h1 h2 => ⟨by omega, by omega, by omega, by omega⟩, by omega, ⟨by omega, by omega, .inl rfl⟩, ⟨by omega, by omega, .inl rfl⟩⟩
 obtain ⟨s0, r0, hsr, hspan⟩ := HSPAN
 have HFIN : Hid (∀ s, s0 ≤ s → s ≤ r0 → Cut X Y a m nn s0 r0 s s → a ≤ s ∧ s ≤ m ∧ s + m ≤ nn ∧ nn ≤ b + s ∧ s ≤ md ∧ md + m = nn ∧ (∀ u ∈ X.take (s - a) ++ Y.take (nn - s - m), ∀ v ∈ X.drop (s - a) ++ Y.drop (nn - s - m), elt u v)) := Lib.hid (fun s h1 h2 hk => by
  have e1 := hspan.bot
  have e2 := hspan.top
  exact ⟨by omega, by omega, by omega, by omega, by omega, hnn.symm, hk.final hspan h1 h2⟩)
 have HM := Lib.hid hM
 have HIH := Lib.hid ih
 have HSP := Lib.hid hspan
 have HCMP := Lib.hid hcmp
 have HA := Lib.hid ha
 have HMX := Lib.hid hmx
 have HBY := Lib.hid hby
 have HNNl := Lib.hid hn
 have HN := Lib.hid hM.hN
 have hu := Tryz.underlying102
 have h0r := hspan.le
 have hrm : r0 ≤ m := hspan.top.1
 have H2 : Hid (2 ≤ X.length ∧ 2 ≤ Y.length) := Lib.hid ⟨h2x, h2y⟩
 clear hb ha hm hM ih hspan hcmp hmx hby hn h2x h2y hmd hnn
 rcases hsr with ⟨k1, k2, k3⟩ | ⟨k1, k2, k3⟩
 all_goals
  first | have k4 : (nn : Int) - (b : Int) = (s0 : Int) := by omega | skip
  first | have k5 : (md : Int) < (m : Int) := by omega | have k5 : ¬ (md : Int) < (m : Int) := by omega
  have K2 := Lib.hid k2
  have K3 := Lib.hid k3
  clear k2 k3
  go_enter Tryz.func199, Tryz.ntmps199
  go_wp2
  go_loopw [20, 21] (fun vs vr wr => ∃ s r : Nat, vs = .int .i64 s ∧ vr = .int .i64 r ∧ s0 ≤ s ∧ s ≤ r ∧ r ≤ r0 ∧ Hid (Cut X Y a m nn s0 r0 s r) ∧ Hid (SW w0 g (A ++ X ++ Y ++ B) wr)) (fun vs vr _ => (intOf vr).toNat - (intOf vs).toNat)
  case atStart => exact ⟨s0, r0, by first | rfl | (rw [k4]) | (rw [K2.out]), by first | rfl | (rw [K3.out]), Nat.le_refl _, h0r, Nat.le_refl _, Lib.hid ⟨fun c h1 h2 => absurd h2 (by omega), fun c h1 h2 => absurd h2 (by omega)⟩, HM.out.sw⟩
  case round =>
   obtain ⟨s, r, rfl, rfl, hs0, hsr, hrr, HC, HS⟩ := hrel
   by_cases hlt : s < r
   · obtain ⟨c, hce⟩ : ∃ c, c = (s + r) / 2 := ⟨_, rfl⟩
     have hc1 : s ≤ c ∧ c < r := by omega
     have ha4 := HSP.out.at_ c (by omega) (by omega)
     obtain ⟨pc, hpc⟩ : ∃ pc, pc = nn - 1 - c := ⟨_, rfl⟩
     have c6 : ((s : Int) + (r : Int)) / 2 = (c : Int) := by omega
     have c7 : ((nn - 1 : Nat) : Int) - (c : Int) = (pc : Int) := by omega
     obtain ⟨x, hx⟩ : ∃ x, x = X.getD (c - a) zP := ⟨_, rfl⟩
     obtain ⟨y, hy⟩ : ∃ y, y = Y.getD (nn - 1 - c - m) zP := ⟨_, rfl⟩
     have hlx : c - a < X.length := by have := HMX.out; omega
     have hly : nn - 1 - c - m < Y.length := by omega
     have hxm : x ∈ X := by rw [hx]; exact getD_mem hlx
     have hym : y ∈ Y := by rw [hy]; exact getD_mem hly
     have hS := HS.out.drew
     have hx1 : (A ++ X ++ Y ++ B)[c]? = some x := by
      rw [List.append_assoc, List.append_assoc, List.getElem?_append_right (by rw [← HA.out]; omega), List.getElem?_append_left (by rw [← HA.out]; omega), hx, ← HA.out, List.getD_eq_getElem?_getD, List.getElem?_eq_getElem hlx]; rfl
     have hy1 : (A ++ X ++ Y ++ B)[pc]? = some y := by
      have hl : (A ++ X).length = m := by rw [List.length_append, ← HA.out]; exact HMX.out.symm
      rw [List.append_assoc, List.getElem?_append_right (by rw [hl]; omega), List.getElem?_append_left (by rw [hl]; omega), hl, hy, show pc - m = nn - 1 - c - m by omega, List.getD_eq_getElem?_getD, List.getElem?_eq_getElem hly]; rfl
     have r1 := hS.at_ _ _ hy1
     have r2 := hS.at_ _ _ hx1
     have i1 := info_pair _ (hS.ok y (List.mem_of_getElem? hy1)).len
     have i2 := info_pair _ (hS.ok x (List.mem_of_getElem? hx1)).len
     have HKD := Lib.hid hS.keep
     have HCC : Hid (∀ W, KeepG w0 g W → Calls Tryz.prog 120 #[.agg y.row.toArray, .agg x.row.toArray, .pointer (some ⟨cb, 0, none⟩)] W fun e w' => e = .returned (.int .i64 (vord y.key x.key)) ∧ Below W.heap.size W w') := Lib.hid (fun W hW => HCMP.out W hW y x (HM.out.hU y (List.mem_append_right _ hym)) (HM.out.hU x (List.mem_append_left _ hxm)))
     have q1 : (0 : Int) ≤ (pc : Int) := by omega
     have q2 : (pc : Int) < (N : Int) := by have := HBY.out; omega
     have q3 : (0 : Int) ≤ (c : Int) := by omega
     have q4 : (c : Int) < (N : Int) := by omega
     have q5 : (s : Int) + (r : Int) ≤ 4194304 := by omega
     have q6 : IntKind.i64.wrap (pc : Int) = (pc : Int) := by rw [wrap_in _ (by omega)]
     have HUP : Hid (¬ vord y.key x.key < 0 → Cut X Y a m nn s0 r0 (c + 1) r) := Lib.hid (fun h => HC.out.up HSP.out (by omega) (by omega) (by unfold Pr; rw [← hx, ← hy]; exact h))
     have HDN : Hid (vord y.key x.key < 0 → Cut X Y a m nn s0 r0 s c) := Lib.hid (fun h => HC.out.down HSP.out (by omega) (by omega) (by unfold Pr; rw [← hx, ← hy]; exact h))
     clear hce hx hy hlx hly hxm hym hS hx1 hy1 hpc ha4 HC
     by_cases hc : vord y.key x.key < 0
     · go_upto_region 35 with (fail)
       refine wp_region_any (by kernel_rfl) ?_
       change wpAny _ _ _ _ _ _ _ (World.drew _)
       refine tq 0 (h := ?_)
       refine tq 1 (h := ?_)
       simp only [lst]
       refine tq 2 (h := ?_)
       refine tq 3 (h := ?_)
       simp only [lst]
       refine tq 4 (h := ?_)
       refine tq 5 (h := ?_)
       simp only [lst]
       refine tq 7 (h := ?_)
       refine tq 8 (h := ?_)
       simp only [lst]
       refine tq 9 (h := ?_)
       simp only [lst]
       refine two 6 10 rfl rfl (by kernel_rfl) (by rfl) (by rfl) (fun K_ hK_ => ?_) (fun K_ hK_ => ?_)
       refine wp_load_mid _ _ rfl _ _ rfl _ _ r1 hu rfl i1 ?_
       refine hK_ _ _ ?_
       clear hK_ K_
       simp only [Act.put, lgt, List.setIfInBounds_toArray, lst]
       refine one 10 rfl (by kernel_rfl) (by rfl) fun K_ hK_ => ?_
       refine wp_load_mid _ _ rfl _ _ rfl _ _ r2 hu rfl i2 ?_
       refine hK_ _ _ ?_
       clear hK_ K_
       simp only [Act.put, lgt, List.setIfInBounds_toArray, lst]
       refine one 11 rfl (by kernel_rfl) (by rfl) fun K_ hK_ => ?_
       simp only [lgt]
       go_simp
       refine (HCC.out _ HKD.out).mono ?_
       rintro e_ w5 ⟨rfl, hB5⟩
       have HB5 := Lib.hid hB5
       clear hB5
       simp only [Oper.upon]
       refine hK_ _ _ ?_
       clear hK_ K_
       refine tq 12 (h := ?_)
       refine tq 13 (h := ?_)
       refine wpAny_done (by kernel_rfl) ?_ _
       simp only [lst]
       rotate_left
       refine wp_load_mid _ _ rfl _ _ rfl _ _ r2 hu rfl i2 ?_
       refine hK_ _ _ ?_
       clear hK_ K_
       simp only [Act.put, lgt, List.setIfInBounds_toArray, lst]
       refine one 6 rfl (by kernel_rfl) (by rfl) fun K_ hK_ => ?_
       refine wp_load_mid _ _ rfl _ _ rfl _ _ r1 hu rfl i1 ?_
       refine hK_ _ _ ?_
       clear hK_ K_
       simp only [Act.put, lgt, List.setIfInBounds_toArray, lst]
       refine one 11 rfl (by kernel_rfl) (by rfl) fun K_ hK_ => ?_
       simp only [lgt]
       go_simp
       refine (HCC.out _ HKD.out).mono ?_
       rintro e_ w5 ⟨rfl, hB5⟩
       have HB5 := Lib.hid hB5
       clear hB5
       simp only [Oper.upon]
       refine hK_ _ _ ?_
       clear hK_ K_
       refine tq 12 (h := ?_)
       refine tq 13 (h := ?_)
       refine wpAny_done (by kernel_rfl) ?_ _
       simp only [lst]
       rotate_left
       all_goals
        clear r1 r2 i1 i2 HCC HKD q1 q2 q3 q4 q6 c7
        have HS5 := Lib.hid (HS.out.drew.grow hg HB5.out)
        have HC2 := Lib.hid (HDN.out hc)
        clear c6
        go_wp2_with fail
        go_roundw
        case rel => exact ⟨s, c, rfl, rfl, hs0, hc1.1, by omega, HC2, HS5⟩
        case measure => show c - s < r - s; omega
     · go_upto_region 35 with (fail)
       refine wp_region_any (by kernel_rfl) ?_
       change wpAny _ _ _ _ _ _ _ (World.drew _)
       refine tq 0 (h := ?_)
       refine tq 1 (h := ?_)
       simp only [lst]
       refine tq 2 (h := ?_)
       refine tq 3 (h := ?_)
       simp only [lst]
       refine tq 4 (h := ?_)
       refine tq 5 (h := ?_)
       simp only [lst]
       refine tq 7 (h := ?_)
       refine tq 8 (h := ?_)
       simp only [lst]
       refine tq 9 (h := ?_)
       simp only [lst]
       refine two 6 10 rfl rfl (by kernel_rfl) (by rfl) (by rfl) (fun K_ hK_ => ?_) (fun K_ hK_ => ?_)
       refine wp_load_mid _ _ rfl _ _ rfl _ _ r1 hu rfl i1 ?_
       refine hK_ _ _ ?_
       clear hK_ K_
       simp only [Act.put, lgt, List.setIfInBounds_toArray, lst]
       refine one 10 rfl (by kernel_rfl) (by rfl) fun K_ hK_ => ?_
       refine wp_load_mid _ _ rfl _ _ rfl _ _ r2 hu rfl i2 ?_
       refine hK_ _ _ ?_
       clear hK_ K_
       simp only [Act.put, lgt, List.setIfInBounds_toArray, lst]
       refine one 11 rfl (by kernel_rfl) (by rfl) fun K_ hK_ => ?_
       simp only [lgt]
       go_simp
       refine (HCC.out _ HKD.out).mono ?_
       rintro e_ w5 ⟨rfl, hB5⟩
       have HB5 := Lib.hid hB5
       clear hB5
       simp only [Oper.upon]
       refine hK_ _ _ ?_
       clear hK_ K_
       refine tq 12 (h := ?_)
       refine tq 13 (h := ?_)
       refine wpAny_done (by kernel_rfl) ?_ _
       simp only [lst]
       rotate_left
       refine wp_load_mid _ _ rfl _ _ rfl _ _ r2 hu rfl i2 ?_
       refine hK_ _ _ ?_
       clear hK_ K_
       simp only [Act.put, lgt, List.setIfInBounds_toArray, lst]
       refine one 6 rfl (by kernel_rfl) (by rfl) fun K_ hK_ => ?_
       refine wp_load_mid _ _ rfl _ _ rfl _ _ r1 hu rfl i1 ?_
       refine hK_ _ _ ?_
       clear hK_ K_
       simp only [Act.put, lgt, List.setIfInBounds_toArray, lst]
       refine one 11 rfl (by kernel_rfl) (by rfl) fun K_ hK_ => ?_
       simp only [lgt]
       go_simp
       refine (HCC.out _ HKD.out).mono ?_
       rintro e_ w5 ⟨rfl, hB5⟩
       have HB5 := Lib.hid hB5
       clear hB5
       simp only [Oper.upon]
       refine hK_ _ _ ?_
       clear hK_ K_
       refine tq 12 (h := ?_)
       refine tq 13 (h := ?_)
       refine wpAny_done (by kernel_rfl) ?_ _
       simp only [lst]
       rotate_left
       all_goals
        clear r1 r2 i1 i2 HCC HKD q1 q2 q3 q4 q6 c7
        have HS5 := Lib.hid (HS.out.drew.grow hg HB5.out)
        have HC2 := Lib.hid (HUP.out hc)
        have hw : (c : Int) + 1 ≤ 1048576 := by omega
        clear c6
        go_wp2_with fail
        go_roundw
        case rel => exact ⟨c + 1, r, by first | rfl | exact congrArg (Value.int .i64) (wrap64_up c (by omega)), rfl, by omega, by omega, hrr, HC2, HS5⟩
        case measure => first | (rw [wrap64_up c (by omega)]; show r - (c + 1) < r - s; omega) | (show r - (c + 1) < r - s; omega)
   · obtain rfl : s = r := by omega
     obtain ⟨f1, f2, f3, f4, f5, f6, hcut⟩ := HFIN.out s hs0 hrr HC.out
     obtain ⟨e, hee⟩ : ∃ e, e = nn - s := ⟨_, rfl⟩
     obtain ⟨i, hi⟩ : ∃ i, i = s - a := ⟨_, rfl⟩
     obtain ⟨j, hj⟩ : ∃ j, j = nn - s - m := ⟨_, rfl⟩
     rw [← hi, ← hj] at hcut
     have c8 : (nn : Int) - (s : Int) = (e : Int) := by omega
     have b1 : m ≤ e ∧ e ≤ b ∧ e = m + j ∧ s = a + i ∧ md = a + i + j ∧ i ≤ X.length ∧ j ≤ Y.length := by
      have := HMX.out
      have := HBY.out
      exact ⟨by omega, by omega, by omega, by omega, by omega, by omega, by omega⟩
     have l1 : (X.take i).length = i := by rw [List.length_take]; omega
     have l2 : (X.drop i).length = X.length - i := List.length_drop
     have l3 : (Y.take j).length = j := by rw [List.length_take]; omega
     have l4 : (Y.drop j).length = Y.length - j := List.length_drop
     have HX1 : Hid ((X.take i).Pairwise elt ∧ (X.drop i).Pairwise elt ∧ (Y.take j).Pairwise elt ∧ (Y.drop j).Pairwise elt) := Lib.hid ⟨HM.out.sx.sublist (List.take_sublist _ _), HM.out.sx.sublist (List.drop_sublist _ _), HM.out.sy.sublist (List.take_sublist _ _), HM.out.sy.sublist (List.drop_sublist _ _)⟩
     have e0 : A ++ X ++ Y ++ B = A ++ X.take i ++ X.drop i ++ Y.take j ++ (Y.drop j ++ B) := by
      have e1 : A ++ X ++ Y ++ B = A ++ (X.take i ++ X.drop i) ++ (Y.take j ++ Y.drop j) ++ B := by rw [List.take_append_drop, List.take_append_drop]
      rw [e1]; simp only [List.append_assoc]
     have HS' := HS.out
     rw [e0] at HS'
     have HROT : Hid (s < m → m < e → Calls Tryz.prog 246 #[.slice (some ⟨g, 0, none⟩) N cap, .int .i64 s, .int .i64 m, .int .i64 e, .func (.func 120) #[] #[.pointer (some ⟨cb, 0, none⟩)]] wr fun e w' => e = .returned (.tuple #[]) ∧ St1 w0 g A X Y B i j w') := Lib.hid (fun h1 h2 => by
      have h := rotate_in w0 g (A ++ X.take i) (X.drop i) (Y.take j) (Y.drop j ++ B) N cap (.func (.func 120) #[] #[.pointer (some ⟨cb, 0, none⟩)]) wr (by intro e; rw [e] at l2; simp at l2; have := HMX.out; omega) (by intro e; rw [e] at l3; simp at l3; omega) (by rw [HN.out, e0]) hcap HS'
      have e2 : (A ++ X.take i).length = s := by rw [List.length_append, l1, ← HA.out]; omega
      rw [e2, l2, l3, show s + (X.length - i) = m by have := HMX.out; omega, show m + j = e by omega] at h
      refine h.mono ?_
      rintro e w' ⟨rfl, h3⟩
      exact ⟨rfl, by unfold St1; simp only [List.append_assoc] at h3 ⊢; exact h3⟩)
     have HE1 : Hid (¬ (s < m ∧ m < e) → St1 w0 g A X Y B i j wr) := Lib.hid (fun h => by
      unfold St1
      have hz : X.drop i = [] ∨ Y.take j = [] := by
       by_cases h1 : s < m
       · exact .inr (List.eq_nil_of_length_eq_zero (by rw [l3]; omega))
       · exact .inl (List.eq_nil_of_length_eq_zero (by rw [l2]; have := HMX.out; omega))
      rcases hz with hz | hz <;> rw [hz] at HS' ⊢ <;> simp only [List.append_assoc, List.append_nil, List.nil_append] at HS' ⊢ <;> exact HS')
     have HR1 : Hid (∀ w1, St1 w0 g A X Y B i j w1 → a < s → s < md → Calls Tryz.prog 199 #[.slice (some ⟨g, 0, none⟩) N cap, .int .i64 a, .int .i64 s, .int .i64 md, .func (.func 120) #[] #[.pointer (some ⟨cb, 0, none⟩)]] w1 fun e w' => e = .returned (.tuple #[]) ∧ St2 w0 g A X Y B i j w') := Lib.hid (fun w1 hw1 h1 h2 => by
      have h := HIH.out A (X.take i) (Y.take j) (X.drop i ++ Y.drop j ++ B) N cap w1 (by rw [l1, l3]; have := HNNl.out; have := H2.out; have := HMX.out; have := HBY.out; omega) hcap ⟨by intro e; rw [e] at l1; simp at l1; omega, by intro e; rw [e] at l3; simp at l3; omega, by rw [HN.out, ← len4 A X Y B i j (X.take i ++ Y.take j) rfl]; simp only [List.length_append]; omega, fun u hu => HM.out.hU u (by
       rcases List.mem_append.1 hu with hu | hu
       · exact List.mem_append_left _ (List.mem_of_mem_take hu)
       · exact List.mem_append_right _ (List.mem_of_mem_take hu)), HX1.out.1, HX1.out.2.2.1, fun u hu v hv => HM.out.tags u (List.mem_of_mem_take hu) v (List.mem_of_mem_take hv), by unfold St1 at hw1; simp only [List.append_assoc] at hw1 ⊢; exact hw1⟩
      rw [l1, l3, ← HA.out, show a + i = s by omega, show s + j = md by omega] at h
      refine h.mono ?_
      rintro e w' ⟨rfl, S1, p1, p2, p3⟩
      exact ⟨rfl, S1, p1, p2, by simp only [List.append_assoc] at p3 ⊢; exact p3⟩)
     have HE2 : Hid (∀ w1, St1 w0 g A X Y B i j w1 → ¬ (a < s ∧ s < md) → St2 w0 g A X Y B i j w1) := Lib.hid (fun w1 hw1 h => by
      refine ⟨X.take i ++ Y.take j, List.Perm.refl _, ?_, by unfold St1 at hw1; simp only [List.append_assoc] at hw1 ⊢; exact hw1⟩
      have hz : X.take i = [] ∨ Y.take j = [] := by
       by_cases h1 : a < s
       · exact .inr (List.eq_nil_of_length_eq_zero (by rw [l3]; omega))
       · exact .inl (List.eq_nil_of_length_eq_zero (by rw [l1]; omega))
      rcases hz with hz | hz <;> rw [hz]
      · rw [List.nil_append]; exact HX1.out.2.2.1
      · rw [List.append_nil]; exact HX1.out.1)
     have HR2 : Hid (∀ w2, St2 w0 g A X Y B i j w2 → md < e → e < b → Calls Tryz.prog 199 #[.slice (some ⟨g, 0, none⟩) N cap, .int .i64 md, .int .i64 e, .int .i64 b, .func (.func 120) #[] #[.pointer (some ⟨cb, 0, none⟩)]] w2 fun e w' => e = .returned (.tuple #[]) ∧ MergeDone w0 g A X Y B w') := Lib.hid (fun w2 hw2 h1 h2 => by
      obtain ⟨S1, p1, p2, p3⟩ := hw2
      have hsl : S1.length = i + j := by rw [p1.length_eq, List.length_append, l1, l3]
      have h := HIH.out (A ++ S1) (X.drop i) (Y.drop j) B N cap w2 (by rw [l2, l4]; have := HNNl.out; have := H2.out; have := HMX.out; have := HBY.out; omega) hcap ⟨by intro e; rw [e] at l2; simp at l2; have := HMX.out; omega, by intro e; rw [e] at l4; simp at l4; have := HBY.out; omega, by rw [HN.out, ← len4 A X Y B i j S1 p1.length_eq], fun u hu => HM.out.hU u (by
       rcases List.mem_append.1 hu with hu | hu
       · exact List.mem_append_left _ (List.mem_of_mem_drop hu)
       · exact List.mem_append_right _ (List.mem_of_mem_drop hu)), HX1.out.2.1, HX1.out.2.2.2, fun u hu v hv => HM.out.tags u (List.mem_of_mem_drop hu) v (List.mem_of_mem_drop hv), p3⟩
      rw [l2, l4, show (A ++ S1).length = md by rw [List.length_append, hsl, ← HA.out]; omega, show md + (X.length - i) = e by have := HMX.out; omega, show e + (Y.length - j) = b by have := HBY.out; omega] at h
      refine h.mono ?_
      rintro e w' ⟨rfl, S2, t1, t2, t3⟩
      exact ⟨rfl, st3 p1 p2 t1 t2 hcut t3⟩)
     have HE3 : Hid (∀ w2, St2 w0 g A X Y B i j w2 → ¬ (md < e ∧ e < b) → MergeDone w0 g A X Y B w2) := Lib.hid (fun w2 hw2 h => by
      obtain ⟨S1, p1, p2, p3⟩ := hw2
      refine st3 (S2 := X.drop i ++ Y.drop j) p1 p2 (List.Perm.refl _) ?_ hcut (by simp only [List.append_assoc] at p3 ⊢; exact p3)
      have hz : X.drop i = [] ∨ Y.drop j = [] := by
       by_cases h1 : md < e
       · exact .inr (List.eq_nil_of_length_eq_zero (by rw [l4]; have := HBY.out; omega))
       · exact .inl (List.eq_nil_of_length_eq_zero (by rw [l2]; have := HMX.out; omega))
      rcases hz with hz | hz <;> rw [hz]
      · rw [List.nil_append]; exact HX1.out.2.2.2
      · rw [List.append_nil]; exact HX1.out.2.1)
     clear hcut l1 l2 l3 l4 e0 HS' hee hi hj b1 f1 f2 f3 f4 f5 f6 HC hs0 hsr hrr hlt c3
     rcases tri ((s : Int) < (m : Int)) ((m : Int) < (e : Int)) with ⟨d1, d2⟩ | ⟨d1, d2⟩ | d1 <;> rcases tri ((a : Int) < (s : Int)) ((s : Int) < (md : Int)) with ⟨d3, d4⟩ | ⟨d3, d4⟩ | d3 <;> rcases tri ((md : Int) < (e : Int)) ((e : Int) < (b : Int)) with ⟨d5, d6⟩ | ⟨d5, d6⟩ | d5
     all_goals try (exfalso; omega)
     all_goals
      first | have HT1 := Lib.hid (HE1.out (by omega)) | skip
      go_wp2_with (first
       | (go_at_call 246; (with_reducible refine (HROT.out (by omega) (by omega)).mono ?_); rintro e w1 ⟨rfl, hT1⟩; have HT1 := Lib.hid hT1; clear hT1)
       | (go_at_call 199; (with_reducible refine (HR1.out _ HT1.out (by omega) (by omega)).mono ?_); rintro e w2 ⟨rfl, hT2⟩; have HT2 := Lib.hid hT2; clear hT2)
       | (go_at_call 199; (first | have HT2 := Lib.hid (HE2.out _ HT1.out (by omega)) | skip); (with_reducible refine (HR2.out _ HT2.out (by omega) (by omega)).mono ?_); rintro e w3 ⟨rfl, hT3⟩; have HT3 := Lib.hid hT3; clear hT3))
      all_goals first | have HT2 := Lib.hid (HE2.out _ HT1.out (by omega)) | skip
      all_goals first | have HT3 := Lib.hid (HE3.out _ HT2.out (by omega)) | skip
      all_goals (first | exact bodyPost_end (v := .tuple #[]) (by simp [results, Tryz.f199, go_sem]) rfl ⟨rfl, HT3.out⟩ | (refine bodyPost_ret (v := .tuple #[]) ?_ rfl ⟨rfl, HT3.out⟩ <;> simp [results, Tryz.f199, go_sem]))
theorem symMerge_in (w0 : World) (g cb : Nat) (U : PEl → Prop) (hg : g < w0.heap.size) (hcmp : CmpIn w0 g cb U) : ∀ n, MergeCalls w0 g cb U n := by
 intro n
 induction n with
 | zero =>
  intro A X Y B N cap W h _ hM
  have := List.length_pos_iff.2 hM.nx
  omega
 | succ n ih =>
  intro A X Y B N cap W h hcap hM
  have hx := List.length_pos_iff.2 hM.nx
  have hy := List.length_pos_iff.2 hM.ny
  by_cases h1 : X.length = 1
  · obtain ⟨x, rfl⟩ := List.length_eq_one_iff.1 h1
    refine (merge_one w0 g cb U hg hcmp A Y B x N cap W hM.hN hcap (fun e he => hM.hU e (by simpa using he)) hM.sy (fun y hy => hM.tags x List.mem_cons_self y hy) hM.sw).mono ?_
    rintro e w' ⟨rfl, h2⟩
    exact ⟨rfl, h2⟩
  · by_cases h2 : Y.length = 1
    · obtain ⟨y, rfl⟩ := List.length_eq_one_iff.1 h2
      refine (merge_last w0 g cb U hg hcmp A X B y N cap W hM.hN hcap (fun e he => hM.hU e (by
       rcases List.mem_cons.1 he with rfl | he
       · simp
       · exact List.mem_append_left _ he)) hM.sx (fun x hx => hM.tags x hx y List.mem_cons_self) (by omega) hM.sw).mono ?_
      rintro e w' ⟨rfl, h3⟩
      exact ⟨rfl, h3⟩
    · exact symMerge_step w0 g cb U hg hcmp n ih A X Y B N cap W h hcap (by omega) (by omega) hM
inductive BL (z : Nat) : List PEl → List PEl → Prop
 | last (o c : List PEl) : o.length ≤ z → c.Perm o → c.Pairwise elt → BL z o c
 | more (o1 c1 o c : List PEl) : o1.length = z → c1.Perm o1 → c1.Pairwise elt → BL z o c → BL z (o1 ++ o) (c1 ++ c)
theorem BL.perm {z : Nat} {o c : List PEl} (h : BL z o c) : c.Perm o := by
 induction h with
 | last o c _ h _ => exact h
 | more o1 c1 o c _ h1 _ _ ih => exact h1.append ih
def Done (z : Nat) (o1 c1 : List PEl) : Prop := ∀ o c, BL z o c → BL z (o1 ++ o) (c1 ++ c)
theorem Done.nil (z : Nat) : Done z [] [] := fun o c h => by simpa using h
theorem Done.snoc {z : Nat} {o1 c1 p s : List PEl} (h : Done z o1 c1) (hp : p.length = z) (hs : s.Perm p) (hss : s.Pairwise elt) : Done z (o1 ++ p) (c1 ++ s) := fun o c hb => by
 rw [List.append_assoc, List.append_assoc]
 exact h _ _ (.more p s o c hp hs hss hb)
theorem BL.whole {z : Nat} {o c : List PEl} (h : BL z o c) (hl : o.length ≤ z) : c.Perm o ∧ c.Pairwise elt := by
 refine ⟨h.perm, ?_⟩
 cases h with
 | last _ _ _ _ h => exact h
 | more o1 c1 o c h1 h2 h3 h4 =>
  rw [List.length_append] at hl
  obtain rfl : o = [] := List.eq_nil_of_length_eq_zero (by omega)
  have := h4.perm
  rw [List.perm_nil] at this
  rw [this, List.append_nil]
  exact h3
theorem BL.split {z : Nat} {o c : List PEl} (h : BL z o c) (hl : z < o.length) : ∃ o1 c1 o2 c2, o = o1 ++ o2 ∧ c = c1 ++ c2 ∧ o1.length = z ∧ c1.Perm o1 ∧ c1.Pairwise elt ∧ BL z o2 c2 := by
 cases h with
 | last _ _ h _ _ => omega
 | more o1 c1 o c h1 h2 h3 h4 => exact ⟨o1, c1, o, c, rfl, rfl, h1, h2, h3, h4⟩
theorem BL.first {z : Nat} {o c : List PEl} (h : BL z o c) (hl : z ≤ o.length) : ∃ o1 c1 o2 c2, o = o1 ++ o2 ∧ c = c1 ++ c2 ∧ o1.length = z ∧ c1.Perm o1 ∧ c1.Pairwise elt ∧ BL z o2 c2 := by
 cases h with
 | last _ _ h1 h2 h3 => exact ⟨o, c, [], [], by simp, by simp, by omega, h2, h3, .last _ _ (Nat.zero_le _) (List.Perm.refl _) List.Pairwise.nil⟩
 | more o1 c1 o c h1 h2 h3 h4 => exact ⟨o1, c1, o, c, rfl, rfl, h1, h2, h3, h4⟩
theorem tags_apart {p q X Y o : List PEl} (ht : (p ++ q ++ o).Pairwise (fun x y => x.tag < y.tag)) (hx : X.Perm p) (hy : Y.Perm q) : ∀ x ∈ X, ∀ y ∈ Y, x.tag < y.tag := fun x hx' y hy' => by
 have h1 := (List.pairwise_append.1 ht).1
 exact (List.pairwise_append.1 h1).2.2 x (hx.mem_iff.1 hx') y (hy.mem_iff.1 hy')
structure SortArgs (w0 : World) (g cb : Nat) (U : PEl → Prop) (O : List PEl) (N : Nat) : Prop where
 hg : g < w0.heap.size
 cmp : CmpIn w0 g cb U
 hN : N = O.length
 hcap : N ≤ 1048576
 hU : ∀ e ∈ O, U e
 tags : O.Pairwise (fun x y : PEl => x.tag < y.tag)
theorem Done.perm {z : Nat} {o c : List PEl} (h : Done z o c) : c.Perm o := by
 have := (h [] [] (.last _ _ (Nat.zero_le _) (List.Perm.refl _) List.Pairwise.nil)).perm
 simpa using this
theorem Done.len {z : Nat} {o c : List PEl} (h : Done z o c) : c.length = o.length := h.perm.length_eq
def InB (w0 : World) (g : Nat) (O : List PEl) (a : Nat) (W : World) : Prop := ∃ o1 c1 o2 : List PEl, O = o1 ++ o2 ∧ o1.length = a ∧ Done 20 o1 c1 ∧ SW w0 g (c1 ++ o2) W
theorem InB.drew {w0 : World} {g : Nat} {O : List PEl} {a : Nat} {W : World} (h : InB w0 g O a W) : InB w0 g O a W.drew := by
 obtain ⟨o1, c1, o2, h1, h2, h3, h4⟩ := h
 exact ⟨o1, c1, o2, h1, h2, h3, h4.drew⟩
def InZ (w0 : World) (g : Nat) (O : List PEl) (z : Nat) (W : World) : Prop := ∃ c : List PEl, BL z O c ∧ SW w0 g c W
theorem InZ.drew {w0 : World} {g : Nat} {O : List PEl} {z : Nat} {W : World} (h : InZ w0 g O z W) : InZ w0 g O z W.drew := by
 obtain ⟨c, h1, h2⟩ := h
 exact ⟨c, h1, h2.drew⟩
def InM (w0 : World) (g : Nat) (O : List PEl) (z a : Nat) (W : World) : Prop := ∃ o1 c1 o2 c2 : List PEl, O = o1 ++ o2 ∧ o1.length = a ∧ Done (2 * z) o1 c1 ∧ BL z o2 c2 ∧ SW w0 g (c1 ++ c2) W
theorem InM.drew {w0 : World} {g : Nat} {O : List PEl} {z a : Nat} {W : World} (h : InM w0 g O z a W) : InM w0 g O z a W.drew := by
 obtain ⟨o1, c1, o2, c2, h1, h2, h3, h4, h5⟩ := h
 exact ⟨o1, c1, o2, c2, h1, h2, h3, h4, h5.drew⟩
theorem ins_block {w0 : World} {g cb : Nat} {U : PEl → Prop} {O : List PEl} {N : Nat} (hA : SortArgs w0 g cb U O N) (cap a b : Nat) (W : World) (hb : b = a + 20) (hbN : b ≤ N) (h : InB w0 g O a W) :
 Calls Tryz.prog 198 #[.slice (some ⟨g, 0, none⟩) N cap, .int .i64 a, .int .i64 b, .func (.func 120) #[] #[.pointer (some ⟨cb, 0, none⟩)]] W fun e w' => e = .returned (.tuple #[]) ∧ InB w0 g O b w' := by
 obtain ⟨o1, c1, o2, h1, h2, h3, h4⟩ := h
 have hN := hA.hN
 have hl : (o2.take 20).length = 20 := by rw [h1, List.length_append] at hN; rw [List.length_take]; omega
 have hc1 : c1.length = a := by rw [h3.len, h2]
 have hsub : (o2.take 20).Sublist O := by rw [h1]; exact (List.take_sublist _ _).trans (List.sublist_append_right _ _)
 have h := insertion_in w0 g cb U hA.hg hA.cmp c1 (o2.take 20) (o2.drop 20) N cap W (by rw [List.append_assoc, List.take_append_drop, List.length_append, hc1, hN, h1, List.length_append, h2]) hA.hcap (fun e he => hA.hU e (hsub.subset he)) (hA.tags.sublist hsub) (by rw [List.append_assoc, List.take_append_drop]; exact h4)
 rw [hl, hc1, ← hb] at h
 refine h.mono ?_
 rintro e w' ⟨rfl, S', p1, p2, p3⟩
 exact ⟨rfl, o1 ++ o2.take 20, c1 ++ S', o2.drop 20, by rw [List.append_assoc, List.take_append_drop]; exact h1, by rw [List.length_append, hl, h2]; exact hb.symm, h3.snoc hl p1 p2, p3⟩
theorem ins_last {w0 : World} {g cb : Nat} {U : PEl → Prop} {O : List PEl} {N : Nat} (hA : SortArgs w0 g cb U O N) (cap a : Nat) (W : World) (haN : a ≤ N) (hb : N < a + 20) (h : InB w0 g O a W) :
 Calls Tryz.prog 198 #[.slice (some ⟨g, 0, none⟩) N cap, .int .i64 a, .int .i64 N, .func (.func 120) #[] #[.pointer (some ⟨cb, 0, none⟩)]] W fun e w' => e = .returned (.tuple #[]) ∧ InZ w0 g O 20 w' := by
 obtain ⟨o1, c1, o2, h1, h2, h3, h4⟩ := h
 have hN := hA.hN
 have hl : N = a + o2.length := by rw [hN, h1, List.length_append, h2]
 have hc1 : c1.length = a := by rw [h3.len, h2]
 have hsub : o2.Sublist O := by rw [h1]; exact List.sublist_append_right _ _
 have h := insertion_in w0 g cb U hA.hg hA.cmp c1 o2 [] N cap W (by rw [List.append_nil, List.length_append, hc1]; exact hl) hA.hcap (fun e he => hA.hU e (hsub.subset he)) (hA.tags.sublist hsub) (by rw [List.append_nil]; exact h4)
 rw [hc1, ← hl] at h
 refine h.mono ?_
 rintro e w' ⟨rfl, S', p1, p2, p3⟩
 rw [List.append_nil] at p3
 refine ⟨rfl, c1 ++ S', ?_, p3⟩
 rw [h1]
 exact h3 _ _ (.last _ _ (by omega) p1 p2)
theorem inM_start {w0 : World} {g : Nat} {O : List PEl} {z : Nat} {W : World} (h : InZ w0 g O z W) : InM w0 g O z 0 W := by
 obtain ⟨c, h1, h2⟩ := h
 exact ⟨[], [], O, c, rfl, rfl, Done.nil _, h1, h2⟩
theorem merge_block {w0 : World} {g cb : Nat} {U : PEl → Prop} {O : List PEl} {N : Nat} (hA : SortArgs w0 g cb U O N) (cap z a m b : Nat) (W : World) (hz : 0 < z) (hm : m = a + z) (hb : b = a + 2 * z) (hbN : b ≤ N) (h : InM w0 g O z a W) :
 Calls Tryz.prog 199 #[.slice (some ⟨g, 0, none⟩) N cap, .int .i64 a, .int .i64 m, .int .i64 b, .func (.func 120) #[] #[.pointer (some ⟨cb, 0, none⟩)]] W fun e w' => e = .returned (.tuple #[]) ∧ InM w0 g O z b w' := by
 obtain ⟨o1, c1, o2, c2, h1, h2, h3, h4, h5⟩ := h
 have hN := hA.hN
 have hl : N = a + o2.length := by rw [hN, h1, List.length_append, h2]
 have hc1 : c1.length = a := by rw [h3.len, h2]
 obtain ⟨p, X, o3, c3, rfl, rfl, lp, px, sx, h6⟩ := h4.first (by omega)
 rw [List.length_append] at hl
 obtain ⟨q, Y, o4, c4, rfl, rfl, lq, py, sy, h7⟩ := h6.first (by omega)
 have lX : X.length = z := by rw [px.length_eq, lp]
 have lY : Y.length = z := by rw [py.length_eq, lq]
 have hlen : c4.length = o4.length := h7.perm.length_eq
 have htg : (p ++ q ++ o4).Pairwise (fun x y : PEl => x.tag < y.tag) := by
  have ht := hA.tags
  rw [h1] at ht
  rw [List.append_assoc]
  exact (List.pairwise_append.1 ht).2.1
 have h := symMerge_in w0 g cb U hA.hg hA.cmp (X.length + Y.length) c1 X Y c4 N cap W (Nat.le_refl _) hA.hcap ⟨by intro e; rw [e] at lX; simp at lX; omega, by intro e; rw [e] at lY; simp at lY; omega, by
  simp only [List.length_append] at hl ⊢; omega, fun e he => hA.hU e (by
  rw [h1]
  rcases List.mem_append.1 he with he | he
  · exact List.mem_append_right _ (List.mem_append_left _ (px.mem_iff.1 he))
  · exact List.mem_append_right _ (List.mem_append_right _ (List.mem_append_left _ (py.mem_iff.1 he)))), sx, sy, tags_apart htg px py, by simp only [List.append_assoc] at h5 ⊢; exact h5⟩
 rw [lX, lY, hc1, ← hm, show m + z = b by omega] at h
 refine h.mono ?_
 rintro e w' ⟨rfl, S', p1, p2, p3⟩
 refine ⟨rfl, o1 ++ (p ++ q), c1 ++ S', o4, c4, by rw [h1]; simp only [List.append_assoc], by rw [List.length_append, List.length_append, h2, lp, lq]; omega, h3.snoc (by rw [List.length_append, lp, lq]; omega) (p1.trans (px.append py)) p2, h7, p3⟩
theorem merge_tail {w0 : World} {g cb : Nat} {U : PEl → Prop} {O : List PEl} {N : Nat} (hA : SortArgs w0 g cb U O N) (cap z a m : Nat) (W : World) (hz : 0 < z) (hm : m = a + z) (hmN : m < N) (hb : N < a + 2 * z) (h : InM w0 g O z a W) :
 Calls Tryz.prog 199 #[.slice (some ⟨g, 0, none⟩) N cap, .int .i64 a, .int .i64 m, .int .i64 N, .func (.func 120) #[] #[.pointer (some ⟨cb, 0, none⟩)]] W fun e w' => e = .returned (.tuple #[]) ∧ InZ w0 g O (2 * z) w' := by
 obtain ⟨o1, c1, o2, c2, h1, h2, h3, h4, h5⟩ := h
 have hN := hA.hN
 have hl : N = a + o2.length := by rw [hN, h1, List.length_append, h2]
 have hc1 : c1.length = a := by rw [h3.len, h2]
 obtain ⟨p, X, o3, Y, rfl, rfl, lp, px, sx, h6⟩ := h4.first (by omega)
 rw [List.length_append] at hl
 obtain ⟨py, sy⟩ := h6.whole (by omega)
 have lX : X.length = z := by rw [px.length_eq, lp]
 have lY : Y.length = o3.length := py.length_eq
 have htg : (p ++ o3 ++ []).Pairwise (fun x y : PEl => x.tag < y.tag) := by
  have ht := hA.tags
  rw [h1] at ht
  rw [List.append_nil]
  exact (List.pairwise_append.1 ht).2.1
 have h := symMerge_in w0 g cb U hA.hg hA.cmp (X.length + Y.length) c1 X Y [] N cap W (Nat.le_refl _) hA.hcap ⟨by intro e; rw [e] at lX; simp at lX; omega, by intro e; rw [e] at lY; simp at lY; omega, by
  simp only [List.length_append, List.length_nil]; omega, fun e he => hA.hU e (by
  rw [h1]
  rcases List.mem_append.1 he with he | he
  · exact List.mem_append_right _ (List.mem_append_left _ (px.mem_iff.1 he))
  · exact List.mem_append_right _ (List.mem_append_right _ (py.mem_iff.1 he))), sx, sy, tags_apart htg px py, by simp only [List.append_assoc, List.append_nil] at h5 ⊢; exact h5⟩
 rw [lX, hc1, ← hm, show m + Y.length = N by omega] at h
 refine h.mono ?_
 rintro e w' ⟨rfl, S', p1, p2, p3⟩
 rw [List.append_nil] at p3
 refine ⟨rfl, c1 ++ S', ?_, p3⟩
 rw [h1]
 exact h3 _ _ (.last _ _ (by rw [List.length_append]; omega) (p1.trans (px.append py)) p2)
theorem merge_none {w0 : World} {g cb : Nat} {U : PEl → Prop} {O : List PEl} {N : Nat} (hA : SortArgs w0 g cb U O N) (z a : Nat) (W : World) (hz : 0 < z) (hm : N ≤ a + z) (h : InM w0 g O z a W) : InZ w0 g O (2 * z) W := by
 obtain ⟨o1, c1, o2, c2, h1, h2, h3, h4, h5⟩ := h
 have hN := hA.hN
 have hl : N = a + o2.length := by rw [hN, h1, List.length_append, h2]
 obtain ⟨py, sy⟩ := h4.whole (by omega)
 refine ⟨c1 ++ c2, ?_, h5⟩
 rw [h1]
 exact h3 _ _ (.last _ _ (by omega) py sy)
set_option maxHeartbeats 4000000 in
theorem stable_in (w0 : World) (g cb : Nat) (U : PEl → Prop) (O : List PEl) (N cap : Nat) (W : World) (hA : SortArgs w0 g cb U O N) (h : SW w0 g O W) :
 Calls Tryz.prog 160 #[.slice (some ⟨g, 0, none⟩) N cap, .int .i64 N, .func (.func 120) #[] #[.pointer (some ⟨cb, 0, none⟩)]] W fun e w' => e = .returned (.tuple #[]) ∧ ∃ S', S'.Perm O ∧ S'.Pairwise elt ∧ SW w0 g S' w' := by
 have hcap := hA.hcap
 have hO := hA.hN
 have H0 : Hid (InB w0 g O 0 W) := Lib.hid ⟨[], [], O, rfl, rfl, Done.nil _, h⟩
 have HA := Lib.hid hA
 have HO := Lib.hid hO
 clear hA h hO
 go_enter Tryz.func160, Tryz.ntmps160
 go_wp2
 go_loopw [7, 8] (fun va vb wr => ∃ a b : Nat, va = .int .i64 a ∧ vb = .int .i64 b ∧ b = a + 20 ∧ a ≤ N ∧ Hid (InB w0 g O a wr)) (fun va vb _ => N + 1 - (intOf va).toNat)
 case atStart => exact ⟨0, 20, rfl, rfl, rfl, Nat.zero_le _, H0⟩
 case round =>
  obtain ⟨a, b, rfl, rfl, hab, haN, HB⟩ := hrel
  have HAB := Lib.hid hab
  by_cases hlt : b ≤ N
  · have hlt2 : (b : Int) ≤ (N : Int) := by omega
    have HC := Lib.hid (ins_block HA.out cap a b wr hab hlt HB.out)
    have q1 : (b : Int) + 20 ≤ 1048600 := by omega
    clear hab haN
    go_wp2_with (go_at_call 198; (with_reducible refine (HC.out).mono ?_); rintro e w1 ⟨rfl, hT⟩; have HT := Lib.hid hT; clear hT)
    go_roundw
    case rel => exact ⟨b, b + 20, rfl, by first | rfl | (rw [wrap_in _ (by omega)]; rfl), rfl, hlt, HT⟩
    case measure => have := HAB.out; show N + 1 - b < N + 1 - a; omega
  · have hlt2 : ¬ (b : Int) ≤ (N : Int) := by omega
    have HC := Lib.hid (ins_last HA.out cap a wr haN (by omega) HB.out)
    clear hab haN hlt
    go_wp2_with (go_at_call 198; (with_reducible refine (HC.out).mono ?_); rintro e w1 ⟨rfl, hT⟩; have HT := Lib.hid hT; clear hT)
    clear hlt2 HC HB HAB H0
    go_loopw [6] (fun vz wr => ∃ z : Nat, vz = .int .i64 z ∧ 20 ≤ z ∧ z ≤ 2097152 ∧ Hid (InZ w0 g O z wr)) (fun vz _ => N - (intOf vz).toNat)
    case atStart => exact ⟨20, rfl, Nat.le_refl _, by omega, HT⟩
    case round =>
     obtain ⟨z, rfl, hz1, hz2, HZ⟩ := hrel
     by_cases hzN : z < N
     · have hzN2 : (z : Int) < (N : Int) := by omega
       have c1 : 2 * (z : Int) = ((2 * z : Nat) : Int) := by omega
       have c2 : (z : Int) * 2 = ((2 * z : Nat) : Int) := by omega
       have q1 : ((2 * z : Nat) : Int) ≤ 2097152 := by omega
       obtain ⟨z2, hzz⟩ : ∃ z2, z2 = 2 * z := ⟨_, rfl⟩
       rw [← hzz] at c1 c2 q1
       have HZZ := Lib.hid hzz
       have HM0 := Lib.hid (inM_start HZ.out)
       clear hzz
       go_wp2
       go_loopw [7, 8] (fun va vb wq => ∃ a b : Nat, va = .int .i64 a ∧ vb = .int .i64 b ∧ b = a + z2 ∧ a ≤ N ∧ Hid (InM w0 g O z a wq)) (fun va vb _ => N + 1 - (intOf va).toNat)
       case atStart => exact ⟨0, z2, rfl, by first | rfl | (rw [c1, wrap_in _ (by omega)]) | (rw [c1]), by omega, Nat.zero_le _, by first | exact HM0 | exact Lib.hid (HM0.out.drew)⟩
       case round =>
        obtain ⟨a, b, rfl, rfl, hab, haN, HB⟩ := hrel
        have HAB := Lib.hid hab
        obtain ⟨m, hm⟩ : ∃ m, m = a + z := ⟨_, rfl⟩
        have c3 : (a : Int) + (z : Int) = (m : Int) := by omega
        have q2 : (m : Int) ≤ 2097152 := by omega
        have q3 : (b : Int) + (z2 : Int) ≤ 8388608 := by omega
        have HMM := Lib.hid hm
        by_cases hlt : b ≤ N
        · have hlt2 : (b : Int) ≤ (N : Int) := by omega
          have HC := Lib.hid (merge_block HA.out cap z a m b wr (by omega) hm (by rw [hab, HZZ.out]) hlt HB.out)
          clear hab haN hm
          go_wp2_with (go_at_call 199; (with_reducible refine (HC.out).mono ?_); rintro e w1 ⟨rfl, hT⟩; have HT2 := Lib.hid hT; clear hT)
          go_roundw
          case rel => exact ⟨b, b + z2, rfl, by first | rfl | (rw [c1, wrap_in _ (by omega)]; rfl) | (rw [c1]; rfl), rfl, hlt, HT2⟩
          case measure => have := HAB.out; have := HZZ.out; show N + 1 - b < N + 1 - a; omega
        · have hlt2 : ¬ (b : Int) ≤ (N : Int) := by omega
          have HH : Hid (20 ≤ z2 ∧ z2 ≤ 2097152 ∧ z < z2) := Lib.hid (by have := HZZ.out; omega)
          by_cases hmN : m < N
          · have hmN2 : (m : Int) < (N : Int) := by omega
            have HC := Lib.hid (merge_tail HA.out cap z a m wr (by omega) hm hmN (by have := HZZ.out; omega) HB.out)
            clear hab haN hlt hm
            go_wp2_with (go_at_call 199; (with_reducible refine (HC.out).mono ?_); rintro e w1 ⟨rfl, hT⟩; have HT2 := Lib.hid hT; clear hT)
            rw [← HZZ.out] at HT2
            go_roundw
            case rel => exact ⟨z2, by first | rfl | (rw [c2, wrap_in _ (by omega)]) | (rw [c2]), HH.out.1, HH.out.2.1, HT2⟩
            case measure => have := HH.out; first | (show N - z2 < N - z; omega) | (rw [c2]; show N - z2 < N - z; omega) | (rw [c2, wrap_in _ (by omega)]; show N - z2 < N - z; omega)
          · have hmN2 : ¬ (m : Int) < (N : Int) := by omega
            have HT2 := Lib.hid (merge_none HA.out z a wr (by omega) (by omega) HB.out)
            rw [← HZZ.out] at HT2
            clear hab haN hlt hm
            go_wp2
            go_roundw
            case rel => exact ⟨z2, by first | rfl | (rw [c2, wrap_in _ (by omega)]) | (rw [c2]), HH.out.1, HH.out.2.1, by first | exact HT2 | exact Lib.hid HT2.out.drew⟩
            case measure => have := HH.out; first | (show N - z2 < N - z; omega) | (rw [c2]; show N - z2 < N - z; omega) | (rw [c2, wrap_in _ (by omega)]; show N - z2 < N - z; omega)
     · have hzN2 : ¬ (z : Int) < (N : Int) := by omega
       have HE : Hid (∃ S', S'.Perm O ∧ S'.Pairwise elt ∧ SW w0 g S' wr) := Lib.hid (by
        obtain ⟨c, k1, k2⟩ := HZ.out
        obtain ⟨k3, k4⟩ := k1.whole (by have := HO.out; omega)
        exact ⟨c, k3, k4, k2⟩)
       go_wp2
       exact bodyPost_end (v := .tuple #[]) (by simp [results, Tryz.f160, go_sem]) rfl ⟨rfl, HE.out⟩
theorem four_C (W : World) (a b c d : Int) : Kd.C (Kd.int .i64) (W.alloc (.cells #[.int .i64 a, .int .i64 b, .int .i64 c, .int .i64 d] 3)) (some ⟨W.heap.size, 0, none⟩) 4 [a, b, c, d] := by
 have hb := blk_new W (.cells #[.int .i64 a, .int .i64 b, .int .i64 c, .int .i64 d] 3)
 refine ⟨rfl, by decide, fun _ => ⟨_, rfl, fun j p hj => ⟨[.int .i64 p], rfl, rfl, fun i u hu => ?_⟩⟩⟩
 have hi : i = 0 := by
  rcases Nat.eq_zero_or_pos i with h | h
  · exact h
  · rw [List.getElem?_eq_none (by simp; omega)] at hu; cases hu
 subst hi
 simp only [List.getElem?_cons_zero, Option.some.injEq] at hu
 subst hu
 rw [add_plain]
 show (W.alloc _).cell? ⟨W.heap.size, j * 1 + 0, none⟩ = _
 rw [Nat.mul_one, Nat.add_zero, blk_cell hb]
 rcases j with _ | _ | _ | _ | j
 · simp at hj; subst hj; rfl
 · simp at hj; subst hj; rfl
 · simp at hj; subst hj; rfl
 · simp at hj; subst hj; rfl
 · simp at hj
theorem or_four (W : World) (a b c d : Int) : Calls Tryz.prog 99 #[.slice (some ⟨W.heap.size, 0, none⟩) 4 4] (W.alloc (.cells #[.int .i64 a, .int .i64 b, .int .i64 c, .int .i64 d] 3)) fun e w' => e = .returned (.int .i64 (orL [a, b, c, d])) ∧ W.alloc (.cells #[.int .i64 a, .int .i64 b, .int .i64 c, .int .i64 d] 3) = w' :=
 or_int _ 4 [a, b, c, d] _ (four_C W a b c d)
set_option maxHeartbeats 1000000 in
theorem Order_any : ∀ (x y : V) (cs ds : List Value) (w : World), k28.K w x cs → k28.K w y ds → OkV x → OkV y → NumOk x → NumOk y →
 Calls Tryz.prog 63 #[.agg cs.toArray, .agg ds.toArray] w fun e w' => e = .returned (.int .i64 (vord x y)) ∧ Below w.heap.size w w' := by
 refine V.ind fun x ih => ?_
 intro y cs ds w hK hL hOx hOy hNx hNy
 obtain ⟨A2, c2, A5, c5, A6, c6, rfl, l2, g2, l5, g5, l6, g6⟩ := k28_open hK
 obtain ⟨B2, d2, B5, d5, B6, d6, rfl, m2, h2, m5, h5, m6, h6⟩ := k28_open hL
 have hcf : ∀ W, Below w.heap.size w W → Calls Tryz.prog 102 #[.slice A5 x.f3.length c5, .slice B5 y.f3.length d5, .func (.func 63) #[] #[]] W fun e w' => e = .returned (.int .i64 (lexC vord x.f3 y.f3)) ∧ Below W.heap.size W w' := fun W hW =>
  CompareFunc_in x.f3 y.f3 A5 c5 B5 d5 W (Kd.C_below g5 hW) (Kd.C_below h5 hW) hOx.len3 (fun a ha b hb cs ds W' h1 h2 => ih a ha b cs ds W' h1 h2 (hOx.kids a ha) (hOy.kids b hb) (hNx.kids a ha) (hNy.kids b hb))
 have hck : ∀ W, Below w.heap.size w W → Calls Tryz.prog 101 #[.slice A6 x.f4.length c6, .slice B6 y.f4.length d6] W fun e w' => e = .returned (.int .i64 (lexC strC x.f4 y.f4)) ∧ W = w' := fun W hW =>
  CompareKeys_any x.f4 y.f4 A6 c6 B6 d6 W (Kd.C_below g6 hW) (Kd.C_below h6 hW) hOx.len4
 have hdc : x.f0 = 3 → y.f0 = 3 → ∀ W, Below w.heap.size w W → Calls Tryz.prog 103 #[.agg #[.bool x.f1.f0, .slice A2 x.f1.f1.length c2, .int .i64 x.f1.f2], .agg #[.bool y.f1.f0, .slice B2 y.f1.f1.length d2, .int .i64 y.f1.f2]] W fun e w' => e = .returned (.tuple #[.int .i64 (dcmp x.f1 y.f1), .int .i64 0]) ∧ Below W.heap.size W w' := fun h3 h4 W hW =>
  Compare_any x.f1 y.f1 A2 c2 B2 d2 W l2 (Kd.C_below g2 hW) m2 (Kd.C_below h2 hW) hOx.dec hOy.dec (hNx.num h3) (hNy.num h4)
 have HCF := Lib.hid hcf
 have HCK := Lib.hid hck
 have HDC := Lib.hid hdc
 obtain ⟨r, hr⟩ : ∃ r : Int, r = vord x y := ⟨_, rfl⟩
 rw [← hr]
 rw [vord_eq] at hr
 have HR := Lib.hid hr
 clear hcf hck hdc hr ih hK hL hOx hOy hNx hNy g2 g5 g6 h2 h5 h6
 obtain ⟨cv, hcv⟩ : ∃ cv, cv = cmpI x.f0 y.f0 := ⟨_, rfl⟩
 rw [← hcv] at HR
 have HCV := Lib.hid hcv
 clear hcv
 have HCI : Hid (∀ W, Calls Tryz.prog 98 #[.int .i64 x.f0, .int .i64 y.f0] W fun e w' => e = .returned (.int .i64 cv) ∧ w' = W) := Lib.hid (fun W => by rw [HCV.out]; exact cmp_int x.f0 y.f0 W)
 obtain ⟨W2, hW2⟩ : ∃ W2, W2 = (w.alloc (.cells #[.int .i64 x.f0, .bool x.f1.f0, .slice A2 x.f1.f1.length c2, .int .i64 x.f1.f2, .string x.f2, .slice A5 x.f3.length c5, .slice A6 x.f4.length c6] 28)).alloc (.cells #[.int .i64 y.f0, .bool y.f1.f0, .slice B2 y.f1.f1.length d2, .int .i64 y.f1.f2, .string y.f2, .slice B5 y.f3.length d5, .slice B6 y.f4.length d6] 28) := ⟨_, rfl⟩
 have hz : W2.heap.size = w.heap.size + 2 := by rw [hW2]; simp
 have hA2 : Below w.heap.size w W2 := by rw [hW2]; exact ((Below.refl _ _).alloc (Nat.le_refl _) _).alloc (by simp) _
 have hx : W2.heap[w.heap.size]? = some (.cells #[.int .i64 x.f0, .bool x.f1.f0, .slice A2 x.f1.f1.length c2, .int .i64 x.f1.f2, .string x.f2, .slice A5 x.f3.length c5, .slice A6 x.f4.length c6] 28 (0, 0)) := by rw [hW2]; exact blk_alloc (blk_new _ _) _
 have hy : W2.heap[w.heap.size + 1]? = some (.cells #[.int .i64 y.f0, .bool y.f1.f0, .slice B2 y.f1.f1.length d2, .int .i64 y.f1.f2, .string y.f2, .slice B5 y.f3.length d5, .slice B6 y.f4.length d6] 28 (0, 0)) := by
  rw [hW2]
  have := blk_new (w.alloc (.cells #[.int .i64 x.f0, .bool x.f1.f0, .slice A2 x.f1.f1.length c2, .int .i64 x.f1.f2, .string x.f2, .slice A5 x.f3.length c5, .slice A6 x.f4.length c6] 28)) (.cells #[.int .i64 y.f0, .bool y.f1.f0, .slice B2 y.f1.f1.length d2, .int .i64 y.f1.f2, .string y.f2, .slice B5 y.f3.length d5, .slice B6 y.f4.length d6] 28)
  rw [World.size_alloc] at this
  exact this
 have HZ := Lib.hid hz
 have HA2 := Lib.hid hA2
 have HX := Lib.hid hx
 have HY := Lib.hid hy
 have HW2 := Lib.hid hW2
 clear hz hA2 hx hy hW2
 by_cases hc : cv ≠ 0
 · have hr := HR.out
   rw [if_pos (.inl hc)] at hr
   have HR2 := Lib.hid hr
   have hg : (cv != 0) = true := by simp [hc]
   clear HR hr hc HDC
   go_enter Tryz.func63, Tryz.ntmps63
   go_upto_region 3 with (first | (go_at_call 98; (with_reducible refine (HCI.out _).mono ?_); rintro e w3 ⟨rfl, rfl⟩))
   rw [← HW2.out]
   clear HW2 HCI HCV
   have HAd := Lib.hid (below_drew HA2.out)
   obtain ⟨hx, hxf⟩ := bcells (blk_drew HX.out) (Below.refl _ _)
   obtain ⟨hy, hyf⟩ := bcells (blk_drew HY.out) (Below.refl _ _)
   have hsz := HA2.out.size
   rw [← World.size_drew] at hsz
   clear HA2 HZ
   go_region_held3 (fun w' => w'.cell? ⟨w.heap.size, 4, none⟩ = some (.string x.f2) ∧ w'.cell? ⟨w.heap.size, 5, none⟩ = some (.slice A5 x.f3.length c5) ∧ w'.cell? ⟨w.heap.size, 6, none⟩ = some (.slice A6 x.f4.length c6) ∧ w'.cell? ⟨w.heap.size + 1, 4, none⟩ = some (.string y.f2) ∧ w'.cell? ⟨w.heap.size + 1, 5, none⟩ = some (.slice B5 y.f3.length d5) ∧ w'.cell? ⟨w.heap.size + 1, 6, none⟩ = some (.slice B6 y.f4.length d6)) (go_keep) (first
    | (go_at_call 100; (with_reducible refine (CompareStr_any _ _ _).mono ?_); rintro e w4 ⟨rfl, rfl⟩)
    | (go_at_call 101; (with_reducible refine (HCK.out _ HAd.out).mono ?_); rintro e w4 ⟨rfl, rfl⟩)
    | (go_at_call 102; (with_reducible refine (HCF.out _ HAd.out).mono ?_); rintro e w5 ⟨rfl, hB5⟩; obtain ⟨hx5, hxf5⟩ := bcells (blk_drew HX.out) hB5; obtain ⟨hy5, hyf5⟩ := bcells (blk_drew HY.out) hB5)
    | (go_at_call 99; (with_reducible refine (or_four _ _ _ _ _).mono ?_); rintro e w6 ⟨rfl, rfl⟩))
   rename_i q_ k_ a_ s_
   refine a_ _ _ ?_
   clear a_ s_
   have hs5 := hB5.size
   have HB5 := Lib.hid ((HAd.out.trans (hB5.mono hsz)).alloc (Nat.le_trans hsz hs5) (.cells #[.int .i64 cv, .int .i64 (strC x.f2 y.f2), .int .i64 (lexC strC x.f4 y.f4), .int .i64 (lexC vord x.f3 y.f3)] 3))
   clear hB5
   go_wp2
   go_ret
   exact ⟨by rw [HR2.out]; rfl, HB5.out⟩
 · obtain rfl : cv = 0 := by omega
   by_cases h3 : x.f0 ≠ 3
   · have hr := HR.out
     rw [if_pos (.inr h3)] at hr
     have HR2 := Lib.hid hr
     have hg : (x.f0 != 3) = true := by simp [h3]
     clear HR hr h3 HDC hc
     go_enter Tryz.func63, Tryz.ntmps63
     go_upto_region 3 with (first | (go_at_call 98; (with_reducible refine (HCI.out _).mono ?_); rintro e w3 ⟨rfl, rfl⟩))
     rw [← HW2.out]
     clear HW2 HCI HCV
     have HAd := Lib.hid (below_drew HA2.out)
     obtain ⟨hx, hxf⟩ := bcells (blk_drew HX.out) (Below.refl _ _)
     obtain ⟨hy, hyf⟩ := bcells (blk_drew HY.out) (Below.refl _ _)
     have hsz := HA2.out.size
     rw [← World.size_drew] at hsz
     clear HA2 HZ
     go_region_held3 (fun w' => w'.cell? ⟨w.heap.size, 4, none⟩ = some (.string x.f2) ∧ w'.cell? ⟨w.heap.size, 5, none⟩ = some (.slice A5 x.f3.length c5) ∧ w'.cell? ⟨w.heap.size, 6, none⟩ = some (.slice A6 x.f4.length c6) ∧ w'.cell? ⟨w.heap.size + 1, 4, none⟩ = some (.string y.f2) ∧ w'.cell? ⟨w.heap.size + 1, 5, none⟩ = some (.slice B5 y.f3.length d5) ∧ w'.cell? ⟨w.heap.size + 1, 6, none⟩ = some (.slice B6 y.f4.length d6)) (go_keep) (first
      | (go_at_call 100; (with_reducible refine (CompareStr_any _ _ _).mono ?_); rintro e w4 ⟨rfl, rfl⟩)
      | (go_at_call 101; (with_reducible refine (HCK.out _ HAd.out).mono ?_); rintro e w4 ⟨rfl, rfl⟩)
      | (go_at_call 102; (with_reducible refine (HCF.out _ HAd.out).mono ?_); rintro e w5 ⟨rfl, hB5⟩; obtain ⟨hx5, hxf5⟩ := bcells (blk_drew HX.out) hB5; obtain ⟨hy5, hyf5⟩ := bcells (blk_drew HY.out) hB5)
      | (go_at_call 99; (with_reducible refine (or_four _ _ _ _ _).mono ?_); rintro e w6 ⟨rfl, rfl⟩))
     rename_i q_ k_ a_ s_
     refine a_ _ _ ?_
     clear a_ s_
     have hs5 := hB5.size
     have HB5 := Lib.hid ((HAd.out.trans (hB5.mono hsz)).alloc (Nat.le_trans hsz hs5) (.cells #[.int .i64 0, .int .i64 (strC x.f2 y.f2), .int .i64 (lexC strC x.f4 y.f4), .int .i64 (lexC vord x.f3 y.f3)] 3))
     clear hB5
     go_wp2
     go_ret
     exact ⟨by rw [HR2.out]; rfl, HB5.out⟩
   · have h3' : x.f0 = 3 := by omega
     have hr := HR.out
     rw [if_neg (by intro h; rcases h with h | h; exact h rfl; exact h h3')] at hr
     have HR2 := Lib.hid hr
     have hy3 : y.f0 = 3 := by rw [← cmpI_zero HCV.out.symm]; exact h3'
     have HD2 := Lib.hid (HDC.out h3' hy3)
     have hg : (x.f0 != 3) = false := by simp [h3']
     clear HR hr h3 HDC hc HCF HCK h3' hy3
     have hbI := fun W (hW : Below W2.heap.size W2 W) => HA2.out.trans (hW.mono HA2.out.size)
     rw [HW2.out] at hbI HX HY
     go_enter Tryz.func63, Tryz.ntmps63
     go_wp2_with (first
      | (go_at_call 98; (with_reducible refine (HCI.out _).mono ?_); rintro e w3 ⟨rfl, rfl⟩)
      | (go_at_call 103; (with_reducible refine (HD2.out _ (hbI _ (Below.refl _ _))).mono ?_); rintro e w4 ⟨rfl, hB4⟩; have HB4 := Lib.hid (hbI _ hB4); clear hB4))
     go_ret
     exact ⟨by rw [HR2.out]; rfl, HB4.out⟩
structure KeyEl (w : World) (e : PEl) : Prop where
 ex : ∃ kc vc : List Value, e.row = kc ++ vc ∧ vc.length = 7 ∧ k28.K w e.key kc
 ok : OkV e.key
 num : NumOk e.key
theorem KeyEl.below {w w' : World} {e : PEl} (h : KeyEl w e) (hb : Below w.heap.size w w') : KeyEl w' e := by
 obtain ⟨kc, vc, h1, h2, h3⟩ := h.ex
 exact ⟨⟨kc, vc, h1, h2, k28.K_below hb h3⟩, h.ok, h.num⟩
set_option maxHeartbeats 1000000 in
theorem order_call (x y : PEl) (w : World) (cb : Nat) (hx : KeyEl w x) (hy : KeyEl w y) (hcb : w.heap[cb]? = some (.cells #[.func (.func 63) #[] #[]] 84 (0, 0))) :
 Calls Tryz.prog 120 #[.agg x.row.toArray, .agg y.row.toArray, .pointer (some ⟨cb, 0, none⟩)] w fun e w' => e = .returned (.int .i64 (vord x.key y.key)) ∧ Below w.heap.size w w' := by
 obtain ⟨kc, vc, e1, e2, hk⟩ := hx.ex
 obtain ⟨lc, uc, f1, f2, hl⟩ := hy.ex
 rw [e1, f1]
 have hord : ∀ W, Below w.heap.size w W → Calls Tryz.prog 63 #[.agg kc.toArray, .agg lc.toArray] W fun e w' => e = .returned (.int .i64 (vord x.key y.key)) ∧ Below W.heap.size W w' := fun W hW =>
  Order_any x.key y.key kc lc W (k28.K_below hW hk) (k28.K_below hW hl) hx.ok hy.ok hx.num hy.num
 obtain ⟨A2, c2, A5, c5, A6, c6, rfl, -⟩ := k28_open hk
 obtain ⟨B2, d2, B5, d5, B6, d6, rfl, -⟩ := k28_open hl
 obtain ⟨v0, v1, v2, v3, v4, v5, v6, rfl⟩ := list7 e2
 obtain ⟨u0, u1, u2, u3, u4, u5, u6, rfl⟩ := list7 f2
 generalize vord x.key y.key = r at *
 have HORD := Lib.hid hord
 obtain ⟨W2, hW2⟩ : ∃ W2, W2 = (w.alloc (.cells #[.int .i64 x.key.f0, .bool x.key.f1.f0, .slice A2 x.key.f1.f1.length c2, .int .i64 x.key.f1.f2, .string x.key.f2, .slice A5 x.key.f3.length c5, .slice A6 x.key.f4.length c6, v0, v1, v2, v3, v4, v5, v6] 102)).alloc (.cells #[.int .i64 y.key.f0, .bool y.key.f1.f0, .slice B2 y.key.f1.f1.length d2, .int .i64 y.key.f1.f2, .string y.key.f2, .slice B5 y.key.f3.length d5, .slice B6 y.key.f4.length d6, u0, u1, u2, u3, u4, u5, u6] 102) := ⟨_, rfl⟩
 have hz : W2.heap.size = w.heap.size + 2 := by rw [hW2]; simp
 have hA2 : Below w.heap.size w W2 := by rw [hW2]; exact ((Below.refl _ _).alloc (Nat.le_refl _) _).alloc (by simp) _
 have hbx : W2.heap[w.heap.size]? = some (.cells #[.int .i64 x.key.f0, .bool x.key.f1.f0, .slice A2 x.key.f1.f1.length c2, .int .i64 x.key.f1.f2, .string x.key.f2, .slice A5 x.key.f3.length c5, .slice A6 x.key.f4.length c6, v0, v1, v2, v3, v4, v5, v6] 102 (0, 0)) := by rw [hW2]; exact blk_alloc (blk_new _ _) _
 have hby : W2.heap[w.heap.size + 1]? = some (.cells #[.int .i64 y.key.f0, .bool y.key.f1.f0, .slice B2 y.key.f1.f1.length d2, .int .i64 y.key.f1.f2, .string y.key.f2, .slice B5 y.key.f3.length d5, .slice B6 y.key.f4.length d6, u0, u1, u2, u3, u4, u5, u6] 102 (0, 0)) := by
  rw [hW2]
  have := blk_new (w.alloc (.cells #[.int .i64 x.key.f0, .bool x.key.f1.f0, .slice A2 x.key.f1.f1.length c2, .int .i64 x.key.f1.f2, .string x.key.f2, .slice A5 x.key.f3.length c5, .slice A6 x.key.f4.length c6, v0, v1, v2, v3, v4, v5, v6] 102)) (.cells #[.int .i64 y.key.f0, .bool y.key.f1.f0, .slice B2 y.key.f1.f1.length d2, .int .i64 y.key.f1.f2, .string y.key.f2, .slice B5 y.key.f3.length d5, .slice B6 y.key.f4.length d6, u0, u1, u2, u3, u4, u5, u6] 102)
  rw [World.size_alloc] at this
  exact this
 have hcw : W2.heap[cb]? = some (.cells #[.func (.func 63) #[] #[]] 84 (0, 0)) := (hA2.block cb (blk_lt hcb)).trans hcb
 obtain ⟨hc1, hf1⟩ := bcells hbx (Below.refl _ _)
 obtain ⟨hc2, hf2⟩ := bcells hby (Below.refl _ _)
 obtain ⟨hc3, hf3⟩ := bcells hcw (Below.refl _ _)
 have HA2 := Lib.hid hA2
 have HW2 := Lib.hid hW2
 have HZ := Lib.hid hz
 clear hA2 hz hbx hby hcw hcb hk hl hord hW2 hx hy e1 f1 e2 f2
 go_enter Tryz.func120, Tryz.ntmps120
 go_upto_region 1 with (fail)
 rw [← HW2.out]
 go_wp2_with (first | (go_at_call 63; (with_reducible refine (HORD.out _ HA2.out).mono ?_); rintro e w2 ⟨rfl, hB2⟩; have HB2 := Lib.hid hB2; clear hB2))
 go_ret
 exact ⟨rfl, HA2.out.trans (HB2.out.mono (by have := HZ.out; omega))⟩
theorem cmp_sorted (w00 w0 : World) (g cb : Nat) (h00 : Below w00.heap.size w00 w0) (hg : w00.heap.size ≤ g) (hcg : cb ≠ g) (hcb : w0.heap[cb]? = some (.cells #[.func (.func 63) #[] #[]] 84 (0, 0))) : CmpIn w0 g cb (KeyEl w00) := by
 intro W hW x y hx hy
 have hb : Below w00.heap.size w00 W := hW.below h00 hg h00.size
 exact order_call x y W cb (hx.below hb) (hy.below hb) ((hW.block cb (blk_lt hcb) hcg).trans hcb)
theorem sortStable_in (w0 : World) (g cb : Nat) (U : PEl → Prop) (O : List PEl) (N cap : Nat) (W : World) (hA : SortArgs w0 g cb U O N) (h : SW w0 g O W) :
 Calls Tryz.prog 119 #[.slice (some ⟨g, 0, none⟩) N cap, .func (.func 120) #[] #[.pointer (some ⟨cb, 0, none⟩)]] W fun e w' => e = .returned (.tuple #[]) ∧ ∃ S', S'.Perm O ∧ S'.Pairwise elt ∧ SW w0 g S' w' := by
 have HS := Lib.hid (stable_in w0 g cb U O N cap W hA h)
 clear hA h
 go_enter Tryz.func119, Tryz.ntmps119
 go_wp2_with (go_at_call 160; (with_reducible refine (HS.out).mono ?_); rintro e w1 ⟨rfl, hT⟩; have HT := Lib.hid hT; clear hT)
 exact bodyPost_end (v := .tuple #[]) (by simp [results, Tryz.f119, go_sem]) rfl ⟨rfl, HT.out⟩
theorem SW.base {w0 w1 W : World} {g : Nat} {els : List PEl} (h : SW w1 g els W) (k : KeepG w0 g w1) : SW w0 g els W := ⟨k.trans h.keep, h.at_, h.there, h.ok⟩
theorem sorted_in (w00 w0 : World) (g : Nat) (O : List PEl) (N cap : Nat) (hN : N = O.length) (hcap : N ≤ 1048576) (h00 : Below w00.heap.size w00 w0) (hg0 : w00.heap.size ≤ g) (hg : g < w0.heap.size) (hU : ∀ e ∈ O, KeyEl w00 e) (ht : O.Pairwise (fun x y : PEl => x.tag < y.tag)) (h : SW w0 g O w0) :
 Calls Tryz.prog 76 #[.slice (some ⟨g, 0, none⟩) N cap, .func (.func 63) #[] #[]] w0 fun e w' => e = .returned (.slice (some ⟨g, 0, none⟩) N cap) ∧ ∃ S', S'.Perm O ∧ S'.Pairwise elt ∧ SW w0 g S' w' := by
 obtain ⟨W2, hW2⟩ : ∃ W2, W2 = w0.alloc (.cells #[.func (.func 63) #[] #[]] 84) := ⟨_, rfl⟩
 have hb2 : Below w0.heap.size w0 W2 := by rw [hW2]; exact (Below.refl _ _).alloc (Nat.le_refl _) _
 have hz : W2.heap.size = w0.heap.size + 1 := by rw [hW2]; simp
 have hcb : W2.heap[w0.heap.size]? = some (.cells #[.func (.func 63) #[] #[]] 84 (0, 0)) := by rw [hW2]; exact blk_new _ _
 have hsw : SW W2 g O W2 := ⟨KeepG.refl _ _, (h.grow hg hb2).at_, (h.grow hg hb2).there, h.ok⟩
 have hc : CmpIn W2 g w0.heap.size (KeyEl w00) := cmp_sorted w00 W2 g w0.heap.size (h00.trans (hb2.mono h00.size)) hg0 (by omega) hcb
 have HS := Lib.hid (sortStable_in W2 g w0.heap.size (KeyEl w00) O N cap W2 ⟨by omega, hc, hN, hcap, hU, ht⟩ hsw)
 have HK := Lib.hid ((KeepG.refl w0 g).then hb2 (Nat.le_refl _))
 have HW2 := Lib.hid hW2
 clear hW2 hb2 hz hcb hsw hc hU ht h h00 hN
 go_enter Tryz.func76, Tryz.ntmps76
 go_upto_region 1 with (fail)
 rw [← HW2.out]
 go_wp2_with (go_at_call 119; (with_reducible refine (HS.out).mono ?_); rintro e w1 ⟨rfl, hT⟩; have HT := Lib.hid hT; clear hT)
 go_ret
 obtain ⟨S', k1, k2, k3⟩ := HT.out
 exact ⟨rfl, S', k1, k2, k3.base HK.out⟩
theorem infoP_ : (Tryz.prog.info? 102).map (fun i => (i.zero, i.size, i.bytes)) = some (some (.agg #[(.int .i64 0), (.bool false), (.slice none 0 0), (.int .i64 0), (.string ⟨#[]⟩), (.slice none 0 0), (.slice none 0 0), (.int .i64 0), (.bool false), (.slice none 0 0), (.int .i64 0), (.string ⟨#[]⟩), (.slice none 0 0), (.slice none 0 0)]), 14, 224) := by kernel_rfl
structure PairMid2 (w w2 wr : World) (ks l : List V) (v : Value) (k : Nat) : Prop where
 ex : ∃ rows : List (List Value), rows.length = k ∧ Kd.R (Kd.raw 14) 102 wr w2.heap.size (fun _ => True) v rows ∧ ∀ (j : Nat) (r : List Value), rows[j]? = some r → ∃ kc vc, r = kc ++ vc ∧ k28.K w (rd_T28 ks (j : Int)) kc ∧ k28.K w (rd_T28 l (j : Int)) vc
 below : Below w2.heap.size w2 wr
 nil : k = 0 → v = .slice none 0 0
abbrev PairMid (w wr : World) := PairMid2 w w wr
theorem box7 (wr : World) (a0 a1 a2 a3 a4 a5 a6 : Value) : ∃ W5, W5 = wr.alloc (.cells #[a0, a1, a2, a3, a4, a5, a6] 28) ∧ W5.heap[wr.heap.size]? = some (.cells #[a0, a1, a2, a3, a4, a5, a6] 28 (0, 0)) ∧ Below wr.heap.size wr W5 ∧ W5.heap.size = wr.heap.size + 1 :=
 ⟨_, rfl, blk_new _ _, (Below.refl _ _).alloc (Nat.le_refl _) _, by simp⟩
set_option maxHeartbeats 4000000 in
theorem pairs_from (ks l : List V) (A B : Option Addr) (c d : Nat) (w w2 : World) (h2 : Below w.heap.size w w2) (hA : k28.C w A ks.length ks) (hB : k28.C w B l.length l) (hl : l.length = ks.length) (hz : ks.length ≤ 1048576) :
 Calls Tryz.prog 77 #[.slice A ks.length c, .slice B l.length d] w2 fun e w' => ∃ v, e = .returned v ∧ PairMid2 w w2 w' ks l v ks.length := by
 have H2 := Lib.hid h2
 clear h2
 have HA := Lib.hid hA
 have HB := Lib.hid hB
 have HL := Lib.hid hl
 rw [hl]
 obtain ⟨n, hn⟩ : ∃ n, n = ks.length := ⟨_, rfl⟩
 rw [← hn]
 rw [← hn] at hz
 have HN := Lib.hid hn
 clear hA hB hl hn
 have H0 : Hid (PairMid2 w w2 w2 ks l (.slice none 0 0) 0) := Lib.hid ⟨⟨[], rfl, Kd.R_nil _ _ _ _ _, fun j r h => by simp at h⟩, Below.refl _ _, fun _ => rfl⟩
 go_enter Tryz.func77, Tryz.ntmps77
 go_wp2
 go_loopw [5, 10] (fun vo vi wr => ∃ (k : Nat) (G : Option Addr) (cap : Nat), k ≤ n ∧ vi = .int .i64 k ∧ vo = .slice G k cap ∧ Hid (PairMid2 w w2 wr ks l (.slice G k cap) k)) (fun vo vi _ => n - (intOf vi).toNat)
 case atStart => exact ⟨0, none, 0, Nat.zero_le _, rfl, rfl, H0⟩
 case round =>
  obtain ⟨k, G, cap, hk, rfl, rfl, HM⟩ := hrel
  by_cases hlt : k < n
  · have hlt2 : (k : Int) < (n : Int) := by omega
    obtain ⟨ad, a0, a1, a2, a3, a4, a5, a6, rfl, hKa, p0, p1, p2, p3, p4, p5, p6⟩ := at_V HA.out (H2.out.trans (HM.out.below.mono H2.out.size)) k (by rw [← HN.out]; exact hlt)
    obtain ⟨bd, b0, b1, b2, b3, b4, b5, b6, rfl, hKb, q0, q1, q2, q3, q4, q5, q6⟩ := at_V HB.out (H2.out.trans (HM.out.below.mono H2.out.size)) k (by rw [HL.out, ← HN.out]; exact hlt)
    have hla := k28.K_len hKa
    have hoa := k28.K_one hKa
    have hlb := k28.K_len hKb
    have hob := k28.K_one hKb
    have HONE : Hid (∀ u ∈ ([a0, a1, a2, a3, a4, a5, a6, b0, b1, b2, b3, b4, b5, b6] : List Value), u.oneCell' = true) := Lib.hid (fun u hu => by
     rcases List.mem_append.1 (show u ∈ [a0, a1, a2, a3, a4, a5, a6] ++ [b0, b1, b2, b3, b4, b5, b6] from hu) with h | h
     · exact hoa u h
     · exact hob u h)
    have HKA := Lib.hid hKa
    have HKB := Lib.hid hKb
    obtain ⟨A2, c2, A5, c5, A6, c6, e, -⟩ := k28_open hKa
    simp only [List.cons.injEq, and_true] at e
    obtain ⟨rfl, rfl, rfl, rfl, rfl, rfl, rfl⟩ := e
    obtain ⟨W5, hW5, hbx, hb5, hz5⟩ := box7 wr (.int .i64 (rd_T28 ks (k : Int)).f0) (.bool (rd_T28 ks (k : Int)).f1.f0) (.slice A2 (rd_T28 ks (k : Int)).f1.f1.length c2) (.int .i64 (rd_T28 ks (k : Int)).f1.f2) (.string (rd_T28 ks (k : Int)).f2) (.slice A5 (rd_T28 ks (k : Int)).f3.length c5) (.slice A6 (rd_T28 ks (k : Int)).f4.length c6)
    have HW5 := Lib.hid hW5
    have HBX := Lib.hid hbx
    have HB5 := Lib.hid hb5
    have HZ5 := Lib.hid hz5
    obtain ⟨hc0, hf0⟩ := bcells (blk_new wr (.cells #[.int .i64 0, .bool false, .slice none 0 0, .int .i64 0, .string ⟨#[]⟩, .slice none 0 0, .slice none 0 0] 28)) (Below.refl _ _)
    have HQ : Hid (∀ (p : Addr) (u : Value), wr.cell? p = some u → W5.drew.cell? p = some u) := Lib.hid (fun p u h => pw_cell_below (below_drew HB5.out) h)
    have HQ0 := Lib.hid (HQ.out _ _ q0)
    have HQ1 := Lib.hid (HQ.out _ _ q1)
    have HQ2 := Lib.hid (HQ.out _ _ q2)
    have HQ3 := Lib.hid (HQ.out _ _ q3)
    have HQ4 := Lib.hid (HQ.out _ _ q4)
    have HQ5 := Lib.hid (HQ.out _ _ q5)
    have HQ6 := Lib.hid (HQ.out _ _ q6)
    obtain ⟨rows, hrl, hR, hrk⟩ := HM.out.ex
    have HR5 := Lib.hid (Kd.R_below hR (below_drew HB5.out))
    have HRL := Lib.hid hrl
    have HRK := Lib.hid hrk
    have HBW := Lib.hid (HM.out.below.trans ((below_drew HB5.out).mono HM.out.below.size))
    have HSZ : Hid (w2.heap.size ≤ W5.drew.heap.size) := Lib.hid (HBW.out.size)
    clear hKa hKb hla hlb hoa hob hW5 hbx hb5 hz5 q0 q1 q2 q3 q4 q5 q6 hrl hR hrk
    go_upto_region 5 with (fail)
    rw [← HW5.out]
    clear hc0 hf0 p0 p1 p2 p3 p4 p5 p6
    obtain ⟨hc5, hf5⟩ := bcells (blk_drew HBX.out) (Below.refl _ _)
    have q0 := HQ0.out
    have q1 := HQ1.out
    have q2 := HQ2.out
    have q3 := HQ3.out
    have q4 := HQ4.out
    have q5 := HQ5.out
    have q6 := HQ6.out
    generalize (rd_T28 ks (k : Int)).f1.f1.length = n2 at *
    go_region_law (refine Kd.R_append_step (Kd.raw 14) (w0 := w2) w2.heap.size (by simp [Region.wanted]) (.tmp 15) (.tmp 22) 98 102 (.agg #[.int .i64 0, .bool false, .slice none 0 0, .int .i64 0, .string ⟨#[]⟩, .slice none 0 0, .slice none 0 0, .int .i64 0, .bool false, .slice none 0 0, .int .i64 0, .string ⟨#[]⟩, .slice none 0 0, .slice none 0 0]) 224 rfl Tryz.underlying98 infoP_ rfl (by decide) (by decide) (.slice G k cap) rows _ _ (fun _ => True) (fun _ => False) rfl rfl ⟨rfl, rfl, HONE.out⟩ (fun _ h => h.elim) (fun _ _ => trivial) HR5.out HBW.out HSZ.out (by rw [HRL.out]; omega) ?_; intro v1 w7 hR7 hB7 hg7 hat7)
    all_goals
     rename_i q_ k_ a_
     refine a_ _ _ ?_
     clear a_ hc5 hf5 q0 q1 q2 q3 q4 q5 q6
     obtain ⟨G7, cap7, rfl⟩ := Kd.R_slice hR7
     have hl7 : (rows ++ [[.int .i64 (rd_T28 ks (k : Int)).f0, .bool (rd_T28 ks (k : Int)).f1.f0, .slice A2 n2 c2, .int .i64 (rd_T28 ks (k : Int)).f1.f2, .string (rd_T28 ks (k : Int)).f2, .slice A5 (rd_T28 ks (k : Int)).f3.length c5, .slice A6 (rd_T28 ks (k : Int)).f4.length c6, b0, b1, b2, b3, b4, b5, b6]] : List (List Value)).length = k + 1 := by rw [List.length_append, HRL.out]; rfl
     have hM7 : PairMid2 w w2 w7 ks l (.slice G7 (k + 1) cap7) (k + 1) := ⟨⟨_, hl7, by rw [hl7] at hR7; exact hR7, fun j r hj => by
      rcases Nat.lt_or_ge j k with h | h
      · rw [List.getElem?_append_left (by rw [HRL.out]; exact h)] at hj
        exact HRK.out j r hj
      · have hjl := (List.getElem?_eq_some_iff.1 hj).1
        rw [hl7] at hjl
        obtain rfl : j = k := by omega
        rw [List.getElem?_append_right (by rw [HRL.out]; exact Nat.le_refl _), HRL.out, Nat.sub_self] at hj
        exact ⟨_, _, (Option.some.inj hj).symm.trans rfl, HKA.out, HKB.out⟩⟩, hB7, fun h => absurd h (Nat.succ_ne_zero _)⟩
     rw [hl7]
     have HM7 := Lib.hid hM7
     clear hM7 hl7 hR7 hB7 hg7 hat7
     go_wp2_with fail
     go_roundw
     case rel => exact ⟨k + 1, G7, cap7, hlt, by first | rfl | exact congrArg (Value.int .i64) (wrap64_up k (by omega)), rfl, HM7⟩
     case measure => first | (rw [wrap64_up k (by omega)]; show n - (k + 1) < n - k; omega) | (show n - (k + 1) < n - k; omega)
  · have hlt2 : ¬ (k : Int) < (n : Int) := by omega
    obtain rfl : k = n := by omega
    go_wp2
    go_ret
    exact ⟨_, rfl, HM.out⟩
theorem pairs_any (ks l : List V) (A B : Option Addr) (c d : Nat) (w : World) (hA : k28.C w A ks.length ks) (hB : k28.C w B l.length l) (hl : l.length = ks.length) (hz : ks.length ≤ 1048576) :
 Calls Tryz.prog 77 #[.slice A ks.length c, .slice B l.length d] w fun e w' => ∃ v, e = .returned v ∧ PairMid w w' ks l v ks.length := pairs_from ks l A B c d w w (Below.refl _ _) hA hB hl hz
end Go.Proofs.YthigbklhngihkaaGreatDoor.P

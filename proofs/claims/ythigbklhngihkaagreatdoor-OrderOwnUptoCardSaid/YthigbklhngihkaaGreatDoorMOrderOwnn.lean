import Derived.Test.YthigbklhngihkaaGreatDoorMOrderOwnm
set_option linter.unusedVariables false
set_option linter.unusedSimpArgs false
set_option maxRecDepth 100000
namespace Go.Proofs.YthigbklhngihkaaGreatDoor.P
open Go.RowKit Go.Proofs.YthigbklhngihkaaGreatDoorW.PrintWords Go.Proofs.YthigbklhngihkaaGreatDoorW.PrintMore Go.Proofs.YthigbklhngihkaaGreatDoorW.PrintLast
theorem info_pair : ∀ r : List Value, r.length = 14 → (Tryz.prog.info? 102).map (·.size) = some r.length := fun r hr => by
 rw [hr]; kernel_rfl
theorem swap_step (A X M Y B : List PEl) (i : Nat) (hxy : X.length = Y.length) (hi : i < X.length) :
 A ++ (Y.take i ++ X.drop i) ++ M ++ (X.take i ++ Y.drop i) ++ B = (A ++ Y.take i) ++ X[i] :: ((X.drop (i + 1) ++ M ++ X.take i) ++ Y[i] :: (Y.drop (i + 1) ++ B)) ∧
 A ++ (Y.take (i + 1) ++ X.drop (i + 1)) ++ M ++ (X.take (i + 1) ++ Y.drop (i + 1)) ++ B = (A ++ Y.take i) ++ Y[i] :: ((X.drop (i + 1) ++ M ++ X.take i) ++ X[i] :: (Y.drop (i + 1) ++ B)) := by
 have hiy : i < Y.length := by omega
 constructor
 · rw [List.drop_eq_getElem_cons hi, List.drop_eq_getElem_cons hiy]; simp only [List.append_assoc, List.cons_append]
 · rw [List.take_succ_eq_append_getElem hi, List.take_succ_eq_append_getElem hiy]; simp only [List.append_assoc, List.cons_append, List.nil_append]
set_option maxHeartbeats 1000000 in
theorem swapRange_in (w0 : World) (g : Nat) (A X M Y B : List PEl) (N cap : Nat) (f : Value) (W : World) (hxy : X.length = Y.length) (hN : N = (A ++ X ++ M ++ Y ++ B).length) (hcap : N ≤ 1048576) (h : SW w0 g (A ++ X ++ M ++ Y ++ B) W) :
 Calls Tryz.prog 279 #[.slice (some ⟨g, 0, none⟩) N cap, .int .i64 A.length, .int .i64 (A.length + X.length + M.length : Nat), .int .i64 X.length, f] W fun e w' => e = .returned (.tuple #[]) ∧ SW w0 g (A ++ Y ++ M ++ X ++ B) w' := by
 obtain ⟨a, ha⟩ : ∃ a, a = A.length := ⟨_, rfl⟩
 obtain ⟨n, hn⟩ : ∃ n, n = X.length := ⟨_, rfl⟩
 obtain ⟨b, hb⟩ : ∃ b, b = A.length + X.length + M.length := ⟨_, rfl⟩
 rw [← hb, ← ha, ← hn]
 have hbn : b + n ≤ N := by rw [hN]; simp; omega
 have hab : a + n ≤ b := by omega
 have HXY := Lib.hid hxy
 have HN := Lib.hid hN
 have HA := Lib.hid ha
 have HNX := Lib.hid hn
 have HB := Lib.hid hb
 have H := Lib.hid h
 clear hxy hN ha hn hb h
 go_enter Tryz.func279, Tryz.ntmps279
 go_wp2
 go_loopw [10] (fun vi wr => ∃ i : Nat, i ≤ n ∧ vi = .int .i64 i ∧ Hid (SW w0 g (A ++ (Y.take i ++ X.drop i) ++ M ++ (X.take i ++ Y.drop i) ++ B) wr)) (fun vi _ => n - (intOf vi).toNat)
 case atStart => exact ⟨0, Nat.zero_le _, rfl, Lib.hid (by simpa using H.out)⟩
 case round =>
  obtain ⟨i, hi, rfl, HS⟩ := hrel
  by_cases hlt : i < n
  · have hiX : i < X.length := by rw [← HNX.out]; exact hlt
    have hiY : i < Y.length := by rw [← HXY.out]; exact hiX
    obtain ⟨e1, e2⟩ := swap_step A X M Y B i HXY.out hiX
    have hl1 : (A ++ Y.take i).length = a + i := by rw [List.length_append, List.length_take, HA.out]; omega
    have hl2 : (A ++ Y.take i).length + 1 + (X.drop (i + 1) ++ M ++ X.take i).length = b + i := by rw [hl1, HB.out]; simp only [List.length_append, List.length_drop, List.length_take]; have := HNX.out; have := HA.out; omega
    have hS := HS.out
    rw [e1] at hS
    generalize X[i] = x at *
    generalize Y[i] = y at *
    have hx : ((A ++ Y.take i) ++ x :: ((X.drop (i + 1) ++ M ++ X.take i) ++ y :: (Y.drop (i + 1) ++ B)))[a + i]? = some x := by rw [← hl1]; exact at_head
    have hy : ((A ++ Y.take i) ++ x :: ((X.drop (i + 1) ++ M ++ X.take i) ++ y :: (Y.drop (i + 1) ++ B)))[b + i]? = some y := by rw [← hl2]; exact at_far
    have hsw := hS.drew.swap hx hy (by omega)
    have hset := set_pair (els := (A ++ Y.take i) ++ x :: ((X.drop (i + 1) ++ M ++ X.take i) ++ y :: (Y.drop (i + 1) ++ B))) rfl
    rw [hl2, hl1] at hset
    rw [hset, ← e2] at hsw
    have ra := hS.at_ _ _ hx
    have rb := hS.at_ _ _ hy
    have okx := hS.ok x (by simp)
    have oky := hS.ok y (by simp)
    have ta := there_part hS.there (i := a + i) (List.getElem?_eq_some_iff.1 hx).1
    have tb := there_part hS.there (i := b + i) (List.getElem?_eq_some_iff.1 hy).1
    have lx := okx.len
    have ly := oky.len
    have ox := okx.one
    have oy := oky.one
    have ix := info_pair _ lx
    have iy := info_pair _ ly
    have HSW := Lib.hid hsw
    have HIB : Hid (i ≤ 4611686018427387904) := Lib.hid (by omega)
    have g1 : (0 : Int) ≤ (b : Int) + (i : Int) := by omega
    have g2 : (b : Int) + (i : Int) < (N : Int) := by omega
    have g3 : (0 : Int) ≤ (a : Int) + (i : Int) := by omega
    have g4 : (a : Int) + (i : Int) < (N : Int) := by omega
    have u1 : IntKind.i64.wrap ((b : Int) + (i : Int)) = (b : Int) + (i : Int) := by rw [wrap_in _ (by omega)]
    have u2 : IntKind.i64.wrap ((a : Int) + (i : Int)) = (a : Int) + (i : Int) := by rw [wrap_in _ (by omega)]
    have t1 : ((b : Int) + (i : Int)).toNat = b + i := by omega
    have t2 : ((a : Int) + (i : Int)).toNat = a + i := by omega
    have hap : b + i ≠ a + i := by omega
    have hap2 : (a + i) * 14 + 14 ≤ (b + i) * 14 := by omega
    have hu := Tryz.underlying102
    clear e1 e2 hl1 hl2 hS hx hy hsw hset okx oky HS hiX hiY
    go_upto_region 3 with (fail)
    have ra := (World.rangeAt_drew wr _ _ _).2 ra
    have rb := (World.rangeAt_drew wr _ _ _).2 rb
    have ta := (World.there_drew wr _ _ _).2 ta
    have tb2 := World.there_setCells ((World.there_drew wr _ _ _).2 tb) g ((a + i) * 14) y.row
    refine wp_region_any (by kernel_rfl) ?_
    change wpAny _ _ _ _ _ _ _ (World.drew _)
    refine wpAny_take (i := 0) (v := ?v_0) rfl (by kernel_rfl) (by kernel_rfl) (by kernel_rfl) (fun _ _ _ h => h) (Or.inl ⟨by rfl, ?hy_0⟩) ?rest_0
    case hy_0 => (intro w_; go_simp; try with_reducible rfl)
    simp only [Act.put, List.getElem_toArray, List.getElem_cons_zero, List.getElem_cons_succ, List.setIfInBounds_toArray, List.set_cons_zero, List.set_cons_succ]
    refine wpAny_take (i := 1) (v := ?v_1) rfl (by kernel_rfl) (by kernel_rfl) (by kernel_rfl) (fun _ _ _ h => h) (Or.inl ⟨by rfl, ?hy_1⟩) ?rest_1
    case hy_1 => (intro w_; go_simp; try with_reducible rfl)
    simp only [Act.put, List.getElem_toArray, List.getElem_cons_zero, List.getElem_cons_succ, List.setIfInBounds_toArray, List.set_cons_zero, List.set_cons_succ]
    refine wpAny_take (i := 2) (v := ?v_2) rfl (by kernel_rfl) (by kernel_rfl) (by kernel_rfl) (fun _ _ _ h => h) (Or.inl ⟨by rfl, ?hy_2⟩) ?rest_2
    case hy_2 => (intro w_; go_simp; try with_reducible rfl)
    simp only [Act.put, List.getElem_toArray, List.getElem_cons_zero, List.getElem_cons_succ, List.setIfInBounds_toArray, List.set_cons_zero, List.set_cons_succ]
    refine wpAny_take (i := 3) (v := ?v_3) rfl (by kernel_rfl) (by kernel_rfl) (by kernel_rfl) (fun _ _ _ h => h) (Or.inl ⟨by rfl, ?hy_3⟩) ?rest_3
    case hy_3 => (intro w_; go_simp; try with_reducible rfl)
    simp only [Act.put, List.getElem_toArray, List.getElem_cons_zero, List.getElem_cons_succ, List.setIfInBounds_toArray, List.set_cons_zero, List.set_cons_succ]
    refine wpAny_take (i := 4) (v := ?v_4) rfl (by kernel_rfl) (by kernel_rfl) (by kernel_rfl) (fun _ _ _ h => h) (Or.inl ⟨by rfl, ?hy_4⟩) ?rest_4
    case hy_4 => (intro w_; go_simp; try with_reducible rfl)
    simp only [Act.put, List.getElem_toArray, List.getElem_cons_zero, List.getElem_cons_succ, List.setIfInBounds_toArray, List.set_cons_zero, List.set_cons_succ]
    refine wpAny_take (i := 5) (v := ?v_5) rfl (by kernel_rfl) (by kernel_rfl) (by kernel_rfl) (fun _ _ _ h => h) (Or.inl ⟨by rfl, ?hy_5⟩) ?rest_5
    case hy_5 => (intro w_; go_simp; try with_reducible rfl)
    simp only [Act.put, List.getElem_toArray, List.getElem_cons_zero, List.getElem_cons_succ, List.setIfInBounds_toArray, List.set_cons_zero, List.set_cons_succ]
    refine wpAny_take (i := 6) (v := ?v_6) rfl (by kernel_rfl) (by kernel_rfl) (by kernel_rfl) (fun _ _ _ h => h) (Or.inl ⟨by rfl, ?hy_6⟩) ?rest_6
    case hy_6 => (intro w_; go_simp; try with_reducible rfl)
    simp only [Act.put, List.getElem_toArray, List.getElem_cons_zero, List.getElem_cons_succ, List.setIfInBounds_toArray, List.set_cons_zero, List.set_cons_succ]
    refine wpAny_take (i := 7) (v := ?v_7) rfl (by kernel_rfl) (by kernel_rfl) (by kernel_rfl) (fun _ _ _ h => h) (Or.inl ⟨by rfl, ?hy_7⟩) ?rest_7
    case hy_7 => (intro w_; go_simp; try with_reducible rfl)
    simp only [Act.put, List.getElem_toArray, List.getElem_cons_zero, List.getElem_cons_succ, List.setIfInBounds_toArray, List.set_cons_zero, List.set_cons_succ]
    refine wpAny_take (i := 8) (v := ?v_8) rfl (by kernel_rfl) (by kernel_rfl) (by kernel_rfl) (fun _ _ _ h => h) (Or.inl ⟨by rfl, ?hy_8⟩) ?rest_8
    case hy_8 => (intro w_; go_simp; try with_reducible rfl)
    simp only [Act.put, List.getElem_toArray, List.getElem_cons_zero, List.getElem_cons_succ, List.setIfInBounds_toArray, List.set_cons_zero, List.set_cons_succ]
    refine wpAny_take (i := 9) (v := ?v_9) rfl (by kernel_rfl) (by kernel_rfl) (by kernel_rfl) (fun _ _ _ h => h) (Or.inl ⟨by rfl, ?hy_9⟩) ?rest_9
    case hy_9 => (intro w_; go_simp; try with_reducible rfl)
    simp only [Act.put, List.getElem_toArray, List.getElem_cons_zero, List.getElem_cons_succ, List.setIfInBounds_toArray, List.set_cons_zero, List.set_cons_succ]
    refine wpAny_take (i := 10) (v := ?v_10) rfl (by kernel_rfl) (by kernel_rfl) (by kernel_rfl) (fun _ _ _ h => h) (Or.inl ⟨by rfl, ?hy_10⟩) ?rest_10
    case hy_10 => (intro w_; go_simp; try with_reducible rfl)
    simp only [Act.put, List.getElem_toArray, List.getElem_cons_zero, List.getElem_cons_succ, List.setIfInBounds_toArray, List.set_cons_zero, List.set_cons_succ]
    refine wpAny_take (i := 11) (v := ?v_11) rfl (by kernel_rfl) (by kernel_rfl) (by kernel_rfl) (fun _ _ _ h => h) (Or.inl ⟨by rfl, ?hy_11⟩) ?rest_11
    case hy_11 => (intro w_; go_simp; try with_reducible rfl)
    simp only [Act.put, List.getElem_toArray, List.getElem_cons_zero, List.getElem_cons_succ, List.setIfInBounds_toArray, List.set_cons_zero, List.set_cons_succ]
    refine wpAny_take (i := 12) (v := ?v_12) rfl (by kernel_rfl) (by kernel_rfl) (by kernel_rfl) (fun _ _ _ h => h) (Or.inl ⟨by rfl, ?hy_12⟩) ?rest_12
    case hy_12 => (intro w_; go_simp; try with_reducible rfl)
    simp only [Act.put, List.getElem_toArray, List.getElem_cons_zero, List.getElem_cons_succ, List.setIfInBounds_toArray, List.set_cons_zero, List.set_cons_succ]
    refine wpAny_take (i := 14) (v := ?v_13) rfl (by kernel_rfl) (by kernel_rfl) (by kernel_rfl) (fun _ _ _ h => h) (Or.inl ⟨by rfl, ?hy_13⟩) ?rest_13
    case hy_13 => (intro w_; go_simp; try with_reducible rfl)
    simp only [Act.put, List.getElem_toArray, List.getElem_cons_zero, List.getElem_cons_succ, List.setIfInBounds_toArray, List.set_cons_zero, List.set_cons_succ]
    refine wpAny_take (i := 15) (v := ?v_14) rfl (by kernel_rfl) (by kernel_rfl) (by kernel_rfl) (fun _ _ _ h => h) (Or.inl ⟨by rfl, ?hy_14⟩) ?rest_14
    case hy_14 => (intro w_; go_simp; try with_reducible rfl)
    simp only [Act.put, List.getElem_toArray, List.getElem_cons_zero, List.getElem_cons_succ, List.setIfInBounds_toArray, List.set_cons_zero, List.set_cons_succ]
    refine wpAny_take (i := 16) (v := ?v_15) rfl (by kernel_rfl) (by kernel_rfl) (by kernel_rfl) (fun _ _ _ h => h) (Or.inl ⟨by rfl, ?hy_15⟩) ?rest_15
    case hy_15 => (intro w_; go_simp; try with_reducible rfl)
    simp only [Act.put, List.getElem_toArray, List.getElem_cons_zero, List.getElem_cons_succ, List.setIfInBounds_toArray, List.set_cons_zero, List.set_cons_succ]
    refine wpAny_take (i := 17) (v := ?v_16) rfl (by kernel_rfl) (by kernel_rfl) (by kernel_rfl) (fun _ _ _ h => h) (Or.inl ⟨by rfl, ?hy_16⟩) ?rest_16
    case hy_16 => (intro w_; go_simp; try with_reducible rfl)
    simp only [Act.put, List.getElem_toArray, List.getElem_cons_zero, List.getElem_cons_succ, List.setIfInBounds_toArray, List.set_cons_zero, List.set_cons_succ]
    refine wpAny_take (i := 18) (v := ?v_17) rfl (by kernel_rfl) (by kernel_rfl) (by kernel_rfl) (fun _ _ _ h => h) (Or.inl ⟨by rfl, ?hy_17⟩) ?rest_17
    case hy_17 => (intro w_; go_simp; try with_reducible rfl)
    simp only [Act.put, List.getElem_toArray, List.getElem_cons_zero, List.getElem_cons_succ, List.setIfInBounds_toArray, List.set_cons_zero, List.set_cons_succ]
    refine wpAny_ready (rs := [13, 19]) (by kernel_rfl) (by simp) ?_
    refine (AllReady.cons rfl (fun K_ hK_ => ?_) (AllReady.cons rfl (fun K_ hK_ => ?_) AllReady.nil))
    rw [if_pos (by rfl)]
    refine' wp_load_mid _ _ rfl _ _ rfl _ _ ?hc_18 ?hu_18 ?hd_18 ?hi_18 ?rest_18
    case hc_18 => exact rb
    case hu_18 => exact hu
    case hd_18 => rfl
    case hi_18 => exact iy
    simp only [Act.put, List.getElem_toArray, List.getElem_cons_zero, List.getElem_cons_succ, List.setIfInBounds_toArray, List.set_cons_zero, List.set_cons_succ]
    refine hK_ _ _ ?_
    clear hK_ K_
    refine wpAny_ready (rs := [19]) (by kernel_rfl) (by simp) ?_
    refine (AllReady.cons rfl (fun K_ hK_ => ?_) AllReady.nil)
    rw [if_pos (by rfl)]
    refine' wp_load_mid _ _ rfl _ _ rfl _ _ ?hc_19 ?hu_19 ?hd_19 ?hi_19 ?rest_19
    case hc_19 => exact ra
    case hu_19 => exact hu
    case hd_19 => rfl
    case hi_19 => exact ix
    simp only [Act.put, List.getElem_toArray, List.getElem_cons_zero, List.getElem_cons_succ, List.setIfInBounds_toArray, List.set_cons_zero, List.set_cons_succ]
    refine hK_ _ _ ?_
    clear hK_ K_
    refine wpAny_take (i := 20) (v := ?v_20) rfl (by kernel_rfl) (by kernel_rfl) (by kernel_rfl) (fun _ _ _ h => h) (Or.inl ⟨by rfl, ?hy_20⟩) ?rest_20
    case hy_20 => (intro w_; go_simp; try with_reducible rfl)
    simp only [Act.put, List.getElem_toArray, List.getElem_cons_zero, List.getElem_cons_succ, List.setIfInBounds_toArray, List.set_cons_zero, List.set_cons_succ]
    refine wpAny_ready (rs := [21]) (by kernel_rfl) (by simp) ?_
    refine (AllReady.cons rfl (fun K_ hK_ => ?_) AllReady.nil)
    rw [if_pos (by rfl)]
    refine wp_store_mid _ _ _ rfl _ _ (List.toArray _) rfl rfl ?hc_21 ?hi_21 (all_oneCell_toArray oy) ?rest_21
    case hc_21 => (rw [List.size_toArray, ly]; exact ta)
    case hi_21 => (rw [List.size_toArray]; exact iy)
    simp only [Act.put, List.getElem_toArray, List.getElem_cons_zero, List.getElem_cons_succ, List.setIfInBounds_toArray, List.set_cons_zero, List.set_cons_succ, List.toList_toArray]
    refine hK_ _ _ ?_
    clear hK_ K_
    refine wpAny_take (i := 22) (v := ?v_22) rfl (by kernel_rfl) (by kernel_rfl) (by kernel_rfl) (fun _ _ _ h => h) (Or.inl ⟨by rfl, ?hy_22⟩) ?rest_22
    case hy_22 => (intro w_; go_simp; try with_reducible rfl)
    simp only [Act.put, List.getElem_toArray, List.getElem_cons_zero, List.getElem_cons_succ, List.setIfInBounds_toArray, List.set_cons_zero, List.set_cons_succ]
    refine wpAny_ready (rs := [23]) (by kernel_rfl) (by simp) ?_
    refine (AllReady.cons rfl (fun K_ hK_ => ?_) AllReady.nil)
    rw [if_pos (by rfl)]
    refine wp_store_mid _ _ _ rfl _ _ (List.toArray _) rfl rfl ?hc_23 ?hi_23 (all_oneCell_toArray ox) ?rest_23
    case hc_23 => (rw [List.size_toArray, lx]; exact tb2)
    case hi_23 => (rw [List.size_toArray]; exact ix)
    simp only [Act.put, List.getElem_toArray, List.getElem_cons_zero, List.getElem_cons_succ, List.setIfInBounds_toArray, List.set_cons_zero, List.set_cons_succ, List.toList_toArray]
    refine hK_ _ _ ?_
    clear hK_ K_
    refine wpAny_done (by kernel_rfl) ?_ _
    rotate_left
    rw [if_pos (by rfl)]
    refine' wp_load_mid _ _ rfl _ _ rfl _ _ ?hc_24 ?hu_24 ?hd_24 ?hi_24 ?rest_24
    case hc_24 => exact ra
    case hu_24 => exact hu
    case hd_24 => rfl
    case hi_24 => exact ix
    simp only [Act.put, List.getElem_toArray, List.getElem_cons_zero, List.getElem_cons_succ, List.setIfInBounds_toArray, List.set_cons_zero, List.set_cons_succ]
    refine hK_ _ _ ?_
    clear hK_ K_
    refine wpAny_ready (rs := [13]) (by kernel_rfl) (by simp) ?_
    refine (AllReady.cons rfl (fun K_ hK_ => ?_) AllReady.nil)
    rw [if_pos (by rfl)]
    refine' wp_load_mid _ _ rfl _ _ rfl _ _ ?hc_25 ?hu_25 ?hd_25 ?hi_25 ?rest_25
    case hc_25 => exact rb
    case hu_25 => exact hu
    case hd_25 => rfl
    case hi_25 => exact iy
    simp only [Act.put, List.getElem_toArray, List.getElem_cons_zero, List.getElem_cons_succ, List.setIfInBounds_toArray, List.set_cons_zero, List.set_cons_succ]
    refine hK_ _ _ ?_
    clear hK_ K_
    refine wpAny_take (i := 20) (v := ?v_26) rfl (by kernel_rfl) (by kernel_rfl) (by kernel_rfl) (fun _ _ _ h => h) (Or.inl ⟨by rfl, ?hy_26⟩) ?rest_26
    case hy_26 => (intro w_; go_simp; try with_reducible rfl)
    simp only [Act.put, List.getElem_toArray, List.getElem_cons_zero, List.getElem_cons_succ, List.setIfInBounds_toArray, List.set_cons_zero, List.set_cons_succ]
    refine wpAny_ready (rs := [21]) (by kernel_rfl) (by simp) ?_
    refine (AllReady.cons rfl (fun K_ hK_ => ?_) AllReady.nil)
    rw [if_pos (by rfl)]
    refine wp_store_mid _ _ _ rfl _ _ (List.toArray _) rfl rfl ?hc_27 ?hi_27 (all_oneCell_toArray oy) ?rest_27
    case hc_27 => (rw [List.size_toArray, ly]; exact ta)
    case hi_27 => (rw [List.size_toArray]; exact iy)
    simp only [Act.put, List.getElem_toArray, List.getElem_cons_zero, List.getElem_cons_succ, List.setIfInBounds_toArray, List.set_cons_zero, List.set_cons_succ, List.toList_toArray]
    refine hK_ _ _ ?_
    clear hK_ K_
    refine wpAny_take (i := 22) (v := ?v_28) rfl (by kernel_rfl) (by kernel_rfl) (by kernel_rfl) (fun _ _ _ h => h) (Or.inl ⟨by rfl, ?hy_28⟩) ?rest_28
    case hy_28 => (intro w_; go_simp; try with_reducible rfl)
    simp only [Act.put, List.getElem_toArray, List.getElem_cons_zero, List.getElem_cons_succ, List.setIfInBounds_toArray, List.set_cons_zero, List.set_cons_succ]
    refine wpAny_ready (rs := [23]) (by kernel_rfl) (by simp) ?_
    refine (AllReady.cons rfl (fun K_ hK_ => ?_) AllReady.nil)
    rw [if_pos (by rfl)]
    refine wp_store_mid _ _ _ rfl _ _ (List.toArray _) rfl rfl ?hc_29 ?hi_29 (all_oneCell_toArray ox) ?rest_29
    case hc_29 => (rw [List.size_toArray, lx]; exact tb2)
    case hi_29 => (rw [List.size_toArray]; exact ix)
    simp only [Act.put, List.getElem_toArray, List.getElem_cons_zero, List.getElem_cons_succ, List.setIfInBounds_toArray, List.set_cons_zero, List.set_cons_succ, List.toList_toArray]
    refine hK_ _ _ ?_
    clear hK_ K_
    refine wpAny_done (by kernel_rfl) ?_ _
    rotate_left
    all_goals
     clear ra rb ta tb tb2 ix iy ox oy lx ly hu g1 g2 g3 g4 u1 u2 t1 t2 hap hap2
     have hsw := HSW.out
     generalize (wr.drew.setCells g ((a + i) * 14) y.row).setCells g ((b + i) * 14) x.row = W9 at hsw ⊢
     have HS9 := Lib.hid hsw
     clear hsw HSW
     go_wp2_with fail
     go_roundw
     case rel => exact ⟨i + 1, hlt, by first | rfl | exact congrArg (Value.int .i64) (wrap64_up i HIB.out), HS9⟩
     case measure => first | (rw [wrap64_up i HIB.out]; show n - (i + 1) < n - i; omega) | (show n - (i + 1) < n - i; omega)
  · obtain rfl : i = n := by omega
    have hS := HS.out
    rw [show Y.take i = Y by rw [HNX.out, HXY.out, List.take_length], show X.drop i = [] by rw [HNX.out, List.drop_length], show X.take i = X by rw [HNX.out, List.take_length], show Y.drop i = [] by rw [HNX.out, HXY.out, List.drop_length], List.append_nil, List.append_nil] at hS
    have HS9 := Lib.hid hS
    clear hS HS
    go_wp2
    refine bodyPost_end (v := .tuple #[]) (by simp [results, Tryz.f279, go_sem]) rfl ⟨rfl, HS9.out⟩
set_option maxHeartbeats 1000000 in
theorem rotate_in (w0 : World) (g : Nat) (A X Y B : List PEl) (N cap : Nat) (f : Value) (W : World) (hX : X ≠ []) (hY : Y ≠ []) (hN : N = (A ++ X ++ Y ++ B).length) (hcap : N ≤ 1048576) (h : SW w0 g (A ++ X ++ Y ++ B) W) :
 Calls Tryz.prog 246 #[.slice (some ⟨g, 0, none⟩) N cap, .int .i64 A.length, .int .i64 (A.length + X.length : Nat), .int .i64 (A.length + X.length + Y.length : Nat), f] W fun e w' => e = .returned (.tuple #[]) ∧ SW w0 g (A ++ Y ++ X ++ B) w' := by
 obtain ⟨a, ha⟩ : ∃ a, a = A.length := ⟨_, rfl⟩
 obtain ⟨m, hm⟩ : ∃ m, m = A.length + X.length := ⟨_, rfl⟩
 obtain ⟨b, hb⟩ : ∃ b, b = A.length + X.length + Y.length := ⟨_, rfl⟩
 have hlx : 0 < X.length := List.length_pos_iff.2 hX
 have hly : 0 < Y.length := List.length_pos_iff.2 hY
 rw [← hb, ← hm, ← ha]
 have hbN : b ≤ N := by rw [hN]; simp; omega
 have ham : a ≤ m := by omega
 have hmb : m ≤ b := by omega
 have hi0 : (m : Int) - (a : Int) = (X.length : Int) := by omega
 have hj0 : (b : Int) - (m : Int) = (Y.length : Int) := by omega
 have HA := Lib.hid ha
 have HM := Lib.hid hm
 have HN := Lib.hid hN
 have H := Lib.hid h
 have HLX := Lib.hid hlx
 have HLY := Lib.hid hly
 clear hN ha hm hb h hX hY hlx hly
 go_enter Tryz.func246, Tryz.ntmps246
 go_wp2
 go_loopw [10, 11] (fun vi vj wr => ∃ (A' X' Y' B' : List PEl) (i j : Nat), vi = .int .i64 i ∧ vj = .int .i64 j ∧ 1 ≤ i ∧ 1 ≤ j ∧ i ≤ m ∧ m + j ≤ N ∧ Hid (X'.length = i ∧ Y'.length = j ∧ A'.length + i = m) ∧ Hid (A' ++ Y' ++ X' ++ B' = A ++ Y ++ X ++ B) ∧ Hid (SW w0 g (A' ++ X' ++ Y' ++ B') wr) ∧ Hid (N = (A' ++ X' ++ Y' ++ B').length)) (fun vi vj _ => (intOf vi).toNat + (intOf vj).toNat)
 case atStart => exact ⟨A, X, Y, B, X.length, Y.length, by first | rfl | simp [hi0], by first | rfl | simp [hj0], HLX.out, HLY.out, by omega, by omega, Lib.hid ⟨rfl, rfl, HM.out.symm⟩, Lib.hid rfl, H, HN⟩
 case round =>
  obtain ⟨A', X', Y', B', i, j, rfl, rfl, hi1, hj1, him, hjN, HL, HE, HS, HNN⟩ := hrel
  obtain ⟨l1, l2, l3⟩ := HL.out
  have g1 : (0 : Int) ≤ (m : Int) - (i : Int) := by omega
  by_cases hij : i = j
  · subst hij
    have hC := swapRange_in w0 g A' X' [] Y' B' N cap f wr (by omega) (by rw [List.append_nil]; exact HNN.out) hcap (by rw [List.append_nil]; exact HS.out)
    rw [List.append_nil, HE.out, l1, show ((A'.length : Nat) : Int) = (m : Int) - (i : Int) by omega, show A'.length + i + ([] : List PEl).length = m by simp; omega] at hC
    have HC := Lib.hid hC
    clear hC l1 l2 l3
    go_wp2_with (first | (go_at_call 279; (with_reducible refine HC.out.mono ?_); rintro e w2 ⟨rfl, hS2⟩))
    refine bodyPost_end (v := .tuple #[]) (by simp [results, Tryz.f246, go_sem]) rfl ⟨rfl, hS2⟩
  · by_cases hgt : j < i
    · have hb1 : ((i : Int) == (j : Int)) = false := by simp; omega
      have hne : ((i : Int) != (j : Int)) = true := by simp; omega
      have hgi : (j : Int) < (i : Int) := by omega
      have hs1 : (i : Int) - (j : Int) = ((i - j : Nat) : Int) := by omega
      have hpq : X' = X'.take j ++ X'.drop j := (List.take_append_drop _ _).symm
      have hlp : (X'.take j).length = j := by rw [List.length_take]; omega
      have hlq : (X'.drop j).length = i - j := by rw [List.length_drop]; omega
      have hC := swapRange_in w0 g A' (X'.take j) (X'.drop j) Y' B' N cap f wr (by omega) (by have := HNN.out; rw [hpq] at this; simpa using this) hcap (by have := HS.out; rw [hpq] at this; simpa using this)
      rw [hlp, hlq, show A'.length + j + (i - j) = m by omega, show ((A'.length : Nat) : Int) = (m : Int) - (i : Int) by omega] at hC
      have HC := Lib.hid hC
      have HR : Hid (∀ w2, SW w0 g (A' ++ Y' ++ X'.drop j ++ X'.take j ++ B') w2 → ∃ (A2 X2 Y2 B2 : List PEl), Hid (X2.length = i - j ∧ Y2.length = j ∧ A2.length + (i - j) = m) ∧ Hid (A2 ++ Y2 ++ X2 ++ B2 = A ++ Y ++ X ++ B) ∧ Hid (SW w0 g (A2 ++ X2 ++ Y2 ++ B2) w2) ∧ Hid (N = (A2 ++ X2 ++ Y2 ++ B2).length)) := Lib.hid (fun w2 h2 => ⟨A' ++ Y', X'.drop j, X'.take j, B', Lib.hid ⟨hlq, hlp, by rw [List.length_append]; omega⟩, Lib.hid (by
       have := HE.out
       rw [hpq] at this
       simpa using this), Lib.hid h2, Lib.hid (by
       have := HNN.out
       simp only [List.length_append, hlp, hlq] at this ⊢
       omega)⟩)
      clear hC l1 l2 l3 hpq hlp hlq
      go_wp2_with (first | (go_at_call 279; (with_reducible refine HC.out.mono ?_); rintro e w2 ⟨rfl, hS2⟩; have HS2 := Lib.hid hS2; clear hS2))
      go_roundw
      case rel =>
       obtain ⟨A2, X2, Y2, B2, r1, r2, r3, r4⟩ := HR.out _ HS2.out
       exact ⟨A2, X2, Y2, B2, i - j, j, by first | rfl | (rw [hs1]), rfl, by omega, by omega, by omega, by omega, r1, r2, r3, r4⟩
      case measure => show (i - j) + j < i + j; omega
    · have hb1 : ((i : Int) == (j : Int)) = false := by simp; omega
      have hne : ((i : Int) != (j : Int)) = true := by simp; omega
      have hgi : ¬ (j : Int) < (i : Int) := by omega
      have hs1 : (j : Int) - (i : Int) = ((j - i : Nat) : Int) := by omega
      have hpq : Y' = Y'.take (j - i) ++ Y'.drop (j - i) := (List.take_append_drop _ _).symm
      have hlp : (Y'.take (j - i)).length = j - i := by rw [List.length_take]; omega
      have hlq : (Y'.drop (j - i)).length = i := by rw [List.length_drop]; omega
      have hC := swapRange_in w0 g A' X' (Y'.take (j - i)) (Y'.drop (j - i)) B' N cap f wr (by omega) (by have := HNN.out; rw [hpq] at this; simpa using this) hcap (by have := HS.out; rw [hpq] at this; simpa using this)
      rw [hlp, l1, show ((A'.length + i + (j - i) : Nat) : Int) = (m : Int) + (j : Int) - (i : Int) by omega, show ((A'.length : Nat) : Int) = (m : Int) - (i : Int) by omega] at hC
      have HC := Lib.hid hC
      have g2 : (m : Int) + (j : Int) ≤ 1048576 := by omega
      have HR : Hid (∀ w2, SW w0 g (A' ++ Y'.drop (j - i) ++ Y'.take (j - i) ++ X' ++ B') w2 → ∃ (A2 X2 Y2 B2 : List PEl), Hid (X2.length = i ∧ Y2.length = j - i ∧ A2.length + i = m) ∧ Hid (A2 ++ Y2 ++ X2 ++ B2 = A ++ Y ++ X ++ B) ∧ Hid (SW w0 g (A2 ++ X2 ++ Y2 ++ B2) w2) ∧ Hid (N = (A2 ++ X2 ++ Y2 ++ B2).length)) := Lib.hid (fun w2 h2 => ⟨A', Y'.drop (j - i), Y'.take (j - i), X' ++ B', Lib.hid ⟨hlq, hlp, l3⟩, Lib.hid (by
       have := HE.out
       rw [hpq] at this
       simpa using this), Lib.hid (by simpa using h2), Lib.hid (by
       have := HNN.out
       simp only [List.length_append, hlp, hlq] at this ⊢
       omega)⟩)
      clear hC l1 l2 l3 hpq hlp hlq
      go_wp2_with (first | (go_at_call 279; (with_reducible refine HC.out.mono ?_); rintro e w2 ⟨rfl, hS2⟩; have HS2 := Lib.hid hS2; clear hS2))
      go_roundw
      case rel =>
       obtain ⟨A2, X2, Y2, B2, r1, r2, r3, r4⟩ := HR.out _ HS2.out
       exact ⟨A2, X2, Y2, B2, i, j - i, rfl, by first | rfl | (rw [hs1]), by omega, by omega, by omega, by omega, r1, r2, r3, r4⟩
      case measure => show i + (j - i) < i + j; omega
def CmpIn (w0 : World) (g cb : Nat) (U : PEl → Prop) : Prop := ∀ W, KeepG w0 g W → ∀ x y, U x → U y → Calls Tryz.prog 120 #[.agg x.row.toArray, .agg y.row.toArray, .pointer (some ⟨cb, 0, none⟩)] W fun e w' => e = .returned (.int .i64 (vord x.key y.key)) ∧ Below W.heap.size W w'
theorem sorted_mid {L R : List PEl} {x : PEl} (h : (L ++ R).Pairwise elt) (hl : ∀ y ∈ L, elt y x) (hr : ∀ y ∈ R, elt x y) : (L ++ x :: R).Pairwise elt := by
 rw [List.pairwise_append] at h ⊢
 refine ⟨h.1, List.pairwise_cons.2 ⟨hr, h.2.1⟩, fun a ha b hb => ?_⟩
 rcases List.mem_cons.1 hb with rfl | hb
 · exact hl a ha
 · exact h.2.2 a ha b hb
theorem last_below {L : List PEl} {x y : PEl} (h : (L ++ [y]).Pairwise elt) (hy : elt y x) : ∀ z ∈ L ++ [y], elt z x := fun z hz => by
 rcases List.mem_append.1 hz with hz | hz
 · exact elt_trans ((List.pairwise_append.1 h).2.2 z hz y List.mem_cons_self) hy
 · rw [List.mem_singleton.1 hz]; exact hy
structure InsAt (w0 : World) (g : Nat) (A S B : List PEl) (k : Nat) (W : World) : Prop where
 ex : ∃ S1 : List PEl, S1.Perm (S.take k) ∧ S1.Pairwise elt ∧ SW w0 g (A ++ S1 ++ S.drop k ++ B) W
structure InsIn (w0 : World) (g : Nat) (A S1 T : List PEl) (x : PEl) (l : Nat) (W : World) : Prop where
 ex : ∃ L R : List PEl, L.length = l ∧ L ++ R = S1 ∧ (∀ r ∈ R, elt x r) ∧ SW w0 g (A ++ L ++ x :: R ++ T) W
theorem InsIn.stop {w0 : World} {g : Nat} {A S S1 B : List PEl} {k l : Nat} {W : World} (hk : k < S.length) (hp : S1.Perm (S.take k)) (hs : S1.Pairwise elt) (h : InsIn w0 g A S1 (S.drop (k + 1) ++ B) S[k] l W)
 (hstop : ∀ L R : List PEl, L.length = l → L ++ R = S1 → ∀ y ∈ L, elt y S[k]) : InsAt w0 g A S B (k + 1) W := by
 obtain ⟨L, R, h1, h2, h3, h4⟩ := h.ex
 refine ⟨L ++ S[k] :: R, ?_, sorted_mid (by rw [h2]; exact hs) (hstop L R h1 h2) h3, by simpa using h4⟩
 rw [List.take_succ_eq_append_getElem hk]
 exact (List.perm_middle.trans ((h2 ▸ hp).cons _)).trans (List.perm_append_singleton _ _).symm
theorem SW.swap1 {w0 W : World} {g : Nat} {P Q : List PEl} {x y : PEl} (h : SW w0 g (P ++ y :: x :: Q) W) :
 SW w0 g (P ++ x :: y :: Q) ((W.setCells g ((P.length + 1) * 14) y.row).setCells g (P.length * 14) x.row) := by
 have h1 : (P ++ y :: x :: Q)[P.length + 1]? = some x := at_far (A := P) (M := []) (B := Q) (x := y) (y := x)
 have h2 : (P ++ y :: x :: Q)[P.length]? = some y := at_head
 have := h.swap h1 h2 (by omega)
 rw [List.set_comm _ _ (by omega)] at this
 have e := set_pair (els := P ++ y :: ([] ++ x :: Q)) (A := P) (M := []) (B := Q) (x := y) (y := x) rfl
 simp only [List.nil_append, List.length_nil, Nat.add_zero] at e
 rw [e] at this
 exact this
theorem InsIn.drew {w0 : World} {g : Nat} {A S1 T : List PEl} {x : PEl} {l : Nat} {W : World} (h : InsIn w0 g A S1 T x l W) : InsIn w0 g A S1 T x l W.drew := by
 obtain ⟨L, R, h1, h2, h3, h4⟩ := h.ex
 exact ⟨L, R, h1, h2, h3, h4.drew⟩
theorem InsIn.grow {w0 : World} {g : Nat} {A S1 T : List PEl} {x : PEl} {l : Nat} {W W' : World} (hg : g < w0.heap.size) (h : InsIn w0 g A S1 T x l W) (hb : Below W.heap.size W W') : InsIn w0 g A S1 T x l W' := by
 obtain ⟨L, R, h1, h2, h3, h4⟩ := h.ex
 exact ⟨L, R, h1, h2, h3, h4.grow hg hb⟩
set_option maxHeartbeats 4000000 in
theorem insertion_in (w0 : World) (g cb : Nat) (U : PEl → Prop) (hg : g < w0.heap.size) (hcmp : CmpIn w0 g cb U) (A S B : List PEl) (N cap : Nat) (W : World) (hN : N = (A ++ S ++ B).length) (hcap : N ≤ 1048576) (hU : ∀ e ∈ S, U e) (htag : S.Pairwise (fun x y => x.tag < y.tag)) (h : SW w0 g (A ++ S ++ B) W) :
 Calls Tryz.prog 198 #[.slice (some ⟨g, 0, none⟩) N cap, .int .i64 A.length, .int .i64 (A.length + S.length : Nat), .func (.func 120) #[] #[.pointer (some ⟨cb, 0, none⟩)]] W fun e w' => e = .returned (.tuple #[]) ∧ ∃ S', S'.Perm S ∧ S'.Pairwise elt ∧ SW w0 g (A ++ S' ++ B) w' := by
 obtain ⟨a, ha⟩ : ∃ a, a = A.length := ⟨_, rfl⟩
 obtain ⟨b, hb⟩ : ∃ b, b = A.length + S.length := ⟨_, rfl⟩
 rw [← hb, ← ha]
 have hbN : b ≤ N := by rw [hN]; simp; omega
 have hab : a ≤ b := by omega
 have HA := Lib.hid ha
 have HBS := Lib.hid hb
 have HN := Lib.hid hN
 have H := Lib.hid h
 have HU := Lib.hid hU
 have HT := Lib.hid htag
 have HCMP := Lib.hid hcmp
 have hu := Tryz.underlying102
 clear hN ha hb h hU htag hcmp
 go_enter Tryz.func198, Tryz.ntmps198
 go_wp2
 go_loopw [8] (fun vi wr => ∃ k i : Nat, vi = .int .i64 i ∧ i = a + k ∧ 1 ≤ k ∧ (i ≤ b ∨ (k = 1 ∧ a = b)) ∧ Hid (InsAt w0 g A S B k wr)) (fun vi _ => b + 1 - (intOf vi).toNat)
 case atStart =>
  refine ⟨1, a + 1, by first | rfl | exact congrArg (Value.int .i64) (wrap64_up a (by omega)), rfl, Nat.le_refl _, by omega, Lib.hid ⟨S.take 1, List.Perm.refl _, ?_, by have := H.out; rw [List.append_assoc A, List.take_append_drop]; exact this⟩⟩
  cases S with
  | nil => simp
  | cons x S => simp
 case round =>
  obtain ⟨k, i, rfl, hik, hk1, hib, HI⟩ := hrel
  have HIK := Lib.hid hik
  by_cases hlt : i < b
  · have hkS : k < S.length := by have := HBS.out; have := HA.out; omega
    obtain ⟨S1, hp, hs, hS⟩ := HI.out.ex
    rw [List.drop_eq_getElem_cons hkS] at hS
    have HP := Lib.hid hp
    have HS1 := Lib.hid hs
    have hux : U S[k] := HU.out _ (List.getElem_mem hkS)
    have HX : Hid (∀ y ∈ S1, U y ∧ y.tag < S[k].tag) := Lib.hid (fun y hy => by
     have hm : y ∈ S.take k := hp.mem_iff.1 hy
     refine ⟨HU.out _ (List.mem_of_mem_take hm), ?_⟩
     obtain ⟨j, hj, rfl⟩ := List.mem_iff_getElem.1 hm
     rw [List.length_take] at hj
     rw [List.getElem_take]
     exact List.pairwise_iff_getElem.1 HT.out j k (by omega) hkS (by omega))
    have HUX := Lib.hid hux
    have hin : InsIn w0 g A S1 (S.drop (k + 1) ++ B) S[k] S1.length wr := ⟨S1, [], rfl, by simp, by simp, by simp only [List.append_assoc, List.cons_append, List.nil_append, List.append_nil] at hS ⊢; exact hS⟩
    have hl1 : S1.length = k := by rw [hp.length_eq, List.length_take]; omega
    rw [hl1] at hin
    have HIN := Lib.hid hin
    have HST : Hid (∀ (l : Nat) (w : World), InsIn w0 g A S1 (S.drop (k + 1) ++ B) S[k] l w → (∀ L R : List PEl, L.length = l → L ++ R = S1 → ∀ y ∈ L, elt y S[k]) → InsAt w0 g A S B (k + 1) w) := Lib.hid (fun l w h h2 => h.stop hkS hp hs h2)
    have HLEN : Hid (∀ (l : Nat) (L R : List PEl), L ++ S[k] :: R = L ++ S[k] :: R → N = (A ++ L ++ S[k] :: R ++ (S.drop (k + 1) ++ B)).length ∨ L ++ R ≠ S1) := Lib.hid (fun l L R _ => by
     by_cases e : L ++ R = S1
     · left
       have h1 : (L ++ R).length = k := by rw [e]; exact hl1
       have h2 := HN.out
       simp only [List.length_append, List.length_cons, List.length_drop] at h1 h2 ⊢
       omega
     · exact .inr e)
    generalize S[k] = x at *
    clear hS hp hs hin hl1 hux hkS hik hib
    go_wp2
    go_loopw [9] (fun vj wq => ∃ l j : Nat, vj = .int .i64 j ∧ j = a + l ∧ l ≤ k ∧ Hid (InsIn w0 g A S1 (S.drop (k + 1) ++ B) x l wq)) (fun vj _ => (intOf vj).toNat)
    case atStart => exact ⟨k, i, rfl, HIK.out, Nat.le_refl _, HIN⟩
    case round =>
     obtain ⟨l, j, rfl, hjl, hlk, HJ⟩ := hrel
     have hib : i ≤ b := Nat.le_of_lt hlt
     have hji : j ≤ i := by have := HIK.out; omega
     by_cases hl0 : l = 0
     · subst hl0
       obtain rfl : j = a := by omega
       clear hjl
       have HNXT := Lib.hid (HST.out 0 _ HJ.out.drew (fun L R h1 _ y hy => by rw [List.eq_nil_of_length_eq_zero h1] at hy; cases hy))
       have hgg : ¬ (j : Int) < (j : Int) := by omega
       go_upto_region 4 with (fail)
       refine wp_region_any (by kernel_rfl) ?_
       change wpAny _ _ _ _ _ _ _ (World.drew _)
       refine tq 0 (h := ?_)
       refine tq 1 (h := ?_)
       simp only [lst]
       refine tq 2 (h := ?_)
       refine tq 3 (h := ?_)
       simp only [lst]
       refine sq 4 (h := ?_)
       refine sq 5 (h := ?_)
       simp only [lst]
       refine sq 6 (h := ?_)
       refine sq 7 (h := ?_)
       simp only [lst]
       refine sq 8 (h := ?_)
       refine sq 9 (h := ?_)
       simp only [lst]
       refine sq 10 (h := ?_)
       refine sq 11 (h := ?_)
       simp only [lst]
       refine sq 12 (h := ?_)
       refine sq 13 (h := ?_)
       simp only [lst]
       refine sq 14 (h := ?_)
       refine sq 15 (h := ?_)
       simp only [lst]
       refine tq 16 (h := ?_)
       refine wpAny_done (by kernel_rfl) ?_ _
       simp only [lst]
       rotate_left
       have HIB : Hid (i ≤ 4611686018427387904 ∧ i + 1 = j + (k + 1)) := Lib.hid ⟨by omega, by have := HIK.out; omega⟩
       clear hgg
       go_wp2_with fail
       go_roundw
       case rel => exact ⟨k + 1, i + 1, by first | rfl | exact congrArg (Value.int .i64) (wrap64_up i HIB.out.1), HIB.out.2, by omega, .inl hlt, HNXT⟩
       case measure => first | (rw [wrap64_up i HIB.out.1]; show b + 1 - (i + 1) < b + 1 - i; omega) | (show b + 1 - (i + 1) < b + 1 - i; omega)
     · obtain ⟨L, R, hL, hLR, hR, hSW⟩ := HJ.out.ex
       have hLne : L ≠ [] := by intro e; rw [e] at hL; exact hl0 hL.symm
       obtain ⟨L', y, rfl⟩ : ∃ L' y, L = L' ++ [y] := ⟨L.dropLast, L.getLast hLne, (List.dropLast_concat_getLast hLne).symm⟩
       rw [List.length_append, List.length_singleton] at hL
       have hyS : y ∈ S1 := by rw [← hLR]; simp
       obtain ⟨huy, hty⟩ := HX.out y hyS
       have HSW0 := Lib.hid hSW
       have hsw1 : SW w0 g ((A ++ L') ++ y :: x :: (R ++ (S.drop (k + 1) ++ B))) wr.drew := by
        have := hSW.drew
        simp only [List.append_assoc, List.cons_append, List.nil_append] at this ⊢
        exact this
       have hal : (A ++ L').length + 1 = j := by rw [List.length_append, ← HA.out]; omega
       obtain ⟨jp, hjp⟩ : ∃ jp, jp = (A ++ L').length := ⟨_, rfl⟩
       have hjj : j = jp + 1 := by omega
       have hx1 : ((A ++ L') ++ y :: x :: (R ++ (S.drop (k + 1) ++ B)))[j]? = some x := by
        rw [← hal]
        exact at_far (A := A ++ L') (M := []) (B := R ++ (S.drop (k + 1) ++ B)) (x := y) (y := x)
       have hy1 : ((A ++ L') ++ y :: x :: (R ++ (S.drop (k + 1) ++ B)))[jp]? = some y := by rw [hjp]; exact at_head
       have rx := hsw1.at_ _ _ hx1
       have ry := hsw1.at_ _ _ hy1
       have okx := hsw1.ok x (by simp)
       have oky := hsw1.ok y (by simp)
       have lx := okx.len
       have ly := oky.len
       have ox := okx.one
       have oy := oky.one
       have ix := info_pair _ lx
       have iy := info_pair _ ly
       have HSW := Lib.hid hsw1
       have HX1 := Lib.hid hx1
       have HY1 := Lib.hid hy1
       have HKD := Lib.hid hsw1.keep
       have HLR := Lib.hid hLR
       have HRR := Lib.hid hR
       have HAL := Lib.hid hal
       have HJP := Lib.hid hjp
       have HJJ := Lib.hid hjj
       have HTY := Lib.hid hty
       have HL0 := Lib.hid hL
       have HJL := Lib.hid hjl
       have HCC : Hid (∀ W, KeepG w0 g W → Calls Tryz.prog 120 #[.agg x.row.toArray, .agg y.row.toArray, .pointer (some ⟨cb, 0, none⟩)] W fun e w' => e = .returned (.int .i64 (vord x.key y.key)) ∧ Below W.heap.size W w') := Lib.hid (fun W hW => HCMP.out W hW x y HUX.out huy)
       have hgg : (a : Int) < (j : Int) := by omega
       have q1 : (0 : Int) ≤ (j : Int) := by omega
       have q2 : (j : Int) < (N : Int) := by omega
       have q3 : (1 : Int) ≤ (j : Int) := by omega
       have q4 : (j : Int) - 1 < (N : Int) := by omega
       have q5 : ((j : Int) - 1).toNat = jp := by omega
       have q6 : IntKind.i64.wrap ((j : Int) - 1) = (j : Int) - 1 := by rw [wrap_in _ (by omega)]
       clear hSW hsw1 hx1 hy1 okx oky hLR hR hal hjp hjj hty huy hyS hLne hL hjl HJ hl0
       by_cases hc : vord x.key y.key < 0
       · go_upto_region 4 with (fail)
         refine wp_region_any (by kernel_rfl) ?_
         change wpAny _ _ _ _ _ _ _ (World.drew _)
         refine tq 0 (h := ?_)
         refine tq 1 (h := ?_)
         simp only [lst]
         refine tq 2 (h := ?_)
         refine tq 3 (h := ?_)
         simp only [lst]
         refine tq 4 (h := ?_)
         refine tq 5 (h := ?_)
         simp only [lst]
         refine tq 6 (h := ?_)
         refine tq 7 (h := ?_)
         simp only [lst]
         refine tq 9 (h := ?_)
         refine tq 10 (h := ?_)
         simp only [lst]
         refine tq 11 (h := ?_)
         refine tq 12 (h := ?_)
         simp only [lst]
         refine two 8 13 rfl rfl (by kernel_rfl) (by rfl) (by rfl) (fun K_ hK_ => ?_) (fun K_ hK_ => ?_)
         refine wp_load_mid _ _ rfl _ _ rfl _ _ rx hu rfl ix ?_
         refine hK_ _ _ ?_
         clear hK_ K_
         simp only [Act.put, lgt, List.setIfInBounds_toArray, lst]
         refine one 13 rfl (by kernel_rfl) (by rfl) fun K_ hK_ => ?_
         refine wp_load_mid _ _ rfl _ _ rfl _ _ ry hu rfl iy ?_
         refine hK_ _ _ ?_
         clear hK_ K_
         simp only [Act.put, lgt, List.setIfInBounds_toArray, lst]
         refine one 14 rfl (by kernel_rfl) (by rfl) fun K_ hK_ => ?_
         simp only [lgt]
         go_simp
         refine (HCC.out _ HKD.out).mono ?_
         rintro e_ w5 ⟨rfl, hB5⟩
         have HB5 := Lib.hid hB5
         clear hB5
         simp only [Oper.upon]
         refine hK_ _ _ ?_
         clear hK_ K_
         refine tq 15 (h := ?_)
         refine tq 16 (h := ?_)
         refine wpAny_done (by kernel_rfl) ?_ _
         simp only [lst]
         rotate_left
         refine wp_load_mid _ _ rfl _ _ rfl _ _ ry hu rfl iy ?_
         refine hK_ _ _ ?_
         clear hK_ K_
         simp only [Act.put, lgt, List.setIfInBounds_toArray, lst]
         refine one 8 rfl (by kernel_rfl) (by rfl) fun K_ hK_ => ?_
         refine wp_load_mid _ _ rfl _ _ rfl _ _ rx hu rfl ix ?_
         refine hK_ _ _ ?_
         clear hK_ K_
         simp only [Act.put, lgt, List.setIfInBounds_toArray, lst]
         refine one 14 rfl (by kernel_rfl) (by rfl) fun K_ hK_ => ?_
         simp only [lgt]
         go_simp
         refine (HCC.out _ HKD.out).mono ?_
         rintro e_ w5 ⟨rfl, hB5⟩
         have HB5 := Lib.hid hB5
         clear hB5
         simp only [Oper.upon]
         refine hK_ _ _ ?_
         clear hK_ K_
         refine tq 15 (h := ?_)
         refine tq 16 (h := ?_)
         refine wpAny_done (by kernel_rfl) ?_ _
         simp only [lst]
         rotate_left
         all_goals
          clear q1 q3 rx ry hgg HCC HX
          go_upto_region 6 with (fail)
          have hsw6 := (HSW.out.grow hg HB5.out).drew
          have rx6 := hsw6.at_ _ _ HX1.out
          have ry6 := hsw6.at_ _ _ HY1.out
          have tx6 := there_part hsw6.there (i := j) (List.getElem?_eq_some_iff.1 HX1.out).1
          have ty6 := World.there_setCells (there_part hsw6.there (i := jp) (List.getElem?_eq_some_iff.1 HY1.out).1) g (j * 14) y.row
          have hfin := hsw6.swap1
          rw [HAL.out, ← HJP.out] at hfin
          have HFIN := Lib.hid hfin
          have q1 : (0 : Int) ≤ (j : Int) := by omega
          have q3 : (1 : Int) ≤ (j : Int) := by have := HJJ.out; omega
          clear hsw6 hfin
          refine wp_region_any (by kernel_rfl) ?_
          change wpAny _ _ _ _ _ _ _ (World.drew _)
          refine tq 0 (h := ?_)
          refine tq 1 (h := ?_)
          simp only [lst]
          refine tq 2 (h := ?_)
          refine tq 3 (h := ?_)
          simp only [lst]
          refine tq 4 (h := ?_)
          refine tq 5 (h := ?_)
          simp only [lst]
          refine tq 6 (h := ?_)
          refine tq 7 (h := ?_)
          simp only [lst]
          refine tq 8 (h := ?_)
          refine tq 10 (h := ?_)
          simp only [lst]
          refine tq 11 (h := ?_)
          refine tq 12 (h := ?_)
          simp only [lst]
          refine two 9 13 rfl rfl (by kernel_rfl) (by rfl) (by rfl) (fun K_ hK_ => ?_) (fun K_ hK_ => ?_)
          refine wp_load_mid _ _ rfl _ _ rfl _ _ ry6 hu rfl iy ?_
          refine hK_ _ _ ?_
          clear hK_ K_
          simp only [Act.put, lgt, List.setIfInBounds_toArray, lst]
          refine one 13 rfl (by kernel_rfl) (by rfl) fun K_ hK_ => ?_
          refine wp_load_mid _ _ rfl _ _ rfl _ _ rx6 hu rfl ix ?_
          refine hK_ _ _ ?_
          clear hK_ K_
          simp only [Act.put, lgt, List.setIfInBounds_toArray, lst]
          refine tq 14 (h := ?_)
          simp only [lst]
          refine one 15 rfl (by kernel_rfl) (by rfl) fun K_ hK_ => ?_
          refine wp_store_mid _ _ _ rfl _ _ (List.toArray _) rfl rfl (by rw [List.size_toArray, ly]; exact tx6) (by rw [List.size_toArray]; exact iy) (all_oneCell_toArray oy) ?_
          simp only [List.toList_toArray]
          refine hK_ _ _ ?_
          clear hK_ K_
          simp only [Act.put, lgt, List.setIfInBounds_toArray, lst]
          refine tq 16 (h := ?_)
          simp only [lst]
          refine one 17 rfl (by kernel_rfl) (by rfl) fun K_ hK_ => ?_
          refine wp_store_mid _ _ _ rfl _ _ (List.toArray _) rfl rfl (by rw [List.size_toArray, lx]; exact ty6) (by rw [List.size_toArray]; exact ix) (all_oneCell_toArray ox) ?_
          simp only [List.toList_toArray]
          refine hK_ _ _ ?_
          clear hK_ K_
          refine wpAny_done (by kernel_rfl) ?_ _
          simp only [Act.put, lgt, List.setIfInBounds_toArray, lst]
          rotate_left
          refine wp_load_mid _ _ rfl _ _ rfl _ _ rx6 hu rfl ix ?_
          refine hK_ _ _ ?_
          clear hK_ K_
          simp only [Act.put, lgt, List.setIfInBounds_toArray, lst]
          refine one 9 rfl (by kernel_rfl) (by rfl) fun K_ hK_ => ?_
          refine wp_load_mid _ _ rfl _ _ rfl _ _ ry6 hu rfl iy ?_
          refine hK_ _ _ ?_
          clear hK_ K_
          simp only [Act.put, lgt, List.setIfInBounds_toArray, lst]
          refine tq 14 (h := ?_)
          simp only [lst]
          refine one 15 rfl (by kernel_rfl) (by rfl) fun K_ hK_ => ?_
          refine wp_store_mid _ _ _ rfl _ _ (List.toArray _) rfl rfl (by rw [List.size_toArray, ly]; exact tx6) (by rw [List.size_toArray]; exact iy) (all_oneCell_toArray oy) ?_
          simp only [List.toList_toArray]
          refine hK_ _ _ ?_
          clear hK_ K_
          simp only [Act.put, lgt, List.setIfInBounds_toArray, lst]
          refine tq 16 (h := ?_)
          simp only [lst]
          refine one 17 rfl (by kernel_rfl) (by rfl) fun K_ hK_ => ?_
          refine wp_store_mid _ _ _ rfl _ _ (List.toArray _) rfl rfl (by rw [List.size_toArray, lx]; exact ty6) (by rw [List.size_toArray]; exact ix) (all_oneCell_toArray ox) ?_
          simp only [List.toList_toArray]
          refine hK_ _ _ ?_
          clear hK_ K_
          refine wpAny_done (by kernel_rfl) ?_ _
          simp only [Act.put, lgt, List.setIfInBounds_toArray, lst]
          rotate_left
         all_goals
          clear rx6 ry6 tx6 ty6 ix iy ox oy lx ly q1 q2 q3 q4 q5 q6
          have hfin := HFIN.out
          generalize (w5.drew.setCells g (j * 14) y.row).setCells g (jp * 14) x.row = W9 at hfin ⊢
          have HNX : Hid (InsIn w0 g A (L' ++ [y] ++ R) (S.drop (k + 1) ++ B) x (l - 1) W9) := Lib.hid ⟨L', y :: R, by have := HL0.out; omega, by simp, fun r hr => by
           rcases List.mem_cons.1 hr with rfl | hr
           · exact .inl hc
           · exact HRR.out r hr, by simp only [List.append_assoc, List.cons_append] at hfin ⊢; exact hfin⟩
          rw [HLR.out] at HNX
          have HJ2 : Hid (j - 1 = a + (l - 1) ∧ 1 ≤ l ∧ 1 ≤ j) := Lib.hid (by have := HJL.out; have := HL0.out; omega)
          have hjs : (j : Int) - 1 = ((j - 1 : Nat) : Int) := by have := HJ2.out; omega
          clear hfin hc
          go_wp2_with fail
          go_roundw
          case rel => exact ⟨l - 1, j - 1, by first | rfl | (rw [hjs]), HJ2.out.1, by omega, HNX⟩
          case measure => have := HJ2.out; first | (rw [hjs]; show j - 1 < j; omega) | (show j - 1 < j; omega)
       · go_upto_region 4 with (fail)
         refine wp_region_any (by kernel_rfl) ?_
         change wpAny _ _ _ _ _ _ _ (World.drew _)
         refine tq 0 (h := ?_)
         refine tq 1 (h := ?_)
         simp only [lst]
         refine tq 2 (h := ?_)
         refine tq 3 (h := ?_)
         simp only [lst]
         refine tq 4 (h := ?_)
         refine tq 5 (h := ?_)
         simp only [lst]
         refine tq 6 (h := ?_)
         refine tq 7 (h := ?_)
         simp only [lst]
         refine tq 9 (h := ?_)
         refine tq 10 (h := ?_)
         simp only [lst]
         refine tq 11 (h := ?_)
         refine tq 12 (h := ?_)
         simp only [lst]
         refine two 8 13 rfl rfl (by kernel_rfl) (by rfl) (by rfl) (fun K_ hK_ => ?_) (fun K_ hK_ => ?_)
         refine wp_load_mid _ _ rfl _ _ rfl _ _ rx hu rfl ix ?_
         refine hK_ _ _ ?_
         clear hK_ K_
         simp only [Act.put, lgt, List.setIfInBounds_toArray, lst]
         refine one 13 rfl (by kernel_rfl) (by rfl) fun K_ hK_ => ?_
         refine wp_load_mid _ _ rfl _ _ rfl _ _ ry hu rfl iy ?_
         refine hK_ _ _ ?_
         clear hK_ K_
         simp only [Act.put, lgt, List.setIfInBounds_toArray, lst]
         refine one 14 rfl (by kernel_rfl) (by rfl) fun K_ hK_ => ?_
         simp only [lgt]
         go_simp
         refine (HCC.out _ HKD.out).mono ?_
         rintro e_ w5 ⟨rfl, hB5⟩
         have HB5 := Lib.hid hB5
         clear hB5
         simp only [Oper.upon]
         refine hK_ _ _ ?_
         clear hK_ K_
         refine tq 15 (h := ?_)
         refine tq 16 (h := ?_)
         refine wpAny_done (by kernel_rfl) ?_ _
         simp only [lst]
         rotate_left
         refine wp_load_mid _ _ rfl _ _ rfl _ _ ry hu rfl iy ?_
         refine hK_ _ _ ?_
         clear hK_ K_
         simp only [Act.put, lgt, List.setIfInBounds_toArray, lst]
         refine one 8 rfl (by kernel_rfl) (by rfl) fun K_ hK_ => ?_
         refine wp_load_mid _ _ rfl _ _ rfl _ _ rx hu rfl ix ?_
         refine hK_ _ _ ?_
         clear hK_ K_
         simp only [Act.put, lgt, List.setIfInBounds_toArray, lst]
         refine one 14 rfl (by kernel_rfl) (by rfl) fun K_ hK_ => ?_
         simp only [lgt]
         go_simp
         refine (HCC.out _ HKD.out).mono ?_
         rintro e_ w5 ⟨rfl, hB5⟩
         have HB5 := Lib.hid hB5
         clear hB5
         simp only [Oper.upon]
         refine hK_ _ _ ?_
         clear hK_ K_
         refine tq 15 (h := ?_)
         refine tq 16 (h := ?_)
         refine wpAny_done (by kernel_rfl) ?_ _
         simp only [lst]
         rotate_left
         all_goals
          clear q1 q3 rx ry hgg HCC HX
          have HNXT : Hid (InsAt w0 g A S B (k + 1) w5) := Lib.hid (HST.out l w5 (InsIn.grow hg (InsIn.drew ⟨L' ++ [y], R, by rw [List.length_append, List.length_singleton]; exact HL0.out, HLR.out, HRR.out, by
           have := HSW0.out
           exact this⟩) HB5.out) (fun L2 R2 e1 e2 => by
            have e3 : L2 = L' ++ [y] := by
             have h1 : L2 ++ R2 = (L' ++ [y]) ++ R := e2.trans HLR.out.symm
             exact (List.append_inj h1 (by rw [e1, List.length_append, List.length_singleton]; exact HL0.out.symm)).1
            rw [e3]
            exact last_below (by have := HS1.out; rw [← HLR.out] at this; exact (List.pairwise_append.1 this).1) (elt_of_ge hc HTY.out)))
          have HIB : Hid (i ≤ 4611686018427387904 ∧ i + 1 = a + (k + 1)) := Lib.hid ⟨by omega, by have := HIK.out; omega⟩
          clear q2 q4 q5 q6 ix iy ox oy lx ly
          go_wp2_with fail
          go_roundw
          case rel => exact ⟨k + 1, i + 1, by first | rfl | exact congrArg (Value.int .i64) (wrap64_up i HIB.out.1), HIB.out.2, by omega, .inl hlt, HNXT⟩
          case measure => first | (rw [wrap64_up i HIB.out.1]; show b + 1 - (i + 1) < b + 1 - i; omega) | (show b + 1 - (i + 1) < b + 1 - i; omega)
  · obtain ⟨S1, hp, hs, hS⟩ := HI.out.ex
    have hk2 : S.length ≤ k := by have := HBS.out; have := HA.out; omega
    rw [List.take_of_length_le hk2] at hp
    rw [List.drop_eq_nil_of_le hk2, List.append_nil] at hS
    have HP := Lib.hid hp
    have HS1 := Lib.hid hs
    have HSS := Lib.hid hS
    clear hp hs hS HI hik hib hk2
    go_wp2
    exact bodyPost_end (v := .tuple #[]) (by simp [results, Tryz.f198, go_sem]) rfl ⟨rfl, S1, HP.out, HS1.out, HSS.out⟩
end Go.Proofs.YthigbklhngihkaaGreatDoor.P

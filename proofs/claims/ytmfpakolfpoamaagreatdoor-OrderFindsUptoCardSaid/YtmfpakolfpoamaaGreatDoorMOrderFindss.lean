/- Texts of this claim, one behind the other. -/
import Derived.Test.YtmfpakolfpoamaaGreatDoorMOrderFindsr
import Derived.Deep.RegionHeld3
set_option maxRecDepth 100000
namespace Go.Proofs.YtmfpakolfpoamaaGreatDoor.P
set_option linter.unusedVariables false
set_option linter.unusedSimpArgs false
open Go.RowKit Go.Proofs.YtmfpakolfpoamaaGreatDoorW.PrintWords Go.Proofs.YtmfpakolfpoamaaGreatDoorW.PrintMore Go.Proofs.YtmfpakolfpoamaaGreatDoorW.PrintLast
theorem info_pair : ∀ r : List Value, r.length = 14 → (Tryz.prog.info? 81).map (·.size) = some r.length := fun r hr => by
 rw [hr]; kernel_rfl
theorem swap_step (A X M Y B : List PEl) (i : Nat) (hxy : X.length = Y.length) (hi : i < X.length) :
 A ++ (Y.take i ++ X.drop i) ++ M ++ (X.take i ++ Y.drop i) ++ B = (A ++ Y.take i) ++ X[i] :: ((X.drop (i + 1) ++ M ++ X.take i) ++ Y[i] :: (Y.drop (i + 1) ++ B)) ∧
 A ++ (Y.take (i + 1) ++ X.drop (i + 1)) ++ M ++ (X.take (i + 1) ++ Y.drop (i + 1)) ++ B = (A ++ Y.take i) ++ Y[i] :: ((X.drop (i + 1) ++ M ++ X.take i) ++ X[i] :: (Y.drop (i + 1) ++ B)) := by
 have hiy : i < Y.length := by omega
 constructor
 · rw [List.drop_eq_getElem_cons hi, List.drop_eq_getElem_cons hiy]; simp only [List.append_assoc, List.cons_append]
 · rw [List.take_succ_eq_append_getElem hi, List.take_succ_eq_append_getElem hiy]; simp only [List.append_assoc, List.cons_append, List.nil_append]
set_option maxHeartbeats 1000000 in
theorem swapRange_in (w0 : World) (g : Nat) (A X M Y B : List PEl) (N cap : Nat) (f : Value) (W : World) (hxy : X.length = Y.length) (hN : N = (A ++ X ++ M ++ Y ++ B).length) (hcap : N ≤ 1048576) (h : SW w0 g (A ++ X ++ M ++ Y ++ B) W) :
 Calls Tryz.prog 153 #[.slice (some ⟨g, 0, none⟩) N cap, .int .i64 A.length, .int .i64 (A.length + X.length + M.length : Nat), .int .i64 X.length, f] W fun e w' => e = .returned (.tuple #[]) ∧ SW w0 g (A ++ Y ++ M ++ X ++ B) w' := by
 obtain ⟨a, ha⟩ : ∃ a, a = A.length := ⟨_, rfl⟩
 obtain ⟨n, hn⟩ : ∃ n, n = X.length := ⟨_, rfl⟩
 obtain ⟨b, hb⟩ : ∃ b, b = A.length + X.length + M.length := ⟨_, rfl⟩
 rw [← hb, ← ha, ← hn]
 have hbn : b + n ≤ N := by rw [hN]; simp; omega
 have hab : a + n ≤ b := by omega
 have HXY := Lib.hid hxy
 have HN := Lib.hid hN
 have HA := Lib.hid ha
 have HNX := Lib.hid hn
 have HB := Lib.hid hb
 have H := Lib.hid h
 clear hxy hN ha hn hb h
 go_enter Tryz.func153, Tryz.ntmps153
 go_wp2
 go_loopw [10] (fun vi wr => ∃ i : Nat, i ≤ n ∧ vi = .int .i64 i ∧ Hid (SW w0 g (A ++ (Y.take i ++ X.drop i) ++ M ++ (X.take i ++ Y.drop i) ++ B) wr)) (fun vi _ => n - (intOf vi).toNat)
 case atStart => exact ⟨0, Nat.zero_le _, rfl, Lib.hid (by simpa using H.out)⟩
 case round =>
  obtain ⟨i, hi, rfl, HS⟩ := hrel
  by_cases hlt : i < n
  · have hiX : i < X.length := by rw [← HNX.out]; exact hlt
    have hiY : i < Y.length := by rw [← HXY.out]; exact hiX
    obtain ⟨e1, e2⟩ := swap_step A X M Y B i HXY.out hiX
    have hl1 : (A ++ Y.take i).length = a + i := by rw [List.length_append, List.length_take, HA.out]; omega
    have hl2 : (A ++ Y.take i).length + 1 + (X.drop (i + 1) ++ M ++ X.take i).length = b + i := by rw [hl1, HB.out]; simp only [List.length_append, List.length_drop, List.length_take]; have := HNX.out; have := HA.out; omega
    have hS := HS.out
    rw [e1] at hS
    generalize X[i] = x at *
    generalize Y[i] = y at *
    have hx : ((A ++ Y.take i) ++ x :: ((X.drop (i + 1) ++ M ++ X.take i) ++ y :: (Y.drop (i + 1) ++ B)))[a + i]? = some x := by rw [← hl1]; exact at_head
    have hy : ((A ++ Y.take i) ++ x :: ((X.drop (i + 1) ++ M ++ X.take i) ++ y :: (Y.drop (i + 1) ++ B)))[b + i]? = some y := by rw [← hl2]; exact at_far
    have hsw := hS.drew.swap hx hy (by omega)
    have hset := set_pair (els := (A ++ Y.take i) ++ x :: ((X.drop (i + 1) ++ M ++ X.take i) ++ y :: (Y.drop (i + 1) ++ B))) rfl
    rw [hl2, hl1] at hset
    rw [hset, ← e2] at hsw
    have ra := hS.at_ _ _ hx
    have rb := hS.at_ _ _ hy
    have okx := hS.ok x (by simp)
    have oky := hS.ok y (by simp)
    have ta := there_part hS.there (i := a + i) (List.getElem?_eq_some_iff.1 hx).1
    have tb := there_part hS.there (i := b + i) (List.getElem?_eq_some_iff.1 hy).1
    have lx := okx.len
    have ly := oky.len
    have ox := okx.one
    have oy := oky.one
    have ix := info_pair _ lx
    have iy := info_pair _ ly
    have HSW := Lib.hid hsw
    have HIB : Hid (i ≤ 4611686018427387904) := Lib.hid (by omega)
    have g1 : (0 : Int) ≤ (b : Int) + (i : Int) := by omega
    have g2 : (b : Int) + (i : Int) < (N : Int) := by omega
    have g3 : (0 : Int) ≤ (a : Int) + (i : Int) := by omega
    have g4 : (a : Int) + (i : Int) < (N : Int) := by omega
    have u1 : IntKind.i64.wrap ((b : Int) + (i : Int)) = (b : Int) + (i : Int) := by rw [wrap_in _ (by omega)]
    have u2 : IntKind.i64.wrap ((a : Int) + (i : Int)) = (a : Int) + (i : Int) := by rw [wrap_in _ (by omega)]
    have t1 : ((b : Int) + (i : Int)).toNat = b + i := by omega
    have t2 : ((a : Int) + (i : Int)).toNat = a + i := by omega
    have hap : b + i ≠ a + i := by omega
    have hap2 : (a + i) * 14 + 14 ≤ (b + i) * 14 := by omega
    have hu := Tryz.underlying81
    clear e1 e2 hl1 hl2 hS hx hy hsw hset okx oky HS hiX hiY
    go_upto_region 3 with (fail)
    have ra := (World.rangeAt_drew wr _ _ _).2 ra
    have rb := (World.rangeAt_drew wr _ _ _).2 rb
    have ta := (World.there_drew wr _ _ _).2 ta
    have tb2 := World.there_setCells ((World.there_drew wr _ _ _).2 tb) g ((a + i) * 14) y.row
    refine wp_region_any (by kernel_rfl) ?_
    change wpAny _ _ _ _ _ _ _ (World.drew _)
    refine wpAny_take (i := 0) (v := ?v_0) rfl (by kernel_rfl) (by kernel_rfl) (by kernel_rfl) (fun _ _ _ h => h) (Or.inl ⟨by rfl, ?hy_0⟩) ?rest_0
    case hy_0 => (intro w_; go_simp; try with_reducible rfl)
    simp only [Act.put, List.getElem_toArray, List.getElem_cons_zero, List.getElem_cons_succ, List.setIfInBounds_toArray, List.set_cons_zero, List.set_cons_succ]
    refine wpAny_take (i := 1) (v := ?v_1) rfl (by kernel_rfl) (by kernel_rfl) (by kernel_rfl) (fun _ _ _ h => h) (Or.inl ⟨by rfl, ?hy_1⟩) ?rest_1
    case hy_1 => (intro w_; go_simp; try with_reducible rfl)
    simp only [Act.put, List.getElem_toArray, List.getElem_cons_zero, List.getElem_cons_succ, List.setIfInBounds_toArray, List.set_cons_zero, List.set_cons_succ]
    refine wpAny_take (i := 2) (v := ?v_2) rfl (by kernel_rfl) (by kernel_rfl) (by kernel_rfl) (fun _ _ _ h => h) (Or.inl ⟨by rfl, ?hy_2⟩) ?rest_2
    case hy_2 => (intro w_; go_simp; try with_reducible rfl)
    simp only [Act.put, List.getElem_toArray, List.getElem_cons_zero, List.getElem_cons_succ, List.setIfInBounds_toArray, List.set_cons_zero, List.set_cons_succ]
    refine wpAny_take (i := 3) (v := ?v_3) rfl (by kernel_rfl) (by kernel_rfl) (by kernel_rfl) (fun _ _ _ h => h) (Or.inl ⟨by rfl, ?hy_3⟩) ?rest_3
    case hy_3 => (intro w_; go_simp; try with_reducible rfl)
    simp only [Act.put, List.getElem_toArray, List.getElem_cons_zero, List.getElem_cons_succ, List.setIfInBounds_toArray, List.set_cons_zero, List.set_cons_succ]
    refine wpAny_take (i := 4) (v := ?v_4) rfl (by kernel_rfl) (by kernel_rfl) (by kernel_rfl) (fun _ _ _ h => h) (Or.inl ⟨by rfl, ?hy_4⟩) ?rest_4
    case hy_4 => (intro w_; go_simp; try with_reducible rfl)
    simp only [Act.put, List.getElem_toArray, List.getElem_cons_zero, List.getElem_cons_succ, List.setIfInBounds_toArray, List.set_cons_zero, List.set_cons_succ]
    refine wpAny_take (i := 5) (v := ?v_5) rfl (by kernel_rfl) (by kernel_rfl) (by kernel_rfl) (fun _ _ _ h => h) (Or.inl ⟨by rfl, ?hy_5⟩) ?rest_5
    case hy_5 => (intro w_; go_simp; try with_reducible rfl)
    simp only [Act.put, List.getElem_toArray, List.getElem_cons_zero, List.getElem_cons_succ, List.setIfInBounds_toArray, List.set_cons_zero, List.set_cons_succ]
    refine wpAny_take (i := 6) (v := ?v_6) rfl (by kernel_rfl) (by kernel_rfl) (by kernel_rfl) (fun _ _ _ h => h) (Or.inl ⟨by rfl, ?hy_6⟩) ?rest_6
    case hy_6 => (intro w_; go_simp; try with_reducible rfl)
    simp only [Act.put, List.getElem_toArray, List.getElem_cons_zero, List.getElem_cons_succ, List.setIfInBounds_toArray, List.set_cons_zero, List.set_cons_succ]
    refine wpAny_take (i := 7) (v := ?v_7) rfl (by kernel_rfl) (by kernel_rfl) (by kernel_rfl) (fun _ _ _ h => h) (Or.inl ⟨by rfl, ?hy_7⟩) ?rest_7
    case hy_7 => (intro w_; go_simp; try with_reducible rfl)
    simp only [Act.put, List.getElem_toArray, List.getElem_cons_zero, List.getElem_cons_succ, List.setIfInBounds_toArray, List.set_cons_zero, List.set_cons_succ]
    refine wpAny_take (i := 8) (v := ?v_8) rfl (by kernel_rfl) (by kernel_rfl) (by kernel_rfl) (fun _ _ _ h => h) (Or.inl ⟨by rfl, ?hy_8⟩) ?rest_8
    case hy_8 => (intro w_; go_simp; try with_reducible rfl)
    simp only [Act.put, List.getElem_toArray, List.getElem_cons_zero, List.getElem_cons_succ, List.setIfInBounds_toArray, List.set_cons_zero, List.set_cons_succ]
    refine wpAny_take (i := 9) (v := ?v_9) rfl (by kernel_rfl) (by kernel_rfl) (by kernel_rfl) (fun _ _ _ h => h) (Or.inl ⟨by rfl, ?hy_9⟩) ?rest_9
    case hy_9 => (intro w_; go_simp; try with_reducible rfl)
    simp only [Act.put, List.getElem_toArray, List.getElem_cons_zero, List.getElem_cons_succ, List.setIfInBounds_toArray, List.set_cons_zero, List.set_cons_succ]
    refine wpAny_take (i := 10) (v := ?v_10) rfl (by kernel_rfl) (by kernel_rfl) (by kernel_rfl) (fun _ _ _ h => h) (Or.inl ⟨by rfl, ?hy_10⟩) ?rest_10
    case hy_10 => (intro w_; go_simp; try with_reducible rfl)
    simp only [Act.put, List.getElem_toArray, List.getElem_cons_zero, List.getElem_cons_succ, List.setIfInBounds_toArray, List.set_cons_zero, List.set_cons_succ]
    refine wpAny_take (i := 11) (v := ?v_11) rfl (by kernel_rfl) (by kernel_rfl) (by kernel_rfl) (fun _ _ _ h => h) (Or.inl ⟨by rfl, ?hy_11⟩) ?rest_11
    case hy_11 => (intro w_; go_simp; try with_reducible rfl)
    simp only [Act.put, List.getElem_toArray, List.getElem_cons_zero, List.getElem_cons_succ, List.setIfInBounds_toArray, List.set_cons_zero, List.set_cons_succ]
    refine wpAny_take (i := 12) (v := ?v_12) rfl (by kernel_rfl) (by kernel_rfl) (by kernel_rfl) (fun _ _ _ h => h) (Or.inl ⟨by rfl, ?hy_12⟩) ?rest_12
    case hy_12 => (intro w_; go_simp; try with_reducible rfl)
    simp only [Act.put, List.getElem_toArray, List.getElem_cons_zero, List.getElem_cons_succ, List.setIfInBounds_toArray, List.set_cons_zero, List.set_cons_succ]
    refine wpAny_take (i := 14) (v := ?v_13) rfl (by kernel_rfl) (by kernel_rfl) (by kernel_rfl) (fun _ _ _ h => h) (Or.inl ⟨by rfl, ?hy_13⟩) ?rest_13
    case hy_13 => (intro w_; go_simp; try with_reducible rfl)
    simp only [Act.put, List.getElem_toArray, List.getElem_cons_zero, List.getElem_cons_succ, List.setIfInBounds_toArray, List.set_cons_zero, List.set_cons_succ]
    refine wpAny_take (i := 15) (v := ?v_14) rfl (by kernel_rfl) (by kernel_rfl) (by kernel_rfl) (fun _ _ _ h => h) (Or.inl ⟨by rfl, ?hy_14⟩) ?rest_14
    case hy_14 => (intro w_; go_simp; try with_reducible rfl)
    simp only [Act.put, List.getElem_toArray, List.getElem_cons_zero, List.getElem_cons_succ, List.setIfInBounds_toArray, List.set_cons_zero, List.set_cons_succ]
    refine wpAny_take (i := 16) (v := ?v_15) rfl (by kernel_rfl) (by kernel_rfl) (by kernel_rfl) (fun _ _ _ h => h) (Or.inl ⟨by rfl, ?hy_15⟩) ?rest_15
    case hy_15 => (intro w_; go_simp; try with_reducible rfl)
    simp only [Act.put, List.getElem_toArray, List.getElem_cons_zero, List.getElem_cons_succ, List.setIfInBounds_toArray, List.set_cons_zero, List.set_cons_succ]
    refine wpAny_take (i := 17) (v := ?v_16) rfl (by kernel_rfl) (by kernel_rfl) (by kernel_rfl) (fun _ _ _ h => h) (Or.inl ⟨by rfl, ?hy_16⟩) ?rest_16
    case hy_16 => (intro w_; go_simp; try with_reducible rfl)
    simp only [Act.put, List.getElem_toArray, List.getElem_cons_zero, List.getElem_cons_succ, List.setIfInBounds_toArray, List.set_cons_zero, List.set_cons_succ]
    refine wpAny_take (i := 18) (v := ?v_17) rfl (by kernel_rfl) (by kernel_rfl) (by kernel_rfl) (fun _ _ _ h => h) (Or.inl ⟨by rfl, ?hy_17⟩) ?rest_17
    case hy_17 => (intro w_; go_simp; try with_reducible rfl)
    simp only [Act.put, List.getElem_toArray, List.getElem_cons_zero, List.getElem_cons_succ, List.setIfInBounds_toArray, List.set_cons_zero, List.set_cons_succ]
    refine wpAny_ready (rs := [13, 19]) (by kernel_rfl) (by simp) ?_
    refine (AllReady.cons (o := { dst := some 29, op := Op.load 81 (Operand.tmp 28), type := 81, pos := "zsortanyfunc.go:331", after := #[{ on := 12, ground := Ground.data }], guard := none }) rfl (fun K_ hK_ => ?_) (AllReady.cons (o := { dst := some 35, op := Op.load 81 (Operand.tmp 34), type := 81, pos := "zsortanyfunc.go:331", after := #[{ on := 18, ground := Ground.data }], guard := none }) rfl (fun K_ hK_ => ?_) AllReady.nil))
    rw [if_pos (by rfl)]
    refine' wp_load_mid _ _ rfl _ _ rfl _ _ ?hc_18 ?hu_18 ?hd_18 ?hi_18 ?rest_18
    case hc_18 => exact rb
    case hu_18 => exact hu
    case hd_18 => rfl
    case hi_18 => exact iy
    simp only [Act.put, List.getElem_toArray, List.getElem_cons_zero, List.getElem_cons_succ, List.setIfInBounds_toArray, List.set_cons_zero, List.set_cons_succ]
    refine hK_ _ _ ?_
    clear hK_ K_
    refine wpAny_ready (rs := [19]) (by kernel_rfl) (by simp) ?_
    refine (AllReady.cons (o := { dst := some 35, op := Op.load 81 (Operand.tmp 34), type := 81, pos := "zsortanyfunc.go:331", after := #[{ on := 18, ground := Ground.data }], guard := none }) rfl (fun K_ hK_ => ?_) AllReady.nil)
    rw [if_pos (by rfl)]
    refine' wp_load_mid _ _ rfl _ _ rfl _ _ ?hc_19 ?hu_19 ?hd_19 ?hi_19 ?rest_19
    case hc_19 => exact ra
    case hu_19 => exact hu
    case hd_19 => rfl
    case hi_19 => exact ix
    simp only [Act.put, List.getElem_toArray, List.getElem_cons_zero, List.getElem_cons_succ, List.setIfInBounds_toArray, List.set_cons_zero, List.set_cons_succ]
    refine hK_ _ _ ?_
    clear hK_ K_
    refine wpAny_take (i := 20) (v := ?v_20) rfl (by kernel_rfl) (by kernel_rfl) (by kernel_rfl) (fun _ _ _ h => h) (Or.inl ⟨by rfl, ?hy_20⟩) ?rest_20
    case hy_20 => (intro w_; go_simp; try with_reducible rfl)
    simp only [Act.put, List.getElem_toArray, List.getElem_cons_zero, List.getElem_cons_succ, List.setIfInBounds_toArray, List.set_cons_zero, List.set_cons_succ]
    refine wpAny_ready (rs := [21]) (by kernel_rfl) (by simp) ?_
    refine (AllReady.cons (o := { dst := none, op := Op.store 81 (Operand.tmp 36) (Operand.tmp 29), type := 0, pos := "zsortanyfunc.go:331", after := #[{ on := 20, ground := Ground.data }, { on := 13, ground := Ground.data }, { on := 0, ground := Ground.phase }, { on := 1, ground := Ground.phase }, { on := 2, ground := Ground.phase }, { on := 3, ground := Ground.phase }, { on := 4, ground := Ground.textOnly Departure.lateStores }, { on := 5, ground := Ground.textOnly Departure.lateStores }, { on := 6, ground := Ground.textOnly Departure.lateStores }, { on := 7, ground := Ground.textOnly Departure.lateStores }, { on := 8, ground := Ground.phase }, { on := 9, ground := Ground.phase }, { on := 10, ground := Ground.phase }, { on := 11, ground := Ground.phase }, { on := 12, ground := Ground.phase }, { on := 13, ground := Ground.phase }, { on := 14, ground := Ground.textOnly Departure.lateStores }, { on := 15, ground := Ground.textOnly Departure.lateStores }, { on := 16, ground := Ground.textOnly Departure.lateStores }, { on := 17, ground := Ground.textOnly Departure.lateStores }, { on := 18, ground := Ground.textOnly Departure.lateStoresUnsure }, { on := 19, ground := Ground.phase }], guard := none }) rfl (fun K_ hK_ => ?_) AllReady.nil)
    rw [if_pos (by rfl)]
    refine wp_store_mid _ _ _ rfl _ _ (List.toArray _) rfl rfl ?hc_21 ?hi_21 (all_oneCell_toArray oy) ?rest_21
    case hc_21 => (rw [List.size_toArray, ly]; exact ta)
    case hi_21 => (rw [List.size_toArray]; exact iy)
    simp only [Act.put, List.getElem_toArray, List.getElem_cons_zero, List.getElem_cons_succ, List.setIfInBounds_toArray, List.set_cons_zero, List.set_cons_succ, List.toList_toArray]
    refine hK_ _ _ ?_
    clear hK_ K_
    refine wpAny_take (i := 22) (v := ?v_22) rfl (by kernel_rfl) (by kernel_rfl) (by kernel_rfl) (fun _ _ _ h => h) (Or.inl ⟨by rfl, ?hy_22⟩) ?rest_22
    case hy_22 => (intro w_; go_simp; try with_reducible rfl)
    simp only [Act.put, List.getElem_toArray, List.getElem_cons_zero, List.getElem_cons_succ, List.setIfInBounds_toArray, List.set_cons_zero, List.set_cons_succ]
    refine wpAny_ready (rs := [23]) (by kernel_rfl) (by simp) ?_
    refine (AllReady.cons (o := { dst := none, op := Op.store 81 (Operand.tmp 37) (Operand.tmp 35), type := 0, pos := "zsortanyfunc.go:331", after := #[{ on := 22, ground := Ground.data }, { on := 19, ground := Ground.data }, { on := 21, ground := Ground.chain }, { on := 0, ground := Ground.phase }, { on := 1, ground := Ground.phase }, { on := 2, ground := Ground.phase }, { on := 3, ground := Ground.phase }, { on := 4, ground := Ground.phase }, { on := 5, ground := Ground.phase }, { on := 6, ground := Ground.phase }, { on := 7, ground := Ground.phase }, { on := 8, ground := Ground.phase }, { on := 9, ground := Ground.phase }, { on := 10, ground := Ground.phase }, { on := 11, ground := Ground.phase }, { on := 12, ground := Ground.phase }, { on := 13, ground := Ground.phase }, { on := 14, ground := Ground.phase }, { on := 15, ground := Ground.phase }, { on := 16, ground := Ground.phase }, { on := 17, ground := Ground.phase }, { on := 18, ground := Ground.phase }, { on := 19, ground := Ground.phase }, { on := 20, ground := Ground.phase }, { on := 21, ground := Ground.phase }], guard := none }) rfl (fun K_ hK_ => ?_) AllReady.nil)
    rw [if_pos (by rfl)]
    refine wp_store_mid _ _ _ rfl _ _ (List.toArray _) rfl rfl ?hc_23 ?hi_23 (all_oneCell_toArray ox) ?rest_23
    case hc_23 => (rw [List.size_toArray, lx]; exact tb2)
    case hi_23 => (rw [List.size_toArray]; exact ix)
    simp only [Act.put, List.getElem_toArray, List.getElem_cons_zero, List.getElem_cons_succ, List.setIfInBounds_toArray, List.set_cons_zero, List.set_cons_succ, List.toList_toArray]
    refine hK_ _ _ ?_
    clear hK_ K_
    refine wpAny_done (by kernel_rfl) ?_ _
    rotate_left
    rw [if_pos (by rfl)]
    refine' wp_load_mid _ _ rfl _ _ rfl _ _ ?hc_24 ?hu_24 ?hd_24 ?hi_24 ?rest_24
    case hc_24 => exact ra
    case hu_24 => exact hu
    case hd_24 => rfl
    case hi_24 => exact ix
    simp only [Act.put, List.getElem_toArray, List.getElem_cons_zero, List.getElem_cons_succ, List.setIfInBounds_toArray, List.set_cons_zero, List.set_cons_succ]
    refine hK_ _ _ ?_
    clear hK_ K_
    refine wpAny_ready (rs := [13]) (by kernel_rfl) (by simp) ?_
    refine (AllReady.cons (o := { dst := some 29, op := Op.load 81 (Operand.tmp 28), type := 81, pos := "zsortanyfunc.go:331", after := #[{ on := 12, ground := Ground.data }], guard := none }) rfl (fun K_ hK_ => ?_) AllReady.nil)
    rw [if_pos (by rfl)]
    refine' wp_load_mid _ _ rfl _ _ rfl _ _ ?hc_25 ?hu_25 ?hd_25 ?hi_25 ?rest_25
    case hc_25 => exact rb
    case hu_25 => exact hu
    case hd_25 => rfl
    case hi_25 => exact iy
    simp only [Act.put, List.getElem_toArray, List.getElem_cons_zero, List.getElem_cons_succ, List.setIfInBounds_toArray, List.set_cons_zero, List.set_cons_succ]
    refine hK_ _ _ ?_
    clear hK_ K_
    refine wpAny_take (i := 20) (v := ?v_26) rfl (by kernel_rfl) (by kernel_rfl) (by kernel_rfl) (fun _ _ _ h => h) (Or.inl ⟨by rfl, ?hy_26⟩) ?rest_26
    case hy_26 => (intro w_; go_simp; try with_reducible rfl)
    simp only [Act.put, List.getElem_toArray, List.getElem_cons_zero, List.getElem_cons_succ, List.setIfInBounds_toArray, List.set_cons_zero, List.set_cons_succ]
    refine wpAny_ready (rs := [21]) (by kernel_rfl) (by simp) ?_
    refine (AllReady.cons (o := { dst := none, op := Op.store 81 (Operand.tmp 36) (Operand.tmp 29), type := 0, pos := "zsortanyfunc.go:331", after := #[{ on := 20, ground := Ground.data }, { on := 13, ground := Ground.data }, { on := 0, ground := Ground.phase }, { on := 1, ground := Ground.phase }, { on := 2, ground := Ground.phase }, { on := 3, ground := Ground.phase }, { on := 4, ground := Ground.textOnly Departure.lateStores }, { on := 5, ground := Ground.textOnly Departure.lateStores }, { on := 6, ground := Ground.textOnly Departure.lateStores }, { on := 7, ground := Ground.textOnly Departure.lateStores }, { on := 8, ground := Ground.phase }, { on := 9, ground := Ground.phase }, { on := 10, ground := Ground.phase }, { on := 11, ground := Ground.phase }, { on := 12, ground := Ground.phase }, { on := 13, ground := Ground.phase }, { on := 14, ground := Ground.textOnly Departure.lateStores }, { on := 15, ground := Ground.textOnly Departure.lateStores }, { on := 16, ground := Ground.textOnly Departure.lateStores }, { on := 17, ground := Ground.textOnly Departure.lateStores }, { on := 18, ground := Ground.textOnly Departure.lateStoresUnsure }, { on := 19, ground := Ground.phase }], guard := none }) rfl (fun K_ hK_ => ?_) AllReady.nil)
    rw [if_pos (by rfl)]
    refine wp_store_mid _ _ _ rfl _ _ (List.toArray _) rfl rfl ?hc_27 ?hi_27 (all_oneCell_toArray oy) ?rest_27
    case hc_27 => (rw [List.size_toArray, ly]; exact ta)
    case hi_27 => (rw [List.size_toArray]; exact iy)
    simp only [Act.put, List.getElem_toArray, List.getElem_cons_zero, List.getElem_cons_succ, List.setIfInBounds_toArray, List.set_cons_zero, List.set_cons_succ, List.toList_toArray]
    refine hK_ _ _ ?_
    clear hK_ K_
    refine wpAny_take (i := 22) (v := ?v_28) rfl (by kernel_rfl) (by kernel_rfl) (by kernel_rfl) (fun _ _ _ h => h) (Or.inl ⟨by rfl, ?hy_28⟩) ?rest_28
    case hy_28 => (intro w_; go_simp; try with_reducible rfl)
    simp only [Act.put, List.getElem_toArray, List.getElem_cons_zero, List.getElem_cons_succ, List.setIfInBounds_toArray, List.set_cons_zero, List.set_cons_succ]
    refine wpAny_ready (rs := [23]) (by kernel_rfl) (by simp) ?_
    refine (AllReady.cons (o := { dst := none, op := Op.store 81 (Operand.tmp 37) (Operand.tmp 35), type := 0, pos := "zsortanyfunc.go:331", after := #[{ on := 22, ground := Ground.data }, { on := 19, ground := Ground.data }, { on := 21, ground := Ground.chain }, { on := 0, ground := Ground.phase }, { on := 1, ground := Ground.phase }, { on := 2, ground := Ground.phase }, { on := 3, ground := Ground.phase }, { on := 4, ground := Ground.phase }, { on := 5, ground := Ground.phase }, { on := 6, ground := Ground.phase }, { on := 7, ground := Ground.phase }, { on := 8, ground := Ground.phase }, { on := 9, ground := Ground.phase }, { on := 10, ground := Ground.phase }, { on := 11, ground := Ground.phase }, { on := 12, ground := Ground.phase }, { on := 13, ground := Ground.phase }, { on := 14, ground := Ground.phase }, { on := 15, ground := Ground.phase }, { on := 16, ground := Ground.phase }, { on := 17, ground := Ground.phase }, { on := 18, ground := Ground.phase }, { on := 19, ground := Ground.phase }, { on := 20, ground := Ground.phase }, { on := 21, ground := Ground.phase }], guard := none }) rfl (fun K_ hK_ => ?_) AllReady.nil)
    rw [if_pos (by rfl)]
    refine wp_store_mid _ _ _ rfl _ _ (List.toArray _) rfl rfl ?hc_29 ?hi_29 (all_oneCell_toArray ox) ?rest_29
    case hc_29 => (rw [List.size_toArray, lx]; exact tb2)
    case hi_29 => (rw [List.size_toArray]; exact ix)
    simp only [Act.put, List.getElem_toArray, List.getElem_cons_zero, List.getElem_cons_succ, List.setIfInBounds_toArray, List.set_cons_zero, List.set_cons_succ, List.toList_toArray]
    refine hK_ _ _ ?_
    clear hK_ K_
    refine wpAny_done (by kernel_rfl) ?_ _
    rotate_left
    all_goals
     clear ra rb ta tb tb2 ix iy ox oy lx ly hu g1 g2 g3 g4 u1 u2 t1 t2 hap hap2
     have hsw := HSW.out
     generalize (wr.drew.setCells g ((a + i) * 14) y.row).setCells g ((b + i) * 14) x.row = W9 at hsw ⊢
     have HS9 := Lib.hid hsw
     clear hsw HSW
     go_wp2_with fail
     go_roundw
     case rel => exact ⟨i + 1, hlt, by first | rfl | exact congrArg (Value.int .i64) (wrap64_up i HIB.out), HS9⟩
     case measure => first | (rw [wrap64_up i HIB.out]; show n - (i + 1) < n - i; omega) | (show n - (i + 1) < n - i; omega)
  · obtain rfl : i = n := by omega
    have hS := HS.out
    rw [show Y.take i = Y by rw [HNX.out, HXY.out, List.take_length], show X.drop i = [] by rw [HNX.out, List.drop_length], show X.take i = X by rw [HNX.out, List.take_length], show Y.drop i = [] by rw [HNX.out, HXY.out, List.drop_length], List.append_nil, List.append_nil] at hS
    have HS9 := Lib.hid hS
    clear hS HS
    go_wp2
    refine bodyPost_end (v := .tuple #[]) (by simp [results, Tryz.f153, go_sem]) rfl ⟨rfl, HS9.out⟩
set_option maxHeartbeats 1000000 in
theorem rotate_in (w0 : World) (g : Nat) (A X Y B : List PEl) (N cap : Nat) (f : Value) (W : World) (hX : X ≠ []) (hY : Y ≠ []) (hN : N = (A ++ X ++ Y ++ B).length) (hcap : N ≤ 1048576) (h : SW w0 g (A ++ X ++ Y ++ B) W) :
 Calls Tryz.prog 139 #[.slice (some ⟨g, 0, none⟩) N cap, .int .i64 A.length, .int .i64 (A.length + X.length : Nat), .int .i64 (A.length + X.length + Y.length : Nat), f] W fun e w' => e = .returned (.tuple #[]) ∧ SW w0 g (A ++ Y ++ X ++ B) w' := by
 obtain ⟨a, ha⟩ : ∃ a, a = A.length := ⟨_, rfl⟩
 obtain ⟨m, hm⟩ : ∃ m, m = A.length + X.length := ⟨_, rfl⟩
 obtain ⟨b, hb⟩ : ∃ b, b = A.length + X.length + Y.length := ⟨_, rfl⟩
 have hlx : 0 < X.length := List.length_pos_iff.2 hX
 have hly : 0 < Y.length := List.length_pos_iff.2 hY
 rw [← hb, ← hm, ← ha]
 have hbN : b ≤ N := by rw [hN]; simp; omega
 have ham : a ≤ m := by omega
 have hmb : m ≤ b := by omega
 have hi0 : (m : Int) - (a : Int) = (X.length : Int) := by omega
 have hj0 : (b : Int) - (m : Int) = (Y.length : Int) := by omega
 have HA := Lib.hid ha
 have HM := Lib.hid hm
 have HN := Lib.hid hN
 have H := Lib.hid h
 have HLX := Lib.hid hlx
 have HLY := Lib.hid hly
 clear hN ha hm hb h hX hY hlx hly
 go_enter Tryz.func139, Tryz.ntmps139
 go_wp2
 go_loopw [10, 11] (fun vi vj wr => ∃ (A' X' Y' B' : List PEl) (i j : Nat), vi = .int .i64 i ∧ vj = .int .i64 j ∧ 1 ≤ i ∧ 1 ≤ j ∧ i ≤ m ∧ m + j ≤ N ∧ Hid (X'.length = i ∧ Y'.length = j ∧ A'.length + i = m) ∧ Hid (A' ++ Y' ++ X' ++ B' = A ++ Y ++ X ++ B) ∧ Hid (SW w0 g (A' ++ X' ++ Y' ++ B') wr) ∧ Hid (N = (A' ++ X' ++ Y' ++ B').length)) (fun vi vj _ => (intOf vi).toNat + (intOf vj).toNat)
 case atStart => exact ⟨A, X, Y, B, X.length, Y.length, by first | rfl | simp [hi0], by first | rfl | simp [hj0], HLX.out, HLY.out, by omega, by omega, Lib.hid ⟨rfl, rfl, HM.out.symm⟩, Lib.hid rfl, H, HN⟩
 case round =>
  obtain ⟨A', X', Y', B', i, j, rfl, rfl, hi1, hj1, him, hjN, HL, HE, HS, HNN⟩ := hrel
  obtain ⟨l1, l2, l3⟩ := HL.out
  have g1 : (0 : Int) ≤ (m : Int) - (i : Int) := by omega
  by_cases hij : i = j
  · subst hij
    have hC := swapRange_in w0 g A' X' [] Y' B' N cap f wr (by omega) (by rw [List.append_nil]; exact HNN.out) hcap (by rw [List.append_nil]; exact HS.out)
    rw [List.append_nil, HE.out, l1, show ((A'.length : Nat) : Int) = (m : Int) - (i : Int) by omega, show A'.length + i + ([] : List PEl).length = m by simp; omega] at hC
    have HC := Lib.hid hC
    clear hC l1 l2 l3
    go_wp2_with (first | (go_at_call 153; (with_reducible refine HC.out.mono ?_); rintro e w2 ⟨rfl, hS2⟩))
    refine bodyPost_end (v := .tuple #[]) (by simp [results, Tryz.f139, go_sem]) rfl ⟨rfl, hS2⟩
  · by_cases hgt : j < i
    · have hb1 : ((i : Int) == (j : Int)) = false := by simp; omega
      have hne : ((i : Int) != (j : Int)) = true := by simp; omega
      have hgi : (j : Int) < (i : Int) := by omega
      have hs1 : (i : Int) - (j : Int) = ((i - j : Nat) : Int) := by omega
      have hpq : X' = X'.take j ++ X'.drop j := (List.take_append_drop _ _).symm
      have hlp : (X'.take j).length = j := by rw [List.length_take]; omega
      have hlq : (X'.drop j).length = i - j := by rw [List.length_drop]; omega
      have hC := swapRange_in w0 g A' (X'.take j) (X'.drop j) Y' B' N cap f wr (by omega) (by have := HNN.out; rw [hpq] at this; simpa using this) hcap (by have := HS.out; rw [hpq] at this; simpa using this)
      rw [hlp, hlq, show A'.length + j + (i - j) = m by omega, show ((A'.length : Nat) : Int) = (m : Int) - (i : Int) by omega] at hC
      have HC := Lib.hid hC
      have HR : Hid (∀ w2, SW w0 g (A' ++ Y' ++ X'.drop j ++ X'.take j ++ B') w2 → ∃ (A2 X2 Y2 B2 : List PEl), Hid (X2.length = i - j ∧ Y2.length = j ∧ A2.length + (i - j) = m) ∧ Hid (A2 ++ Y2 ++ X2 ++ B2 = A ++ Y ++ X ++ B) ∧ Hid (SW w0 g (A2 ++ X2 ++ Y2 ++ B2) w2) ∧ Hid (N = (A2 ++ X2 ++ Y2 ++ B2).length)) := Lib.hid (fun w2 h2 => ⟨A' ++ Y', X'.drop j, X'.take j, B', Lib.hid ⟨hlq, hlp, by rw [List.length_append]; omega⟩, Lib.hid (by
       have := HE.out
       rw [hpq] at this
       simpa using this), Lib.hid h2, Lib.hid (by
       have := HNN.out
       simp only [List.length_append, hlp, hlq] at this ⊢
       omega)⟩)
      clear hC l1 l2 l3 hpq hlp hlq
      go_wp2_with (first | (go_at_call 153; (with_reducible refine HC.out.mono ?_); rintro e w2 ⟨rfl, hS2⟩; have HS2 := Lib.hid hS2; clear hS2))
      go_roundw
      case rel =>
       obtain ⟨A2, X2, Y2, B2, r1, r2, r3, r4⟩ := HR.out _ HS2.out
       exact ⟨A2, X2, Y2, B2, i - j, j, by first | rfl | (rw [hs1]), rfl, by omega, by omega, by omega, by omega, r1, r2, r3, r4⟩
      case measure => show (i - j) + j < i + j; omega
    · have hb1 : ((i : Int) == (j : Int)) = false := by simp; omega
      have hne : ((i : Int) != (j : Int)) = true := by simp; omega
      have hgi : ¬ (j : Int) < (i : Int) := by omega
      have hs1 : (j : Int) - (i : Int) = ((j - i : Nat) : Int) := by omega
      have hpq : Y' = Y'.take (j - i) ++ Y'.drop (j - i) := (List.take_append_drop _ _).symm
      have hlp : (Y'.take (j - i)).length = j - i := by rw [List.length_take]; omega
      have hlq : (Y'.drop (j - i)).length = i := by rw [List.length_drop]; omega
      have hC := swapRange_in w0 g A' X' (Y'.take (j - i)) (Y'.drop (j - i)) B' N cap f wr (by omega) (by have := HNN.out; rw [hpq] at this; simpa using this) hcap (by have := HS.out; rw [hpq] at this; simpa using this)
      rw [hlp, l1, show ((A'.length + i + (j - i) : Nat) : Int) = (m : Int) + (j : Int) - (i : Int) by omega, show ((A'.length : Nat) : Int) = (m : Int) - (i : Int) by omega] at hC
      have HC := Lib.hid hC
      have g2 : (m : Int) + (j : Int) ≤ 1048576 := by omega
      have HR : Hid (∀ w2, SW w0 g (A' ++ Y'.drop (j - i) ++ Y'.take (j - i) ++ X' ++ B') w2 → ∃ (A2 X2 Y2 B2 : List PEl), Hid (X2.length = i ∧ Y2.length = j - i ∧ A2.length + i = m) ∧ Hid (A2 ++ Y2 ++ X2 ++ B2 = A ++ Y ++ X ++ B) ∧ Hid (SW w0 g (A2 ++ X2 ++ Y2 ++ B2) w2) ∧ Hid (N = (A2 ++ X2 ++ Y2 ++ B2).length)) := Lib.hid (fun w2 h2 => ⟨A', Y'.drop (j - i), Y'.take (j - i), X' ++ B', Lib.hid ⟨hlq, hlp, l3⟩, Lib.hid (by
       have := HE.out
       rw [hpq] at this
       simpa using this), Lib.hid (by simpa using h2), Lib.hid (by
       have := HNN.out
       simp only [List.length_append, hlp, hlq] at this ⊢
       omega)⟩)
      clear hC l1 l2 l3 hpq hlp hlq
      go_wp2_with (first | (go_at_call 153; (with_reducible refine HC.out.mono ?_); rintro e w2 ⟨rfl, hS2⟩; have HS2 := Lib.hid hS2; clear hS2))
      go_roundw
      case rel =>
       obtain ⟨A2, X2, Y2, B2, r1, r2, r3, r4⟩ := HR.out _ HS2.out
       exact ⟨A2, X2, Y2, B2, i, j - i, rfl, by first | rfl | (rw [hs1]), by omega, by omega, by omega, by omega, r1, r2, r3, r4⟩
      case measure => show i + (j - i) < i + j; omega
def CmpIn (w0 : World) (g cb : Nat) (U : PEl → Prop) : Prop := ∀ W, KeepG w0 g W → ∀ x y, U x → U y → Calls Tryz.prog 74 #[.agg x.row.toArray, .agg y.row.toArray, .pointer (some ⟨cb, 0, none⟩)] W fun e w' => e = .returned (.int .i64 (vord x.key y.key)) ∧ Below W.heap.size W w'
theorem sorted_mid {L R : List PEl} {x : PEl} (h : (L ++ R).Pairwise elt) (hl : ∀ y ∈ L, elt y x) (hr : ∀ y ∈ R, elt x y) : (L ++ x :: R).Pairwise elt := by
 rw [List.pairwise_append] at h ⊢
 refine ⟨h.1, List.pairwise_cons.2 ⟨hr, h.2.1⟩, fun a ha b hb => ?_⟩
 rcases List.mem_cons.1 hb with rfl | hb
 · exact hl a ha
 · exact h.2.2 a ha b hb
theorem last_below {L : List PEl} {x y : PEl} (h : (L ++ [y]).Pairwise elt) (hy : elt y x) : ∀ z ∈ L ++ [y], elt z x := fun z hz => by
 rcases List.mem_append.1 hz with hz | hz
 · exact elt_trans ((List.pairwise_append.1 h).2.2 z hz y List.mem_cons_self) hy
 · rw [List.mem_singleton.1 hz]; exact hy
structure InsAt (w0 : World) (g : Nat) (A S B : List PEl) (k : Nat) (W : World) : Prop where
 ex : ∃ S1 : List PEl, S1.Perm (S.take k) ∧ S1.Pairwise elt ∧ SW w0 g (A ++ S1 ++ S.drop k ++ B) W
structure InsIn (w0 : World) (g : Nat) (A S1 T : List PEl) (x : PEl) (l : Nat) (W : World) : Prop where
 ex : ∃ L R : List PEl, L.length = l ∧ L ++ R = S1 ∧ (∀ r ∈ R, elt x r) ∧ SW w0 g (A ++ L ++ x :: R ++ T) W
theorem InsIn.stop {w0 : World} {g : Nat} {A S S1 B : List PEl} {k l : Nat} {W : World} (hk : k < S.length) (hp : S1.Perm (S.take k)) (hs : S1.Pairwise elt) (h : InsIn w0 g A S1 (S.drop (k + 1) ++ B) S[k] l W)
 (hstop : ∀ L R : List PEl, L.length = l → L ++ R = S1 → ∀ y ∈ L, elt y S[k]) : InsAt w0 g A S B (k + 1) W := by
 obtain ⟨L, R, h1, h2, h3, h4⟩ := h.ex
 refine ⟨L ++ S[k] :: R, ?_, sorted_mid (by rw [h2]; exact hs) (hstop L R h1 h2) h3, by simpa using h4⟩
 rw [List.take_succ_eq_append_getElem hk]
 exact (List.perm_middle.trans ((h2 ▸ hp).cons _)).trans (List.perm_append_singleton _ _).symm
end Go.Proofs.YtmfpakolfpoamaaGreatDoor.P

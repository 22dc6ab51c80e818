import Derived.Test.YthigbklhngihkaaGreatDoorMValueKeysn
set_option linter.unusedVariables false
set_option linter.unusedSimpArgs false
set_option maxRecDepth 100000
namespace Go.Proofs.YthigbklhngihkaaGreatDoor.P
open Go.RowKit Go.Proofs.YthigbklhngihkaaGreatDoorW.PrintWords Go.Proofs.YthigbklhngihkaaGreatDoorW.PrintMore Go.Proofs.YthigbklhngihkaaGreatDoorW.PrintLast
structure CutLo (X : List PEl) (y : PEl) (p q : Nat) : Prop where
 lo : ∀ t (h : t < X.length), t < p → ¬ vord y.key X[t].key < 0
 hi : ∀ t (h : t < X.length), q ≤ t → vord y.key X[t].key < 0
theorem CutLo.up {X : List PEl} {y : PEl} {p q t : Nat} (h : CutLo X y p q) (hX : X.Pairwise elt) (ht : t < X.length) (hlt : ¬ vord y.key X[t].key < 0) : CutLo X y (t + 1) q := by
 refine ⟨fun u hu hup => ?_, h.hi⟩
 rcases Nat.lt_or_ge u t with h1 | h1
 · intro h3
   have h2 := List.pairwise_iff_getElem.1 hX u t hu ht h1
   have tr := vord_tr y.key X[u].key X[t].key
   rcases h2 with h2 | ⟨h2, _⟩
   · exact hlt (tr.lt1 h3 (by omega))
   · exact hlt (tr.lt1 h3 (by omega))
 · have : u = t := by omega
   subst this; exact hlt
theorem CutLo.down {X : List PEl} {y : PEl} {p q t : Nat} (h : CutLo X y p q) (hX : X.Pairwise elt) (ht : t < X.length) (hlt : vord y.key X[t].key < 0) : CutLo X y p t := by
 refine ⟨h.lo, fun u hu hup => ?_⟩
 rcases Nat.lt_or_ge t u with h1 | h1
 · have h2 := List.pairwise_iff_getElem.1 hX t u ht hu h1
   have tr := vord_tr y.key X[t].key X[u].key
   rcases h2 with h2 | ⟨h2, _⟩
   · exact tr.lt1 hlt (by omega)
   · exact tr.lt1 hlt (by omega)
 · have : u = t := by omega
   subst this; exact hlt
theorem CutLo.sorted {X : List PEl} {y : PEl} {p : Nat} (h : CutLo X y p p) (hX : X.Pairwise elt) (ht : ∀ x ∈ X, x.tag < y.tag) : (X.take p ++ y :: X.drop p).Pairwise elt := by
 refine sorted_mid (by rw [List.take_append_drop]; exact hX) (fun x hx => ?_) (fun x hx => ?_)
 · have hm := List.mem_of_mem_take hx
   obtain ⟨t, htl, rfl⟩ := List.mem_iff_getElem.1 hx
   rw [List.length_take] at htl
   rw [List.getElem_take] at hm ⊢
   exact elt_of_ge (h.lo t (by omega) (by omega)) (ht _ hm)
 · obtain ⟨t, htl, rfl⟩ := List.mem_iff_getElem.1 hx
   rw [List.length_drop] at htl
   rw [List.getElem_drop]
   exact .inl (h.hi (p + t) (by omega) (by omega))
set_option maxHeartbeats 4000000 in
theorem merge_last (w0 : World) (g cb : Nat) (U : PEl → Prop) (hg : g < w0.heap.size) (hcmp : CmpIn w0 g cb U) (A X B : List PEl) (y : PEl) (N cap : Nat) (W : World) (hN : N = (A ++ X ++ [y] ++ B).length) (hcap : N ≤ 1048576) (hU : ∀ e ∈ y :: X, U e) (hX : X.Pairwise elt) (ht : ∀ x ∈ X, x.tag < y.tag) (h2X : 2 ≤ X.length) (h : SW w0 g (A ++ X ++ [y] ++ B) W) :
 Calls Tryz.prog 199 #[.slice (some ⟨g, 0, none⟩) N cap, .int .i64 A.length, .int .i64 (A.length + X.length : Nat), .int .i64 (A.length + X.length + 1 : Nat), .func (.func 120) #[] #[.pointer (some ⟨cb, 0, none⟩)]] W fun e w' => e = .returned (.tuple #[]) ∧ ∃ S', S'.Perm (X ++ [y]) ∧ S'.Pairwise elt ∧ SW w0 g (A ++ S' ++ B) w' := by
 obtain ⟨a, ha⟩ : ∃ a, a = A.length := ⟨_, rfl⟩
 obtain ⟨b, hb⟩ : ∃ b, b = A.length + X.length + 1 := ⟨_, rfl⟩
 obtain ⟨m, hm⟩ : ∃ m, m = A.length + X.length := ⟨_, rfl⟩
 rw [← hb, ← hm, ← ha]
 have hbN : b ≤ N := by rw [hN]; simp; omega
 have hma : ((m : Int) - (a : Int) == 1) = false := by simp; omega
 have hbm : (b : Int) - (m : Int) = 1 := by omega
 have ham : a ≤ m := by omega
 have hmb : m ≤ b := by omega
 have HA := Lib.hid ha
 have HM := Lib.hid hm
 have HBB := Lib.hid hb
 have HN := Lib.hid hN
 have HU := Lib.hid hU
 have HY := Lib.hid hX
 have HT := Lib.hid ht
 have HCMP := Lib.hid hcmp
 have H := Lib.hid h
 have hu := Tryz.underlying102
 clear hN ha hb hm h hU hX ht hcmp h2X
 go_enter Tryz.func199, Tryz.ntmps199
 go_wp2
 go_loopw [14, 15] (fun vi vj wr => ∃ i j p q : Nat, vi = .int .i64 i ∧ vj = .int .i64 j ∧ i = a + p ∧ j = a + q ∧ p ≤ q ∧ j ≤ m ∧ Hid (CutLo X y p q) ∧ Hid (SW w0 g (A ++ X ++ [y] ++ B) wr)) (fun vi vj _ => (intOf vj).toNat - (intOf vi).toNat)
 case atStart => exact ⟨a, m, 0, X.length, rfl, rfl, rfl, by have := HA.out; have := HM.out; omega, Nat.zero_le _, Nat.le_refl _, Lib.hid ⟨fun t h h' => absurd h' (by omega), fun t h h' => absurd h (by omega)⟩, H⟩
 case round =>
  obtain ⟨i, j, p, q, rfl, rfl, hip, hjq, hpq, hjb, HC, HS⟩ := hrel
  have HIP := Lib.hid hip
  have HJQ := Lib.hid hjq
  by_cases hlt : i < j
  · obtain ⟨t, hte⟩ : ∃ t, t = (p + q) / 2 := ⟨_, rfl⟩
    obtain ⟨hh, hhe⟩ : ∃ hh, hh = a + t := ⟨_, rfl⟩
    have hq1 : p ≤ t ∧ t < q := by omega
    have htY : t < X.length := by have := HA.out; have := HM.out; omega
    have hdv : ((i : Int) + (j : Int)) / 2 = (hh : Int) := by omega
    obtain ⟨x, hx⟩ : ∃ x, x = X[t] := ⟨_, rfl⟩
    have hS := HS.out.drew
    have hy1 : (A ++ X ++ [y] ++ B)[m]? = some y := by rw [HM.out, List.append_assoc, List.getElem?_append_right (by simp)]; simp
    have hx1 : (A ++ X ++ [y] ++ B)[hh]? = some x := by
     rw [List.append_assoc, List.append_assoc, List.getElem?_append_right (by rw [← HA.out]; omega), List.getElem?_append_left (by rw [← HA.out]; omega), hx, List.getElem?_eq_some_iff]
     have e : hh - A.length = t := by rw [← HA.out]; omega
     exact ⟨by rw [e]; exact htY, by simp only [e]⟩
    have r1 := hS.at_ _ _ hy1
    have r2 := hS.at_ _ _ hx1
    have oky := hS.ok y (List.mem_of_getElem? hy1)
    have okx := hS.ok x (List.mem_of_getElem? hx1)
    have i1 := info_pair _ oky.len
    have i2 := info_pair _ okx.len
    have HKD := Lib.hid hS.keep
    have hux : U x := HU.out x (List.mem_cons_of_mem _ (by rw [hx]; exact List.getElem_mem htY))
    have huy : U y := HU.out y List.mem_cons_self
    have HCC : Hid (∀ W, KeepG w0 g W → Calls Tryz.prog 120 #[.agg y.row.toArray, .agg x.row.toArray, .pointer (some ⟨cb, 0, none⟩)] W fun e w' => e = .returned (.int .i64 (vord y.key x.key)) ∧ Below W.heap.size W w') := Lib.hid (fun W hW => HCMP.out W hW y x huy hux)
    have q1 : (0 : Int) ≤ (hh : Int) := by omega
    have q2 : (hh : Int) < (N : Int) := by omega
    have q3 : (0 : Int) ≤ (m : Int) := by omega
    have q4 : (m : Int) < (N : Int) := by omega
    have q5 : (i : Int) + (j : Int) ≤ 4194304 := by omega
    have HDN : Hid (vord y.key x.key < 0 → CutLo X y p t) := Lib.hid (fun h => HC.out.down HY.out htY (by rw [← hx]; exact h))
    have HUP : Hid (¬ vord y.key x.key < 0 → CutLo X y (t + 1) q) := Lib.hid (fun h => HC.out.up HY.out htY (by rw [← hx]; exact h))
    have HTT : Hid (hh = a + t ∧ p ≤ t ∧ t < q) := Lib.hid ⟨hhe, hq1⟩
    clear hte hhe hq1 htY hx hS hx1 hy1 oky okx huy hux hip hjq hpq HC
    by_cases hc : ¬ vord y.key x.key < 0
    · go_upto_region 17 with (fail)
      refine wp_region_any (by kernel_rfl) ?_
      change wpAny _ _ _ _ _ _ _ (World.drew _)
      refine tq 0 (h := ?_)
      refine tq 1 (h := ?_)
      simp only [lst]
      refine tq 2 (h := ?_)
      refine tq 3 (h := ?_)
      simp only [lst]
      refine tq 5 (h := ?_)
      refine tq 6 (h := ?_)
      simp only [lst]
      refine tq 7 (h := ?_)
      simp only [lst]
      refine two 4 8 rfl rfl (by kernel_rfl) (by rfl) (by rfl) (fun K_ hK_ => ?_) (fun K_ hK_ => ?_)
      refine wp_load_mid _ _ rfl _ _ rfl _ _ r1 hu rfl i1 ?_
      refine hK_ _ _ ?_
      clear hK_ K_
      simp only [Act.put, lgt, List.setIfInBounds_toArray, lst]
      refine one 8 rfl (by kernel_rfl) (by rfl) fun K_ hK_ => ?_
      refine wp_load_mid _ _ rfl _ _ rfl _ _ r2 hu rfl i2 ?_
      refine hK_ _ _ ?_
      clear hK_ K_
      simp only [Act.put, lgt, List.setIfInBounds_toArray, lst]
      refine one 9 rfl (by kernel_rfl) (by rfl) fun K_ hK_ => ?_
      simp only [lgt]
      go_simp
      refine (HCC.out _ HKD.out).mono ?_
      rintro e_ w5 ⟨rfl, hB5⟩
      have HB5 := Lib.hid hB5
      clear hB5
      simp only [Oper.upon]
      refine hK_ _ _ ?_
      clear hK_ K_
      refine tq 10 (h := ?_)
      refine tq 11 (h := ?_)
      refine wpAny_done (by kernel_rfl) ?_ _
      simp only [lst]
      rotate_left
      refine wp_load_mid _ _ rfl _ _ rfl _ _ r2 hu rfl i2 ?_
      refine hK_ _ _ ?_
      clear hK_ K_
      simp only [Act.put, lgt, List.setIfInBounds_toArray, lst]
      refine one 4 rfl (by kernel_rfl) (by rfl) fun K_ hK_ => ?_
      refine wp_load_mid _ _ rfl _ _ rfl _ _ r1 hu rfl i1 ?_
      refine hK_ _ _ ?_
      clear hK_ K_
      simp only [Act.put, lgt, List.setIfInBounds_toArray, lst]
      refine one 9 rfl (by kernel_rfl) (by rfl) fun K_ hK_ => ?_
      simp only [lgt]
      go_simp
      refine (HCC.out _ HKD.out).mono ?_
      rintro e_ w5 ⟨rfl, hB5⟩
      have HB5 := Lib.hid hB5
      clear hB5
      simp only [Oper.upon]
      refine hK_ _ _ ?_
      clear hK_ K_
      refine tq 10 (h := ?_)
      refine tq 11 (h := ?_)
      refine wpAny_done (by kernel_rfl) ?_ _
      simp only [lst]
      rotate_left
      all_goals
       clear r1 r2 i1 i2 HCC HKD q1 q2 q3 q4
       have HS5 := Lib.hid (HS.out.drew.grow hg HB5.out)
       have HC2 := Lib.hid (HUP.out hc)
       have hw : (hh : Int) + 1 ≤ 1048576 := by have := HTT.out; have := HJQ.out; omega
       clear hdv
       go_wp2_with fail
       go_roundw
       case rel => exact ⟨hh + 1, j, t + 1, q, by first | rfl | exact congrArg (Value.int .i64) (wrap64_up hh (by omega)), rfl, by have := HTT.out; omega, HJQ.out, by have := HTT.out; omega, hjb, HC2, HS5⟩
       case measure => have := HTT.out; have := HIP.out; first | (rw [wrap64_up hh (by omega)]; show j - (hh + 1) < j - i; omega) | (show j - (hh + 1) < j - i; omega)
    · replace hc := Decidable.not_not.1 hc
      go_upto_region 17 with (fail)
      refine wp_region_any (by kernel_rfl) ?_
      change wpAny _ _ _ _ _ _ _ (World.drew _)
      refine tq 0 (h := ?_)
      refine tq 1 (h := ?_)
      simp only [lst]
      refine tq 2 (h := ?_)
      refine tq 3 (h := ?_)
      simp only [lst]
      refine tq 5 (h := ?_)
      refine tq 6 (h := ?_)
      simp only [lst]
      refine tq 7 (h := ?_)
      simp only [lst]
      refine two 4 8 rfl rfl (by kernel_rfl) (by rfl) (by rfl) (fun K_ hK_ => ?_) (fun K_ hK_ => ?_)
      refine wp_load_mid _ _ rfl _ _ rfl _ _ r1 hu rfl i1 ?_
      refine hK_ _ _ ?_
      clear hK_ K_
      simp only [Act.put, lgt, List.setIfInBounds_toArray, lst]
      refine one 8 rfl (by kernel_rfl) (by rfl) fun K_ hK_ => ?_
      refine wp_load_mid _ _ rfl _ _ rfl _ _ r2 hu rfl i2 ?_
      refine hK_ _ _ ?_
      clear hK_ K_
      simp only [Act.put, lgt, List.setIfInBounds_toArray, lst]
      refine one 9 rfl (by kernel_rfl) (by rfl) fun K_ hK_ => ?_
      simp only [lgt]
      go_simp
      refine (HCC.out _ HKD.out).mono ?_
      rintro e_ w5 ⟨rfl, hB5⟩
      have HB5 := Lib.hid hB5
      clear hB5
      simp only [Oper.upon]
      refine hK_ _ _ ?_
      clear hK_ K_
      refine tq 10 (h := ?_)
      refine tq 11 (h := ?_)
      refine wpAny_done (by kernel_rfl) ?_ _
      simp only [lst]
      rotate_left
      refine wp_load_mid _ _ rfl _ _ rfl _ _ r2 hu rfl i2 ?_
      refine hK_ _ _ ?_
      clear hK_ K_
      simp only [Act.put, lgt, List.setIfInBounds_toArray, lst]
      refine one 4 rfl (by kernel_rfl) (by rfl) fun K_ hK_ => ?_
      refine wp_load_mid _ _ rfl _ _ rfl _ _ r1 hu rfl i1 ?_
      refine hK_ _ _ ?_
      clear hK_ K_
      simp only [Act.put, lgt, List.setIfInBounds_toArray, lst]
      refine one 9 rfl (by kernel_rfl) (by rfl) fun K_ hK_ => ?_
      simp only [lgt]
      go_simp
      refine (HCC.out _ HKD.out).mono ?_
      rintro e_ w5 ⟨rfl, hB5⟩
      have HB5 := Lib.hid hB5
      clear hB5
      simp only [Oper.upon]
      refine hK_ _ _ ?_
      clear hK_ K_
      refine tq 10 (h := ?_)
      refine tq 11 (h := ?_)
      refine wpAny_done (by kernel_rfl) ?_ _
      simp only [lst]
      rotate_left
      all_goals
       clear r1 r2 i1 i2 HCC HKD q1 q2 q3 q4
       have HS5 := Lib.hid (HS.out.drew.grow hg HB5.out)
       have HC2 := Lib.hid (HDN.out hc)
       clear hdv
       go_wp2_with fail
       go_roundw
       case rel => exact ⟨i, hh, p, t, rfl, rfl, HIP.out, HTT.out.1, HTT.out.2.1, by have := HTT.out; have := HJQ.out; omega, HC2, HS5⟩
       case measure => have := HTT.out; have := HJQ.out; show hh - i < j - i; omega
  · have hpq2 : p = q := by omega
    subst hpq2
    have hij : j = i := by omega
    subst hij
    have hpY : p ≤ X.length := by have := HA.out; have := HM.out; omega
    have HPY := Lib.hid hpY
    have HLAST := Lib.hid (HC.out.sorted HY.out HT.out)
    clear hip hjq hpq HC hpY
    go_wp2
    go_loopw [17] (fun vk wq => ∃ k s : Nat, vk = .int .i64 k ∧ k = a + s ∧ p ≤ s ∧ s ≤ X.length ∧ Hid (SW w0 g (A ++ X.take s ++ y :: X.drop s ++ B) wq)) (fun vk _ => (intOf vk).toNat)
    case atStart => exact ⟨m, X.length, rfl, by have := HA.out; have := HM.out; omega, HPY.out, Nat.le_refl _, Lib.hid (by have := HS.out; simpa using this)⟩
    case round =>
     obtain ⟨k, s, rfl, hks, hsp, hsX, HQ⟩ := hrel
     have HKS := Lib.hid hks
     by_cases hlt2 : p < s
     · obtain ⟨u, hu2⟩ : ∃ u, s = u + 1 := ⟨s - 1, by omega⟩
       subst hu2
       have huX : u < X.length := by omega
       have hS := HQ.out.drew
       rw [List.take_succ_eq_append_getElem huX] at hS
       have hnx : A ++ X.take u ++ y :: X.drop u ++ B = (A ++ X.take u) ++ y :: X[u] :: (X.drop (u + 1) ++ B) := by
        rw [List.drop_eq_getElem_cons huX]; simp only [List.append_assoc, List.cons_append]
       generalize X[u] = x at *
       replace hS : SW w0 g ((A ++ X.take u) ++ x :: y :: (X.drop (u + 1) ++ B)) wr.drew := by simp only [List.append_assoc, List.cons_append, List.nil_append] at hS ⊢; exact hS
       obtain ⟨kp, hkp⟩ : ∃ kp, kp = (A ++ X.take u).length := ⟨_, rfl⟩
       have hkk : k = kp + 1 := by rw [hkp, List.length_append, List.length_take, ← HA.out]; omega
       obtain ⟨hx1, hy1⟩ := two_at (P := A ++ X.take u) (Q := X.drop (u + 1) ++ B) (x := x) (y := y)
       rw [← hkp] at hx1 hy1
       rw [← hkk] at hy1
       have r1 := hS.at_ _ _ hx1
       have r2 := hS.at_ _ _ hy1
       have oky := hS.ok y (List.mem_of_getElem? hy1)
       have okx := hS.ok x (List.mem_of_getElem? hx1)
       have i1 := info_pair _ okx.len
       have i2 := info_pair _ oky.len
       have o1 := okx.one
       have o2 := oky.one
       have l1 := okx.len
       have l2 := oky.len
       have t1 := there_part hS.there (i := k) (List.getElem?_eq_some_iff.1 hy1).1
       have t2 := World.there_setCells (there_part hS.there (i := kp) (List.getElem?_eq_some_iff.1 hx1).1) g (k * 14) x.row
       have hfin := hS.swap1
       rw [← hkp, ← hkk, ← hnx] at hfin
       have HFIN := Lib.hid hfin
       have hkN : k < N := by have := HM.out; have := HA.out; omega
       have q1 : (0 : Int) ≤ (k : Int) := by omega
       have q2 : (k : Int) < (N : Int) := by omega
       have q3 : (1 : Int) ≤ (k : Int) := by omega
       have q4 : (k : Int) - 1 < (N : Int) := by omega
       have q5 : ((k : Int) - 1).toNat = kp := by omega
       have q6 : IntKind.i64.wrap ((k : Int) - 1) = (k : Int) - 1 := by rw [wrap_in _ (by omega)]
       have q7 : (j : Int) < (k : Int) := by have := HIP.out; omega
       clear hS hnx hkp hx1 hy1 oky okx hfin hks HQ hkk
       go_upto_region 23 with (fail)
       refine wp_region_any (by kernel_rfl) ?_
       change wpAny _ _ _ _ _ _ _ (World.drew _)
       refine tq 0 (h := ?_)
       refine tq 1 (h := ?_)
       simp only [lst]
       refine tq 2 (h := ?_)
       refine tq 3 (h := ?_)
       simp only [lst]
       refine tq 4 (h := ?_)
       refine tq 5 (h := ?_)
       simp only [lst]
       refine tq 6 (h := ?_)
       refine tq 7 (h := ?_)
       simp only [lst]
       refine tq 8 (h := ?_)
       refine tq 10 (h := ?_)
       simp only [lst]
       refine tq 11 (h := ?_)
       refine tq 12 (h := ?_)
       simp only [lst]
       refine two 9 13 rfl rfl (by kernel_rfl) (by rfl) (by rfl) (fun K_ hK_ => ?_) (fun K_ hK_ => ?_)
       refine wp_load_mid _ _ rfl _ _ rfl _ _ r1 hu rfl i1 ?_
       refine hK_ _ _ ?_
       clear hK_ K_
       simp only [Act.put, lgt, List.setIfInBounds_toArray, lst]
       refine one 13 rfl (by kernel_rfl) (by rfl) fun K_ hK_ => ?_
       refine wp_load_mid _ _ rfl _ _ rfl _ _ r2 hu rfl i2 ?_
       refine hK_ _ _ ?_
       clear hK_ K_
       simp only [Act.put, lgt, List.setIfInBounds_toArray, lst]
       refine tq 14 (h := ?_)
       simp only [lst]
       refine one 15 rfl (by kernel_rfl) (by rfl) fun K_ hK_ => ?_
       refine wp_store_mid _ _ _ rfl _ _ (List.toArray _) rfl rfl (by rw [List.size_toArray, l1]; exact t1) (by rw [List.size_toArray]; exact i1) (all_oneCell_toArray o1) ?_
       simp only [List.toList_toArray]
       refine hK_ _ _ ?_
       clear hK_ K_
       simp only [Act.put, lgt, List.setIfInBounds_toArray, lst]
       refine tq 16 (h := ?_)
       simp only [lst]
       refine one 17 rfl (by kernel_rfl) (by rfl) fun K_ hK_ => ?_
       refine wp_store_mid _ _ _ rfl _ _ (List.toArray _) rfl rfl (by rw [List.size_toArray, l2]; exact t2) (by rw [List.size_toArray]; exact i2) (all_oneCell_toArray o2) ?_
       simp only [List.toList_toArray]
       refine hK_ _ _ ?_
       clear hK_ K_
       refine wpAny_done (by kernel_rfl) ?_ _
       simp only [Act.put, lgt, List.setIfInBounds_toArray, lst]
       rotate_left
       refine wp_load_mid _ _ rfl _ _ rfl _ _ r2 hu rfl i2 ?_
       refine hK_ _ _ ?_
       clear hK_ K_
       simp only [Act.put, lgt, List.setIfInBounds_toArray, lst]
       refine one 9 rfl (by kernel_rfl) (by rfl) fun K_ hK_ => ?_
       refine wp_load_mid _ _ rfl _ _ rfl _ _ r1 hu rfl i1 ?_
       refine hK_ _ _ ?_
       clear hK_ K_
       simp only [Act.put, lgt, List.setIfInBounds_toArray, lst]
       refine tq 14 (h := ?_)
       simp only [lst]
       refine one 15 rfl (by kernel_rfl) (by rfl) fun K_ hK_ => ?_
       refine wp_store_mid _ _ _ rfl _ _ (List.toArray _) rfl rfl (by rw [List.size_toArray, l1]; exact t1) (by rw [List.size_toArray]; exact i1) (all_oneCell_toArray o1) ?_
       simp only [List.toList_toArray]
       refine hK_ _ _ ?_
       clear hK_ K_
       simp only [Act.put, lgt, List.setIfInBounds_toArray, lst]
       refine tq 16 (h := ?_)
       simp only [lst]
       refine one 17 rfl (by kernel_rfl) (by rfl) fun K_ hK_ => ?_
       refine wp_store_mid _ _ _ rfl _ _ (List.toArray _) rfl rfl (by rw [List.size_toArray, l2]; exact t2) (by rw [List.size_toArray]; exact i2) (all_oneCell_toArray o2) ?_
       simp only [List.toList_toArray]
       refine hK_ _ _ ?_
       clear hK_ K_
       refine wpAny_done (by kernel_rfl) ?_ _
       simp only [Act.put, lgt, List.setIfInBounds_toArray, lst]
       rotate_left
       all_goals
        clear r1 r2 t1 t2 i1 i2 o1 o2 l1 l2 q1 q2 q4 q5 q6
        have hfin := HFIN.out
        generalize (wr.drew.setCells g (k * 14) x.row).setCells g (kp * 14) y.row = W9 at hfin ⊢
        have HS9 := Lib.hid hfin
        clear hfin HFIN
        have hjs : (k : Int) - 1 = ((k - 1 : Nat) : Int) := by omega
        go_wp2_with fail
        go_roundw
        case rel => exact ⟨k - 1, u, by first | rfl | (rw [hjs]), by have := HKS.out; omega, by omega, by omega, HS9⟩
        case measure => first | (rw [hjs]; show k - 1 < k; omega) | (show k - 1 < k; omega)
     · have hsp2 : s = p := by omega
       subst hsp2
       have q7 : ¬ (j : Int) < (k : Int) := by have := HIP.out; omega
       have HQ2 := HQ
       clear hks
       go_wp2
       have hend : ∃ S' : List PEl, S'.Perm (X ++ [y]) ∧ S'.Pairwise elt ∧ SW w0 g (A ++ S' ++ B) wr := ⟨X.take s ++ y :: X.drop s, by
        have := List.perm_middle (a := y) (l₁ := X.take s) (l₂ := X.drop s)
        rw [List.take_append_drop] at this
        exact this.trans (List.perm_append_singleton _ _).symm, HLAST.out, by have := HQ2.out; simp only [List.append_assoc] at this ⊢; exact this⟩
       refine bodyPost_ret (v := .tuple #[]) ?_ rfl ⟨rfl, by simpa using hend⟩
       simp [results, Tryz.f199, go_sem]
def zP : PEl := ⟨[], z28, z28, 0⟩
def Pr (X Y : List PEl) (a m nn c : Nat) : Prop := vord (Y.getD (nn - 1 - c - m) zP).key (X.getD (c - a) zP).key < 0
structure Cut (X Y : List PEl) (a m nn s0 r0 s r : Nat) : Prop where
 lo : ∀ c, s0 ≤ c → c < s → ¬ Pr X Y a m nn c
 hi : ∀ c, r ≤ c → c < r0 → Pr X Y a m nn c
structure Span (X Y : List PEl) (a m nn s0 r0 : Nat) : Prop where
 sx : X.Pairwise elt
 sy : Y.Pairwise elt
 tags : ∀ x ∈ X, ∀ y ∈ Y, x.tag < y.tag
 hm : m = a + X.length
 at_ : ∀ c, s0 ≤ c → c < r0 → a ≤ c ∧ c < m ∧ m + c + 1 ≤ nn ∧ nn < m + Y.length + c + 1
 le : s0 ≤ r0
 bot : a ≤ s0 ∧ nn ≤ m + Y.length + s0 ∧ (s0 = a ∨ nn = m + Y.length + s0)
 top : r0 ≤ m ∧ m + r0 ≤ nn ∧ (r0 = m ∨ nn = m + r0)
theorem getD_lt {l : List PEl} {i j : Nat} (h : l.Pairwise elt) (hij : i < j) (hj : j < l.length) : elt (l.getD i zP) (l.getD j zP) := by
 have := List.pairwise_iff_getElem.1 h i j (by omega) hj hij
 simpa [List.getD_eq_getElem?_getD, List.getElem?_eq_getElem hj, List.getElem?_eq_getElem (show i < l.length by omega)] using this
theorem Span.mono {X Y : List PEl} {a m nn s0 r0 c d : Nat} (h : Span X Y a m nn s0 r0) (h0 : s0 ≤ c) (hcd : c < d) (h1 : d < r0) (hp : Pr X Y a m nn c) : Pr X Y a m nn d := by
 have r1 := h.at_ c h0 (by omega)
 have r2 := h.at_ d (by omega) h1
 have hm := h.hm
 have e1 : elt (X.getD (c - a) zP) (X.getD (d - a) zP) := getD_lt h.sx (by omega) (by omega)
 have e2 : elt (Y.getD (nn - 1 - d - m) zP) (Y.getD (nn - 1 - c - m) zP) := getD_lt h.sy (by omega) (by omega)
 unfold Pr at hp ⊢
 generalize X.getD (c - a) zP = x1 at *
 generalize X.getD (d - a) zP = x2 at *
 generalize Y.getD (nn - 1 - c - m) zP = y1 at *
 generalize Y.getD (nn - 1 - d - m) zP = y2 at *
 have le1 : vord x1.key x2.key ≤ 0 := by rcases e1 with h | ⟨h, _⟩ <;> omega
 have le2 : vord y2.key y1.key ≤ 0 := by rcases e2 with h | ⟨h, _⟩ <;> omega
 exact (vord_tr y2.key x1.key x2.key).lt1 ((vord_tr y2.key y1.key x1.key).lt2 le2 hp) le1
theorem Cut.up {X Y : List PEl} {a m nn s0 r0 s r c : Nat} (h : Span X Y a m nn s0 r0) (k : Cut X Y a m nn s0 r0 s r) (h0 : s0 ≤ c) (h1 : c < r0) (hn : ¬ Pr X Y a m nn c) : Cut X Y a m nn s0 r0 (c + 1) r :=
 ⟨fun d hd hdc hp => by
  rcases Nat.lt_or_ge d c with hlt | hge
  · exact hn (h.mono hd hlt h1 hp)
  · obtain rfl : d = c := by omega
    exact hn hp, k.hi⟩
theorem Cut.down {X Y : List PEl} {a m nn s0 r0 s r c : Nat} (h : Span X Y a m nn s0 r0) (k : Cut X Y a m nn s0 r0 s r) (h0 : s0 ≤ c) (h1 : c < r0) (hn : Pr X Y a m nn c) : Cut X Y a m nn s0 r0 s c :=
 ⟨k.lo, fun d hd hdr => by
  rcases Nat.lt_or_ge c d with hlt | hge
  · exact h.mono h0 hlt hdr hn
  · obtain rfl : d = c := by omega
    exact hn⟩
theorem mem_take_getD {l : List PEl} {k : Nat} {u : PEl} (h : u ∈ l.take k) : ∃ i, i < k ∧ i < l.length ∧ u = l.getD i zP := by
 obtain ⟨i, hi, rfl⟩ := List.mem_iff_getElem.1 h
 rw [List.length_take] at hi
 exact ⟨i, by omega, by omega, by rw [List.getElem_take, List.getD_eq_getElem?_getD, List.getElem?_eq_getElem (by omega)]; rfl⟩
theorem mem_drop_getD {l : List PEl} {k : Nat} {u : PEl} (h : u ∈ l.drop k) : ∃ i, k ≤ i ∧ i < l.length ∧ u = l.getD i zP := by
 obtain ⟨i, hi, rfl⟩ := List.mem_iff_getElem.1 h
 rw [List.length_drop] at hi
 exact ⟨k + i, by omega, by omega, by rw [List.getElem_drop, List.getD_eq_getElem?_getD, List.getElem?_eq_getElem (by omega)]; rfl⟩
theorem getD_le {l : List PEl} {i j : Nat} (h : l.Pairwise elt) (hij : i ≤ j) (hj : j < l.length) {z : PEl} (hz : elt (l.getD j zP) z) : elt (l.getD i zP) z := by
 rcases Nat.lt_or_ge i j with h1 | h1
 · exact elt_trans (getD_lt h h1 hj) hz
 · rwa [show i = j by omega]
theorem getD_ge {l : List PEl} {i j : Nat} (h : l.Pairwise elt) (hij : i ≤ j) (hj : j < l.length) {z : PEl} (hz : elt z (l.getD i zP)) : elt z (l.getD j zP) := by
 rcases Nat.lt_or_ge i j with h1 | h1
 · exact elt_trans hz (getD_lt h h1 hj)
 · rwa [show j = i by omega]
theorem getD_mem {l : List PEl} {i : Nat} (hi : i < l.length) : l.getD i zP ∈ l := by
 rw [List.getD_eq_getElem?_getD, List.getElem?_eq_getElem hi]; exact List.getElem_mem hi
theorem Cut.final {X Y : List PEl} {a m nn s0 r0 s : Nat} (h : Span X Y a m nn s0 r0) (k : Cut X Y a m nn s0 r0 s s) (h0 : s0 ≤ s) (h1 : s ≤ r0) : ∀ u ∈ X.take (s - a) ++ Y.take (nn - s - m), ∀ v ∈ X.drop (s - a) ++ Y.drop (nn - s - m), elt u v := by
 have hm := h.hm
 have b1 := h.bot
 have b2 := h.top
 intro u hu v hv
 rcases List.mem_append.1 hu with hu | hu <;> rcases List.mem_append.1 hv with hv | hv
 · obtain ⟨i, i1, i2, rfl⟩ := mem_take_getD hu
   obtain ⟨j, j1, j2, rfl⟩ := mem_drop_getD hv
   exact getD_lt h.sx (by omega) j2
 · obtain ⟨i, i1, i2, rfl⟩ := mem_take_getD hu
   obtain ⟨j, j1, j2, rfl⟩ := mem_drop_getD hv
   have hs : s0 < s := by omega
   have hn := k.lo (s - 1) (by omega) (by omega)
   have r1 := h.at_ (s - 1) (by omega) (by omega)
   have hx : s - 1 - a < X.length := by omega
   have hy : nn - 1 - (s - 1) - m < Y.length := by omega
   have e : elt (X.getD (s - 1 - a) zP) (Y.getD (nn - 1 - (s - 1) - m) zP) := elt_of_ge hn (h.tags _ (getD_mem hx) _ (getD_mem hy))
   exact getD_le h.sx (by omega) hx (getD_ge h.sy (by omega) j2 e)
 · obtain ⟨i, i1, i2, rfl⟩ := mem_take_getD hu
   obtain ⟨j, j1, j2, rfl⟩ := mem_drop_getD hv
   have hs : s < r0 := by omega
   have hn := k.hi s (Nat.le_refl _) hs
   have r1 := h.at_ s h0 hs
   have hx : s - a < X.length := by omega
   have hy : nn - 1 - s - m < Y.length := by omega
   have e : elt (Y.getD (nn - 1 - s - m) zP) (X.getD (s - a) zP) := .inl hn
   exact getD_le h.sy (by omega) hy (getD_ge h.sx (by omega) j2 e)
 · obtain ⟨i, i1, i2, rfl⟩ := mem_take_getD hu
   obtain ⟨j, j1, j2, rfl⟩ := mem_drop_getD hv
   exact getD_lt h.sy (by omega) j2
structure MergeArgs (w0 : World) (g : Nat) (U : PEl → Prop) (A X Y B : List PEl) (N : Nat) (W : World) : Prop where
 nx : X ≠ []
 ny : Y ≠ []
 hN : N = (A ++ X ++ Y ++ B).length
 hU : ∀ e ∈ X ++ Y, U e
 sx : X.Pairwise elt
 sy : Y.Pairwise elt
 tags : ∀ x ∈ X, ∀ y ∈ Y, x.tag < y.tag
 sw : SW w0 g (A ++ X ++ Y ++ B) W
def MergeDone (w0 : World) (g : Nat) (A X Y B : List PEl) (w' : World) : Prop := ∃ S', S'.Perm (X ++ Y) ∧ S'.Pairwise elt ∧ SW w0 g (A ++ S' ++ B) w'
def MergeCalls (w0 : World) (g cb : Nat) (U : PEl → Prop) (n : Nat) : Prop := ∀ (A X Y B : List PEl) (N cap : Nat) (W : World), X.length + Y.length ≤ n → N ≤ 1048576 → MergeArgs w0 g U A X Y B N W →
 Calls Tryz.prog 199 #[.slice (some ⟨g, 0, none⟩) N cap, .int .i64 A.length, .int .i64 (A.length + X.length : Nat), .int .i64 (A.length + X.length + Y.length : Nat), .func (.func 120) #[] #[.pointer (some ⟨cb, 0, none⟩)]] W fun e w' => e = .returned (.tuple #[]) ∧ MergeDone w0 g A X Y B w'
def St1 (w0 : World) (g : Nat) (A X Y B : List PEl) (i j : Nat) (W : World) : Prop := SW w0 g (A ++ X.take i ++ Y.take j ++ X.drop i ++ Y.drop j ++ B) W
def St2 (w0 : World) (g : Nat) (A X Y B : List PEl) (i j : Nat) (W : World) : Prop := ∃ S1 : List PEl, S1.Perm (X.take i ++ Y.take j) ∧ S1.Pairwise elt ∧ SW w0 g (A ++ S1 ++ X.drop i ++ Y.drop j ++ B) W
theorem st3 {w0 : World} {g : Nat} {A X Y B S1 S2 : List PEl} {i j : Nat} {W : World} (h1 : S1.Perm (X.take i ++ Y.take j)) (p1 : S1.Pairwise elt) (h2 : S2.Perm (X.drop i ++ Y.drop j)) (p2 : S2.Pairwise elt) (hc : ∀ u ∈ X.take i ++ Y.take j, ∀ v ∈ X.drop i ++ Y.drop j, elt u v) (h : SW w0 g (A ++ S1 ++ S2 ++ B) W) : MergeDone w0 g A X Y B W := by
 refine ⟨S1 ++ S2, ?_, List.pairwise_append.2 ⟨p1, p2, fun u hu v hv => hc u (h1.mem_iff.1 hu) v (h2.mem_iff.1 hv)⟩, by simpa using h⟩
 refine (h1.append h2).trans ?_
 have e : X ++ Y = (X.take i ++ X.drop i) ++ (Y.take j ++ Y.drop j) := by rw [List.take_append_drop, List.take_append_drop]
 rw [e]
 simp only [List.append_assoc]
 refine List.Perm.append_left _ ?_
 rw [← List.append_assoc, ← List.append_assoc]
 exact List.Perm.append_right _ List.perm_append_comm
theorem tri (p q : Prop) : (p ∧ q) ∨ (p ∧ ¬ q) ∨ ¬ p := by by_cases hp : p <;> by_cases hq : q <;> simp [hp, hq]
theorem len4 (A X Y B : List PEl) (i j : Nat) (S : List PEl) (h : S.length = (X.take i ++ Y.take j).length) : (A ++ S ++ X.drop i ++ Y.drop j ++ B).length = (A ++ X ++ Y ++ B).length := by
 simp only [List.length_append, List.length_take, List.length_drop] at h ⊢
 omega
set_option maxHeartbeats 4000000 in
theorem symMerge_step (w0 : World) (g cb : Nat) (U : PEl → Prop) (hg : g < w0.heap.size) (hcmp : CmpIn w0 g cb U) (n : Nat) (ih : MergeCalls w0 g cb U n) (A X Y B : List PEl) (N cap : Nat) (W : World) (hn : X.length + Y.length ≤ n + 1) (hcap : N ≤ 1048576) (h2x : 2 ≤ X.length) (h2y : 2 ≤ Y.length) (hM : MergeArgs w0 g U A X Y B N W) :
 Calls Tryz.prog 199 #[.slice (some ⟨g, 0, none⟩) N cap, .int .i64 A.length, .int .i64 (A.length + X.length : Nat), .int .i64 (A.length + X.length + Y.length : Nat), .func (.func 120) #[] #[.pointer (some ⟨cb, 0, none⟩)]] W fun e w' => e = .returned (.tuple #[]) ∧ MergeDone w0 g A X Y B w' := by
 obtain ⟨a, ha⟩ : ∃ a, a = A.length := ⟨_, rfl⟩
 obtain ⟨m, hm⟩ : ∃ m, m = A.length + X.length := ⟨_, rfl⟩
 obtain ⟨b, hb⟩ : ∃ b, b = A.length + X.length + Y.length := ⟨_, rfl⟩
 obtain ⟨md, hmd⟩ : ∃ md, md = (a + b) / 2 := ⟨_, rfl⟩
 obtain ⟨nn, hnn⟩ : ∃ nn, nn = md + m := ⟨_, rfl⟩
 rw [← hb, ← hm, ← ha]
 have hbN : b ≤ N := by rw [hM.hN]; simp only [List.length_append]; omega
 have hmx : m = a + X.length := by omega
 have hby : b = m + Y.length := by omega
 have c1 : ((m : Int) - (a : Int) == 1) = false := by simp; omega
 have c2 : ((b : Int) - (m : Int) == 1) = false := by simp; omega
 have c3 : ((a : Int) + (b : Int)) / 2 = (md : Int) := by omega
 have c4 : (md : Int) + (m : Int) = (nn : Int) := by omega
 have c5 : (nn : Int) - 1 = ((nn - 1 : Nat) : Int) := by omega
 have bnd : (a : Int) + (b : Int) ≤ 2097152 ∧ (md : Int) ≤ 1048576 ∧ (m : Int) ≤ 1048576 ∧ (b : Int) ≤ 1048576 ∧ (nn : Int) ≤ 2097152 ∧ (0 : Int) ≤ (md : Int) := ⟨by omega, by omega, by omega, by omega, by omega, by omega⟩
 obtain ⟨bnd1, bnd2, bnd3, bnd4, bnd5, bnd6⟩ := bnd
 have HSPAN : ∃ s0 r0 : Nat, ((md < m ∧ nn = b + s0 ∧ r0 = md) ∨ (¬ md < m ∧ s0 = a ∧ r0 = m)) ∧ Span X Y a m nn s0 r0 := by
  by_cases hlt : md < m
  · exact ⟨nn - b, md, .inl ⟨hlt, by omega, rfl⟩, hM.sx, hM.sy, hM.tags, hmx, fun c h1 h2 => ⟨by omega, by omega, by omega, by omega⟩, by omega, ⟨by omega, by omega, .inr (by omega)⟩, ⟨by omega, by omega, .inr (by omega)⟩⟩
  · exact ⟨a, m, .inr ⟨hlt, rfl, rfl⟩, hM.sx, hM.sy, hM.tags, hmx, fun c h1 h2 => ⟨by omega, by omega, by omega, by omega⟩, by omega, ⟨by omega, by omega, .inl rfl⟩, ⟨by omega, by omega, .inl rfl⟩⟩
 obtain ⟨s0, r0, hsr, hspan⟩ := HSPAN
 have HFIN : Hid (∀ s, s0 ≤ s → s ≤ r0 → Cut X Y a m nn s0 r0 s s → a ≤ s ∧ s ≤ m ∧ s + m ≤ nn ∧ nn ≤ b + s ∧ s ≤ md ∧ md + m = nn ∧ (∀ u ∈ X.take (s - a) ++ Y.take (nn - s - m), ∀ v ∈ X.drop (s - a) ++ Y.drop (nn - s - m), elt u v)) := Lib.hid (fun s h1 h2 hk => by
  have e1 := hspan.bot
  have e2 := hspan.top
  exact ⟨by omega, by omega, by omega, by omega, by omega, hnn.symm, hk.final hspan h1 h2⟩)
 have HM := Lib.hid hM
 have HIH := Lib.hid ih
 have HSP := Lib.hid hspan
 have HCMP := Lib.hid hcmp
 have HA := Lib.hid ha
 have HMX := Lib.hid hmx
 have HBY := Lib.hid hby
 have HNNl := Lib.hid hn
 have HN := Lib.hid hM.hN
 have hu := Tryz.underlying102
 have h0r := hspan.le
 have hrm : r0 ≤ m := hspan.top.1
 have H2 : Hid (2 ≤ X.length ∧ 2 ≤ Y.length) := Lib.hid ⟨h2x, h2y⟩
 clear hb ha hm hM ih hspan hcmp hmx hby hn h2x h2y hmd hnn
 rcases hsr with ⟨k1, k2, k3⟩ | ⟨k1, k2, k3⟩
 all_goals
  first | have k4 : (nn : Int) - (b : Int) = (s0 : Int) := by omega | skip
  first | have k5 : (md : Int) < (m : Int) := by omega | have k5 : ¬ (md : Int) < (m : Int) := by omega
  have K2 := Lib.hid k2
  have K3 := Lib.hid k3
  clear k2 k3
  go_enter Tryz.func199, Tryz.ntmps199
  go_wp2
  go_loopw [20, 21] (fun vs vr wr => ∃ s r : Nat, vs = .int .i64 s ∧ vr = .int .i64 r ∧ s0 ≤ s ∧ s ≤ r ∧ r ≤ r0 ∧ Hid (Cut X Y a m nn s0 r0 s r) ∧ Hid (SW w0 g (A ++ X ++ Y ++ B) wr)) (fun vs vr _ => (intOf vr).toNat - (intOf vs).toNat)
  case atStart => exact ⟨s0, r0, by first | rfl | (rw [k4]) | (rw [K2.out]), by first | rfl | (rw [K3.out]), Nat.le_refl _, h0r, Nat.le_refl _, Lib.hid ⟨fun c h1 h2 => absurd h2 (by omega), fun c h1 h2 => absurd h2 (by omega)⟩, HM.out.sw⟩
  case round =>
   obtain ⟨s, r, rfl, rfl, hs0, hsr, hrr, HC, HS⟩ := hrel
   by_cases hlt : s < r
   · obtain ⟨c, hce⟩ : ∃ c, c = (s + r) / 2 := ⟨_, rfl⟩
     have hc1 : s ≤ c ∧ c < r := by omega
     have ha4 := HSP.out.at_ c (by omega) (by omega)
     obtain ⟨pc, hpc⟩ : ∃ pc, pc = nn - 1 - c := ⟨_, rfl⟩
     have c6 : ((s : Int) + (r : Int)) / 2 = (c : Int) := by omega
     have c7 : ((nn - 1 : Nat) : Int) - (c : Int) = (pc : Int) := by omega
     obtain ⟨x, hx⟩ : ∃ x, x = X.getD (c - a) zP := ⟨_, rfl⟩
     obtain ⟨y, hy⟩ : ∃ y, y = Y.getD (nn - 1 - c - m) zP := ⟨_, rfl⟩
     have hlx : c - a < X.length := by have := HMX.out; omega
     have hly : nn - 1 - c - m < Y.length := by omega
     have hxm : x ∈ X := by rw [hx]; exact getD_mem hlx
     have hym : y ∈ Y := by rw [hy]; exact getD_mem hly
     have hS := HS.out.drew
     have hx1 : (A ++ X ++ Y ++ B)[c]? = some x := by
      rw [List.append_assoc, List.append_assoc, List.getElem?_append_right (by rw [← HA.out]; omega), List.getElem?_append_left (by rw [← HA.out]; omega), hx, ← HA.out, List.getD_eq_getElem?_getD, List.getElem?_eq_getElem hlx]; rfl
     have hy1 : (A ++ X ++ Y ++ B)[pc]? = some y := by
      have hl : (A ++ X).length = m := by rw [List.length_append, ← HA.out]; exact HMX.out.symm
      rw [List.append_assoc, List.getElem?_append_right (by rw [hl]; omega), List.getElem?_append_left (by rw [hl]; omega), hl, hy, show pc - m = nn - 1 - c - m by omega, List.getD_eq_getElem?_getD, List.getElem?_eq_getElem hly]; rfl
     have r1 := hS.at_ _ _ hy1
     have r2 := hS.at_ _ _ hx1
     have i1 := info_pair _ (hS.ok y (List.mem_of_getElem? hy1)).len
     have i2 := info_pair _ (hS.ok x (List.mem_of_getElem? hx1)).len
     have HKD := Lib.hid hS.keep
     have HCC : Hid (∀ W, KeepG w0 g W → Calls Tryz.prog 120 #[.agg y.row.toArray, .agg x.row.toArray, .pointer (some ⟨cb, 0, none⟩)] W fun e w' => e = .returned (.int .i64 (vord y.key x.key)) ∧ Below W.heap.size W w') := Lib.hid (fun W hW => HCMP.out W hW y x (HM.out.hU y (List.mem_append_right _ hym)) (HM.out.hU x (List.mem_append_left _ hxm)))
     have q1 : (0 : Int) ≤ (pc : Int) := by omega
     have q2 : (pc : Int) < (N : Int) := by have := HBY.out; omega
     have q3 : (0 : Int) ≤ (c : Int) := by omega
     have q4 : (c : Int) < (N : Int) := by omega
     have q5 : (s : Int) + (r : Int) ≤ 4194304 := by omega
     have q6 : IntKind.i64.wrap (pc : Int) = (pc : Int) := by rw [wrap_in _ (by omega)]
     have HUP : Hid (¬ vord y.key x.key < 0 → Cut X Y a m nn s0 r0 (c + 1) r) := Lib.hid (fun h => HC.out.up HSP.out (by omega) (by omega) (by unfold Pr; rw [← hx, ← hy]; exact h))
     have HDN : Hid (vord y.key x.key < 0 → Cut X Y a m nn s0 r0 s c) := Lib.hid (fun h => HC.out.down HSP.out (by omega) (by omega) (by unfold Pr; rw [← hx, ← hy]; exact h))
     clear hce hx hy hlx hly hxm hym hS hx1 hy1 hpc ha4 HC
     by_cases hc : vord y.key x.key < 0
     · go_upto_region 35 with (fail)
       refine wp_region_any (by kernel_rfl) ?_
       change wpAny _ _ _ _ _ _ _ (World.drew _)
       refine tq 0 (h := ?_)
       refine tq 1 (h := ?_)
       simp only [lst]
       refine tq 2 (h := ?_)
       refine tq 3 (h := ?_)
       simp only [lst]
       refine tq 4 (h := ?_)
       refine tq 5 (h := ?_)
       simp only [lst]
       refine tq 7 (h := ?_)
       refine tq 8 (h := ?_)
       simp only [lst]
       refine tq 9 (h := ?_)
       simp only [lst]
       refine two 6 10 rfl rfl (by kernel_rfl) (by rfl) (by rfl) (fun K_ hK_ => ?_) (fun K_ hK_ => ?_)
       refine wp_load_mid _ _ rfl _ _ rfl _ _ r1 hu rfl i1 ?_
       refine hK_ _ _ ?_
       clear hK_ K_
       simp only [Act.put, lgt, List.setIfInBounds_toArray, lst]
       refine one 10 rfl (by kernel_rfl) (by rfl) fun K_ hK_ => ?_
       refine wp_load_mid _ _ rfl _ _ rfl _ _ r2 hu rfl i2 ?_
       refine hK_ _ _ ?_
       clear hK_ K_
       simp only [Act.put, lgt, List.setIfInBounds_toArray, lst]
       refine one 11 rfl (by kernel_rfl) (by rfl) fun K_ hK_ => ?_
       simp only [lgt]
       go_simp
       refine (HCC.out _ HKD.out).mono ?_
       rintro e_ w5 ⟨rfl, hB5⟩
       have HB5 := Lib.hid hB5
       clear hB5
       simp only [Oper.upon]
       refine hK_ _ _ ?_
       clear hK_ K_
       refine tq 12 (h := ?_)
       refine tq 13 (h := ?_)
       refine wpAny_done (by kernel_rfl) ?_ _
       simp only [lst]
       rotate_left
       refine wp_load_mid _ _ rfl _ _ rfl _ _ r2 hu rfl i2 ?_
       refine hK_ _ _ ?_
       clear hK_ K_
       simp only [Act.put, lgt, List.setIfInBounds_toArray, lst]
       refine one 6 rfl (by kernel_rfl) (by rfl) fun K_ hK_ => ?_
       refine wp_load_mid _ _ rfl _ _ rfl _ _ r1 hu rfl i1 ?_
       refine hK_ _ _ ?_
       clear hK_ K_
       simp only [Act.put, lgt, List.setIfInBounds_toArray, lst]
       refine one 11 rfl (by kernel_rfl) (by rfl) fun K_ hK_ => ?_
       simp only [lgt]
       go_simp
       refine (HCC.out _ HKD.out).mono ?_
       rintro e_ w5 ⟨rfl, hB5⟩
       have HB5 := Lib.hid hB5
       clear hB5
       simp only [Oper.upon]
       refine hK_ _ _ ?_
       clear hK_ K_
       refine tq 12 (h := ?_)
       refine tq 13 (h := ?_)
       refine wpAny_done (by kernel_rfl) ?_ _
       simp only [lst]
       rotate_left
       all_goals
        clear r1 r2 i1 i2 HCC HKD q1 q2 q3 q4 q6 c7
        have HS5 := Lib.hid (HS.out.drew.grow hg HB5.out)
        have HC2 := Lib.hid (HDN.out hc)
        clear c6
        go_wp2_with fail
        go_roundw
        case rel => exact ⟨s, c, rfl, rfl, hs0, hc1.1, by omega, HC2, HS5⟩
        case measure => show c - s < r - s; omega
     · go_upto_region 35 with (fail)
       refine wp_region_any (by kernel_rfl) ?_
       change wpAny _ _ _ _ _ _ _ (World.drew _)
       refine tq 0 (h := ?_)
       refine tq 1 (h := ?_)
       simp only [lst]
       refine tq 2 (h := ?_)
       refine tq 3 (h := ?_)
       simp only [lst]
       refine tq 4 (h := ?_)
       refine tq 5 (h := ?_)
       simp only [lst]
       refine tq 7 (h := ?_)
       refine tq 8 (h := ?_)
       simp only [lst]
       refine tq 9 (h := ?_)
       simp only [lst]
       refine two 6 10 rfl rfl (by kernel_rfl) (by rfl) (by rfl) (fun K_ hK_ => ?_) (fun K_ hK_ => ?_)
       refine wp_load_mid _ _ rfl _ _ rfl _ _ r1 hu rfl i1 ?_
       refine hK_ _ _ ?_
       clear hK_ K_
       simp only [Act.put, lgt, List.setIfInBounds_toArray, lst]
       refine one 10 rfl (by kernel_rfl) (by rfl) fun K_ hK_ => ?_
       refine wp_load_mid _ _ rfl _ _ rfl _ _ r2 hu rfl i2 ?_
       refine hK_ _ _ ?_
       clear hK_ K_
       simp only [Act.put, lgt, List.setIfInBounds_toArray, lst]
       refine one 11 rfl (by kernel_rfl) (by rfl) fun K_ hK_ => ?_
       simp only [lgt]
       go_simp
       refine (HCC.out _ HKD.out).mono ?_
       rintro e_ w5 ⟨rfl, hB5⟩
       have HB5 := Lib.hid hB5
       clear hB5
       simp only [Oper.upon]
       refine hK_ _ _ ?_
       clear hK_ K_
       refine tq 12 (h := ?_)
       refine tq 13 (h := ?_)
       refine wpAny_done (by kernel_rfl) ?_ _
       simp only [lst]
       rotate_left
       refine wp_load_mid _ _ rfl _ _ rfl _ _ r2 hu rfl i2 ?_
       refine hK_ _ _ ?_
       clear hK_ K_
       simp only [Act.put, lgt, List.setIfInBounds_toArray, lst]
       refine one 6 rfl (by kernel_rfl) (by rfl) fun K_ hK_ => ?_
       refine wp_load_mid _ _ rfl _ _ rfl _ _ r1 hu rfl i1 ?_
       refine hK_ _ _ ?_
       clear hK_ K_
       simp only [Act.put, lgt, List.setIfInBounds_toArray, lst]
       refine one 11 rfl (by kernel_rfl) (by rfl) fun K_ hK_ => ?_
       simp only [lgt]
       go_simp
       refine (HCC.out _ HKD.out).mono ?_
       rintro e_ w5 ⟨rfl, hB5⟩
       have HB5 := Lib.hid hB5
       clear hB5
       simp only [Oper.upon]
       refine hK_ _ _ ?_
       clear hK_ K_
       refine tq 12 (h := ?_)
       refine tq 13 (h := ?_)
       refine wpAny_done (by kernel_rfl) ?_ _
       simp only [lst]
       rotate_left
       all_goals
        clear r1 r2 i1 i2 HCC HKD q1 q2 q3 q4 q6 c7
        have HS5 := Lib.hid (HS.out.drew.grow hg HB5.out)
        have HC2 := Lib.hid (HUP.out hc)
        have hw : (c : Int) + 1 ≤ 1048576 := by omega
        clear c6
        go_wp2_with fail
        go_roundw
        case rel => exact ⟨c + 1, r, by first | rfl | exact congrArg (Value.int .i64) (wrap64_up c (by omega)), rfl, by omega, by omega, hrr, HC2, HS5⟩
        case measure => first | (rw [wrap64_up c (by omega)]; show r - (c + 1) < r - s; omega) | (show r - (c + 1) < r - s; omega)
   · obtain rfl : s = r := by omega
     obtain ⟨f1, f2, f3, f4, f5, f6, hcut⟩ := HFIN.out s hs0 hrr HC.out
     obtain ⟨e, hee⟩ : ∃ e, e = nn - s := ⟨_, rfl⟩
     obtain ⟨i, hi⟩ : ∃ i, i = s - a := ⟨_, rfl⟩
     obtain ⟨j, hj⟩ : ∃ j, j = nn - s - m := ⟨_, rfl⟩
     rw [← hi, ← hj] at hcut
     have c8 : (nn : Int) - (s : Int) = (e : Int) := by omega
     have b1 : m ≤ e ∧ e ≤ b ∧ e = m + j ∧ s = a + i ∧ md = a + i + j ∧ i ≤ X.length ∧ j ≤ Y.length := by
      have := HMX.out
      have := HBY.out
      exact ⟨by omega, by omega, by omega, by omega, by omega, by omega, by omega⟩
     have l1 : (X.take i).length = i := by rw [List.length_take]; omega
     have l2 : (X.drop i).length = X.length - i := List.length_drop
     have l3 : (Y.take j).length = j := by rw [List.length_take]; omega
     have l4 : (Y.drop j).length = Y.length - j := List.length_drop
     have HX1 : Hid ((X.take i).Pairwise elt ∧ (X.drop i).Pairwise elt ∧ (Y.take j).Pairwise elt ∧ (Y.drop j).Pairwise elt) := Lib.hid ⟨HM.out.sx.sublist (List.take_sublist _ _), HM.out.sx.sublist (List.drop_sublist _ _), HM.out.sy.sublist (List.take_sublist _ _), HM.out.sy.sublist (List.drop_sublist _ _)⟩
     have e0 : A ++ X ++ Y ++ B = A ++ X.take i ++ X.drop i ++ Y.take j ++ (Y.drop j ++ B) := by
      have e1 : A ++ X ++ Y ++ B = A ++ (X.take i ++ X.drop i) ++ (Y.take j ++ Y.drop j) ++ B := by rw [List.take_append_drop, List.take_append_drop]
      rw [e1]; simp only [List.append_assoc]
     have HS' := HS.out
     rw [e0] at HS'
     have HROT : Hid (s < m → m < e → Calls Tryz.prog 246 #[.slice (some ⟨g, 0, none⟩) N cap, .int .i64 s, .int .i64 m, .int .i64 e, .func (.func 120) #[] #[.pointer (some ⟨cb, 0, none⟩)]] wr fun e w' => e = .returned (.tuple #[]) ∧ St1 w0 g A X Y B i j w') := Lib.hid (fun h1 h2 => by
      have h := rotate_in w0 g (A ++ X.take i) (X.drop i) (Y.take j) (Y.drop j ++ B) N cap (.func (.func 120) #[] #[.pointer (some ⟨cb, 0, none⟩)]) wr (by intro e; rw [e] at l2; simp at l2; have := HMX.out; omega) (by intro e; rw [e] at l3; simp at l3; omega) (by rw [HN.out, e0]) hcap HS'
      have e2 : (A ++ X.take i).length = s := by rw [List.length_append, l1, ← HA.out]; omega
      rw [e2, l2, l3, show s + (X.length - i) = m by have := HMX.out; omega, show m + j = e by omega] at h
      refine h.mono ?_
      rintro e w' ⟨rfl, h3⟩
      exact ⟨rfl, by unfold St1; simp only [List.append_assoc] at h3 ⊢; exact h3⟩)
     have HE1 : Hid (¬ (s < m ∧ m < e) → St1 w0 g A X Y B i j wr) := Lib.hid (fun h => by
      unfold St1
      have hz : X.drop i = [] ∨ Y.take j = [] := by
       by_cases h1 : s < m
       · exact .inr (List.eq_nil_of_length_eq_zero (by rw [l3]; omega))
       · exact .inl (List.eq_nil_of_length_eq_zero (by rw [l2]; have := HMX.out; omega))
      rcases hz with hz | hz <;> rw [hz] at HS' ⊢ <;> simp only [List.append_assoc, List.append_nil, List.nil_append] at HS' ⊢ <;> exact HS')
     have HR1 : Hid (∀ w1, St1 w0 g A X Y B i j w1 → a < s → s < md → Calls Tryz.prog 199 #[.slice (some ⟨g, 0, none⟩) N cap, .int .i64 a, .int .i64 s, .int .i64 md, .func (.func 120) #[] #[.pointer (some ⟨cb, 0, none⟩)]] w1 fun e w' => e = .returned (.tuple #[]) ∧ St2 w0 g A X Y B i j w') := Lib.hid (fun w1 hw1 h1 h2 => by
      have h := HIH.out A (X.take i) (Y.take j) (X.drop i ++ Y.drop j ++ B) N cap w1 (by rw [l1, l3]; have := HNNl.out; have := H2.out; have := HMX.out; have := HBY.out; omega) hcap ⟨by intro e; rw [e] at l1; simp at l1; omega, by intro e; rw [e] at l3; simp at l3; omega, by rw [HN.out, ← len4 A X Y B i j (X.take i ++ Y.take j) rfl]; simp only [List.length_append]; omega, fun u hu => HM.out.hU u (by
       rcases List.mem_append.1 hu with hu | hu
       · exact List.mem_append_left _ (List.mem_of_mem_take hu)
       · exact List.mem_append_right _ (List.mem_of_mem_take hu)), HX1.out.1, HX1.out.2.2.1, fun u hu v hv => HM.out.tags u (List.mem_of_mem_take hu) v (List.mem_of_mem_take hv), by unfold St1 at hw1; simp only [List.append_assoc] at hw1 ⊢; exact hw1⟩
      rw [l1, l3, ← HA.out, show a + i = s by omega, show s + j = md by omega] at h
      refine h.mono ?_
      rintro e w' ⟨rfl, S1, p1, p2, p3⟩
      exact ⟨rfl, S1, p1, p2, by simp only [List.append_assoc] at p3 ⊢; exact p3⟩)
     have HE2 : Hid (∀ w1, St1 w0 g A X Y B i j w1 → ¬ (a < s ∧ s < md) → St2 w0 g A X Y B i j w1) := Lib.hid (fun w1 hw1 h => by
      refine ⟨X.take i ++ Y.take j, List.Perm.refl _, ?_, by unfold St1 at hw1; simp only [List.append_assoc] at hw1 ⊢; exact hw1⟩
      have hz : X.take i = [] ∨ Y.take j = [] := by
       by_cases h1 : a < s
       · exact .inr (List.eq_nil_of_length_eq_zero (by rw [l3]; omega))
       · exact .inl (List.eq_nil_of_length_eq_zero (by rw [l1]; omega))
      rcases hz with hz | hz <;> rw [hz]
      · rw [List.nil_append]; exact HX1.out.2.2.1
      · rw [List.append_nil]; exact HX1.out.1)
     have HR2 : Hid (∀ w2, St2 w0 g A X Y B i j w2 → md < e → e < b → Calls Tryz.prog 199 #[.slice (some ⟨g, 0, none⟩) N cap, .int .i64 md, .int .i64 e, .int .i64 b, .func (.func 120) #[] #[.pointer (some ⟨cb, 0, none⟩)]] w2 fun e w' => e = .returned (.tuple #[]) ∧ MergeDone w0 g A X Y B w') := Lib.hid (fun w2 hw2 h1 h2 => by
      obtain ⟨S1, p1, p2, p3⟩ := hw2
      have hsl : S1.length = i + j := by rw [p1.length_eq, List.length_append, l1, l3]
      have h := HIH.out (A ++ S1) (X.drop i) (Y.drop j) B N cap w2 (by rw [l2, l4]; have := HNNl.out; have := H2.out; have := HMX.out; have := HBY.out; omega) hcap ⟨by intro e; rw [e] at l2; simp at l2; have := HMX.out; omega, by intro e; rw [e] at l4; simp at l4; have := HBY.out; omega, by rw [HN.out, ← len4 A X Y B i j S1 p1.length_eq], fun u hu => HM.out.hU u (by
       rcases List.mem_append.1 hu with hu | hu
       · exact List.mem_append_left _ (List.mem_of_mem_drop hu)
       · exact List.mem_append_right _ (List.mem_of_mem_drop hu)), HX1.out.2.1, HX1.out.2.2.2, fun u hu v hv => HM.out.tags u (List.mem_of_mem_drop hu) v (List.mem_of_mem_drop hv), p3⟩
      rw [l2, l4, show (A ++ S1).length = md by rw [List.length_append, hsl, ← HA.out]; omega, show md + (X.length - i) = e by have := HMX.out; omega, show e + (Y.length - j) = b by have := HBY.out; omega] at h
      refine h.mono ?_
      rintro e w' ⟨rfl, S2, t1, t2, t3⟩
      exact ⟨rfl, st3 p1 p2 t1 t2 hcut t3⟩)
     have HE3 : Hid (∀ w2, St2 w0 g A X Y B i j w2 → ¬ (md < e ∧ e < b) → MergeDone w0 g A X Y B w2) := Lib.hid (fun w2 hw2 h => by
      obtain ⟨S1, p1, p2, p3⟩ := hw2
      refine st3 (S2 := X.drop i ++ Y.drop j) p1 p2 (List.Perm.refl _) ?_ hcut (by simp only [List.append_assoc] at p3 ⊢; exact p3)
      have hz : X.drop i = [] ∨ Y.drop j = [] := by
       by_cases h1 : md < e
       · exact .inr (List.eq_nil_of_length_eq_zero (by rw [l4]; have := HBY.out; omega))
       · exact .inl (List.eq_nil_of_length_eq_zero (by rw [l2]; have := HMX.out; omega))
      rcases hz with hz | hz <;> rw [hz]
      · rw [List.nil_append]; exact HX1.out.2.2.2
      · rw [List.append_nil]; exact HX1.out.2.1)
     clear hcut l1 l2 l3 l4 e0 HS' hee hi hj b1 f1 f2 f3 f4 f5 f6 HC hs0 hsr hrr hlt c3
     rcases tri ((s : Int) < (m : Int)) ((m : Int) < (e : Int)) with ⟨d1, d2⟩ | ⟨d1, d2⟩ | d1 <;> rcases tri ((a : Int) < (s : Int)) ((s : Int) < (md : Int)) with ⟨d3, d4⟩ | ⟨d3, d4⟩ | d3 <;> rcases tri ((md : Int) < (e : Int)) ((e : Int) < (b : Int)) with ⟨d5, d6⟩ | ⟨d5, d6⟩ | d5
     all_goals try (exfalso; omega)
     all_goals
      first | have HT1 := Lib.hid (HE1.out (by omega)) | skip
      go_wp2_with (first
       | (go_at_call 246; (with_reducible refine (HROT.out (by omega) (by omega)).mono ?_); rintro e w1 ⟨rfl, hT1⟩; have HT1 := Lib.hid hT1; clear hT1)
       | (go_at_call 199; (with_reducible refine (HR1.out _ HT1.out (by omega) (by omega)).mono ?_); rintro e w2 ⟨rfl, hT2⟩; have HT2 := Lib.hid hT2; clear hT2)
       | (go_at_call 199; (first | have HT2 := Lib.hid (HE2.out _ HT1.out (by omega)) | skip); (with_reducible refine (HR2.out _ HT2.out (by omega) (by omega)).mono ?_); rintro e w3 ⟨rfl, hT3⟩; have HT3 := Lib.hid hT3; clear hT3))
      all_goals first | have HT2 := Lib.hid (HE2.out _ HT1.out (by omega)) | skip
      all_goals first | have HT3 := Lib.hid (HE3.out _ HT2.out (by omega)) | skip
      all_goals (first | exact bodyPost_end (v := .tuple #[]) (by simp [results, Tryz.f199, go_sem]) rfl ⟨rfl, HT3.out⟩ | (refine bodyPost_ret (v := .tuple #[]) ?_ rfl ⟨rfl, HT3.out⟩ <;> simp [results, Tryz.f199, go_sem]))
theorem symMerge_in (w0 : World) (g cb : Nat) (U : PEl → Prop) (hg : g < w0.heap.size) (hcmp : CmpIn w0 g cb U) : ∀ n, MergeCalls w0 g cb U n := by
 intro n
 induction n with
 | zero =>
  intro A X Y B N cap W h _ hM
  have := List.length_pos_iff.2 hM.nx
  omega
 | succ n ih =>
  intro A X Y B N cap W h hcap hM
  have hx := List.length_pos_iff.2 hM.nx
  have hy := List.length_pos_iff.2 hM.ny
  by_cases h1 : X.length = 1
  · obtain ⟨x, rfl⟩ := List.length_eq_one_iff.1 h1
    refine (merge_one w0 g cb U hg hcmp A Y B x N cap W hM.hN hcap (fun e he => hM.hU e (by simpa using he)) hM.sy (fun y hy => hM.tags x List.mem_cons_self y hy) hM.sw).mono ?_
    rintro e w' ⟨rfl, h2⟩
    exact ⟨rfl, h2⟩
  · by_cases h2 : Y.length = 1
    · obtain ⟨y, rfl⟩ := List.length_eq_one_iff.1 h2
      refine (merge_last w0 g cb U hg hcmp A X B y N cap W hM.hN hcap (fun e he => hM.hU e (by
       rcases List.mem_cons.1 he with rfl | he
       · simp
       · exact List.mem_append_left _ he)) hM.sx (fun x hx => hM.tags x hx y List.mem_cons_self) (by omega) hM.sw).mono ?_
      rintro e w' ⟨rfl, h3⟩
      exact ⟨rfl, h3⟩
    · exact symMerge_step w0 g cb U hg hcmp n ih A X Y B N cap W h hcap (by omega) (by omega) hM
inductive BL (z : Nat) : List PEl → List PEl → Prop
 | last (o c : List PEl) : o.length ≤ z → c.Perm o → c.Pairwise elt → BL z o c
 | more (o1 c1 o c : List PEl) : o1.length = z → c1.Perm o1 → c1.Pairwise elt → BL z o c → BL z (o1 ++ o) (c1 ++ c)
theorem BL.perm {z : Nat} {o c : List PEl} (h : BL z o c) : c.Perm o := by
 induction h with
 | last o c _ h _ => exact h
 | more o1 c1 o c _ h1 _ _ ih => exact h1.append ih
def Done (z : Nat) (o1 c1 : List PEl) : Prop := ∀ o c, BL z o c → BL z (o1 ++ o) (c1 ++ c)
theorem Done.nil (z : Nat) : Done z [] [] := fun o c h => by simpa using h
theorem Done.snoc {z : Nat} {o1 c1 p s : List PEl} (h : Done z o1 c1) (hp : p.length = z) (hs : s.Perm p) (hss : s.Pairwise elt) : Done z (o1 ++ p) (c1 ++ s) := fun o c hb => by
 rw [List.append_assoc, List.append_assoc]
 exact h _ _ (.more p s o c hp hs hss hb)
theorem BL.whole {z : Nat} {o c : List PEl} (h : BL z o c) (hl : o.length ≤ z) : c.Perm o ∧ c.Pairwise elt := by
 refine ⟨h.perm, ?_⟩
 cases h with
 | last _ _ _ _ h => exact h
 | more o1 c1 o c h1 h2 h3 h4 =>
  rw [List.length_append] at hl
  obtain rfl : o = [] := List.eq_nil_of_length_eq_zero (by omega)
  have := h4.perm
  rw [List.perm_nil] at this
  rw [this, List.append_nil]
  exact h3
theorem BL.split {z : Nat} {o c : List PEl} (h : BL z o c) (hl : z < o.length) : ∃ o1 c1 o2 c2, o = o1 ++ o2 ∧ c = c1 ++ c2 ∧ o1.length = z ∧ c1.Perm o1 ∧ c1.Pairwise elt ∧ BL z o2 c2 := by
 cases h with
 | last _ _ h _ _ => omega
 | more o1 c1 o c h1 h2 h3 h4 => exact ⟨o1, c1, o, c, rfl, rfl, h1, h2, h3, h4⟩
theorem BL.first {z : Nat} {o c : List PEl} (h : BL z o c) (hl : z ≤ o.length) : ∃ o1 c1 o2 c2, o = o1 ++ o2 ∧ c = c1 ++ c2 ∧ o1.length = z ∧ c1.Perm o1 ∧ c1.Pairwise elt ∧ BL z o2 c2 := by
 cases h with
 | last _ _ h1 h2 h3 => exact ⟨o, c, [], [], by simp, by simp, by omega, h2, h3, .last _ _ (Nat.zero_le _) (List.Perm.refl _) List.Pairwise.nil⟩
 | more o1 c1 o c h1 h2 h3 h4 => exact ⟨o1, c1, o, c, rfl, rfl, h1, h2, h3, h4⟩
theorem tags_apart {p q X Y o : List PEl} (ht : (p ++ q ++ o).Pairwise (fun x y => x.tag < y.tag)) (hx : X.Perm p) (hy : Y.Perm q) : ∀ x ∈ X, ∀ y ∈ Y, x.tag < y.tag := fun x hx' y hy' => by
 have h1 := (List.pairwise_append.1 ht).1
 exact (List.pairwise_append.1 h1).2.2 x (hx.mem_iff.1 hx') y (hy.mem_iff.1 hy')
end Go.Proofs.YthigbklhngihkaaGreatDoor.P

import Derived.Test.YthigbklhngihkaaGreatDoorMValueKeysm
set_option linter.unusedVariables false
set_option linter.unusedSimpArgs false
set_option maxRecDepth 100000
namespace Go.Proofs.YthigbklhngihkaaGreatDoor.P
open Go.RowKit Go.Proofs.YthigbklhngihkaaGreatDoorW.PrintWords Go.Proofs.YthigbklhngihkaaGreatDoorW.PrintMore Go.Proofs.YthigbklhngihkaaGreatDoorW.PrintLast
theorem SW.swap1 {w0 W : World} {g : Nat} {P Q : List PEl} {x y : PEl} (h : SW w0 g (P ++ y :: x :: Q) W) :
 SW w0 g (P ++ x :: y :: Q) ((W.setCells g ((P.length + 1) * 14) y.row).setCells g (P.length * 14) x.row) := by
 have h1 : (P ++ y :: x :: Q)[P.length + 1]? = some x := at_far (A := P) (M := []) (B := Q) (x := y) (y := x)
 have h2 : (P ++ y :: x :: Q)[P.length]? = some y := at_head
 have := h.swap h1 h2 (by omega)
 rw [List.set_comm _ _ (by omega)] at this
 have e := set_pair (els := P ++ y :: ([] ++ x :: Q)) (A := P) (M := []) (B := Q) (x := y) (y := x) rfl
 simp only [List.nil_append, List.length_nil, Nat.add_zero] at e
 rw [e] at this
 exact this
theorem InsIn.drew {w0 : World} {g : Nat} {A S1 T : List PEl} {x : PEl} {l : Nat} {W : World} (h : InsIn w0 g A S1 T x l W) : InsIn w0 g A S1 T x l W.drew := by
 obtain ⟨L, R, h1, h2, h3, h4⟩ := h.ex
 exact ⟨L, R, h1, h2, h3, h4.drew⟩
theorem InsIn.grow {w0 : World} {g : Nat} {A S1 T : List PEl} {x : PEl} {l : Nat} {W W' : World} (hg : g < w0.heap.size) (h : InsIn w0 g A S1 T x l W) (hb : Below W.heap.size W W') : InsIn w0 g A S1 T x l W' := by
 obtain ⟨L, R, h1, h2, h3, h4⟩ := h.ex
 exact ⟨L, R, h1, h2, h3, h4.grow hg hb⟩
set_option maxHeartbeats 4000000 in
theorem insertion_in (w0 : World) (g cb : Nat) (U : PEl → Prop) (hg : g < w0.heap.size) (hcmp : CmpIn w0 g cb U) (A S B : List PEl) (N cap : Nat) (W : World) (hN : N = (A ++ S ++ B).length) (hcap : N ≤ 1048576) (hU : ∀ e ∈ S, U e) (htag : S.Pairwise (fun x y => x.tag < y.tag)) (h : SW w0 g (A ++ S ++ B) W) :
 Calls Tryz.prog 198 #[.slice (some ⟨g, 0, none⟩) N cap, .int .i64 A.length, .int .i64 (A.length + S.length : Nat), .func (.func 120) #[] #[.pointer (some ⟨cb, 0, none⟩)]] W fun e w' => e = .returned (.tuple #[]) ∧ ∃ S', S'.Perm S ∧ S'.Pairwise elt ∧ SW w0 g (A ++ S' ++ B) w' := by
 obtain ⟨a, ha⟩ : ∃ a, a = A.length := ⟨_, rfl⟩
 obtain ⟨b, hb⟩ : ∃ b, b = A.length + S.length := ⟨_, rfl⟩
 rw [← hb, ← ha]
 have hbN : b ≤ N := by rw [hN]; simp; omega
 have hab : a ≤ b := by omega
 have HA := Lib.hid ha
 have HBS := Lib.hid hb
 have HN := Lib.hid hN
 have H := Lib.hid h
 have HU := Lib.hid hU
 have HT := Lib.hid htag
 have HCMP := Lib.hid hcmp
 have hu := Tryz.underlying102
 clear hN ha hb h hU htag hcmp
 go_enter Tryz.func198, Tryz.ntmps198
 go_wp2
 go_loopw [8] (fun vi wr => ∃ k i : Nat, vi = .int .i64 i ∧ i = a + k ∧ 1 ≤ k ∧ (i ≤ b ∨ (k = 1 ∧ a = b)) ∧ Hid (InsAt w0 g A S B k wr)) (fun vi _ => b + 1 - (intOf vi).toNat)
 case atStart =>
  refine ⟨1, a + 1, by first | rfl | exact congrArg (Value.int .i64) (wrap64_up a (by omega)), rfl, Nat.le_refl _, by omega, Lib.hid ⟨S.take 1, List.Perm.refl _, ?_, by have := H.out; rw [List.append_assoc A, List.take_append_drop]; exact this⟩⟩
  cases S with
  | nil => simp
  | cons x S => simp
 case round =>
  obtain ⟨k, i, rfl, hik, hk1, hib, HI⟩ := hrel
  have HIK := Lib.hid hik
  by_cases hlt : i < b
  · have hkS : k < S.length := by have := HBS.out; have := HA.out; omega
    obtain ⟨S1, hp, hs, hS⟩ := HI.out.ex
    rw [List.drop_eq_getElem_cons hkS] at hS
    have HP := Lib.hid hp
    have HS1 := Lib.hid hs
    have hux : U S[k] := HU.out _ (List.getElem_mem hkS)
    have HX : Hid (∀ y ∈ S1, U y ∧ y.tag < S[k].tag) := Lib.hid (fun y hy => by
     have hm : y ∈ S.take k := hp.mem_iff.1 hy
     refine ⟨HU.out _ (List.mem_of_mem_take hm), ?_⟩
     obtain ⟨j, hj, rfl⟩ := List.mem_iff_getElem.1 hm
     rw [List.length_take] at hj
     rw [List.getElem_take]
     exact List.pairwise_iff_getElem.1 HT.out j k (by omega) hkS (by omega))
    have HUX := Lib.hid hux
    have hin : InsIn w0 g A S1 (S.drop (k + 1) ++ B) S[k] S1.length wr := ⟨S1, [], rfl, by simp, by simp, by simp only [List.append_assoc, List.cons_append, List.nil_append, List.append_nil] at hS ⊢; exact hS⟩
    have hl1 : S1.length = k := by rw [hp.length_eq, List.length_take]; omega
    rw [hl1] at hin
    have HIN := Lib.hid hin
    have HST : Hid (∀ (l : Nat) (w : World), InsIn w0 g A S1 (S.drop (k + 1) ++ B) S[k] l w → (∀ L R : List PEl, L.length = l → L ++ R = S1 → ∀ y ∈ L, elt y S[k]) → InsAt w0 g A S B (k + 1) w) := Lib.hid (fun l w h h2 => h.stop hkS hp hs h2)
    have HLEN : Hid (∀ (l : Nat) (L R : List PEl), L ++ S[k] :: R = L ++ S[k] :: R → N = (A ++ L ++ S[k] :: R ++ (S.drop (k + 1) ++ B)).length ∨ L ++ R ≠ S1) := Lib.hid (fun l L R _ => by
     by_cases e : L ++ R = S1
     · left
       have h1 : (L ++ R).length = k := by rw [e]; exact hl1
       have h2 := HN.out
       simp only [List.length_append, List.length_cons, List.length_drop] at h1 h2 ⊢
       omega
     · exact .inr e)
    generalize S[k] = x at *
    clear hS hp hs hin hl1 hux hkS hik hib
    go_wp2
    go_loopw [9] (fun vj wq => ∃ l j : Nat, vj = .int .i64 j ∧ j = a + l ∧ l ≤ k ∧ Hid (InsIn w0 g A S1 (S.drop (k + 1) ++ B) x l wq)) (fun vj _ => (intOf vj).toNat)
    case atStart => exact ⟨k, i, rfl, HIK.out, Nat.le_refl _, HIN⟩
    case round =>
     obtain ⟨l, j, rfl, hjl, hlk, HJ⟩ := hrel
     have hib : i ≤ b := Nat.le_of_lt hlt
     have hji : j ≤ i := by have := HIK.out; omega
     by_cases hl0 : l = 0
     · subst hl0
       obtain rfl : j = a := by omega
       clear hjl
       have HNXT := Lib.hid (HST.out 0 _ HJ.out.drew (fun L R h1 _ y hy => by rw [List.eq_nil_of_length_eq_zero h1] at hy; cases hy))
       have hgg : ¬ (j : Int) < (j : Int) := by omega
       go_upto_region 4 with (fail)
       refine wp_region_any (by kernel_rfl) ?_
       change wpAny _ _ _ _ _ _ _ (World.drew _)
       refine tq 0 (h := ?_)
       refine tq 1 (h := ?_)
       simp only [lst]
       refine tq 2 (h := ?_)
       refine tq 3 (h := ?_)
       simp only [lst]
       refine sq 4 (h := ?_)
       refine sq 5 (h := ?_)
       simp only [lst]
       refine sq 6 (h := ?_)
       refine sq 7 (h := ?_)
       simp only [lst]
       refine sq 8 (h := ?_)
       refine sq 9 (h := ?_)
       simp only [lst]
       refine sq 10 (h := ?_)
       refine sq 11 (h := ?_)
       simp only [lst]
       refine sq 12 (h := ?_)
       refine sq 13 (h := ?_)
       simp only [lst]
       refine sq 14 (h := ?_)
       refine sq 15 (h := ?_)
       simp only [lst]
       refine tq 16 (h := ?_)
       refine wpAny_done (by kernel_rfl) ?_ _
       simp only [lst]
       rotate_left
       have HIB : Hid (i ≤ 4611686018427387904 ∧ i + 1 = j + (k + 1)) := Lib.hid ⟨by omega, by have := HIK.out; omega⟩
       clear hgg
       go_wp2_with fail
       go_roundw
       case rel => exact ⟨k + 1, i + 1, by first | rfl | exact congrArg (Value.int .i64) (wrap64_up i HIB.out.1), HIB.out.2, by omega, .inl hlt, HNXT⟩
       case measure => first | (rw [wrap64_up i HIB.out.1]; show b + 1 - (i + 1) < b + 1 - i; omega) | (show b + 1 - (i + 1) < b + 1 - i; omega)
     · obtain ⟨L, R, hL, hLR, hR, hSW⟩ := HJ.out.ex
       have hLne : L ≠ [] := by intro e; rw [e] at hL; exact hl0 hL.symm
       obtain ⟨L', y, rfl⟩ : ∃ L' y, L = L' ++ [y] := ⟨L.dropLast, L.getLast hLne, (List.dropLast_concat_getLast hLne).symm⟩
       rw [List.length_append, List.length_singleton] at hL
       have hyS : y ∈ S1 := by rw [← hLR]; simp
       obtain ⟨huy, hty⟩ := HX.out y hyS
       have HSW0 := Lib.hid hSW
       have hsw1 : SW w0 g ((A ++ L') ++ y :: x :: (R ++ (S.drop (k + 1) ++ B))) wr.drew := by
        have := hSW.drew
        simp only [List.append_assoc, List.cons_append, List.nil_append] at this ⊢
        exact this
       have hal : (A ++ L').length + 1 = j := by rw [List.length_append, ← HA.out]; omega
       obtain ⟨jp, hjp⟩ : ∃ jp, jp = (A ++ L').length := ⟨_, rfl⟩
       have hjj : j = jp + 1 := by omega
       have hx1 : ((A ++ L') ++ y :: x :: (R ++ (S.drop (k + 1) ++ B)))[j]? = some x := by
        rw [← hal]
        exact at_far (A := A ++ L') (M := []) (B := R ++ (S.drop (k + 1) ++ B)) (x := y) (y := x)
       have hy1 : ((A ++ L') ++ y :: x :: (R ++ (S.drop (k + 1) ++ B)))[jp]? = some y := by rw [hjp]; exact at_head
       have rx := hsw1.at_ _ _ hx1
       have ry := hsw1.at_ _ _ hy1
       have okx := hsw1.ok x (by simp)
       have oky := hsw1.ok y (by simp)
       have lx := okx.len
       have ly := oky.len
       have ox := okx.one
       have oy := oky.one
       have ix := info_pair _ lx
       have iy := info_pair _ ly
       have HSW := Lib.hid hsw1
       have HX1 := Lib.hid hx1
       have HY1 := Lib.hid hy1
       have HKD := Lib.hid hsw1.keep
       have HLR := Lib.hid hLR
       have HRR := Lib.hid hR
       have HAL := Lib.hid hal
       have HJP := Lib.hid hjp
       have HJJ := Lib.hid hjj
       have HTY := Lib.hid hty
       have HL0 := Lib.hid hL
       have HJL := Lib.hid hjl
       have HCC : Hid (∀ W, KeepG w0 g W → Calls Tryz.prog 120 #[.agg x.row.toArray, .agg y.row.toArray, .pointer (some ⟨cb, 0, none⟩)] W fun e w' => e = .returned (.int .i64 (vord x.key y.key)) ∧ Below W.heap.size W w') := Lib.hid (fun W hW => HCMP.out W hW x y HUX.out huy)
       have hgg : (a : Int) < (j : Int) := by omega
       have q1 : (0 : Int) ≤ (j : Int) := by omega
       have q2 : (j : Int) < (N : Int) := by omega
       have q3 : (1 : Int) ≤ (j : Int) := by omega
       have q4 : (j : Int) - 1 < (N : Int) := by omega
       have q5 : ((j : Int) - 1).toNat = jp := by omega
       have q6 : IntKind.i64.wrap ((j : Int) - 1) = (j : Int) - 1 := by rw [wrap_in _ (by omega)]
       clear hSW hsw1 hx1 hy1 okx oky hLR hR hal hjp hjj hty huy hyS hLne hL hjl HJ hl0
       by_cases hc : vord x.key y.key < 0
       · go_upto_region 4 with (fail)
         refine wp_region_any (by kernel_rfl) ?_
         change wpAny _ _ _ _ _ _ _ (World.drew _)
         refine tq 0 (h := ?_)
         refine tq 1 (h := ?_)
         simp only [lst]
         refine tq 2 (h := ?_)
         refine tq 3 (h := ?_)
         simp only [lst]
         refine tq 4 (h := ?_)
         refine tq 5 (h := ?_)
         simp only [lst]
         refine tq 6 (h := ?_)
         refine tq 7 (h := ?_)
         simp only [lst]
         refine tq 9 (h := ?_)
         refine tq 10 (h := ?_)
         simp only [lst]
         refine tq 11 (h := ?_)
         refine tq 12 (h := ?_)
         simp only [lst]
         refine two 8 13 rfl rfl (by kernel_rfl) (by rfl) (by rfl) (fun K_ hK_ => ?_) (fun K_ hK_ => ?_)
         refine wp_load_mid _ _ rfl _ _ rfl _ _ rx hu rfl ix ?_
         refine hK_ _ _ ?_
         clear hK_ K_
         simp only [Act.put, lgt, List.setIfInBounds_toArray, lst]
         refine one 13 rfl (by kernel_rfl) (by rfl) fun K_ hK_ => ?_
         refine wp_load_mid _ _ rfl _ _ rfl _ _ ry hu rfl iy ?_
         refine hK_ _ _ ?_
         clear hK_ K_
         simp only [Act.put, lgt, List.setIfInBounds_toArray, lst]
         refine one 14 rfl (by kernel_rfl) (by rfl) fun K_ hK_ => ?_
         simp only [lgt]
         go_simp
         refine (HCC.out _ HKD.out).mono ?_
         rintro e_ w5 ⟨rfl, hB5⟩
         have HB5 := Lib.hid hB5
         clear hB5
         simp only [Oper.upon]
         refine hK_ _ _ ?_
         clear hK_ K_
         refine tq 15 (h := ?_)
         refine tq 16 (h := ?_)
         refine wpAny_done (by kernel_rfl) ?_ _
         simp only [lst]
         rotate_left
         refine wp_load_mid _ _ rfl _ _ rfl _ _ ry hu rfl iy ?_
         refine hK_ _ _ ?_
         clear hK_ K_
         simp only [Act.put, lgt, List.setIfInBounds_toArray, lst]
         refine one 8 rfl (by kernel_rfl) (by rfl) fun K_ hK_ => ?_
         refine wp_load_mid _ _ rfl _ _ rfl _ _ rx hu rfl ix ?_
         refine hK_ _ _ ?_
         clear hK_ K_
         simp only [Act.put, lgt, List.setIfInBounds_toArray, lst]
         refine one 14 rfl (by kernel_rfl) (by rfl) fun K_ hK_ => ?_
         simp only [lgt]
         go_simp
         refine (HCC.out _ HKD.out).mono ?_
         rintro e_ w5 ⟨rfl, hB5⟩
         have HB5 := Lib.hid hB5
         clear hB5
         simp only [Oper.upon]
         refine hK_ _ _ ?_
         clear hK_ K_
         refine tq 15 (h := ?_)
         refine tq 16 (h := ?_)
         refine wpAny_done (by kernel_rfl) ?_ _
         simp only [lst]
         rotate_left
         all_goals
          clear q1 q3 rx ry hgg HCC HX
          go_upto_region 6 with (fail)
          have hsw6 := (HSW.out.grow hg HB5.out).drew
          have rx6 := hsw6.at_ _ _ HX1.out
          have ry6 := hsw6.at_ _ _ HY1.out
          have tx6 := there_part hsw6.there (i := j) (List.getElem?_eq_some_iff.1 HX1.out).1
          have ty6 := World.there_setCells (there_part hsw6.there (i := jp) (List.getElem?_eq_some_iff.1 HY1.out).1) g (j * 14) y.row
          have hfin := hsw6.swap1
          rw [HAL.out, ← HJP.out] at hfin
          have HFIN := Lib.hid hfin
          have q1 : (0 : Int) ≤ (j : Int) := by omega
          have q3 : (1 : Int) ≤ (j : Int) := by have := HJJ.out; omega
          clear hsw6 hfin
          refine wp_region_any (by kernel_rfl) ?_
          change wpAny _ _ _ _ _ _ _ (World.drew _)
          refine tq 0 (h := ?_)
          refine tq 1 (h := ?_)
          simp only [lst]
          refine tq 2 (h := ?_)
          refine tq 3 (h := ?_)
          simp only [lst]
          refine tq 4 (h := ?_)
          refine tq 5 (h := ?_)
          simp only [lst]
          refine tq 6 (h := ?_)
          refine tq 7 (h := ?_)
          simp only [lst]
          refine tq 8 (h := ?_)
          refine tq 10 (h := ?_)
          simp only [lst]
          refine tq 11 (h := ?_)
          refine tq 12 (h := ?_)
          simp only [lst]
          refine two 9 13 rfl rfl (by kernel_rfl) (by rfl) (by rfl) (fun K_ hK_ => ?_) (fun K_ hK_ => ?_)
          refine wp_load_mid _ _ rfl _ _ rfl _ _ ry6 hu rfl iy ?_
          refine hK_ _ _ ?_
          clear hK_ K_
          simp only [Act.put, lgt, List.setIfInBounds_toArray, lst]
          refine one 13 rfl (by kernel_rfl) (by rfl) fun K_ hK_ => ?_
          refine wp_load_mid _ _ rfl _ _ rfl _ _ rx6 hu rfl ix ?_
          refine hK_ _ _ ?_
          clear hK_ K_
          simp only [Act.put, lgt, List.setIfInBounds_toArray, lst]
          refine tq 14 (h := ?_)
          simp only [lst]
          refine one 15 rfl (by kernel_rfl) (by rfl) fun K_ hK_ => ?_
          refine wp_store_mid _ _ _ rfl _ _ (List.toArray _) rfl rfl (by rw [List.size_toArray, ly]; exact tx6) (by rw [List.size_toArray]; exact iy) (all_oneCell_toArray oy) ?_
          simp only [List.toList_toArray]
          refine hK_ _ _ ?_
          clear hK_ K_
          simp only [Act.put, lgt, List.setIfInBounds_toArray, lst]
          refine tq 16 (h := ?_)
          simp only [lst]
          refine one 17 rfl (by kernel_rfl) (by rfl) fun K_ hK_ => ?_
          refine wp_store_mid _ _ _ rfl _ _ (List.toArray _) rfl rfl (by rw [List.size_toArray, lx]; exact ty6) (by rw [List.size_toArray]; exact ix) (all_oneCell_toArray ox) ?_
          simp only [List.toList_toArray]
          refine hK_ _ _ ?_
          clear hK_ K_
          refine wpAny_done (by kernel_rfl) ?_ _
          simp only [Act.put, lgt, List.setIfInBounds_toArray, lst]
          rotate_left
          refine wp_load_mid _ _ rfl _ _ rfl _ _ rx6 hu rfl ix ?_
          refine hK_ _ _ ?_
          clear hK_ K_
          simp only [Act.put, lgt, List.setIfInBounds_toArray, lst]
          refine one 9 rfl (by kernel_rfl) (by rfl) fun K_ hK_ => ?_
          refine wp_load_mid _ _ rfl _ _ rfl _ _ ry6 hu rfl iy ?_
          refine hK_ _ _ ?_
          clear hK_ K_
          simp only [Act.put, lgt, List.setIfInBounds_toArray, lst]
          refine tq 14 (h := ?_)
          simp only [lst]
          refine one 15 rfl (by kernel_rfl) (by rfl) fun K_ hK_ => ?_
          refine wp_store_mid _ _ _ rfl _ _ (List.toArray _) rfl rfl (by rw [List.size_toArray, ly]; exact tx6) (by rw [List.size_toArray]; exact iy) (all_oneCell_toArray oy) ?_
          simp only [List.toList_toArray]
          refine hK_ _ _ ?_
          clear hK_ K_
          simp only [Act.put, lgt, List.setIfInBounds_toArray, lst]
          refine tq 16 (h := ?_)
          simp only [lst]
          refine one 17 rfl (by kernel_rfl) (by rfl) fun K_ hK_ => ?_
          refine wp_store_mid _ _ _ rfl _ _ (List.toArray _) rfl rfl (by rw [List.size_toArray, lx]; exact ty6) (by rw [List.size_toArray]; exact ix) (all_oneCell_toArray ox) ?_
          simp only [List.toList_toArray]
          refine hK_ _ _ ?_
          clear hK_ K_
          refine wpAny_done (by kernel_rfl) ?_ _
          simp only [Act.put, lgt, List.setIfInBounds_toArray, lst]
          rotate_left
         all_goals
          clear rx6 ry6 tx6 ty6 ix iy ox oy lx ly q1 q2 q3 q4 q5 q6
          have hfin := HFIN.out
          generalize (w5.drew.setCells g (j * 14) y.row).setCells g (jp * 14) x.row = W9 at hfin ⊢
          have HNX : Hid (InsIn w0 g A (L' ++ [y] ++ R) (S.drop (k + 1) ++ B) x (l - 1) W9) := Lib.hid ⟨L', y :: R, by have := HL0.out; omega, by simp, fun r hr => by
           rcases List.mem_cons.1 hr with rfl | hr
           · exact .inl hc
           · exact HRR.out r hr, by simp only [List.append_assoc, List.cons_append] at hfin ⊢; exact hfin⟩
          rw [HLR.out] at HNX
          have HJ2 : Hid (j - 1 = a + (l - 1) ∧ 1 ≤ l ∧ 1 ≤ j) := Lib.hid (by have := HJL.out; have := HL0.out; omega)
          have hjs : (j : Int) - 1 = ((j - 1 : Nat) : Int) := by have := HJ2.out; omega
          clear hfin hc
          go_wp2_with fail
          go_roundw
          case rel => exact ⟨l - 1, j - 1, by first | rfl | (rw [hjs]), HJ2.out.1, by omega, HNX⟩
          case measure => have := HJ2.out; first | (rw [hjs]; show j - 1 < j; omega) | (show j - 1 < j; omega)
       · go_upto_region 4 with (fail)
         refine wp_region_any (by kernel_rfl) ?_
         change wpAny _ _ _ _ _ _ _ (World.drew _)
         refine tq 0 (h := ?_)
         refine tq 1 (h := ?_)
         simp only [lst]
         refine tq 2 (h := ?_)
         refine tq 3 (h := ?_)
         simp only [lst]
         refine tq 4 (h := ?_)
         refine tq 5 (h := ?_)
         simp only [lst]
         refine tq 6 (h := ?_)
         refine tq 7 (h := ?_)
         simp only [lst]
         refine tq 9 (h := ?_)
         refine tq 10 (h := ?_)
         simp only [lst]
         refine tq 11 (h := ?_)
         refine tq 12 (h := ?_)
         simp only [lst]
         refine two 8 13 rfl rfl (by kernel_rfl) (by rfl) (by rfl) (fun K_ hK_ => ?_) (fun K_ hK_ => ?_)
         refine wp_load_mid _ _ rfl _ _ rfl _ _ rx hu rfl ix ?_
         refine hK_ _ _ ?_
         clear hK_ K_
         simp only [Act.put, lgt, List.setIfInBounds_toArray, lst]
         refine one 13 rfl (by kernel_rfl) (by rfl) fun K_ hK_ => ?_
         refine wp_load_mid _ _ rfl _ _ rfl _ _ ry hu rfl iy ?_
         refine hK_ _ _ ?_
         clear hK_ K_
         simp only [Act.put, lgt, List.setIfInBounds_toArray, lst]
         refine one 14 rfl (by kernel_rfl) (by rfl) fun K_ hK_ => ?_
         simp only [lgt]
         go_simp
         refine (HCC.out _ HKD.out).mono ?_
         rintro e_ w5 ⟨rfl, hB5⟩
         have HB5 := Lib.hid hB5
         clear hB5
         simp only [Oper.upon]
         refine hK_ _ _ ?_
         clear hK_ K_
         refine tq 15 (h := ?_)
         refine tq 16 (h := ?_)
         refine wpAny_done (by kernel_rfl) ?_ _
         simp only [lst]
         rotate_left
         refine wp_load_mid _ _ rfl _ _ rfl _ _ ry hu rfl iy ?_
         refine hK_ _ _ ?_
         clear hK_ K_
         simp only [Act.put, lgt, List.setIfInBounds_toArray, lst]
         refine one 8 rfl (by kernel_rfl) (by rfl) fun K_ hK_ => ?_
         refine wp_load_mid _ _ rfl _ _ rfl _ _ rx hu rfl ix ?_
         refine hK_ _ _ ?_
         clear hK_ K_
         simp only [Act.put, lgt, List.setIfInBounds_toArray, lst]
         refine one 14 rfl (by kernel_rfl) (by rfl) fun K_ hK_ => ?_
         simp only [lgt]
         go_simp
         refine (HCC.out _ HKD.out).mono ?_
         rintro e_ w5 ⟨rfl, hB5⟩
         have HB5 := Lib.hid hB5
         clear hB5
         simp only [Oper.upon]
         refine hK_ _ _ ?_
         clear hK_ K_
         refine tq 15 (h := ?_)
         refine tq 16 (h := ?_)
         refine wpAny_done (by kernel_rfl) ?_ _
         simp only [lst]
         rotate_left
         all_goals
          clear q1 q3 rx ry hgg HCC HX
          have HNXT : Hid (InsAt w0 g A S B (k + 1) w5) := Lib.hid (HST.out l w5 (InsIn.grow hg (InsIn.drew ⟨L' ++ [y], R, by rw [List.length_append, List.length_singleton]; exact HL0.out, HLR.out, HRR.out, by
           have := HSW0.out
           exact this⟩) HB5.out) (fun L2 R2 e1 e2 => by
            have e3 : L2 = L' ++ [y] := by
             have h1 : L2 ++ R2 = (L' ++ [y]) ++ R := e2.trans HLR.out.symm
             exact (List.append_inj h1 (by rw [e1, List.length_append, List.length_singleton]; exact HL0.out.symm)).1
            rw [e3]
            exact last_below (by have := HS1.out; rw [← HLR.out] at this; exact (List.pairwise_append.1 this).1) (elt_of_ge hc HTY.out)))
          have HIB : Hid (i ≤ 4611686018427387904 ∧ i + 1 = a + (k + 1)) := Lib.hid ⟨by omega, by have := HIK.out; omega⟩
          clear q2 q4 q5 q6 ix iy ox oy lx ly
          go_wp2_with fail
          go_roundw
          case rel => exact ⟨k + 1, i + 1, by first | rfl | exact congrArg (Value.int .i64) (wrap64_up i HIB.out.1), HIB.out.2, by omega, .inl hlt, HNXT⟩
          case measure => first | (rw [wrap64_up i HIB.out.1]; show b + 1 - (i + 1) < b + 1 - i; omega) | (show b + 1 - (i + 1) < b + 1 - i; omega)
  · obtain ⟨S1, hp, hs, hS⟩ := HI.out.ex
    have hk2 : S.length ≤ k := by have := HBS.out; have := HA.out; omega
    rw [List.take_of_length_le hk2] at hp
    rw [List.drop_eq_nil_of_le hk2, List.append_nil] at hS
    have HP := Lib.hid hp
    have HS1 := Lib.hid hs
    have HSS := Lib.hid hS
    clear hp hs hS HI hik hib hk2
    go_wp2
    exact bodyPost_end (v := .tuple #[]) (by simp [results, Tryz.f198, go_sem]) rfl ⟨rfl, S1, HP.out, HS1.out, HSS.out⟩
structure CutUp (Y : List PEl) (x : PEl) (p q : Nat) : Prop where
 lo : ∀ t (h : t < Y.length), t < p → vord Y[t].key x.key < 0
 hi : ∀ t (h : t < Y.length), q ≤ t → ¬ vord Y[t].key x.key < 0
theorem CutUp.up {Y : List PEl} {x : PEl} {p q t : Nat} (h : CutUp Y x p q) (hY : Y.Pairwise elt) (ht : t < Y.length) (hlt : vord Y[t].key x.key < 0) : CutUp Y x (t + 1) q := by
 refine ⟨fun u hu hup => ?_, h.hi⟩
 rcases Nat.lt_or_ge u t with h1 | h1
 · have h2 := List.pairwise_iff_getElem.1 hY u t hu ht h1
   have tr := vord_tr Y[u].key Y[t].key x.key
   rcases h2 with h2 | ⟨h2, _⟩
   · exact tr.lt1 h2 (by omega)
   · exact tr.lt2 (by omega) hlt
 · have : u = t := by omega
   subst this; exact hlt
theorem CutUp.down {Y : List PEl} {x : PEl} {p q t : Nat} (h : CutUp Y x p q) (hY : Y.Pairwise elt) (ht : t < Y.length) (hlt : ¬ vord Y[t].key x.key < 0) : CutUp Y x p t := by
 refine ⟨h.lo, fun u hu hup => ?_⟩
 rcases Nat.lt_or_ge t u with h1 | h1
 · intro h3
   have h2 := List.pairwise_iff_getElem.1 hY t u ht hu h1
   have tr := vord_tr Y[t].key Y[u].key x.key
   rcases h2 with h2 | ⟨h2, _⟩
   · exact hlt (tr.lt1 h2 (by omega))
   · exact hlt (tr.lt2 (by omega) h3)
 · have : u = t := by omega
   subst this; exact hlt
theorem CutUp.sorted {Y : List PEl} {x : PEl} {p : Nat} (h : CutUp Y x p p) (hY : Y.Pairwise elt) (ht : ∀ y ∈ Y, x.tag < y.tag) : (Y.take p ++ x :: Y.drop p).Pairwise elt := by
 refine sorted_mid (by rw [List.take_append_drop]; exact hY) (fun y hy => ?_) (fun y hy => ?_)
 · obtain ⟨t, htl, rfl⟩ := List.mem_iff_getElem.1 hy
   rw [List.length_take] at htl
   rw [List.getElem_take]
   exact .inl (h.lo t (by omega) (by omega))
 · have hm := List.mem_of_mem_drop hy
   obtain ⟨t, htl, rfl⟩ := List.mem_iff_getElem.1 hy
   rw [List.length_drop] at htl
   rw [List.getElem_drop] at hm ⊢
   exact elt_of_ge (h.hi (p + t) (by omega) (by omega)) (ht _ hm)
theorem SW.swap2 {w0 W : World} {g : Nat} {P Q : List PEl} {x y : PEl} (h : SW w0 g (P ++ x :: y :: Q) W) :
 SW w0 g (P ++ y :: x :: Q) ((W.setCells g (P.length * 14) y.row).setCells g ((P.length + 1) * 14) x.row) := by
 have h1 : (P ++ x :: y :: Q)[P.length + 1]? = some y := at_far (A := P) (M := []) (B := Q) (x := x) (y := y)
 have h2 : (P ++ x :: y :: Q)[P.length]? = some x := at_head
 have := h.swap h2 h1 (by omega)
 have e := set_pair (els := P ++ x :: ([] ++ y :: Q)) (A := P) (M := []) (B := Q) (x := x) (y := y) rfl
 simp only [List.nil_append, List.length_nil, Nat.add_zero] at e
 rw [e] at this
 exact this
theorem two_at {P Q : List PEl} {x y : PEl} : (P ++ x :: y :: Q)[P.length]? = some x ∧ (P ++ x :: y :: Q)[P.length + 1]? = some y := ⟨at_head, at_far (A := P) (M := []) (B := Q) (x := x) (y := y)⟩
set_option maxHeartbeats 4000000 in
theorem merge_one (w0 : World) (g cb : Nat) (U : PEl → Prop) (hg : g < w0.heap.size) (hcmp : CmpIn w0 g cb U) (A Y B : List PEl) (x : PEl) (N cap : Nat) (W : World) (hN : N = (A ++ [x] ++ Y ++ B).length) (hcap : N ≤ 1048576) (hU : ∀ e ∈ x :: Y, U e) (hY : Y.Pairwise elt) (ht : ∀ y ∈ Y, x.tag < y.tag) (h : SW w0 g (A ++ [x] ++ Y ++ B) W) :
 Calls Tryz.prog 199 #[.slice (some ⟨g, 0, none⟩) N cap, .int .i64 A.length, .int .i64 (A.length + 1 : Nat), .int .i64 (A.length + 1 + Y.length : Nat), .func (.func 120) #[] #[.pointer (some ⟨cb, 0, none⟩)]] W fun e w' => e = .returned (.tuple #[]) ∧ ∃ S', S'.Perm ([x] ++ Y) ∧ S'.Pairwise elt ∧ SW w0 g (A ++ S' ++ B) w' := by
 obtain ⟨a, ha⟩ : ∃ a, a = A.length := ⟨_, rfl⟩
 obtain ⟨b, hb⟩ : ∃ b, b = A.length + 1 + Y.length := ⟨_, rfl⟩
 obtain ⟨m, hm⟩ : ∃ m, m = A.length + 1 := ⟨_, rfl⟩
 rw [← hb, ← hm, ← ha]
 have hbN : b ≤ N := by rw [hN]; simp; omega
 have hma : (m : Int) - (a : Int) = 1 := by omega
 have ham : a ≤ m := by omega
 have hmb : m ≤ b := by omega
 have HA := Lib.hid ha
 have HM := Lib.hid hm
 have HBB := Lib.hid hb
 have HN := Lib.hid hN
 have HU := Lib.hid hU
 have HY := Lib.hid hY
 have HT := Lib.hid ht
 have HCMP := Lib.hid hcmp
 have H := Lib.hid h
 have hu := Tryz.underlying102
 clear hN ha hb hm h hU hY ht hcmp
 go_enter Tryz.func199, Tryz.ntmps199
 go_wp2
 go_loopw [10, 11] (fun vi vj wr => ∃ i j p q : Nat, vi = .int .i64 i ∧ vj = .int .i64 j ∧ i = m + p ∧ j = m + q ∧ p ≤ q ∧ j ≤ b ∧ Hid (CutUp Y x p q) ∧ Hid (SW w0 g (A ++ [x] ++ Y ++ B) wr)) (fun vi vj _ => (intOf vj).toNat - (intOf vi).toNat)
 case atStart => exact ⟨m, b, 0, Y.length, rfl, rfl, rfl, by have := HBB.out; have := HM.out; omega, Nat.zero_le _, Nat.le_refl _, Lib.hid ⟨fun t h h' => absurd h' (by omega), fun t h h' => absurd h (by omega)⟩, H⟩
 case round =>
  obtain ⟨i, j, p, q, rfl, rfl, hip, hjq, hpq, hjb, HC, HS⟩ := hrel
  have HIP := Lib.hid hip
  have HJQ := Lib.hid hjq
  by_cases hlt : i < j
  · obtain ⟨t, hte⟩ : ∃ t, t = (p + q) / 2 := ⟨_, rfl⟩
    obtain ⟨hh, hhe⟩ : ∃ hh, hh = m + t := ⟨_, rfl⟩
    have hq1 : p ≤ t ∧ t < q := by omega
    have htY : t < Y.length := by have := HBB.out; have := HM.out; omega
    have hdv : ((i : Int) + (j : Int)) / 2 = (hh : Int) := by omega
    obtain ⟨y, hy⟩ : ∃ y, y = Y[t] := ⟨_, rfl⟩
    have hS := HS.out.drew
    have hx1 : (A ++ [x] ++ Y ++ B)[a]? = some x := by rw [HA.out]; simp
    have hy1 : (A ++ [x] ++ Y ++ B)[hh]? = some y := by
     rw [List.append_assoc, List.append_assoc, ← List.append_assoc A, List.getElem?_append_right (by simp; have := HM.out; omega), List.getElem?_append_left (by simp; have := HM.out; omega), hy, List.getElem?_eq_some_iff]
     have e : hh - (A ++ [x]).length = t := by simp; have := HM.out; omega
     exact ⟨by rw [e]; exact htY, by simp only [e]⟩
    have r1 := hS.at_ _ _ hy1
    have r2 := hS.at_ _ _ hx1
    have oky := hS.ok y (List.mem_of_getElem? hy1)
    have okx := hS.ok x (List.mem_of_getElem? hx1)
    have i1 := info_pair _ oky.len
    have i2 := info_pair _ okx.len
    have HKD := Lib.hid hS.keep
    have huy : U y := HU.out y (List.mem_cons_of_mem _ (by rw [hy]; exact List.getElem_mem htY))
    have hux : U x := HU.out x List.mem_cons_self
    have HCC : Hid (∀ W, KeepG w0 g W → Calls Tryz.prog 120 #[.agg y.row.toArray, .agg x.row.toArray, .pointer (some ⟨cb, 0, none⟩)] W fun e w' => e = .returned (.int .i64 (vord y.key x.key)) ∧ Below W.heap.size W w') := Lib.hid (fun W hW => HCMP.out W hW y x huy hux)
    have q1 : (0 : Int) ≤ (hh : Int) := by omega
    have q2 : (hh : Int) < (N : Int) := by omega
    have q3 : (0 : Int) ≤ (a : Int) := by omega
    have q4 : (a : Int) < (N : Int) := by omega
    have q5 : (i : Int) + (j : Int) ≤ 4194304 := by omega
    have HUP : Hid (vord y.key x.key < 0 → CutUp Y x (t + 1) q) := Lib.hid (fun h => HC.out.up HY.out htY (by rw [← hy]; exact h))
    have HDN : Hid (¬ vord y.key x.key < 0 → CutUp Y x p t) := Lib.hid (fun h => HC.out.down HY.out htY (by rw [← hy]; exact h))
    have HTT : Hid (hh = m + t ∧ p ≤ t ∧ t < q) := Lib.hid ⟨hhe, hq1⟩
    clear hte hhe hq1 htY hy hS hx1 hy1 oky okx huy hux hip hjq hpq HC
    by_cases hc : vord y.key x.key < 0
    · go_upto_region 5 with (fail)
      refine wp_region_any (by kernel_rfl) ?_
      change wpAny _ _ _ _ _ _ _ (World.drew _)
      refine tq 0 (h := ?_)
      refine tq 1 (h := ?_)
      simp only [lst]
      refine tq 2 (h := ?_)
      refine tq 3 (h := ?_)
      simp only [lst]
      refine tq 5 (h := ?_)
      refine tq 6 (h := ?_)
      simp only [lst]
      refine tq 7 (h := ?_)
      simp only [lst]
      refine two 4 8 rfl rfl (by kernel_rfl) (by rfl) (by rfl) (fun K_ hK_ => ?_) (fun K_ hK_ => ?_)
      refine wp_load_mid _ _ rfl _ _ rfl _ _ r1 hu rfl i1 ?_
      refine hK_ _ _ ?_
      clear hK_ K_
      simp only [Act.put, lgt, List.setIfInBounds_toArray, lst]
      refine one 8 rfl (by kernel_rfl) (by rfl) fun K_ hK_ => ?_
      refine wp_load_mid _ _ rfl _ _ rfl _ _ r2 hu rfl i2 ?_
      refine hK_ _ _ ?_
      clear hK_ K_
      simp only [Act.put, lgt, List.setIfInBounds_toArray, lst]
      refine one 9 rfl (by kernel_rfl) (by rfl) fun K_ hK_ => ?_
      simp only [lgt]
      go_simp
      refine (HCC.out _ HKD.out).mono ?_
      rintro e_ w5 ⟨rfl, hB5⟩
      have HB5 := Lib.hid hB5
      clear hB5
      simp only [Oper.upon]
      refine hK_ _ _ ?_
      clear hK_ K_
      refine tq 10 (h := ?_)
      refine wpAny_done (by kernel_rfl) ?_ _
      simp only [lst]
      rotate_left
      refine wp_load_mid _ _ rfl _ _ rfl _ _ r2 hu rfl i2 ?_
      refine hK_ _ _ ?_
      clear hK_ K_
      simp only [Act.put, lgt, List.setIfInBounds_toArray, lst]
      refine one 4 rfl (by kernel_rfl) (by rfl) fun K_ hK_ => ?_
      refine wp_load_mid _ _ rfl _ _ rfl _ _ r1 hu rfl i1 ?_
      refine hK_ _ _ ?_
      clear hK_ K_
      simp only [Act.put, lgt, List.setIfInBounds_toArray, lst]
      refine one 9 rfl (by kernel_rfl) (by rfl) fun K_ hK_ => ?_
      simp only [lgt]
      go_simp
      refine (HCC.out _ HKD.out).mono ?_
      rintro e_ w5 ⟨rfl, hB5⟩
      have HB5 := Lib.hid hB5
      clear hB5
      simp only [Oper.upon]
      refine hK_ _ _ ?_
      clear hK_ K_
      refine tq 10 (h := ?_)
      refine wpAny_done (by kernel_rfl) ?_ _
      simp only [lst]
      rotate_left
      all_goals
       clear r1 r2 i1 i2 HCC HKD q1 q2 q3 q4
       have HS5 := Lib.hid (HS.out.drew.grow hg HB5.out)
       have HC2 := Lib.hid (HUP.out hc)
       have hw : (hh : Int) + 1 ≤ 1048576 := by have := HTT.out; have := HJQ.out; omega
       clear hdv
       go_wp2_with fail
       go_roundw
       case rel => exact ⟨hh + 1, j, t + 1, q, by first | rfl | exact congrArg (Value.int .i64) (wrap64_up hh (by omega)), rfl, by have := HTT.out; omega, HJQ.out, by have := HTT.out; omega, hjb, HC2, HS5⟩
       case measure => have := HTT.out; have := HIP.out; first | (rw [wrap64_up hh (by omega)]; show j - (hh + 1) < j - i; omega) | (show j - (hh + 1) < j - i; omega)
    · go_upto_region 5 with (fail)
      refine wp_region_any (by kernel_rfl) ?_
      change wpAny _ _ _ _ _ _ _ (World.drew _)
      refine tq 0 (h := ?_)
      refine tq 1 (h := ?_)
      simp only [lst]
      refine tq 2 (h := ?_)
      refine tq 3 (h := ?_)
      simp only [lst]
      refine tq 5 (h := ?_)
      refine tq 6 (h := ?_)
      simp only [lst]
      refine tq 7 (h := ?_)
      simp only [lst]
      refine two 4 8 rfl rfl (by kernel_rfl) (by rfl) (by rfl) (fun K_ hK_ => ?_) (fun K_ hK_ => ?_)
      refine wp_load_mid _ _ rfl _ _ rfl _ _ r1 hu rfl i1 ?_
      refine hK_ _ _ ?_
      clear hK_ K_
      simp only [Act.put, lgt, List.setIfInBounds_toArray, lst]
      refine one 8 rfl (by kernel_rfl) (by rfl) fun K_ hK_ => ?_
      refine wp_load_mid _ _ rfl _ _ rfl _ _ r2 hu rfl i2 ?_
      refine hK_ _ _ ?_
      clear hK_ K_
      simp only [Act.put, lgt, List.setIfInBounds_toArray, lst]
      refine one 9 rfl (by kernel_rfl) (by rfl) fun K_ hK_ => ?_
      simp only [lgt]
      go_simp
      refine (HCC.out _ HKD.out).mono ?_
      rintro e_ w5 ⟨rfl, hB5⟩
      have HB5 := Lib.hid hB5
      clear hB5
      simp only [Oper.upon]
      refine hK_ _ _ ?_
      clear hK_ K_
      refine tq 10 (h := ?_)
      refine wpAny_done (by kernel_rfl) ?_ _
      simp only [lst]
      rotate_left
      refine wp_load_mid _ _ rfl _ _ rfl _ _ r2 hu rfl i2 ?_
      refine hK_ _ _ ?_
      clear hK_ K_
      simp only [Act.put, lgt, List.setIfInBounds_toArray, lst]
      refine one 4 rfl (by kernel_rfl) (by rfl) fun K_ hK_ => ?_
      refine wp_load_mid _ _ rfl _ _ rfl _ _ r1 hu rfl i1 ?_
      refine hK_ _ _ ?_
      clear hK_ K_
      simp only [Act.put, lgt, List.setIfInBounds_toArray, lst]
      refine one 9 rfl (by kernel_rfl) (by rfl) fun K_ hK_ => ?_
      simp only [lgt]
      go_simp
      refine (HCC.out _ HKD.out).mono ?_
      rintro e_ w5 ⟨rfl, hB5⟩
      have HB5 := Lib.hid hB5
      clear hB5
      simp only [Oper.upon]
      refine hK_ _ _ ?_
      clear hK_ K_
      refine tq 10 (h := ?_)
      refine wpAny_done (by kernel_rfl) ?_ _
      simp only [lst]
      rotate_left
      all_goals
       clear r1 r2 i1 i2 HCC HKD q1 q2 q3 q4
       have HS5 := Lib.hid (HS.out.drew.grow hg HB5.out)
       have HC2 := Lib.hid (HDN.out hc)
       clear hdv
       go_wp2_with fail
       go_roundw
       case rel => exact ⟨i, hh, p, t, rfl, rfl, HIP.out, HTT.out.1, HTT.out.2.1, by have := HTT.out; have := HJQ.out; omega, HC2, HS5⟩
       case measure => have := HTT.out; have := HJQ.out; show hh - i < j - i; omega
  · have hpq2 : p = q := by omega
    subst hpq2
    have hij : j = i := by omega
    subst hij
    have hpY : p ≤ Y.length := by have := HBB.out; have := HM.out; omega
    have HPY := Lib.hid hpY
    have HLAST := Lib.hid (HC.out.sorted HY.out HT.out)
    clear hip hjq hpq HC hpY
    go_wp2
    have hi1 : (0 : Int) ≤ (j : Int) - 1 := by have := HIP.out; have := HM.out; omega
    go_loopw [13] (fun vk wq => ∃ k s : Nat, vk = .int .i64 k ∧ k = a + s ∧ s ≤ p ∧ Hid (SW w0 g (A ++ Y.take s ++ x :: Y.drop s ++ B) wq)) (fun vk _ => j - (intOf vk).toNat)
    case atStart => exact ⟨a, 0, rfl, rfl, Nat.zero_le _, Lib.hid (by have := HS.out; simpa using this)⟩
    case round =>
     obtain ⟨k, s, rfl, hks, hsp, HQ⟩ := hrel
     have HKS := Lib.hid hks
     by_cases hlt2 : s < p
     · have hsY : s < Y.length := by have := HPY.out; omega
       have hS := HQ.out.drew
       rw [List.drop_eq_getElem_cons hsY] at hS
       have hnx : A ++ Y.take (s + 1) ++ x :: Y.drop (s + 1) ++ B = (A ++ Y.take s) ++ Y[s] :: x :: (Y.drop (s + 1) ++ B) := by
        rw [List.take_succ_eq_append_getElem hsY]; simp only [List.append_assoc, List.cons_append, List.nil_append]
       generalize Y[s] = y at *
       replace hS : SW w0 g ((A ++ Y.take s) ++ x :: y :: (Y.drop (s + 1) ++ B)) wr.drew := by simp only [List.append_assoc, List.cons_append] at hS ⊢; exact hS
       have hpl : (A ++ Y.take s).length = k := by rw [List.length_append, List.length_take, ← HA.out]; omega
       obtain ⟨hx1, hy1⟩ := two_at (P := A ++ Y.take s) (Q := Y.drop (s + 1) ++ B) (x := x) (y := y)
       rw [hpl] at hx1 hy1
       have r1 := hS.at_ _ _ hy1
       have r2 := hS.at_ _ _ hx1
       have oky := hS.ok y (List.mem_of_getElem? hy1)
       have okx := hS.ok x (List.mem_of_getElem? hx1)
       have i1 := info_pair _ oky.len
       have i2 := info_pair _ okx.len
       have o1 := oky.one
       have o2 := okx.one
       have l1 := oky.len
       have l2 := okx.len
       have t1 := there_part hS.there (i := k) (List.getElem?_eq_some_iff.1 hx1).1
       have t2 := World.there_setCells (there_part hS.there (i := k + 1) (List.getElem?_eq_some_iff.1 hy1).1) g (k * 14) y.row
       have hfin := hS.swap2
       rw [hpl, ← hnx] at hfin
       have HFIN := Lib.hid hfin
       have hkN : k + 1 < N := by have := HIP.out; have := HM.out; omega
       have q1 : (0 : Int) ≤ (k : Int) := by omega
       have q2 : (k : Int) < (N : Int) := by omega
       have q3 : (0 : Int) ≤ (k : Int) + 1 := by omega
       have q4 : (k : Int) + 1 < (N : Int) := by omega
       have q5 : ((k : Int) + 1).toNat = k + 1 := by omega
       have q6 : IntKind.i64.wrap ((k : Int) + 1) = (k : Int) + 1 := by rw [wrap_in _ (by omega)]
       have q7 : (k : Int) < (j : Int) - 1 := by have := HIP.out; have := HM.out; omega
       clear hS hnx hpl hx1 hy1 oky okx hfin hks HQ
       go_upto_region 11 with (fail)
       refine wp_region_any (by kernel_rfl) ?_
       change wpAny _ _ _ _ _ _ _ (World.drew _)
       refine tq 0 (h := ?_)
       refine tq 1 (h := ?_)
       simp only [lst]
       refine tq 2 (h := ?_)
       refine tq 3 (h := ?_)
       simp only [lst]
       refine tq 4 (h := ?_)
       refine tq 5 (h := ?_)
       simp only [lst]
       refine tq 6 (h := ?_)
       refine tq 7 (h := ?_)
       simp only [lst]
       refine tq 8 (h := ?_)
       refine tq 10 (h := ?_)
       simp only [lst]
       refine tq 11 (h := ?_)
       refine tq 12 (h := ?_)
       simp only [lst]
       refine two 9 13 rfl rfl (by kernel_rfl) (by rfl) (by rfl) (fun K_ hK_ => ?_) (fun K_ hK_ => ?_)
       refine wp_load_mid _ _ rfl _ _ rfl _ _ r1 hu rfl i1 ?_
       refine hK_ _ _ ?_
       clear hK_ K_
       simp only [Act.put, lgt, List.setIfInBounds_toArray, lst]
       refine one 13 rfl (by kernel_rfl) (by rfl) fun K_ hK_ => ?_
       refine wp_load_mid _ _ rfl _ _ rfl _ _ r2 hu rfl i2 ?_
       refine hK_ _ _ ?_
       clear hK_ K_
       simp only [Act.put, lgt, List.setIfInBounds_toArray, lst]
       refine tq 14 (h := ?_)
       simp only [lst]
       refine one 15 rfl (by kernel_rfl) (by rfl) fun K_ hK_ => ?_
       refine wp_store_mid _ _ _ rfl _ _ (List.toArray _) rfl rfl (by rw [List.size_toArray, l1]; exact t1) (by rw [List.size_toArray]; exact i1) (all_oneCell_toArray o1) ?_
       simp only [List.toList_toArray]
       refine hK_ _ _ ?_
       clear hK_ K_
       simp only [Act.put, lgt, List.setIfInBounds_toArray, lst]
       refine tq 16 (h := ?_)
       simp only [lst]
       refine one 17 rfl (by kernel_rfl) (by rfl) fun K_ hK_ => ?_
       refine wp_store_mid _ _ _ rfl _ _ (List.toArray _) rfl rfl (by rw [List.size_toArray, l2]; exact t2) (by rw [List.size_toArray]; exact i2) (all_oneCell_toArray o2) ?_
       simp only [List.toList_toArray]
       refine hK_ _ _ ?_
       clear hK_ K_
       refine wpAny_done (by kernel_rfl) ?_ _
       simp only [Act.put, lgt, List.setIfInBounds_toArray, lst]
       rotate_left
       refine wp_load_mid _ _ rfl _ _ rfl _ _ r2 hu rfl i2 ?_
       refine hK_ _ _ ?_
       clear hK_ K_
       simp only [Act.put, lgt, List.setIfInBounds_toArray, lst]
       refine one 9 rfl (by kernel_rfl) (by rfl) fun K_ hK_ => ?_
       refine wp_load_mid _ _ rfl _ _ rfl _ _ r1 hu rfl i1 ?_
       refine hK_ _ _ ?_
       clear hK_ K_
       simp only [Act.put, lgt, List.setIfInBounds_toArray, lst]
       refine tq 14 (h := ?_)
       simp only [lst]
       refine one 15 rfl (by kernel_rfl) (by rfl) fun K_ hK_ => ?_
       refine wp_store_mid _ _ _ rfl _ _ (List.toArray _) rfl rfl (by rw [List.size_toArray, l1]; exact t1) (by rw [List.size_toArray]; exact i1) (all_oneCell_toArray o1) ?_
       simp only [List.toList_toArray]
       refine hK_ _ _ ?_
       clear hK_ K_
       simp only [Act.put, lgt, List.setIfInBounds_toArray, lst]
       refine tq 16 (h := ?_)
       simp only [lst]
       refine one 17 rfl (by kernel_rfl) (by rfl) fun K_ hK_ => ?_
       refine wp_store_mid _ _ _ rfl _ _ (List.toArray _) rfl rfl (by rw [List.size_toArray, l2]; exact t2) (by rw [List.size_toArray]; exact i2) (all_oneCell_toArray o2) ?_
       simp only [List.toList_toArray]
       refine hK_ _ _ ?_
       clear hK_ K_
       refine wpAny_done (by kernel_rfl) ?_ _
       simp only [Act.put, lgt, List.setIfInBounds_toArray, lst]
       rotate_left
       all_goals
        clear r1 r2 t1 t2 i1 i2 o1 o2 l1 l2 q1 q2 q3 q4 q5 q6
        have hfin := HFIN.out
        generalize (wr.drew.setCells g (k * 14) y.row).setCells g ((k + 1) * 14) x.row = W9 at hfin ⊢
        have HS9 := Lib.hid hfin
        clear hfin HFIN
        go_wp2_with fail
        go_roundw
        case rel => exact ⟨k + 1, s + 1, by first | rfl | exact congrArg (Value.int .i64) (wrap64_up k (by omega)), by have := HKS.out; omega, hlt2, HS9⟩
        case measure => first | (rw [wrap64_up k (by omega)]; show j - (k + 1) < j - k; omega) | (show j - (k + 1) < j - k; omega)
     · have hsp2 : s = p := by omega
       subst hsp2
       have q7 : ¬ (k : Int) < (j : Int) - 1 := by have := HIP.out; have := HM.out; omega
       have HQ2 := HQ
       clear hks
       go_wp2
       have hend : ∃ S' : List PEl, S'.Perm ([x] ++ Y) ∧ S'.Pairwise elt ∧ SW w0 g (A ++ S' ++ B) wr := ⟨Y.take s ++ x :: Y.drop s, by
        have := List.perm_middle (a := x) (l₁ := Y.take s) (l₂ := Y.drop s)
        rw [List.take_append_drop] at this
        exact this, HLAST.out, by have := HQ2.out; simp only [List.append_assoc] at this ⊢; exact this⟩
       refine bodyPost_ret (v := .tuple #[]) ?_ rfl ⟨rfl, by simpa using hend⟩
       simp [results, Tryz.f199, go_sem]
end Go.Proofs.YthigbklhngihkaaGreatDoor.P

import Derived.Test.YthigbklhngihkaaGreatDoorMOrderOwnn
set_option linter.unusedVariables false
set_option linter.unusedSimpArgs false
set_option maxRecDepth 100000
namespace Go.Proofs.YthigbklhngihkaaGreatDoor.P
open Go.RowKit Go.Proofs.YthigbklhngihkaaGreatDoorW.PrintWords Go.Proofs.YthigbklhngihkaaGreatDoorW.PrintMore Go.Proofs.YthigbklhngihkaaGreatDoorW.PrintLast
structure CutUp (Y : List PEl) (x : PEl) (p q : Nat) : Prop where
 lo : ∀ t (h : t < Y.length), t < p → vord Y[t].key x.key < 0
 hi : ∀ t (h : t < Y.length), q ≤ t → ¬ vord Y[t].key x.key < 0
theorem CutUp.up {Y : List PEl} {x : PEl} {p q t : Nat} (h : CutUp Y x p q) (hY : Y.Pairwise elt) (ht : t < Y.length) (hlt : vord Y[t].key x.key < 0) : CutUp Y x (t + 1) q := by
 refine ⟨fun u hu hup => ?_, h.hi⟩
 rcases Nat.lt_or_ge u t with h1 | h1
 · have h2 := List.pairwise_iff_getElem.1 hY u t hu ht h1
   have tr := vord_tr Y[u].key Y[t].key x.key
   rcases h2 with h2 | ⟨h2, _⟩
   · exact tr.lt1 h2 (by omega)
   · exact tr.lt2 (by omega) hlt
 · have : u = t := by omega
   subst this; exact hlt
theorem CutUp.down {Y : List PEl} {x : PEl} {p q t : Nat} (h : CutUp Y x p q) (hY : Y.Pairwise elt) (ht : t < Y.length) (hlt : ¬ vord Y[t].key x.key < 0) : CutUp Y x p t := by
 refine ⟨h.lo, fun u hu hup => ?_⟩
 rcases Nat.lt_or_ge t u with h1 | h1
 · intro h3
   have h2 := List.pairwise_iff_getElem.1 hY t u ht hu h1
   have tr := vord_tr Y[t].key Y[u].key x.key
   rcases h2 with h2 | ⟨h2, _⟩
   · exact hlt (tr.lt1 h2 (by omega))
   · exact hlt (tr.lt2 (by omega) h3)
 · have : u = t := by omega
   subst this; exact hlt
theorem CutUp.sorted {Y : List PEl} {x : PEl} {p : Nat} (h : CutUp Y x p p) (hY : Y.Pairwise elt) (ht : ∀ y ∈ Y, x.tag < y.tag) : (Y.take p ++ x :: Y.drop p).Pairwise elt := by
 refine sorted_mid (by rw [List.take_append_drop]; exact hY) (fun y hy => ?_) (fun y hy => ?_)
 · obtain ⟨t, htl, rfl⟩ := List.mem_iff_getElem.1 hy
   rw [List.length_take] at htl
   rw [List.getElem_take]
   exact .inl (h.lo t (by omega) (by omega))
 · have hm := List.mem_of_mem_drop hy
   obtain ⟨t, htl, rfl⟩ := List.mem_iff_getElem.1 hy
   rw [List.length_drop] at htl
   rw [List.getElem_drop] at hm ⊢
   exact elt_of_ge (h.hi (p + t) (by omega) (by omega)) (ht _ hm)
theorem SW.swap2 {w0 W : World} {g : Nat} {P Q : List PEl} {x y : PEl} (h : SW w0 g (P ++ x :: y :: Q) W) :
 SW w0 g (P ++ y :: x :: Q) ((W.setCells g (P.length * 14) y.row).setCells g ((P.length + 1) * 14) x.row) := by
 have h1 : (P ++ x :: y :: Q)[P.length + 1]? = some y := at_far (A := P) (M := []) (B := Q) (x := x) (y := y)
 have h2 : (P ++ x :: y :: Q)[P.length]? = some x := at_head
 have := h.swap h2 h1 (by omega)
 have e := set_pair (els := P ++ x :: ([] ++ y :: Q)) (A := P) (M := []) (B := Q) (x := x) (y := y) rfl
 simp only [List.nil_append, List.length_nil, Nat.add_zero] at e
 rw [e] at this
 exact this
theorem two_at {P Q : List PEl} {x y : PEl} : (P ++ x :: y :: Q)[P.length]? = some x ∧ (P ++ x :: y :: Q)[P.length + 1]? = some y := ⟨at_head, at_far (A := P) (M := []) (B := Q) (x := x) (y := y)⟩
set_option maxHeartbeats 4000000 in
theorem merge_one (w0 : World) (g cb : Nat) (U : PEl → Prop) (hg : g < w0.heap.size) (hcmp : CmpIn w0 g cb U) (A Y B : List PEl) (x : PEl) (N cap : Nat) (W : World) (hN : N = (A ++ [x] ++ Y ++ B).length) (hcap : N ≤ 1048576) (hU : ∀ e ∈ x :: Y, U e) (hY : Y.Pairwise elt) (ht : ∀ y ∈ Y, x.tag < y.tag) (h : SW w0 g (A ++ [x] ++ Y ++ B) W) :
 Calls Tryz.prog 199 #[.slice (some ⟨g, 0, none⟩) N cap, .int .i64 A.length, .int .i64 (A.length + 1 : Nat), .int .i64 (A.length + 1 + Y.length : Nat), .func (.func 120) #[] #[.pointer (some ⟨cb, 0, none⟩)]] W fun e w' => e = .returned (.tuple #[]) ∧ ∃ S', S'.Perm ([x] ++ Y) ∧ S'.Pairwise elt ∧ SW w0 g (A ++ S' ++ B) w' := by
 obtain ⟨a, ha⟩ : ∃ a, a = A.length := ⟨_, rfl⟩
 obtain ⟨b, hb⟩ : ∃ b, b = A.length + 1 + Y.length := ⟨_, rfl⟩
 obtain ⟨m, hm⟩ : ∃ m, m = A.length + 1 := ⟨_, rfl⟩
 rw [← hb, ← hm, ← ha]
 have hbN : b ≤ N := by rw [hN]; simp; omega
 have hma : (m : Int) - (a : Int) = 1 := by omega
 have ham : a ≤ m := by omega
 have hmb : m ≤ b := by omega
 have HA := Lib.hid ha
 have HM := Lib.hid hm
 have HBB := Lib.hid hb
 have HN := Lib.hid hN
 have HU := Lib.hid hU
 have HY := Lib.hid hY
 have HT := Lib.hid ht
 have HCMP := Lib.hid hcmp
 have H := Lib.hid h
 have hu := Tryz.underlying102
 clear hN ha hb hm h hU hY ht hcmp
 go_enter Tryz.func199, Tryz.ntmps199
 go_wp2
 go_loopw [10, 11] (fun vi vj wr => ∃ i j p q : Nat, vi = .int .i64 i ∧ vj = .int .i64 j ∧ i = m + p ∧ j = m + q ∧ p ≤ q ∧ j ≤ b ∧ Hid (CutUp Y x p q) ∧ Hid (SW w0 g (A ++ [x] ++ Y ++ B) wr)) (fun vi vj _ => (intOf vj).toNat - (intOf vi).toNat)
 case atStart => exact ⟨m, b, 0, Y.length, rfl, rfl, rfl, by have := HBB.out; have := HM.out; omega, Nat.zero_le _, Nat.le_refl _, Lib.hid ⟨fun t h h' => absurd h' (by omega), fun t h h' => absurd h (by omega)⟩, H⟩
 case round =>
  obtain ⟨i, j, p, q, rfl, rfl, hip, hjq, hpq, hjb, HC, HS⟩ := hrel
  have HIP := Lib.hid hip
  have HJQ := Lib.hid hjq
  by_cases hlt : i < j
  · obtain ⟨t, hte⟩ : ∃ t, t = (p + q) / 2 := ⟨_, rfl⟩
    obtain ⟨hh, hhe⟩ : ∃ hh, hh = m + t := ⟨_, rfl⟩
    have hq1 : p ≤ t ∧ t < q := by omega
    have htY : t < Y.length := by have := HBB.out; have := HM.out; omega
    have hdv : ((i : Int) + (j : Int)) / 2 = (hh : Int) := by omega
    obtain ⟨y, hy⟩ : ∃ y, y = Y[t] := ⟨_, rfl⟩
    have hS := HS.out.drew
    have hx1 : (A ++ [x] ++ Y ++ B)[a]? = some x := by rw [HA.out]; simp
    have hy1 : (A ++ [x] ++ Y ++ B)[hh]? = some y := by
     rw [List.append_assoc, List.append_assoc, ← List.append_assoc A, List.getElem?_append_right (by simp; have := HM.out; omega), List.getElem?_append_left (by simp; have := HM.out; omega), hy, List.getElem?_eq_some_iff]
     have e : hh - (A ++ [x]).length = t := by simp; have := HM.out; omega
     exact ⟨by rw [e]; exact htY, by simp only [e]⟩
    have r1 := hS.at_ _ _ hy1
    have r2 := hS.at_ _ _ hx1
    have oky := hS.ok y (List.mem_of_getElem? hy1)
    have okx := hS.ok x (List.mem_of_getElem? hx1)
    have i1 := info_pair _ oky.len
    have i2 := info_pair _ okx.len
    have HKD := Lib.hid hS.keep
    have huy : U y := HU.out y (List.mem_cons_of_mem _ (by rw [hy]; exact List.getElem_mem htY))
    have hux : U x := HU.out x List.mem_cons_self
    have HCC : Hid (∀ W, KeepG w0 g W → Calls Tryz.prog 120 #[.agg y.row.toArray, .agg x.row.toArray, .pointer (some ⟨cb, 0, none⟩)] W fun e w' => e = .returned (.int .i64 (vord y.key x.key)) ∧ Below W.heap.size W w') := Lib.hid (fun W hW => HCMP.out W hW y x huy hux)
    have q1 : (0 : Int) ≤ (hh : Int) := by omega
    have q2 : (hh : Int) < (N : Int) := by omega
    have q3 : (0 : Int) ≤ (a : Int) := by omega
    have q4 : (a : Int) < (N : Int) := by omega
    have q5 : (i : Int) + (j : Int) ≤ 4194304 := by omega
    have HUP : Hid (vord y.key x.key < 0 → CutUp Y x (t + 1) q) := Lib.hid (fun h => HC.out.up HY.out htY (by rw [← hy]; exact h))
    have HDN : Hid (¬ vord y.key x.key < 0 → CutUp Y x p t) := Lib.hid (fun h => HC.out.down HY.out htY (by rw [← hy]; exact h))
    have HTT : Hid (hh = m + t ∧ p ≤ t ∧ t < q) := Lib.hid ⟨hhe, hq1⟩
    clear hte hhe hq1 htY hy hS hx1 hy1 oky okx huy hux hip hjq hpq HC
    by_cases hc : vord y.key x.key < 0
    · go_upto_region 5 with (fail)
      refine wp_region_any (by kernel_rfl) ?_
      change wpAny _ _ _ _ _ _ _ (World.drew _)
      refine tq 0 (h := ?_)
      refine tq 1 (h := ?_)
      simp only [lst]
      refine tq 2 (h := ?_)
      refine tq 3 (h := ?_)
      simp only [lst]
      refine tq 5 (h := ?_)
      refine tq 6 (h := ?_)
      simp only [lst]
      refine tq 7 (h := ?_)
      simp only [lst]
      refine two 4 8 rfl rfl (by kernel_rfl) (by rfl) (by rfl) (fun K_ hK_ => ?_) (fun K_ hK_ => ?_)
      refine wp_load_mid _ _ rfl _ _ rfl _ _ r1 hu rfl i1 ?_
      refine hK_ _ _ ?_
      clear hK_ K_
      simp only [Act.put, lgt, List.setIfInBounds_toArray, lst]
      refine one 8 rfl (by kernel_rfl) (by rfl) fun K_ hK_ => ?_
      refine wp_load_mid _ _ rfl _ _ rfl _ _ r2 hu rfl i2 ?_
      refine hK_ _ _ ?_
      clear hK_ K_
      simp only [Act.put, lgt, List.setIfInBounds_toArray, lst]
      refine one 9 rfl (by kernel_rfl) (by rfl) fun K_ hK_ => ?_
      simp only [lgt]
      go_simp
      refine (HCC.out _ HKD.out).mono ?_
      rintro e_ w5 ⟨rfl, hB5⟩
      have HB5 := Lib.hid hB5
      clear hB5
      simp only [Oper.upon]
      refine hK_ _ _ ?_
      clear hK_ K_
      refine tq 10 (h := ?_)
      refine wpAny_done (by kernel_rfl) ?_ _
      simp only [lst]
      rotate_left
      refine wp_load_mid _ _ rfl _ _ rfl _ _ r2 hu rfl i2 ?_
      refine hK_ _ _ ?_
      clear hK_ K_
      simp only [Act.put, lgt, List.setIfInBounds_toArray, lst]
      refine one 4 rfl (by kernel_rfl) (by rfl) fun K_ hK_ => ?_
      refine wp_load_mid _ _ rfl _ _ rfl _ _ r1 hu rfl i1 ?_
      refine hK_ _ _ ?_
      clear hK_ K_
      simp only [Act.put, lgt, List.setIfInBounds_toArray, lst]
      refine one 9 rfl (by kernel_rfl) (by rfl) fun K_ hK_ => ?_
      simp only [lgt]
      go_simp
      refine (HCC.out _ HKD.out).mono ?_
      rintro e_ w5 ⟨rfl, hB5⟩
      have HB5 := Lib.hid hB5
      clear hB5
      simp only [Oper.upon]
      refine hK_ _ _ ?_
      clear hK_ K_
      refine tq 10 (h := ?_)
      refine wpAny_done (by kernel_rfl) ?_ _
      simp only [lst]
      rotate_left
      all_goals
       clear r1 r2 i1 i2 HCC HKD q1 q2 q3 q4
       have HS5 := Lib.hid (HS.out.drew.grow hg HB5.out)
       have HC2 := Lib.hid (HUP.out hc)
       have hw : (hh : Int) + 1 ≤ 1048576 := by have := HTT.out; have := HJQ.out; omega
       clear hdv
       go_wp2_with fail
       go_roundw
       case rel => exact ⟨hh + 1, j, t + 1, q, by first | rfl | exact congrArg (Value.int .i64) (wrap64_up hh (by omega)), rfl, by have := HTT.out; omega, HJQ.out, by have := HTT.out; omega, hjb, HC2, HS5⟩
       case measure => have := HTT.out; have := HIP.out; first | (rw [wrap64_up hh (by omega)]; show j - (hh + 1) < j - i; omega) | (show j - (hh + 1) < j - i; omega)
    · go_upto_region 5 with (fail)
      refine wp_region_any (by kernel_rfl) ?_
      change wpAny _ _ _ _ _ _ _ (World.drew _)
      refine tq 0 (h := ?_)
      refine tq 1 (h := ?_)
      simp only [lst]
      refine tq 2 (h := ?_)
      refine tq 3 (h := ?_)
      simp only [lst]
      refine tq 5 (h := ?_)
      refine tq 6 (h := ?_)
      simp only [lst]
      refine tq 7 (h := ?_)
      simp only [lst]
      refine two 4 8 rfl rfl (by kernel_rfl) (by rfl) (by rfl) (fun K_ hK_ => ?_) (fun K_ hK_ => ?_)
      refine wp_load_mid _ _ rfl _ _ rfl _ _ r1 hu rfl i1 ?_
      refine hK_ _ _ ?_
      clear hK_ K_
      simp only [Act.put, lgt, List.setIfInBounds_toArray, lst]
      refine one 8 rfl (by kernel_rfl) (by rfl) fun K_ hK_ => ?_
      refine wp_load_mid _ _ rfl _ _ rfl _ _ r2 hu rfl i2 ?_
      refine hK_ _ _ ?_
      clear hK_ K_
      simp only [Act.put, lgt, List.setIfInBounds_toArray, lst]
      refine one 9 rfl (by kernel_rfl) (by rfl) fun K_ hK_ => ?_
      simp only [lgt]
      go_simp
      refine (HCC.out _ HKD.out).mono ?_
      rintro e_ w5 ⟨rfl, hB5⟩
      have HB5 := Lib.hid hB5
      clear hB5
      simp only [Oper.upon]
      refine hK_ _ _ ?_
      clear hK_ K_
      refine tq 10 (h := ?_)
      refine wpAny_done (by kernel_rfl) ?_ _
      simp only [lst]
      rotate_left
      refine wp_load_mid _ _ rfl _ _ rfl _ _ r2 hu rfl i2 ?_
      refine hK_ _ _ ?_
      clear hK_ K_
      simp only [Act.put, lgt, List.setIfInBounds_toArray, lst]
      refine one 4 rfl (by kernel_rfl) (by rfl) fun K_ hK_ => ?_
      refine wp_load_mid _ _ rfl _ _ rfl _ _ r1 hu rfl i1 ?_
      refine hK_ _ _ ?_
      clear hK_ K_
      simp only [Act.put, lgt, List.setIfInBounds_toArray, lst]
      refine one 9 rfl (by kernel_rfl) (by rfl) fun K_ hK_ => ?_
      simp only [lgt]
      go_simp
      refine (HCC.out _ HKD.out).mono ?_
      rintro e_ w5 ⟨rfl, hB5⟩
      have HB5 := Lib.hid hB5
      clear hB5
      simp only [Oper.upon]
      refine hK_ _ _ ?_
      clear hK_ K_
      refine tq 10 (h := ?_)
      refine wpAny_done (by kernel_rfl) ?_ _
      simp only [lst]
      rotate_left
      all_goals
       clear r1 r2 i1 i2 HCC HKD q1 q2 q3 q4
       have HS5 := Lib.hid (HS.out.drew.grow hg HB5.out)
       have HC2 := Lib.hid (HDN.out hc)
       clear hdv
       go_wp2_with fail
       go_roundw
       case rel => exact ⟨i, hh, p, t, rfl, rfl, HIP.out, HTT.out.1, HTT.out.2.1, by have := HTT.out; have := HJQ.out; omega, HC2, HS5⟩
       case measure => have := HTT.out; have := HJQ.out; show hh - i < j - i; omega
  · have hpq2 : p = q := by omega
    subst hpq2
    have hij : j = i := by omega
    subst hij
    have hpY : p ≤ Y.length := by have := HBB.out; have := HM.out; omega
    have HPY := Lib.hid hpY
    have HLAST := Lib.hid (HC.out.sorted HY.out HT.out)
    clear hip hjq hpq HC hpY
    go_wp2
    have hi1 : (0 : Int) ≤ (j : Int) - 1 := by have := HIP.out; have := HM.out; omega
    go_loopw [13] (fun vk wq => ∃ k s : Nat, vk = .int .i64 k ∧ k = a + s ∧ s ≤ p ∧ Hid (SW w0 g (A ++ Y.take s ++ x :: Y.drop s ++ B) wq)) (fun vk _ => j - (intOf vk).toNat)
    case atStart => exact ⟨a, 0, rfl, rfl, Nat.zero_le _, Lib.hid (by have := HS.out; simpa using this)⟩
    case round =>
     obtain ⟨k, s, rfl, hks, hsp, HQ⟩ := hrel
     have HKS := Lib.hid hks
     by_cases hlt2 : s < p
     · have hsY : s < Y.length := by have := HPY.out; omega
       have hS := HQ.out.drew
       rw [List.drop_eq_getElem_cons hsY] at hS
       have hnx : A ++ Y.take (s + 1) ++ x :: Y.drop (s + 1) ++ B = (A ++ Y.take s) ++ Y[s] :: x :: (Y.drop (s + 1) ++ B) := by
        rw [List.take_succ_eq_append_getElem hsY]; simp only [List.append_assoc, List.cons_append, List.nil_append]
       generalize Y[s] = y at *
       replace hS : SW w0 g ((A ++ Y.take s) ++ x :: y :: (Y.drop (s + 1) ++ B)) wr.drew := by simp only [List.append_assoc, List.cons_append] at hS ⊢; exact hS
       have hpl : (A ++ Y.take s).length = k := by rw [List.length_append, List.length_take, ← HA.out]; omega
       obtain ⟨hx1, hy1⟩ := two_at (P := A ++ Y.take s) (Q := Y.drop (s + 1) ++ B) (x := x) (y := y)
       rw [hpl] at hx1 hy1
       have r1 := hS.at_ _ _ hy1
       have r2 := hS.at_ _ _ hx1
       have oky := hS.ok y (List.mem_of_getElem? hy1)
       have okx := hS.ok x (List.mem_of_getElem? hx1)
       have i1 := info_pair _ oky.len
       have i2 := info_pair _ okx.len
       have o1 := oky.one
       have o2 := okx.one
       have l1 := oky.len
       have l2 := okx.len
       have t1 := there_part hS.there (i := k) (List.getElem?_eq_some_iff.1 hx1).1
       have t2 := World.there_setCells (there_part hS.there (i := k + 1) (List.getElem?_eq_some_iff.1 hy1).1) g (k * 14) y.row
       have hfin := hS.swap2
       rw [hpl, ← hnx] at hfin
       have HFIN := Lib.hid hfin
       have hkN : k + 1 < N := by have := HIP.out; have := HM.out; omega
       have q1 : (0 : Int) ≤ (k : Int) := by omega
       have q2 : (k : Int) < (N : Int) := by omega
       have q3 : (0 : Int) ≤ (k : Int) + 1 := by omega
       have q4 : (k : Int) + 1 < (N : Int) := by omega
       have q5 : ((k : Int) + 1).toNat = k + 1 := by omega
       have q6 : IntKind.i64.wrap ((k : Int) + 1) = (k : Int) + 1 := by rw [wrap_in _ (by omega)]
       have q7 : (k : Int) < (j : Int) - 1 := by have := HIP.out; have := HM.out; omega
       clear hS hnx hpl hx1 hy1 oky okx hfin hks HQ
       go_upto_region 11 with (fail)
       refine wp_region_any (by kernel_rfl) ?_
       change wpAny _ _ _ _ _ _ _ (World.drew _)
       refine tq 0 (h := ?_)
       refine tq 1 (h := ?_)
       simp only [lst]
       refine tq 2 (h := ?_)
       refine tq 3 (h := ?_)
       simp only [lst]
       refine tq 4 (h := ?_)
       refine tq 5 (h := ?_)
       simp only [lst]
       refine tq 6 (h := ?_)
       refine tq 7 (h := ?_)
       simp only [lst]
       refine tq 8 (h := ?_)
       refine tq 10 (h := ?_)
       simp only [lst]
       refine tq 11 (h := ?_)
       refine tq 12 (h := ?_)
       simp only [lst]
       refine two 9 13 rfl rfl (by kernel_rfl) (by rfl) (by rfl) (fun K_ hK_ => ?_) (fun K_ hK_ => ?_)
       refine wp_load_mid _ _ rfl _ _ rfl _ _ r1 hu rfl i1 ?_
       refine hK_ _ _ ?_
       clear hK_ K_
       simp only [Act.put, lgt, List.setIfInBounds_toArray, lst]
       refine one 13 rfl (by kernel_rfl) (by rfl) fun K_ hK_ => ?_
       refine wp_load_mid _ _ rfl _ _ rfl _ _ r2 hu rfl i2 ?_
       refine hK_ _ _ ?_
       clear hK_ K_
       simp only [Act.put, lgt, List.setIfInBounds_toArray, lst]
       refine tq 14 (h := ?_)
       simp only [lst]
       refine one 15 rfl (by kernel_rfl) (by rfl) fun K_ hK_ => ?_
       refine wp_store_mid _ _ _ rfl _ _ (List.toArray _) rfl rfl (by rw [List.size_toArray, l1]; exact t1) (by rw [List.size_toArray]; exact i1) (all_oneCell_toArray o1) ?_
       simp only [List.toList_toArray]
       refine hK_ _ _ ?_
       clear hK_ K_
       simp only [Act.put, lgt, List.setIfInBounds_toArray, lst]
       refine tq 16 (h := ?_)
       simp only [lst]
       refine one 17 rfl (by kernel_rfl) (by rfl) fun K_ hK_ => ?_
       refine wp_store_mid _ _ _ rfl _ _ (List.toArray _) rfl rfl (by rw [List.size_toArray, l2]; exact t2) (by rw [List.size_toArray]; exact i2) (all_oneCell_toArray o2) ?_
       simp only [List.toList_toArray]
       refine hK_ _ _ ?_
       clear hK_ K_
       refine wpAny_done (by kernel_rfl) ?_ _
       simp only [Act.put, lgt, List.setIfInBounds_toArray, lst]
       rotate_left
       refine wp_load_mid _ _ rfl _ _ rfl _ _ r2 hu rfl i2 ?_
       refine hK_ _ _ ?_
       clear hK_ K_
       simp only [Act.put, lgt, List.setIfInBounds_toArray, lst]
       refine one 9 rfl (by kernel_rfl) (by rfl) fun K_ hK_ => ?_
       refine wp_load_mid _ _ rfl _ _ rfl _ _ r1 hu rfl i1 ?_
       refine hK_ _ _ ?_
       clear hK_ K_
       simp only [Act.put, lgt, List.setIfInBounds_toArray, lst]
       refine tq 14 (h := ?_)
       simp only [lst]
       refine one 15 rfl (by kernel_rfl) (by rfl) fun K_ hK_ => ?_
       refine wp_store_mid _ _ _ rfl _ _ (List.toArray _) rfl rfl (by rw [List.size_toArray, l1]; exact t1) (by rw [List.size_toArray]; exact i1) (all_oneCell_toArray o1) ?_
       simp only [List.toList_toArray]
       refine hK_ _ _ ?_
       clear hK_ K_
       simp only [Act.put, lgt, List.setIfInBounds_toArray, lst]
       refine tq 16 (h := ?_)
       simp only [lst]
       refine one 17 rfl (by kernel_rfl) (by rfl) fun K_ hK_ => ?_
       refine wp_store_mid _ _ _ rfl _ _ (List.toArray _) rfl rfl (by rw [List.size_toArray, l2]; exact t2) (by rw [List.size_toArray]; exact i2) (all_oneCell_toArray o2) ?_
       simp only [List.toList_toArray]
       refine hK_ _ _ ?_
       clear hK_ K_
       refine wpAny_done (by kernel_rfl) ?_ _
       simp only [Act.put, lgt, List.setIfInBounds_toArray, lst]
       rotate_left
       all_goals
        clear r1 r2 t1 t2 i1 i2 o1 o2 l1 l2 q1 q2 q3 q4 q5 q6
        have hfin := HFIN.out
        generalize (wr.drew.setCells g (k * 14) y.row).setCells g ((k + 1) * 14) x.row = W9 at hfin ⊢
        have HS9 := Lib.hid hfin
        clear hfin HFIN
        go_wp2_with fail
        go_roundw
        case rel => exact ⟨k + 1, s + 1, by first | rfl | exact congrArg (Value.int .i64) (wrap64_up k (by omega)), by have := HKS.out; omega, hlt2, HS9⟩
        case measure => first | (rw [wrap64_up k (by omega)]; show j - (k + 1) < j - k; omega) | (show j - (k + 1) < j - k; omega)
     · have hsp2 : s = p := by omega
       subst hsp2
       have q7 : ¬ (k : Int) < (j : Int) - 1 := by have := HIP.out; have := HM.out; omega
       have HQ2 := HQ
       clear hks
       go_wp2
       have hend : ∃ S' : List PEl, S'.Perm ([x] ++ Y) ∧ S'.Pairwise elt ∧ SW w0 g (A ++ S' ++ B) wr := ⟨Y.take s ++ x :: Y.drop s, by
        have := List.perm_middle (a := x) (l₁ := Y.take s) (l₂ := Y.drop s)
        rw [List.take_append_drop] at this
        exact this, HLAST.out, by have := HQ2.out; simp only [List.append_assoc] at this ⊢; exact this⟩
       refine bodyPost_ret (v := .tuple #[]) ?_ rfl ⟨rfl, by simpa using hend⟩
       simp [results, Tryz.f199, go_sem]
structure CutLo (X : List PEl) (y : PEl) (p q : Nat) : Prop where
 lo : ∀ t (h : t < X.length), t < p → ¬ vord y.key X[t].key < 0
 hi : ∀ t (h : t < X.length), q ≤ t → vord y.key X[t].key < 0
theorem CutLo.up {X : List PEl} {y : PEl} {p q t : Nat} (h : CutLo X y p q) (hX : X.Pairwise elt) (ht : t < X.length) (hlt : ¬ vord y.key X[t].key < 0) : CutLo X y (t + 1) q := by
 refine ⟨fun u hu hup => ?_, h.hi⟩
 rcases Nat.lt_or_ge u t with h1 | h1
 · intro h3
   have h2 := List.pairwise_iff_getElem.1 hX u t hu ht h1
   have tr := vord_tr y.key X[u].key X[t].key
   rcases h2 with h2 | ⟨h2, _⟩
   · exact hlt (tr.lt1 h3 (by omega))
   · exact hlt (tr.lt1 h3 (by omega))
 · have : u = t := by omega
   subst this; exact hlt
theorem CutLo.down {X : List PEl} {y : PEl} {p q t : Nat} (h : CutLo X y p q) (hX : X.Pairwise elt) (ht : t < X.length) (hlt : vord y.key X[t].key < 0) : CutLo X y p t := by
 refine ⟨h.lo, fun u hu hup => ?_⟩
 rcases Nat.lt_or_ge t u with h1 | h1
 · have h2 := List.pairwise_iff_getElem.1 hX t u ht hu h1
   have tr := vord_tr y.key X[t].key X[u].key
   rcases h2 with h2 | ⟨h2, _⟩
   · exact tr.lt1 hlt (by omega)
   · exact tr.lt1 hlt (by omega)
 · have : u = t := by omega
   subst this; exact hlt
theorem CutLo.sorted {X : List PEl} {y : PEl} {p : Nat} (h : CutLo X y p p) (hX : X.Pairwise elt) (ht : ∀ x ∈ X, x.tag < y.tag) : (X.take p ++ y :: X.drop p).Pairwise elt := by
 refine sorted_mid (by rw [List.take_append_drop]; exact hX) (fun x hx => ?_) (fun x hx => ?_)
 · have hm := List.mem_of_mem_take hx
   obtain ⟨t, htl, rfl⟩ := List.mem_iff_getElem.1 hx
   rw [List.length_take] at htl
   rw [List.getElem_take] at hm ⊢
   exact elt_of_ge (h.lo t (by omega) (by omega)) (ht _ hm)
 · obtain ⟨t, htl, rfl⟩ := List.mem_iff_getElem.1 hx
   rw [List.length_drop] at htl
   rw [List.getElem_drop]
   exact .inl (h.hi (p + t) (by omega) (by omega))
set_option maxHeartbeats 4000000 in
theorem merge_last (w0 : World) (g cb : Nat) (U : PEl → Prop) (hg : g < w0.heap.size) (hcmp : CmpIn w0 g cb U) (A X B : List PEl) (y : PEl) (N cap : Nat) (W : World) (hN : N = (A ++ X ++ [y] ++ B).length) (hcap : N ≤ 1048576) (hU : ∀ e ∈ y :: X, U e) (hX : X.Pairwise elt) (ht : ∀ x ∈ X, x.tag < y.tag) (h2X : 2 ≤ X.length) (h : SW w0 g (A ++ X ++ [y] ++ B) W) :
 Calls Tryz.prog 199 #[.slice (some ⟨g, 0, none⟩) N cap, .int .i64 A.length, .int .i64 (A.length + X.length : Nat), .int .i64 (A.length + X.length + 1 : Nat), .func (.func 120) #[] #[.pointer (some ⟨cb, 0, none⟩)]] W fun e w' => e = .returned (.tuple #[]) ∧ ∃ S', S'.Perm (X ++ [y]) ∧ S'.Pairwise elt ∧ SW w0 g (A ++ S' ++ B) w' := by
 obtain ⟨a, ha⟩ : ∃ a, a = A.length := ⟨_, rfl⟩
 obtain ⟨b, hb⟩ : ∃ b, b = A.length + X.length + 1 := ⟨_, rfl⟩
 obtain ⟨m, hm⟩ : ∃ m, m = A.length + X.length := ⟨_, rfl⟩
 rw [← hb, ← hm, ← ha]
 have hbN : b ≤ N := by rw [hN]; simp; omega
 have hma : ((m : Int) - (a : Int) == 1) = false := by simp; omega
 have hbm : (b : Int) - (m : Int) = 1 := by omega
 have ham : a ≤ m := by omega
 have hmb : m ≤ b := by omega
 have HA := Lib.hid ha
 have HM := Lib.hid hm
 have HBB := Lib.hid hb
 have HN := Lib.hid hN
 have HU := Lib.hid hU
 have HY := Lib.hid hX
 have HT := Lib.hid ht
 have HCMP := Lib.hid hcmp
 have H := Lib.hid h
 have hu := Tryz.underlying102
 clear hN ha hb hm h hU hX ht hcmp h2X
 go_enter Tryz.func199, Tryz.ntmps199
 go_wp2
 go_loopw [14, 15] (fun vi vj wr => ∃ i j p q : Nat, vi = .int .i64 i ∧ vj = .int .i64 j ∧ i = a + p ∧ j = a + q ∧ p ≤ q ∧ j ≤ m ∧ Hid (CutLo X y p q) ∧ Hid (SW w0 g (A ++ X ++ [y] ++ B) wr)) (fun vi vj _ => (intOf vj).toNat - (intOf vi).toNat)
 case atStart => exact ⟨a, m, 0, X.length, rfl, rfl, rfl, by have := HA.out; have := HM.out; omega, Nat.zero_le _, Nat.le_refl _, Lib.hid ⟨fun t h h' => absurd h' (by omega), fun t h h' => absurd h (by omega)⟩, H⟩
 case round =>
  obtain ⟨i, j, p, q, rfl, rfl, hip, hjq, hpq, hjb, HC, HS⟩ := hrel
  have HIP := Lib.hid hip
  have HJQ := Lib.hid hjq
  by_cases hlt : i < j
  · obtain ⟨t, hte⟩ : ∃ t, t = (p + q) / 2 := ⟨_, rfl⟩
    obtain ⟨hh, hhe⟩ : ∃ hh, hh = a + t := ⟨_, rfl⟩
    have hq1 : p ≤ t ∧ t < q := by omega
    have htY : t < X.length := by have := HA.out; have := HM.out; omega
    have hdv : ((i : Int) + (j : Int)) / 2 = (hh : Int) := by omega
    obtain ⟨x, hx⟩ : ∃ x, x = X[t] := ⟨_, rfl⟩
    have hS := HS.out.drew
    have hy1 : (A ++ X ++ [y] ++ B)[m]? = some y := by rw [HM.out, List.append_assoc, List.getElem?_append_right (by simp)]; simp
    have hx1 : (A ++ X ++ [y] ++ B)[hh]? = some x := by
     rw [List.append_assoc, List.append_assoc, List.getElem?_append_right (by rw [← HA.out]; omega), List.getElem?_append_left (by rw [← HA.out]; omega), hx, List.getElem?_eq_some_iff]
     have e : hh - A.length = t := by rw [← HA.out]; omega
     exact ⟨by rw [e]; exact htY, by simp only [e]⟩
    have r1 := hS.at_ _ _ hy1
    have r2 := hS.at_ _ _ hx1
    have oky := hS.ok y (List.mem_of_getElem? hy1)
    have okx := hS.ok x (List.mem_of_getElem? hx1)
    have i1 := info_pair _ oky.len
    have i2 := info_pair _ okx.len
    have HKD := Lib.hid hS.keep
    have hux : U x := HU.out x (List.mem_cons_of_mem _ (by rw [hx]; exact List.getElem_mem htY))
    have huy : U y := HU.out y List.mem_cons_self
    have HCC : Hid (∀ W, KeepG w0 g W → Calls Tryz.prog 120 #[.agg y.row.toArray, .agg x.row.toArray, .pointer (some ⟨cb, 0, none⟩)] W fun e w' => e = .returned (.int .i64 (vord y.key x.key)) ∧ Below W.heap.size W w') := Lib.hid (fun W hW => HCMP.out W hW y x huy hux)
    have q1 : (0 : Int) ≤ (hh : Int) := by omega
    have q2 : (hh : Int) < (N : Int) := by omega
    have q3 : (0 : Int) ≤ (m : Int) := by omega
    have q4 : (m : Int) < (N : Int) := by omega
    have q5 : (i : Int) + (j : Int) ≤ 4194304 := by omega
    have HDN : Hid (vord y.key x.key < 0 → CutLo X y p t) := Lib.hid (fun h => HC.out.down HY.out htY (by rw [← hx]; exact h))
    have HUP : Hid (¬ vord y.key x.key < 0 → CutLo X y (t + 1) q) := Lib.hid (fun h => HC.out.up HY.out htY (by rw [← hx]; exact h))
    have HTT : Hid (hh = a + t ∧ p ≤ t ∧ t < q) := Lib.hid ⟨hhe, hq1⟩
    clear hte hhe hq1 htY hx hS hx1 hy1 oky okx huy hux hip hjq hpq HC
    by_cases hc : ¬ vord y.key x.key < 0
    · go_upto_region 17 with (fail)
      refine wp_region_any (by kernel_rfl) ?_
      change wpAny _ _ _ _ _ _ _ (World.drew _)
      refine tq 0 (h := ?_)
      refine tq 1 (h := ?_)
      simp only [lst]
      refine tq 2 (h := ?_)
      refine tq 3 (h := ?_)
      simp only [lst]
      refine tq 5 (h := ?_)
      refine tq 6 (h := ?_)
      simp only [lst]
      refine tq 7 (h := ?_)
      simp only [lst]
      refine two 4 8 rfl rfl (by kernel_rfl) (by rfl) (by rfl) (fun K_ hK_ => ?_) (fun K_ hK_ => ?_)
      refine wp_load_mid _ _ rfl _ _ rfl _ _ r1 hu rfl i1 ?_
      refine hK_ _ _ ?_
      clear hK_ K_
      simp only [Act.put, lgt, List.setIfInBounds_toArray, lst]
      refine one 8 rfl (by kernel_rfl) (by rfl) fun K_ hK_ => ?_
      refine wp_load_mid _ _ rfl _ _ rfl _ _ r2 hu rfl i2 ?_
      refine hK_ _ _ ?_
      clear hK_ K_
      simp only [Act.put, lgt, List.setIfInBounds_toArray, lst]
      refine one 9 rfl (by kernel_rfl) (by rfl) fun K_ hK_ => ?_
      simp only [lgt]
      go_simp
      refine (HCC.out _ HKD.out).mono ?_
      rintro e_ w5 ⟨rfl, hB5⟩
      have HB5 := Lib.hid hB5
      clear hB5
      simp only [Oper.upon]
      refine hK_ _ _ ?_
      clear hK_ K_
      refine tq 10 (h := ?_)
      refine tq 11 (h := ?_)
      refine wpAny_done (by kernel_rfl) ?_ _
      simp only [lst]
      rotate_left
      refine wp_load_mid _ _ rfl _ _ rfl _ _ r2 hu rfl i2 ?_
      refine hK_ _ _ ?_
      clear hK_ K_
      simp only [Act.put, lgt, List.setIfInBounds_toArray, lst]
      refine one 4 rfl (by kernel_rfl) (by rfl) fun K_ hK_ => ?_
      refine wp_load_mid _ _ rfl _ _ rfl _ _ r1 hu rfl i1 ?_
      refine hK_ _ _ ?_
      clear hK_ K_
      simp only [Act.put, lgt, List.setIfInBounds_toArray, lst]
      refine one 9 rfl (by kernel_rfl) (by rfl) fun K_ hK_ => ?_
      simp only [lgt]
      go_simp
      refine (HCC.out _ HKD.out).mono ?_
      rintro e_ w5 ⟨rfl, hB5⟩
      have HB5 := Lib.hid hB5
      clear hB5
      simp only [Oper.upon]
      refine hK_ _ _ ?_
      clear hK_ K_
      refine tq 10 (h := ?_)
      refine tq 11 (h := ?_)
      refine wpAny_done (by kernel_rfl) ?_ _
      simp only [lst]
      rotate_left
      all_goals
       clear r1 r2 i1 i2 HCC HKD q1 q2 q3 q4
       have HS5 := Lib.hid (HS.out.drew.grow hg HB5.out)
       have HC2 := Lib.hid (HUP.out hc)
       have hw : (hh : Int) + 1 ≤ 1048576 := by have := HTT.out; have := HJQ.out; omega
       clear hdv
       go_wp2_with fail
       go_roundw
       case rel => exact ⟨hh + 1, j, t + 1, q, by first | rfl | exact congrArg (Value.int .i64) (wrap64_up hh (by omega)), rfl, by have := HTT.out; omega, HJQ.out, by have := HTT.out; omega, hjb, HC2, HS5⟩
       case measure => have := HTT.out; have := HIP.out; first | (rw [wrap64_up hh (by omega)]; show j - (hh + 1) < j - i; omega) | (show j - (hh + 1) < j - i; omega)
    · replace hc := Decidable.not_not.1 hc
      go_upto_region 17 with (fail)
      refine wp_region_any (by kernel_rfl) ?_
      change wpAny _ _ _ _ _ _ _ (World.drew _)
      refine tq 0 (h := ?_)
      refine tq 1 (h := ?_)
      simp only [lst]
      refine tq 2 (h := ?_)
      refine tq 3 (h := ?_)
      simp only [lst]
      refine tq 5 (h := ?_)
      refine tq 6 (h := ?_)
      simp only [lst]
      refine tq 7 (h := ?_)
      simp only [lst]
      refine two 4 8 rfl rfl (by kernel_rfl) (by rfl) (by rfl) (fun K_ hK_ => ?_) (fun K_ hK_ => ?_)
      refine wp_load_mid _ _ rfl _ _ rfl _ _ r1 hu rfl i1 ?_
      refine hK_ _ _ ?_
      clear hK_ K_
      simp only [Act.put, lgt, List.setIfInBounds_toArray, lst]
      refine one 8 rfl (by kernel_rfl) (by rfl) fun K_ hK_ => ?_
      refine wp_load_mid _ _ rfl _ _ rfl _ _ r2 hu rfl i2 ?_
      refine hK_ _ _ ?_
      clear hK_ K_
      simp only [Act.put, lgt, List.setIfInBounds_toArray, lst]
      refine one 9 rfl (by kernel_rfl) (by rfl) fun K_ hK_ => ?_
      simp only [lgt]
      go_simp
      refine (HCC.out _ HKD.out).mono ?_
      rintro e_ w5 ⟨rfl, hB5⟩
      have HB5 := Lib.hid hB5
      clear hB5
      simp only [Oper.upon]
      refine hK_ _ _ ?_
      clear hK_ K_
      refine tq 10 (h := ?_)
      refine tq 11 (h := ?_)
      refine wpAny_done (by kernel_rfl) ?_ _
      simp only [lst]
      rotate_left
      refine wp_load_mid _ _ rfl _ _ rfl _ _ r2 hu rfl i2 ?_
      refine hK_ _ _ ?_
      clear hK_ K_
      simp only [Act.put, lgt, List.setIfInBounds_toArray, lst]
      refine one 4 rfl (by kernel_rfl) (by rfl) fun K_ hK_ => ?_
      refine wp_load_mid _ _ rfl _ _ rfl _ _ r1 hu rfl i1 ?_
      refine hK_ _ _ ?_
      clear hK_ K_
      simp only [Act.put, lgt, List.setIfInBounds_toArray, lst]
      refine one 9 rfl (by kernel_rfl) (by rfl) fun K_ hK_ => ?_
      simp only [lgt]
      go_simp
      refine (HCC.out _ HKD.out).mono ?_
      rintro e_ w5 ⟨rfl, hB5⟩
      have HB5 := Lib.hid hB5
      clear hB5
      simp only [Oper.upon]
      refine hK_ _ _ ?_
      clear hK_ K_
      refine tq 10 (h := ?_)
      refine tq 11 (h := ?_)
      refine wpAny_done (by kernel_rfl) ?_ _
      simp only [lst]
      rotate_left
      all_goals
       clear r1 r2 i1 i2 HCC HKD q1 q2 q3 q4
       have HS5 := Lib.hid (HS.out.drew.grow hg HB5.out)
       have HC2 := Lib.hid (HDN.out hc)
       clear hdv
       go_wp2_with fail
       go_roundw
       case rel => exact ⟨i, hh, p, t, rfl, rfl, HIP.out, HTT.out.1, HTT.out.2.1, by have := HTT.out; have := HJQ.out; omega, HC2, HS5⟩
       case measure => have := HTT.out; have := HJQ.out; show hh - i < j - i; omega
  · have hpq2 : p = q := by omega
    subst hpq2
    have hij : j = i := by omega
    subst hij
    have hpY : p ≤ X.length := by have := HA.out; have := HM.out; omega
    have HPY := Lib.hid hpY
    have HLAST := Lib.hid (HC.out.sorted HY.out HT.out)
    clear hip hjq hpq HC hpY
    go_wp2
    go_loopw [17] (fun vk wq => ∃ k s : Nat, vk = .int .i64 k ∧ k = a + s ∧ p ≤ s ∧ s ≤ X.length ∧ Hid (SW w0 g (A ++ X.take s ++ y :: X.drop s ++ B) wq)) (fun vk _ => (intOf vk).toNat)
    case atStart => exact ⟨m, X.length, rfl, by have := HA.out; have := HM.out; omega, HPY.out, Nat.le_refl _, Lib.hid (by have := HS.out; simpa using this)⟩
    case round =>
     obtain ⟨k, s, rfl, hks, hsp, hsX, HQ⟩ := hrel
     have HKS := Lib.hid hks
     by_cases hlt2 : p < s
     · obtain ⟨u, hu2⟩ : ∃ u, s = u + 1 := ⟨s - 1, by omega⟩
       subst hu2
       have huX : u < X.length := by omega
       have hS := HQ.out.drew
       rw [List.take_succ_eq_append_getElem huX] at hS
       have hnx : A ++ X.take u ++ y :: X.drop u ++ B = (A ++ X.take u) ++ y :: X[u] :: (X.drop (u + 1) ++ B) := by
        rw [List.drop_eq_getElem_cons huX]; simp only [List.append_assoc, List.cons_append]
       generalize X[u] = x at *
       replace hS : SW w0 g ((A ++ X.take u) ++ x :: y :: (X.drop (u + 1) ++ B)) wr.drew := by simp only [List.append_assoc, List.cons_append, List.nil_append] at hS ⊢; exact hS
       obtain ⟨kp, hkp⟩ : ∃ kp, kp = (A ++ X.take u).length := ⟨_, rfl⟩
       have hkk : k = kp + 1 := by rw [hkp, List.length_append, List.length_take, ← HA.out]; omega
       obtain ⟨hx1, hy1⟩ := two_at (P := A ++ X.take u) (Q := X.drop (u + 1) ++ B) (x := x) (y := y)
       rw [← hkp] at hx1 hy1
       rw [← hkk] at hy1
       have r1 := hS.at_ _ _ hx1
       have r2 := hS.at_ _ _ hy1
       have oky := hS.ok y (List.mem_of_getElem? hy1)
       have okx := hS.ok x (List.mem_of_getElem? hx1)
       have i1 := info_pair _ okx.len
       have i2 := info_pair _ oky.len
       have o1 := okx.one
       have o2 := oky.one
       have l1 := okx.len
       have l2 := oky.len
       have t1 := there_part hS.there (i := k) (List.getElem?_eq_some_iff.1 hy1).1
       have t2 := World.there_setCells (there_part hS.there (i := kp) (List.getElem?_eq_some_iff.1 hx1).1) g (k * 14) x.row
       have hfin := hS.swap1
       rw [← hkp, ← hkk, ← hnx] at hfin
       have HFIN := Lib.hid hfin
       have hkN : k < N := by have := HM.out; have := HA.out; omega
       have q1 : (0 : Int) ≤ (k : Int) := by omega
       have q2 : (k : Int) < (N : Int) := by omega
       have q3 : (1 : Int) ≤ (k : Int) := by omega
       have q4 : (k : Int) - 1 < (N : Int) := by omega
       have q5 : ((k : Int) - 1).toNat = kp := by omega
       have q6 : IntKind.i64.wrap ((k : Int) - 1) = (k : Int) - 1 := by rw [wrap_in _ (by omega)]
       have q7 : (j : Int) < (k : Int) := by have := HIP.out; omega
       clear hS hnx hkp hx1 hy1 oky okx hfin hks HQ hkk
       go_upto_region 23 with (fail)
       refine wp_region_any (by kernel_rfl) ?_
       change wpAny _ _ _ _ _ _ _ (World.drew _)
       refine tq 0 (h := ?_)
       refine tq 1 (h := ?_)
       simp only [lst]
       refine tq 2 (h := ?_)
       refine tq 3 (h := ?_)
       simp only [lst]
       refine tq 4 (h := ?_)
       refine tq 5 (h := ?_)
       simp only [lst]
       refine tq 6 (h := ?_)
       refine tq 7 (h := ?_)
       simp only [lst]
       refine tq 8 (h := ?_)
       refine tq 10 (h := ?_)
       simp only [lst]
       refine tq 11 (h := ?_)
       refine tq 12 (h := ?_)
       simp only [lst]
       refine two 9 13 rfl rfl (by kernel_rfl) (by rfl) (by rfl) (fun K_ hK_ => ?_) (fun K_ hK_ => ?_)
       refine wp_load_mid _ _ rfl _ _ rfl _ _ r1 hu rfl i1 ?_
       refine hK_ _ _ ?_
       clear hK_ K_
       simp only [Act.put, lgt, List.setIfInBounds_toArray, lst]
       refine one 13 rfl (by kernel_rfl) (by rfl) fun K_ hK_ => ?_
       refine wp_load_mid _ _ rfl _ _ rfl _ _ r2 hu rfl i2 ?_
       refine hK_ _ _ ?_
       clear hK_ K_
       simp only [Act.put, lgt, List.setIfInBounds_toArray, lst]
       refine tq 14 (h := ?_)
       simp only [lst]
       refine one 15 rfl (by kernel_rfl) (by rfl) fun K_ hK_ => ?_
       refine wp_store_mid _ _ _ rfl _ _ (List.toArray _) rfl rfl (by rw [List.size_toArray, l1]; exact t1) (by rw [List.size_toArray]; exact i1) (all_oneCell_toArray o1) ?_
       simp only [List.toList_toArray]
       refine hK_ _ _ ?_
       clear hK_ K_
       simp only [Act.put, lgt, List.setIfInBounds_toArray, lst]
       refine tq 16 (h := ?_)
       simp only [lst]
       refine one 17 rfl (by kernel_rfl) (by rfl) fun K_ hK_ => ?_
       refine wp_store_mid _ _ _ rfl _ _ (List.toArray _) rfl rfl (by rw [List.size_toArray, l2]; exact t2) (by rw [List.size_toArray]; exact i2) (all_oneCell_toArray o2) ?_
       simp only [List.toList_toArray]
       refine hK_ _ _ ?_
       clear hK_ K_
       refine wpAny_done (by kernel_rfl) ?_ _
       simp only [Act.put, lgt, List.setIfInBounds_toArray, lst]
       rotate_left
       refine wp_load_mid _ _ rfl _ _ rfl _ _ r2 hu rfl i2 ?_
       refine hK_ _ _ ?_
       clear hK_ K_
       simp only [Act.put, lgt, List.setIfInBounds_toArray, lst]
       refine one 9 rfl (by kernel_rfl) (by rfl) fun K_ hK_ => ?_
       refine wp_load_mid _ _ rfl _ _ rfl _ _ r1 hu rfl i1 ?_
       refine hK_ _ _ ?_
       clear hK_ K_
       simp only [Act.put, lgt, List.setIfInBounds_toArray, lst]
       refine tq 14 (h := ?_)
       simp only [lst]
       refine one 15 rfl (by kernel_rfl) (by rfl) fun K_ hK_ => ?_
       refine wp_store_mid _ _ _ rfl _ _ (List.toArray _) rfl rfl (by rw [List.size_toArray, l1]; exact t1) (by rw [List.size_toArray]; exact i1) (all_oneCell_toArray o1) ?_
       simp only [List.toList_toArray]
       refine hK_ _ _ ?_
       clear hK_ K_
       simp only [Act.put, lgt, List.setIfInBounds_toArray, lst]
       refine tq 16 (h := ?_)
       simp only [lst]
       refine one 17 rfl (by kernel_rfl) (by rfl) fun K_ hK_ => ?_
       refine wp_store_mid _ _ _ rfl _ _ (List.toArray _) rfl rfl (by rw [List.size_toArray, l2]; exact t2) (by rw [List.size_toArray]; exact i2) (all_oneCell_toArray o2) ?_
       simp only [List.toList_toArray]
       refine hK_ _ _ ?_
       clear hK_ K_
       refine wpAny_done (by kernel_rfl) ?_ _
       simp only [Act.put, lgt, List.setIfInBounds_toArray, lst]
       rotate_left
       all_goals
        clear r1 r2 t1 t2 i1 i2 o1 o2 l1 l2 q1 q2 q4 q5 q6
        have hfin := HFIN.out
        generalize (wr.drew.setCells g (k * 14) x.row).setCells g (kp * 14) y.row = W9 at hfin ⊢
        have HS9 := Lib.hid hfin
        clear hfin HFIN
        have hjs : (k : Int) - 1 = ((k - 1 : Nat) : Int) := by omega
        go_wp2_with fail
        go_roundw
        case rel => exact ⟨k - 1, u, by first | rfl | (rw [hjs]), by have := HKS.out; omega, by omega, by omega, HS9⟩
        case measure => first | (rw [hjs]; show k - 1 < k; omega) | (show k - 1 < k; omega)
     · have hsp2 : s = p := by omega
       subst hsp2
       have q7 : ¬ (j : Int) < (k : Int) := by have := HIP.out; omega
       have HQ2 := HQ
       clear hks
       go_wp2
       have hend : ∃ S' : List PEl, S'.Perm (X ++ [y]) ∧ S'.Pairwise elt ∧ SW w0 g (A ++ S' ++ B) wr := ⟨X.take s ++ y :: X.drop s, by
        have := List.perm_middle (a := y) (l₁ := X.take s) (l₂ := X.drop s)
        rw [List.take_append_drop] at this
        exact this.trans (List.perm_append_singleton _ _).symm, HLAST.out, by have := HQ2.out; simp only [List.append_assoc] at this ⊢; exact this⟩
       refine bodyPost_ret (v := .tuple #[]) ?_ rfl ⟨rfl, by simpa using hend⟩
       simp [results, Tryz.f199, go_sem]
def zP : PEl := ⟨[], z28, z28, 0⟩
def Pr (X Y : List PEl) (a m nn c : Nat) : Prop := vord (Y.getD (nn - 1 - c - m) zP).key (X.getD (c - a) zP).key < 0
structure Cut (X Y : List PEl) (a m nn s0 r0 s r : Nat) : Prop where
 lo : ∀ c, s0 ≤ c → c < s → ¬ Pr X Y a m nn c
 hi : ∀ c, r ≤ c → c < r0 → Pr X Y a m nn c
structure Span (X Y : List PEl) (a m nn s0 r0 : Nat) : Prop where
 sx : X.Pairwise elt
 sy : Y.Pairwise elt
 tags : ∀ x ∈ X, ∀ y ∈ Y, x.tag < y.tag
 hm : m = a + X.length
 at_ : ∀ c, s0 ≤ c → c < r0 → a ≤ c ∧ c < m ∧ m + c + 1 ≤ nn ∧ nn < m + Y.length + c + 1
 le : s0 ≤ r0
 bot : a ≤ s0 ∧ nn ≤ m + Y.length + s0 ∧ (s0 = a ∨ nn = m + Y.length + s0)
 top : r0 ≤ m ∧ m + r0 ≤ nn ∧ (r0 = m ∨ nn = m + r0)
theorem getD_lt {l : List PEl} {i j : Nat} (h : l.Pairwise elt) (hij : i < j) (hj : j < l.length) : elt (l.getD i zP) (l.getD j zP) := by
 have := List.pairwise_iff_getElem.1 h i j (by omega) hj hij
 simpa [List.getD_eq_getElem?_getD, List.getElem?_eq_getElem hj, List.getElem?_eq_getElem (show i < l.length by omega)] using this
theorem Span.mono {X Y : List PEl} {a m nn s0 r0 c d : Nat} (h : Span X Y a m nn s0 r0) (h0 : s0 ≤ c) (hcd : c < d) (h1 : d < r0) (hp : Pr X Y a m nn c) : Pr X Y a m nn d := by
 have r1 := h.at_ c h0 (by omega)
 have r2 := h.at_ d (by omega) h1
 have hm := h.hm
 have e1 : elt (X.getD (c - a) zP) (X.getD (d - a) zP) := getD_lt h.sx (by omega) (by omega)
 have e2 : elt (Y.getD (nn - 1 - d - m) zP) (Y.getD (nn - 1 - c - m) zP) := getD_lt h.sy (by omega) (by omega)
 unfold Pr at hp ⊢
 generalize X.getD (c - a) zP = x1 at *
 generalize X.getD (d - a) zP = x2 at *
 generalize Y.getD (nn - 1 - c - m) zP = y1 at *
 generalize Y.getD (nn - 1 - d - m) zP = y2 at *
 have le1 : vord x1.key x2.key ≤ 0 := by rcases e1 with h | ⟨h, _⟩ <;> omega
 have le2 : vord y2.key y1.key ≤ 0 := by rcases e2 with h | ⟨h, _⟩ <;> omega
 exact (vord_tr y2.key x1.key x2.key).lt1 ((vord_tr y2.key y1.key x1.key).lt2 le2 hp) le1
theorem Cut.up {X Y : List PEl} {a m nn s0 r0 s r c : Nat} (h : Span X Y a m nn s0 r0) (k : Cut X Y a m nn s0 r0 s r) (h0 : s0 ≤ c) (h1 : c < r0) (hn : ¬ Pr X Y a m nn c) : Cut X Y a m nn s0 r0 (c + 1) r :=
 ⟨fun d hd hdc hp => by
  rcases Nat.lt_or_ge d c with hlt | hge
  · exact hn (h.mono hd hlt h1 hp)
  · obtain rfl : d = c := by omega
    exact hn hp, k.hi⟩
theorem Cut.down {X Y : List PEl} {a m nn s0 r0 s r c : Nat} (h : Span X Y a m nn s0 r0) (k : Cut X Y a m nn s0 r0 s r) (h0 : s0 ≤ c) (h1 : c < r0) (hn : Pr X Y a m nn c) : Cut X Y a m nn s0 r0 s c :=
 ⟨k.lo, fun d hd hdr => by
  rcases Nat.lt_or_ge c d with hlt | hge
  · exact h.mono h0 hlt hdr hn
  · obtain rfl : d = c := by omega
    exact hn⟩
theorem mem_take_getD {l : List PEl} {k : Nat} {u : PEl} (h : u ∈ l.take k) : ∃ i, i < k ∧ i < l.length ∧ u = l.getD i zP := by
 obtain ⟨i, hi, rfl⟩ := List.mem_iff_getElem.1 h
 rw [List.length_take] at hi
 exact ⟨i, by omega, by omega, by rw [List.getElem_take, List.getD_eq_getElem?_getD, List.getElem?_eq_getElem (by omega)]; rfl⟩
theorem mem_drop_getD {l : List PEl} {k : Nat} {u : PEl} (h : u ∈ l.drop k) : ∃ i, k ≤ i ∧ i < l.length ∧ u = l.getD i zP := by
 obtain ⟨i, hi, rfl⟩ := List.mem_iff_getElem.1 h
 rw [List.length_drop] at hi
 exact ⟨k + i, by omega, by omega, by rw [List.getElem_drop, List.getD_eq_getElem?_getD, List.getElem?_eq_getElem (by omega)]; rfl⟩
theorem getD_le {l : List PEl} {i j : Nat} (h : l.Pairwise elt) (hij : i ≤ j) (hj : j < l.length) {z : PEl} (hz : elt (l.getD j zP) z) : elt (l.getD i zP) z := by
 rcases Nat.lt_or_ge i j with h1 | h1
 · exact elt_trans (getD_lt h h1 hj) hz
 · rwa [show i = j by omega]
theorem getD_ge {l : List PEl} {i j : Nat} (h : l.Pairwise elt) (hij : i ≤ j) (hj : j < l.length) {z : PEl} (hz : elt z (l.getD i zP)) : elt z (l.getD j zP) := by
 rcases Nat.lt_or_ge i j with h1 | h1
 · exact elt_trans hz (getD_lt h h1 hj)
 · rwa [show j = i by omega]
theorem getD_mem {l : List PEl} {i : Nat} (hi : i < l.length) : l.getD i zP ∈ l := by
 rw [List.getD_eq_getElem?_getD, List.getElem?_eq_getElem hi]; exact List.getElem_mem hi
theorem Cut.final {X Y : List PEl} {a m nn s0 r0 s : Nat} (h : Span X Y a m nn s0 r0) (k : Cut X Y a m nn s0 r0 s s) (h0 : s0 ≤ s) (h1 : s ≤ r0) : ∀ u ∈ X.take (s - a) ++ Y.take (nn - s - m), ∀ v ∈ X.drop (s - a) ++ Y.drop (nn - s - m), elt u v := by
 have hm := h.hm
 have b1 := h.bot
 have b2 := h.top
 intro u hu v hv
 rcases List.mem_append.1 hu with hu | hu <;> rcases List.mem_append.1 hv with hv | hv
 · obtain ⟨i, i1, i2, rfl⟩ := mem_take_getD hu
   obtain ⟨j, j1, j2, rfl⟩ := mem_drop_getD hv
   exact getD_lt h.sx (by omega) j2
 · obtain ⟨i, i1, i2, rfl⟩ := mem_take_getD hu
   obtain ⟨j, j1, j2, rfl⟩ := mem_drop_getD hv
   have hs : s0 < s := by omega
   have hn := k.lo (s - 1) (by omega) (by omega)
   have r1 := h.at_ (s - 1) (by omega) (by omega)
   have hx : s - 1 - a < X.length := by omega
   have hy : nn - 1 - (s - 1) - m < Y.length := by omega
   have e : elt (X.getD (s - 1 - a) zP) (Y.getD (nn - 1 - (s - 1) - m) zP) := elt_of_ge hn (h.tags _ (getD_mem hx) _ (getD_mem hy))
   exact getD_le h.sx (by omega) hx (getD_ge h.sy (by omega) j2 e)
 · obtain ⟨i, i1, i2, rfl⟩ := mem_take_getD hu
   obtain ⟨j, j1, j2, rfl⟩ := mem_drop_getD hv
   have hs : s < r0 := by omega
   have hn := k.hi s (Nat.le_refl _) hs
   have r1 := h.at_ s h0 hs
   have hx : s - a < X.length := by omega
   have hy : nn - 1 - s - m < Y.length := by omega
   have e : elt (Y.getD (nn - 1 - s - m) zP) (X.getD (s - a) zP) := .inl hn
   exact getD_le h.sy (by omega) hy (getD_ge h.sx (by omega) j2 e)
 · obtain ⟨i, i1, i2, rfl⟩ := mem_take_getD hu
   obtain ⟨j, j1, j2, rfl⟩ := mem_drop_getD hv
   exact getD_lt h.sy (by omega) j2
end Go.Proofs.YthigbklhngihkaaGreatDoor.P

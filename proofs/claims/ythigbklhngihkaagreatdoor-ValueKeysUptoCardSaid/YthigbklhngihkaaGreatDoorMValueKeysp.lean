import Derived.Test.YthigbklhngihkaaGreatDoorMValueKeyso
set_option linter.unusedVariables false
set_option linter.unusedSimpArgs false
set_option maxRecDepth 100000
namespace Go.Proofs.YthigbklhngihkaaGreatDoor.P
open Go.RowKit Go.Proofs.YthigbklhngihkaaGreatDoorW.PrintWords Go.Proofs.YthigbklhngihkaaGreatDoorW.PrintMore Go.Proofs.YthigbklhngihkaaGreatDoorW.PrintLast
structure SortArgs (w0 : World) (g cb : Nat) (U : PEl → Prop) (O : List PEl) (N : Nat) : Prop where
 hg : g < w0.heap.size
 cmp : CmpIn w0 g cb U
 hN : N = O.length
 hcap : N ≤ 1048576
 hU : ∀ e ∈ O, U e
 tags : O.Pairwise (fun x y : PEl => x.tag < y.tag)
theorem Done.perm {z : Nat} {o c : List PEl} (h : Done z o c) : c.Perm o := by
 have := (h [] [] (.last _ _ (Nat.zero_le _) (List.Perm.refl _) List.Pairwise.nil)).perm
 simpa using this
theorem Done.len {z : Nat} {o c : List PEl} (h : Done z o c) : c.length = o.length := h.perm.length_eq
def InB (w0 : World) (g : Nat) (O : List PEl) (a : Nat) (W : World) : Prop := ∃ o1 c1 o2 : List PEl, O = o1 ++ o2 ∧ o1.length = a ∧ Done 20 o1 c1 ∧ SW w0 g (c1 ++ o2) W
theorem InB.drew {w0 : World} {g : Nat} {O : List PEl} {a : Nat} {W : World} (h : InB w0 g O a W) : InB w0 g O a W.drew := by
 obtain ⟨o1, c1, o2, h1, h2, h3, h4⟩ := h
 exact ⟨o1, c1, o2, h1, h2, h3, h4.drew⟩
def InZ (w0 : World) (g : Nat) (O : List PEl) (z : Nat) (W : World) : Prop := ∃ c : List PEl, BL z O c ∧ SW w0 g c W
theorem InZ.drew {w0 : World} {g : Nat} {O : List PEl} {z : Nat} {W : World} (h : InZ w0 g O z W) : InZ w0 g O z W.drew := by
 obtain ⟨c, h1, h2⟩ := h
 exact ⟨c, h1, h2.drew⟩
def InM (w0 : World) (g : Nat) (O : List PEl) (z a : Nat) (W : World) : Prop := ∃ o1 c1 o2 c2 : List PEl, O = o1 ++ o2 ∧ o1.length = a ∧ Done (2 * z) o1 c1 ∧ BL z o2 c2 ∧ SW w0 g (c1 ++ c2) W
theorem InM.drew {w0 : World} {g : Nat} {O : List PEl} {z a : Nat} {W : World} (h : InM w0 g O z a W) : InM w0 g O z a W.drew := by
 obtain ⟨o1, c1, o2, c2, h1, h2, h3, h4, h5⟩ := h
 exact ⟨o1, c1, o2, c2, h1, h2, h3, h4, h5.drew⟩
theorem ins_block {w0 : World} {g cb : Nat} {U : PEl → Prop} {O : List PEl} {N : Nat} (hA : SortArgs w0 g cb U O N) (cap a b : Nat) (W : World) (hb : b = a + 20) (hbN : b ≤ N) (h : InB w0 g O a W) :
 Calls Tryz.prog 198 #[.slice (some ⟨g, 0, none⟩) N cap, .int .i64 a, .int .i64 b, .func (.func 120) #[] #[.pointer (some ⟨cb, 0, none⟩)]] W fun e w' => e = .returned (.tuple #[]) ∧ InB w0 g O b w' := by
 obtain ⟨o1, c1, o2, h1, h2, h3, h4⟩ := h
 have hN := hA.hN
 have hl : (o2.take 20).length = 20 := by rw [h1, List.length_append] at hN; rw [List.length_take]; omega
 have hc1 : c1.length = a := by rw [h3.len, h2]
 have hsub : (o2.take 20).Sublist O := by rw [h1]; exact (List.take_sublist _ _).trans (List.sublist_append_right _ _)
 have h := insertion_in w0 g cb U hA.hg hA.cmp c1 (o2.take 20) (o2.drop 20) N cap W (by rw [List.append_assoc, List.take_append_drop, List.length_append, hc1, hN, h1, List.length_append, h2]) hA.hcap (fun e he => hA.hU e (hsub.subset he)) (hA.tags.sublist hsub) (by rw [List.append_assoc, List.take_append_drop]; exact h4)
 rw [hl, hc1, ← hb] at h
 refine h.mono ?_
 rintro e w' ⟨rfl, S', p1, p2, p3⟩
 exact ⟨rfl, o1 ++ o2.take 20, c1 ++ S', o2.drop 20, by rw [List.append_assoc, List.take_append_drop]; exact h1, by rw [List.length_append, hl, h2]; exact hb.symm, h3.snoc hl p1 p2, p3⟩
theorem ins_last {w0 : World} {g cb : Nat} {U : PEl → Prop} {O : List PEl} {N : Nat} (hA : SortArgs w0 g cb U O N) (cap a : Nat) (W : World) (haN : a ≤ N) (hb : N < a + 20) (h : InB w0 g O a W) :
 Calls Tryz.prog 198 #[.slice (some ⟨g, 0, none⟩) N cap, .int .i64 a, .int .i64 N, .func (.func 120) #[] #[.pointer (some ⟨cb, 0, none⟩)]] W fun e w' => e = .returned (.tuple #[]) ∧ InZ w0 g O 20 w' := by
 obtain ⟨o1, c1, o2, h1, h2, h3, h4⟩ := h
 have hN := hA.hN
 have hl : N = a + o2.length := by rw [hN, h1, List.length_append, h2]
 have hc1 : c1.length = a := by rw [h3.len, h2]
 have hsub : o2.Sublist O := by rw [h1]; exact List.sublist_append_right _ _
 have h := insertion_in w0 g cb U hA.hg hA.cmp c1 o2 [] N cap W (by rw [List.append_nil, List.length_append, hc1]; exact hl) hA.hcap (fun e he => hA.hU e (hsub.subset he)) (hA.tags.sublist hsub) (by rw [List.append_nil]; exact h4)
 rw [hc1, ← hl] at h
 refine h.mono ?_
 rintro e w' ⟨rfl, S', p1, p2, p3⟩
 rw [List.append_nil] at p3
 refine ⟨rfl, c1 ++ S', ?_, p3⟩
 rw [h1]
 exact h3 _ _ (.last _ _ (by omega) p1 p2)
theorem inM_start {w0 : World} {g : Nat} {O : List PEl} {z : Nat} {W : World} (h : InZ w0 g O z W) : InM w0 g O z 0 W := by
 obtain ⟨c, h1, h2⟩ := h
 exact ⟨[], [], O, c, rfl, rfl, Done.nil _, h1, h2⟩
theorem merge_block {w0 : World} {g cb : Nat} {U : PEl → Prop} {O : List PEl} {N : Nat} (hA : SortArgs w0 g cb U O N) (cap z a m b : Nat) (W : World) (hz : 0 < z) (hm : m = a + z) (hb : b = a + 2 * z) (hbN : b ≤ N) (h : InM w0 g O z a W) :
 Calls Tryz.prog 199 #[.slice (some ⟨g, 0, none⟩) N cap, .int .i64 a, .int .i64 m, .int .i64 b, .func (.func 120) #[] #[.pointer (some ⟨cb, 0, none⟩)]] W fun e w' => e = .returned (.tuple #[]) ∧ InM w0 g O z b w' := by
 obtain ⟨o1, c1, o2, c2, h1, h2, h3, h4, h5⟩ := h
 have hN := hA.hN
 have hl : N = a + o2.length := by rw [hN, h1, List.length_append, h2]
 have hc1 : c1.length = a := by rw [h3.len, h2]
 obtain ⟨p, X, o3, c3, rfl, rfl, lp, px, sx, h6⟩ := h4.first (by omega)
 rw [List.length_append] at hl
 obtain ⟨q, Y, o4, c4, rfl, rfl, lq, py, sy, h7⟩ := h6.first (by omega)
 have lX : X.length = z := by rw [px.length_eq, lp]
 have lY : Y.length = z := by rw [py.length_eq, lq]
 have hlen : c4.length = o4.length := h7.perm.length_eq
 have htg : (p ++ q ++ o4).Pairwise (fun x y : PEl => x.tag < y.tag) := by
  have ht := hA.tags
  rw [h1] at ht
  rw [List.append_assoc]
  exact (List.pairwise_append.1 ht).2.1
 have h := symMerge_in w0 g cb U hA.hg hA.cmp (X.length + Y.length) c1 X Y c4 N cap W (Nat.le_refl _) hA.hcap ⟨by intro e; rw [e] at lX; simp at lX; omega, by intro e; rw [e] at lY; simp at lY; omega, by
  simp only [List.length_append] at hl ⊢; omega, fun e he => hA.hU e (by
  rw [h1]
  rcases List.mem_append.1 he with he | he
  · exact List.mem_append_right _ (List.mem_append_left _ (px.mem_iff.1 he))
  · exact List.mem_append_right _ (List.mem_append_right _ (List.mem_append_left _ (py.mem_iff.1 he)))), sx, sy, tags_apart htg px py, by simp only [List.append_assoc] at h5 ⊢; exact h5⟩
 rw [lX, lY, hc1, ← hm, show m + z = b by omega] at h
 refine h.mono ?_
 rintro e w' ⟨rfl, S', p1, p2, p3⟩
 refine ⟨rfl, o1 ++ (p ++ q), c1 ++ S', o4, c4, by rw [h1]; simp only [List.append_assoc], by rw [List.length_append, List.length_append, h2, lp, lq]; omega, h3.snoc (by rw [List.length_append, lp, lq]; omega) (p1.trans (px.append py)) p2, h7, p3⟩
theorem merge_tail {w0 : World} {g cb : Nat} {U : PEl → Prop} {O : List PEl} {N : Nat} (hA : SortArgs w0 g cb U O N) (cap z a m : Nat) (W : World) (hz : 0 < z) (hm : m = a + z) (hmN : m < N) (hb : N < a + 2 * z) (h : InM w0 g O z a W) :
 Calls Tryz.prog 199 #[.slice (some ⟨g, 0, none⟩) N cap, .int .i64 a, .int .i64 m, .int .i64 N, .func (.func 120) #[] #[.pointer (some ⟨cb, 0, none⟩)]] W fun e w' => e = .returned (.tuple #[]) ∧ InZ w0 g O (2 * z) w' := by
 obtain ⟨o1, c1, o2, c2, h1, h2, h3, h4, h5⟩ := h
 have hN := hA.hN
 have hl : N = a + o2.length := by rw [hN, h1, List.length_append, h2]
 have hc1 : c1.length = a := by rw [h3.len, h2]
 obtain ⟨p, X, o3, Y, rfl, rfl, lp, px, sx, h6⟩ := h4.first (by omega)
 rw [List.length_append] at hl
 obtain ⟨py, sy⟩ := h6.whole (by omega)
 have lX : X.length = z := by rw [px.length_eq, lp]
 have lY : Y.length = o3.length := py.length_eq
 have htg : (p ++ o3 ++ []).Pairwise (fun x y : PEl => x.tag < y.tag) := by
  have ht := hA.tags
  rw [h1] at ht
  rw [List.append_nil]
  exact (List.pairwise_append.1 ht).2.1
 have h := symMerge_in w0 g cb U hA.hg hA.cmp (X.length + Y.length) c1 X Y [] N cap W (Nat.le_refl _) hA.hcap ⟨by intro e; rw [e] at lX; simp at lX; omega, by intro e; rw [e] at lY; simp at lY; omega, by
  simp only [List.length_append, List.length_nil]; omega, fun e he => hA.hU e (by
  rw [h1]
  rcases List.mem_append.1 he with he | he
  · exact List.mem_append_right _ (List.mem_append_left _ (px.mem_iff.1 he))
  · exact List.mem_append_right _ (List.mem_append_right _ (py.mem_iff.1 he))), sx, sy, tags_apart htg px py, by simp only [List.append_assoc, List.append_nil] at h5 ⊢; exact h5⟩
 rw [lX, hc1, ← hm, show m + Y.length = N by omega] at h
 refine h.mono ?_
 rintro e w' ⟨rfl, S', p1, p2, p3⟩
 rw [List.append_nil] at p3
 refine ⟨rfl, c1 ++ S', ?_, p3⟩
 rw [h1]
 exact h3 _ _ (.last _ _ (by rw [List.length_append]; omega) (p1.trans (px.append py)) p2)
theorem merge_none {w0 : World} {g cb : Nat} {U : PEl → Prop} {O : List PEl} {N : Nat} (hA : SortArgs w0 g cb U O N) (z a : Nat) (W : World) (hz : 0 < z) (hm : N ≤ a + z) (h : InM w0 g O z a W) : InZ w0 g O (2 * z) W := by
 obtain ⟨o1, c1, o2, c2, h1, h2, h3, h4, h5⟩ := h
 have hN := hA.hN
 have hl : N = a + o2.length := by rw [hN, h1, List.length_append, h2]
 obtain ⟨py, sy⟩ := h4.whole (by omega)
 refine ⟨c1 ++ c2, ?_, h5⟩
 rw [h1]
 exact h3 _ _ (.last _ _ (by omega) py sy)
set_option maxHeartbeats 4000000 in
theorem stable_in (w0 : World) (g cb : Nat) (U : PEl → Prop) (O : List PEl) (N cap : Nat) (W : World) (hA : SortArgs w0 g cb U O N) (h : SW w0 g O W) :
 Calls Tryz.prog 160 #[.slice (some ⟨g, 0, none⟩) N cap, .int .i64 N, .func (.func 120) #[] #[.pointer (some ⟨cb, 0, none⟩)]] W fun e w' => e = .returned (.tuple #[]) ∧ ∃ S', S'.Perm O ∧ S'.Pairwise elt ∧ SW w0 g S' w' := by
 have hcap := hA.hcap
 have hO := hA.hN
 have H0 : Hid (InB w0 g O 0 W) := Lib.hid ⟨[], [], O, rfl, rfl, Done.nil _, h⟩
 have HA := Lib.hid hA
 have HO := Lib.hid hO
 clear hA h hO
 go_enter Tryz.func160, Tryz.ntmps160
 go_wp2
 go_loopw [7, 8] (fun va vb wr => ∃ a b : Nat, va = .int .i64 a ∧ vb = .int .i64 b ∧ b = a + 20 ∧ a ≤ N ∧ Hid (InB w0 g O a wr)) (fun va vb _ => N + 1 - (intOf va).toNat)
 case atStart => exact ⟨0, 20, rfl, rfl, rfl, Nat.zero_le _, H0⟩
 case round =>
  obtain ⟨a, b, rfl, rfl, hab, haN, HB⟩ := hrel
  have HAB := Lib.hid hab
  by_cases hlt : b ≤ N
  · have hlt2 : (b : Int) ≤ (N : Int) := by omega
    have HC := Lib.hid (ins_block HA.out cap a b wr hab hlt HB.out)
    have q1 : (b : Int) + 20 ≤ 1048600 := by omega
    clear hab haN
    go_wp2_with (go_at_call 198; (with_reducible refine (HC.out).mono ?_); rintro e w1 ⟨rfl, hT⟩; have HT := Lib.hid hT; clear hT)
    go_roundw
    case rel => exact ⟨b, b + 20, rfl, by first | rfl | (rw [wrap_in _ (by omega)]; rfl), rfl, hlt, HT⟩
    case measure => have := HAB.out; show N + 1 - b < N + 1 - a; omega
  · have hlt2 : ¬ (b : Int) ≤ (N : Int) := by omega
    have HC := Lib.hid (ins_last HA.out cap a wr haN (by omega) HB.out)
    clear hab haN hlt
    go_wp2_with (go_at_call 198; (with_reducible refine (HC.out).mono ?_); rintro e w1 ⟨rfl, hT⟩; have HT := Lib.hid hT; clear hT)
    clear hlt2 HC HB HAB H0
    go_loopw [6] (fun vz wr => ∃ z : Nat, vz = .int .i64 z ∧ 20 ≤ z ∧ z ≤ 2097152 ∧ Hid (InZ w0 g O z wr)) (fun vz _ => N - (intOf vz).toNat)
    case atStart => exact ⟨20, rfl, Nat.le_refl _, by omega, HT⟩
    case round =>
     obtain ⟨z, rfl, hz1, hz2, HZ⟩ := hrel
     by_cases hzN : z < N
     · have hzN2 : (z : Int) < (N : Int) := by omega
       have c1 : 2 * (z : Int) = ((2 * z : Nat) : Int) := by omega
       have c2 : (z : Int) * 2 = ((2 * z : Nat) : Int) := by omega
       have q1 : ((2 * z : Nat) : Int) ≤ 2097152 := by omega
       obtain ⟨z2, hzz⟩ : ∃ z2, z2 = 2 * z := ⟨_, rfl⟩
       rw [← hzz] at c1 c2 q1
       have HZZ := Lib.hid hzz
       have HM0 := Lib.hid (inM_start HZ.out)
       clear hzz
       go_wp2
       go_loopw [7, 8] (fun va vb wq => ∃ a b : Nat, va = .int .i64 a ∧ vb = .int .i64 b ∧ b = a + z2 ∧ a ≤ N ∧ Hid (InM w0 g O z a wq)) (fun va vb _ => N + 1 - (intOf va).toNat)
       case atStart => exact ⟨0, z2, rfl, by first | rfl | (rw [c1, wrap_in _ (by omega)]) | (rw [c1]), by omega, Nat.zero_le _, by first | exact HM0 | exact Lib.hid (HM0.out.drew)⟩
       case round =>
        obtain ⟨a, b, rfl, rfl, hab, haN, HB⟩ := hrel
        have HAB := Lib.hid hab
        obtain ⟨m, hm⟩ : ∃ m, m = a + z := ⟨_, rfl⟩
        have c3 : (a : Int) + (z : Int) = (m : Int) := by omega
        have q2 : (m : Int) ≤ 2097152 := by omega
        have q3 : (b : Int) + (z2 : Int) ≤ 8388608 := by omega
        have HMM := Lib.hid hm
        by_cases hlt : b ≤ N
        · have hlt2 : (b : Int) ≤ (N : Int) := by omega
          have HC := Lib.hid (merge_block HA.out cap z a m b wr (by omega) hm (by rw [hab, HZZ.out]) hlt HB.out)
          clear hab haN hm
          go_wp2_with (go_at_call 199; (with_reducible refine (HC.out).mono ?_); rintro e w1 ⟨rfl, hT⟩; have HT2 := Lib.hid hT; clear hT)
          go_roundw
          case rel => exact ⟨b, b + z2, rfl, by first | rfl | (rw [c1, wrap_in _ (by omega)]; rfl) | (rw [c1]; rfl), rfl, hlt, HT2⟩
          case measure => have := HAB.out; have := HZZ.out; show N + 1 - b < N + 1 - a; omega
        · have hlt2 : ¬ (b : Int) ≤ (N : Int) := by omega
          have HH : Hid (20 ≤ z2 ∧ z2 ≤ 2097152 ∧ z < z2) := Lib.hid (by have := HZZ.out; omega)
          by_cases hmN : m < N
          · have hmN2 : (m : Int) < (N : Int) := by omega
            have HC := Lib.hid (merge_tail HA.out cap z a m wr (by omega) hm hmN (by have := HZZ.out; omega) HB.out)
            clear hab haN hlt hm
            go_wp2_with (go_at_call 199; (with_reducible refine (HC.out).mono ?_); rintro e w1 ⟨rfl, hT⟩; have HT2 := Lib.hid hT; clear hT)
            rw [← HZZ.out] at HT2
            go_roundw
            case rel => exact ⟨z2, by first | rfl | (rw [c2, wrap_in _ (by omega)]) | (rw [c2]), HH.out.1, HH.out.2.1, HT2⟩
            case measure => have := HH.out; first | (show N - z2 < N - z; omega) | (rw [c2]; show N - z2 < N - z; omega) | (rw [c2, wrap_in _ (by omega)]; show N - z2 < N - z; omega)
          · have hmN2 : ¬ (m : Int) < (N : Int) := by omega
            have HT2 := Lib.hid (merge_none HA.out z a wr (by omega) (by omega) HB.out)
            rw [← HZZ.out] at HT2
            clear hab haN hlt hm
            go_wp2
            go_roundw
            case rel => exact ⟨z2, by first | rfl | (rw [c2, wrap_in _ (by omega)]) | (rw [c2]), HH.out.1, HH.out.2.1, by first | exact HT2 | exact Lib.hid HT2.out.drew⟩
            case measure => have := HH.out; first | (show N - z2 < N - z; omega) | (rw [c2]; show N - z2 < N - z; omega) | (rw [c2, wrap_in _ (by omega)]; show N - z2 < N - z; omega)
     · have hzN2 : ¬ (z : Int) < (N : Int) := by omega
       have HE : Hid (∃ S', S'.Perm O ∧ S'.Pairwise elt ∧ SW w0 g S' wr) := Lib.hid (by
        obtain ⟨c, k1, k2⟩ := HZ.out
        obtain ⟨k3, k4⟩ := k1.whole (by have := HO.out; omega)
        exact ⟨c, k3, k4, k2⟩)
       go_wp2
       exact bodyPost_end (v := .tuple #[]) (by simp [results, Tryz.f160, go_sem]) rfl ⟨rfl, HE.out⟩
structure KeyEl (w : World) (e : PEl) : Prop where
 ex : ∃ kc vc : List Value, e.row = kc ++ vc ∧ vc.length = 7 ∧ k28.K w e.key kc
 ok : OkV e.key
 num : NumOk e.key
theorem KeyEl.below {w w' : World} {e : PEl} (h : KeyEl w e) (hb : Below w.heap.size w w') : KeyEl w' e := by
 obtain ⟨kc, vc, h1, h2, h3⟩ := h.ex
 exact ⟨⟨kc, vc, h1, h2, k28.K_below hb h3⟩, h.ok, h.num⟩
set_option maxHeartbeats 1000000 in
theorem order_call (x y : PEl) (w : World) (cb : Nat) (hx : KeyEl w x) (hy : KeyEl w y) (hcb : w.heap[cb]? = some (.cells #[.func (.func 63) #[] #[]] 84 (0, 0))) :
 Calls Tryz.prog 120 #[.agg x.row.toArray, .agg y.row.toArray, .pointer (some ⟨cb, 0, none⟩)] w fun e w' => e = .returned (.int .i64 (vord x.key y.key)) ∧ Below w.heap.size w w' := by
 obtain ⟨kc, vc, e1, e2, hk⟩ := hx.ex
 obtain ⟨lc, uc, f1, f2, hl⟩ := hy.ex
 rw [e1, f1]
 have hord : ∀ W, Below w.heap.size w W → Calls Tryz.prog 63 #[.agg kc.toArray, .agg lc.toArray] W fun e w' => e = .returned (.int .i64 (vord x.key y.key)) ∧ Below W.heap.size W w' := fun W hW =>
  Order_any x.key y.key kc lc W (k28.K_below hW hk) (k28.K_below hW hl) hx.ok hy.ok hx.num hy.num
 obtain ⟨A2, c2, A5, c5, A6, c6, rfl, -⟩ := k28_open hk
 obtain ⟨B2, d2, B5, d5, B6, d6, rfl, -⟩ := k28_open hl
 obtain ⟨v0, v1, v2, v3, v4, v5, v6, rfl⟩ := list7 e2
 obtain ⟨u0, u1, u2, u3, u4, u5, u6, rfl⟩ := list7 f2
 generalize vord x.key y.key = r at *
 have HORD := Lib.hid hord
 obtain ⟨W2, hW2⟩ : ∃ W2, W2 = (w.alloc (.cells #[.int .i64 x.key.f0, .bool x.key.f1.f0, .slice A2 x.key.f1.f1.length c2, .int .i64 x.key.f1.f2, .string x.key.f2, .slice A5 x.key.f3.length c5, .slice A6 x.key.f4.length c6, v0, v1, v2, v3, v4, v5, v6] 102)).alloc (.cells #[.int .i64 y.key.f0, .bool y.key.f1.f0, .slice B2 y.key.f1.f1.length d2, .int .i64 y.key.f1.f2, .string y.key.f2, .slice B5 y.key.f3.length d5, .slice B6 y.key.f4.length d6, u0, u1, u2, u3, u4, u5, u6] 102) := ⟨_, rfl⟩
 have hz : W2.heap.size = w.heap.size + 2 := by rw [hW2]; simp
 have hA2 : Below w.heap.size w W2 := by rw [hW2]; exact ((Below.refl _ _).alloc (Nat.le_refl _) _).alloc (by simp) _
 have hbx : W2.heap[w.heap.size]? = some (.cells #[.int .i64 x.key.f0, .bool x.key.f1.f0, .slice A2 x.key.f1.f1.length c2, .int .i64 x.key.f1.f2, .string x.key.f2, .slice A5 x.key.f3.length c5, .slice A6 x.key.f4.length c6, v0, v1, v2, v3, v4, v5, v6] 102 (0, 0)) := by rw [hW2]; exact blk_alloc (blk_new _ _) _
 have hby : W2.heap[w.heap.size + 1]? = some (.cells #[.int .i64 y.key.f0, .bool y.key.f1.f0, .slice B2 y.key.f1.f1.length d2, .int .i64 y.key.f1.f2, .string y.key.f2, .slice B5 y.key.f3.length d5, .slice B6 y.key.f4.length d6, u0, u1, u2, u3, u4, u5, u6] 102 (0, 0)) := by
  rw [hW2]
  have := blk_new (w.alloc (.cells #[.int .i64 x.key.f0, .bool x.key.f1.f0, .slice A2 x.key.f1.f1.length c2, .int .i64 x.key.f1.f2, .string x.key.f2, .slice A5 x.key.f3.length c5, .slice A6 x.key.f4.length c6, v0, v1, v2, v3, v4, v5, v6] 102)) (.cells #[.int .i64 y.key.f0, .bool y.key.f1.f0, .slice B2 y.key.f1.f1.length d2, .int .i64 y.key.f1.f2, .string y.key.f2, .slice B5 y.key.f3.length d5, .slice B6 y.key.f4.length d6, u0, u1, u2, u3, u4, u5, u6] 102)
  rw [World.size_alloc] at this
  exact this
 have hcw : W2.heap[cb]? = some (.cells #[.func (.func 63) #[] #[]] 84 (0, 0)) := (hA2.block cb (blk_lt hcb)).trans hcb
 obtain ⟨hc1, hf1⟩ := bcells hbx (Below.refl _ _)
 obtain ⟨hc2, hf2⟩ := bcells hby (Below.refl _ _)
 obtain ⟨hc3, hf3⟩ := bcells hcw (Below.refl _ _)
 have HA2 := Lib.hid hA2
 have HW2 := Lib.hid hW2
 have HZ := Lib.hid hz
 clear hA2 hz hbx hby hcw hcb hk hl hord hW2 hx hy e1 f1 e2 f2
 go_enter Tryz.func120, Tryz.ntmps120
 go_upto_region 1 with (fail)
 rw [← HW2.out]
 go_wp2_with (first | (go_at_call 63; (with_reducible refine (HORD.out _ HA2.out).mono ?_); rintro e w2 ⟨rfl, hB2⟩; have HB2 := Lib.hid hB2; clear hB2))
 go_ret
 exact ⟨rfl, HA2.out.trans (HB2.out.mono (by have := HZ.out; omega))⟩
theorem cmp_sorted (w00 w0 : World) (g cb : Nat) (h00 : Below w00.heap.size w00 w0) (hg : w00.heap.size ≤ g) (hcg : cb ≠ g) (hcb : w0.heap[cb]? = some (.cells #[.func (.func 63) #[] #[]] 84 (0, 0))) : CmpIn w0 g cb (KeyEl w00) := by
 intro W hW x y hx hy
 have hb : Below w00.heap.size w00 W := hW.below h00 hg h00.size
 exact order_call x y W cb (hx.below hb) (hy.below hb) ((hW.block cb (blk_lt hcb) hcg).trans hcb)
theorem sortStable_in (w0 : World) (g cb : Nat) (U : PEl → Prop) (O : List PEl) (N cap : Nat) (W : World) (hA : SortArgs w0 g cb U O N) (h : SW w0 g O W) :
 Calls Tryz.prog 119 #[.slice (some ⟨g, 0, none⟩) N cap, .func (.func 120) #[] #[.pointer (some ⟨cb, 0, none⟩)]] W fun e w' => e = .returned (.tuple #[]) ∧ ∃ S', S'.Perm O ∧ S'.Pairwise elt ∧ SW w0 g S' w' := by
 have HS := Lib.hid (stable_in w0 g cb U O N cap W hA h)
 clear hA h
 go_enter Tryz.func119, Tryz.ntmps119
 go_wp2_with (go_at_call 160; (with_reducible refine (HS.out).mono ?_); rintro e w1 ⟨rfl, hT⟩; have HT := Lib.hid hT; clear hT)
 exact bodyPost_end (v := .tuple #[]) (by simp [results, Tryz.f119, go_sem]) rfl ⟨rfl, HT.out⟩
theorem SW.base {w0 w1 W : World} {g : Nat} {els : List PEl} (h : SW w1 g els W) (k : KeepG w0 g w1) : SW w0 g els W := ⟨k.trans h.keep, h.at_, h.there, h.ok⟩
theorem sorted_in (w00 w0 : World) (g : Nat) (O : List PEl) (N cap : Nat) (hN : N = O.length) (hcap : N ≤ 1048576) (h00 : Below w00.heap.size w00 w0) (hg0 : w00.heap.size ≤ g) (hg : g < w0.heap.size) (hU : ∀ e ∈ O, KeyEl w00 e) (ht : O.Pairwise (fun x y : PEl => x.tag < y.tag)) (h : SW w0 g O w0) :
 Calls Tryz.prog 76 #[.slice (some ⟨g, 0, none⟩) N cap, .func (.func 63) #[] #[]] w0 fun e w' => e = .returned (.slice (some ⟨g, 0, none⟩) N cap) ∧ ∃ S', S'.Perm O ∧ S'.Pairwise elt ∧ SW w0 g S' w' := by
 obtain ⟨W2, hW2⟩ : ∃ W2, W2 = w0.alloc (.cells #[.func (.func 63) #[] #[]] 84) := ⟨_, rfl⟩
 have hb2 : Below w0.heap.size w0 W2 := by rw [hW2]; exact (Below.refl _ _).alloc (Nat.le_refl _) _
 have hz : W2.heap.size = w0.heap.size + 1 := by rw [hW2]; simp
 have hcb : W2.heap[w0.heap.size]? = some (.cells #[.func (.func 63) #[] #[]] 84 (0, 0)) := by rw [hW2]; exact blk_new _ _
 have hsw : SW W2 g O W2 := ⟨KeepG.refl _ _, (h.grow hg hb2).at_, (h.grow hg hb2).there, h.ok⟩
 have hc : CmpIn W2 g w0.heap.size (KeyEl w00) := cmp_sorted w00 W2 g w0.heap.size (h00.trans (hb2.mono h00.size)) hg0 (by omega) hcb
 have HS := Lib.hid (sortStable_in W2 g w0.heap.size (KeyEl w00) O N cap W2 ⟨by omega, hc, hN, hcap, hU, ht⟩ hsw)
 have HK := Lib.hid ((KeepG.refl w0 g).then hb2 (Nat.le_refl _))
 have HW2 := Lib.hid hW2
 clear hW2 hb2 hz hcb hsw hc hU ht h h00 hN
 go_enter Tryz.func76, Tryz.ntmps76
 go_upto_region 1 with (fail)
 rw [← HW2.out]
 go_wp2_with (go_at_call 119; (with_reducible refine (HS.out).mono ?_); rintro e w1 ⟨rfl, hT⟩; have HT := Lib.hid hT; clear hT)
 go_ret
 obtain ⟨S', k1, k2, k3⟩ := HT.out
 exact ⟨rfl, S', k1, k2, k3.base HK.out⟩
structure PairMid2 (w w2 wr : World) (ks l : List V) (v : Value) (k : Nat) : Prop where
 ex : ∃ rows : List (List Value), rows.length = k ∧ Kd.R (Kd.raw 14) 102 wr w2.heap.size (fun _ => True) v rows ∧ ∀ (j : Nat) (r : List Value), rows[j]? = some r → ∃ kc vc, r = kc ++ vc ∧ k28.K w (rd_T28 ks (j : Int)) kc ∧ k28.K w (rd_T28 l (j : Int)) vc
 below : Below w2.heap.size w2 wr
 nil : k = 0 → v = .slice none 0 0
abbrev PairMid (w wr : World) := PairMid2 w w wr
def PairEl (w : World) (e : PEl) : Prop := ∃ kc vc : List Value, e.row = kc ++ vc ∧ k28.K w e.key kc ∧ k28.K w e.val vc
def pels (rows : List (List Value)) (ks l : List V) (n : Nat) : List PEl := (List.range n).map fun j => ⟨rows.getD j [], rd_T28 ks (j : Int), rd_T28 l (j : Int), j⟩
def Sorted (ks l ys : List V) : Prop := ∃ S : List PEl, S.Perm (pels [] ks l ks.length) ∧ S.Pairwise elt ∧ ys = S.map PEl.val
def lask (l ks : List V) : Int := if orL [vchks l, vchks ks] ≠ 0 then orL [vchks l, vchks ks] else if l.length ≠ ks.length then 3 else 0
theorem orL_none : ∀ {l : List Int}, orL l = 0 → ∀ x ∈ l, x = 0
 | [], _, x, hx => by cases hx
 | y :: l, h, x, hx => by
  rw [orL] at h
  by_cases hy : y = 0
  · rw [if_pos hy] at h
    rcases List.mem_cons.1 hx with rfl | hx
    · exact hy
    · exact orL_none h x hx
  · rw [if_neg hy] at h
    exact absurd h hy
theorem mem_valls : ∀ {l : List V} {x y : V}, x ∈ l → y ∈ vall x → y ∈ valls l
 | z :: l, x, y, h, hy => by
  rw [valls]
  rcases List.mem_cons.1 h with rfl | h
  · exact List.mem_append_left _ hy
  · exact List.mem_append_right _ (mem_valls h hy)
theorem num_of_own {x : V} (h : vown x = 0) (h3 : x.f0 = 3) : decOkB x.f1 = true := by
 unfold vown at h
 split at h
 · omega
 · split at h
   · contradiction
   · split at h
     · omega
     · split at h
       · rename_i hh
         simp only [Bool.and_eq_true] at hh
         have hn := hh.1.1
         unfold vnumbers at hn
         rw [if_pos h3] at hn
         simp only [beq_iff_eq] at hn
         unfold dchk at hn
         by_cases hd : decOkB x.f1 = true
         · exact hd
         · simp [hd] at hn
       · omega
theorem numOk_of_vall : ∀ x : V, (∀ y ∈ vall x, vown y = 0) → NumOk x := V.ind fun x ih h => by
 refine .mk x (fun h3 => num_of_own (h x (by rw [vall_eq]; exact List.mem_cons_self)) h3) fun y hy => ih y hy fun z hz => h z ?_
 rw [vall_eq]
 exact List.mem_cons_of_mem _ (mem_valls hy hz)
theorem numOk_of_vchk {x : V} (h : vchk x = 0) : NumOk x := by
 refine numOk_of_vall x fun y hy => ?_
 unfold vchk at h
 split at h
 · omega
 · split at h
   · omega
   · exact orL_none h _ (List.mem_map.2 ⟨y, hy, rfl⟩)

theorem dval_snoc (o : List Int) (x : Int) : dval (o ++ [x]) = dval o + 10 ^ o.length * x.toNat := by rw [dval_app]; simp [dval]
def TimesTo (T b : Nat) (rest : List Int) (o : List Int) (mo : Nat) : Prop := okD o ∧ dval o + 10 ^ o.length * (mo + b * dval rest) = T
theorem TimesTo.step {T b : Nat} {x : Int} {rest o : List Int} {mo : Nat} (h : TimesTo T b (x :: rest) o mo) (hx : 0 ≤ x) : TimesTo T b rest (o ++ [(((mo + b * x.toNat) % 10 : Nat) : Int)]) ((mo + b * x.toNat) / 10) := by
 obtain ⟨h1, h2⟩ := h
 refine ⟨okD_app.2 ⟨h1, fun y hy => by rw [List.mem_singleton.1 hy]; omega⟩, ?_⟩
 rw [dval_snoc, List.length_append, List.length_singleton, Nat.pow_succ, ← h2, dval, Int.toNat_natCast, Nat.mul_add b, ← Nat.add_assoc, Nat.mul_left_comm b 10]
 generalize mo + b * x.toNat = s
 generalize b * dval rest = q
 have : s + 10 * q = s % 10 + 10 * (s / 10 + q) := by omega
 rw [this, Nat.mul_add (10 ^ o.length), Nat.mul_assoc (10 ^ o.length) 10]
 omega
theorem TimesTo.more {T b : Nat} {o : List Int} {mo : Nat} (h : TimesTo T b [] o mo) : TimesTo T b [] (o ++ [((mo % 10 : Nat) : Int)]) (mo / 10) := by
 obtain ⟨h1, h2⟩ := h
 refine ⟨okD_app.2 ⟨h1, fun y hy => by rw [List.mem_singleton.1 hy]; omega⟩, ?_⟩
 rw [dval_snoc, List.length_append, List.length_singleton, Nat.pow_succ, ← h2, Int.toNat_natCast]
 simp only [dval, Nat.mul_zero, Nat.add_zero]
 have : mo = mo % 10 + 10 * (mo / 10) := by omega
 generalize hq : mo / 10 = q at *
 generalize hr : mo % 10 = r at *
 rw [this, Nat.mul_add (10 ^ o.length), Nat.mul_assoc (10 ^ o.length) 10]
 omega
def LastOk (o : List Int) : Prop := ∀ h : o ≠ [], o.getLast h ≠ 0
theorem TimesTo.done {T b : Nat} {o : List Int} (h : TimesTo T b [] o 0) (hl : LastOk o) : o = decs T := by
 obtain ⟨h1, h2⟩ := h
 simp only [dval, Nat.mul_zero, Nat.add_zero] at h2
 have := dcanon_of_last h1 hl
 rw [← h2]
 exact this.symm
structure LimbAt (k : Nat) (j rest : Nat) (ys : List Int) : Prop where
 len : ys.length = (decs k).length
 le : j ≤ ys.length
 head : ys.take j = (decs k).take j
 ok : okD ys
 rest : rest = dval ((decs k).drop j) % 4294967296
 quo : dval (ys.drop j) = dval ((decs k).drop j) / 4294967296
theorem LimbAt.step {k j rest : Nat} {ys : List Int} (h : LimbAt k (j + 1) rest ys) : 0 ≤ ys.getD j 0 ∧ ys.getD j 0 ≤ 9 ∧ LimbAt k j ((rest * 10 + (ys.getD j 0).toNat) % 4294967296) (ys.set j (((rest * 10 + (ys.getD j 0).toNat) / 4294967296 : Nat) : Int)) := by
 have hj : j < ys.length := h.le
 have hx := okD_getD h.ok j
 have hxe : ys.getD j 0 = (decs k).getD j 0 := by
  have h1 : (ys.take (j + 1))[j]? = ((decs k).take (j + 1))[j]? := by rw [h.head]
  rw [List.getElem?_take_of_lt (by omega), List.getElem?_take_of_lt (by omega)] at h1
  rw [List.getD_eq_getElem?_getD, List.getD_eq_getElem?_getD, h1]
 have hj2 : j < (decs k).length := by rw [← h.len]; exact hj
 have hd : dval ((decs k).drop j) = (ys.getD j 0).toNat + 10 * dval ((decs k).drop (j + 1)) := by
  rw [hxe, List.drop_eq_getElem_cons hj2, dval, List.getD_eq_getElem?_getD, List.getElem?_eq_getElem hj2]
  rfl
 have hr := h.rest
 have hq := h.quo
 have hrl : rest < 4294967296 := by rw [hr]; exact Nat.mod_lt _ (by decide)
 have hx9 : (ys.getD j 0).toNat ≤ 9 := by omega
 have hxx : 0 ≤ ys.getD j 0 ∧ ys.getD j 0 ≤ 9 := by omega
 generalize (ys.getD j 0).toNat = x at *
 generalize dval ((decs k).drop (j + 1)) = t at *
 refine ⟨hxx.1, hxx.2, by simp [h.len], by simp; omega, ?_, ?_, ?_, ?_⟩
 · rw [List.take_set_of_le (Nat.le_refl _)]
   have h1 := congrArg (List.take j) h.head
   rw [List.take_take, List.take_take, Nat.min_eq_left (by omega)] at h1
   exact h1
 · intro y hy
   rcases List.mem_or_eq_of_mem_set hy with hy | rfl
   · exact h.ok y hy
   · have : (rest * 10 + x) / 4294967296 ≤ 9 := by omega
     omega
 · rw [hd, hr]; omega
 · have h1 : (ys.set j (((rest * 10 + x) / 4294967296 : Nat) : Int)).drop j = (((rest * 10 + x) / 4294967296 : Nat) : Int) :: ys.drop (j + 1) := by
    rw [List.drop_eq_getElem_cons (by rw [List.length_set]; exact hj), List.getElem_set_self, List.drop_set_of_lt (by omega)]
   rw [h1, dval, Int.toNat_natCast, hq, hd, hr]
   omega
def strip (m : Nat) : Nat × Nat := if h : m ≠ 0 ∧ m % 10 = 0 then ((strip (m / 10)).1, (strip (m / 10)).2 + 1) else (m, 0)
termination_by m
decreasing_by all_goals omega
theorem strip_ten {m : Nat} (h : m ≠ 0) (h0 : m % 10 = 0) : strip m = ((strip (m / 10)).1, (strip (m / 10)).2 + 1) := by rw [strip, dif_pos ⟨h, h0⟩]
def madeD (neg : Bool) (m : Nat) (e : Int) : D × Int :=
 if m = 0 then (⟨false, [], 0⟩, 0) else if 300 < (decs (strip m).1).length then (⟨false, [], 0⟩, 51) else if e + (strip m).2 < -1000 ∨ 1000 < e + (strip m).2 then (⟨false, [], 0⟩, 52) else (⟨neg, limbs (strip m).1, e + (strip m).2⟩, 0)
structure MadeAt (w W : World) (neg : Bool) (m : Nat) (e : Int) (A : Option Addr) (n c : Nat) (B : Option Addr) (ln d k z : Nat) : Prop where
 nz : k ≠ 0
 le : k ≤ m
 one : (strip m).1 = (strip k).1
 two : (strip m).2 = (strip k).2 + z
 len : ln = (decs k).length
 row : Kd.C (Kd.int .i64) w B (decs k).length (decs k)
 cap : ln ≤ d
 box : W.heap[w.heap.size]? = some (.cells #[.bool neg, .slice A n c, .int .i64 (e + z)] 144 (0, 0))
 res : W.heap[w.heap.size + 1]? = some (.cells #[.bool false, .slice none 0 0, .int .i64 0] 24 (0, 0))
 below : Below w.heap.size w W
theorem decs_drop {k : Nat} (h : k ≠ 0) : (decs k).drop 1 = decs (k / 10) := by rw [decs_pos h]; rfl
theorem MadeAt.step {w W : World} {neg : Bool} {m : Nat} {e : Int} {A : Option Addr} {n c : Nat} {B : Option Addr} {ln d k z : Nat} (h : MadeAt w W neg m e A n c B ln d k z) (h0 : k % 10 = 0) :
 MadeAt w (W.setCell ⟨w.heap.size, 2, none⟩ (.int .i64 (e + (z + 1 : Nat)))) neg m e A n c (if d = 1 then B else B.map (·.add 1)) (ln - 1) (d - 1) (k / 10) (z + 1) := by
 have hk := h.nz
 have hdl : (decs (k / 10)).length + 1 = ln := by rw [h.len, decs_pos hk, List.length_cons]
 refine ⟨by omega, by have := h.le; omega, by rw [h.one, strip_ten hk h0], by rw [h.two, strip_ten hk h0]; show (strip (k / 10)).2 + 1 + z = _; omega, by omega, ?_, by have := h.cap; omega, ?_, ?_, h.below.setCell (p := ⟨w.heap.size, 2, none⟩) (Nat.le_refl _) _⟩
 · have := Kd.C_drop h.row (m := 1) (by rw [← h.len]; omega) (c := d) (by rw [← h.len]; exact h.cap)
   rw [decs_drop hk] at this
   exact this
 · have := blk_set h.box 2 (.int .i64 (e + (z + 1 : Nat)))
   rw [this]
   rfl
 · exact blk_far h.res (by simp) _
def intD (n : Nat) : D := (madeD false n 0).1
def numI (n : Nat) : V := ⟨3, intD n, ⟨#[]⟩, [], []⟩
def vask2 (a b : V) : Int := orL [vchk a, vchk b]
def vcmp (a b : V) : Int := if vask2 a b = 0 then vord a b else 0
theorem vask2_zero {a b : V} (h : vask2 a b = 0) : vchk a = 0 ∧ vchk b = 0 := by
 have := orL_none h
 exact ⟨this _ List.mem_cons_self, this _ (List.mem_cons_of_mem _ List.mem_cons_self)⟩
theorem vcmp_bad {a b : V} (h : vask2 a b ≠ 0) : vcmp a b = 0 := if_neg h
def One (x : Int) : Prop := x = -1 ∨ x = 0 ∨ x = 1
def intZ (n : Int) : D := (madeD (decide (n < 0)) n.natAbs 0).1
def numZ (n : Int) : V := ⟨3, intZ n, ⟨#[]⟩, [], []⟩
def dTh : Nat := 1000
def txtV (s : ByteArray) : V := ⟨4, ⟨false, [], 0⟩, s, [], []⟩
theorem Text_any (s : ByteArray) (w : World) :
 Calls Tryz.prog 27 #[.string s] w fun e w' => ∃ cs : List Value, e = .returned (.agg cs.toArray) ∧ k28.M w' w.heap.size (fun _ => True) (txtV s) cs ∧ Below w.heap.size w w' := by
 have hm : ∀ W, k28.M W w.heap.size (fun _ => True) (txtV s) [.int .i64 4, .bool false, .slice none 0 0, .int .i64 0, .string s, .slice none 0 0, .slice none 0 0] := fun W => k28_mkM W w.heap.size (fun _ => True) (txtV s) (Kd.R_nil _ _ _ _ _) (Kd.R_nil _ _ _ _ _) (Kd.R_nil _ _ _ _ _)
 have HM := Lib.hid hm
 clear hm
 obtain ⟨hc0, hf0⟩ := bcells (blk_new w (.cells #[.int .i64 0, .bool false, .slice none 0 0, .int .i64 0, .string ⟨#[]⟩, .slice none 0 0, .slice none 0 0] 28)) (Below.refl _ _)
 go_enter Tryz.func27, Tryz.ntmps27
 go_wp2
 have hrc := blk_cell (blk_new w (.cells #[.int .i64 4, .bool false, .slice none 0 0, .int .i64 0, .string s, .slice none 0 0, .slice none 0 0] 28))
 refine bodyPost_ret (v := .agg #[.int .i64 4, .bool false, .slice none 0 0, .int .i64 0, .string s, .slice none 0 0, .slice none 0 0]) ?_ rfl ⟨_, rfl, HM.out _, (Below.refl _ _).alloc (Nat.le_refl _) _⟩
 simp [results, Tryz.f27, go_sem, hrc]
set_option maxHeartbeats 4000000 in
theorem VCompare_any (x y : V) (cs ds : List Value) (w : World) (hLD : LaidW w) (hK : k28.K w x cs) (hL : k28.K w y ds) (hOx : OkV x) (hOy : OkV y) :
 Calls Tryz.prog 16 #[.agg cs.toArray, .agg ds.toArray] w fun e w' => e = .returned (.tuple #[.int .i64 (vcmp x y), .int .i64 (vask2 x y)]) ∧ Below w.heap.size w w' := by
 have HKX := Lib.hid hK
 have HKY := Lib.hid hL
 obtain ⟨A2, c2, A5, c5, A6, c6, rfl, l2, g2, l5, g5, l6, g6⟩ := k28_open hK
 obtain ⟨B2, d2, B5, d5, B6, d6, rfl, m2, h2, m5, h5, m6, h6⟩ := k28_open hL
 clear l2 g2 l5 g5 l6 g6 hK m2 h2 m5 h5 m6 h6 hL
 have HCX := Lib.hid (fun W (hW : Below w.heap.size w W) => Check_any x _ W (hLD.below hW) (k28.K_below hW HKX.out) hOx)
 have HCY := Lib.hid (fun W (hW : Below w.heap.size w W) => Check_any y _ W (hLD.below hW) (k28.K_below hW HKY.out) hOy)
 have HOR : Hid (vask2 x y = orL [vchk x, vchk y]) := Lib.hid rfl
 have HVC : Hid (vask2 x y ≠ 0 → vcmp x y = 0) := Lib.hid vcmp_bad
 have HVD : Hid (vask2 x y = 0 → vcmp x y = vord x y) := Lib.hid (fun h => if_pos h)
 have HNO : Hid (vask2 x y = 0 → NumOk x ∧ NumOk y) := Lib.hid (fun h => ⟨numOk_of_vchk (vask2_zero h).1, numOk_of_vchk (vask2_zero h).2⟩)
 obtain ⟨W1, hW1⟩ : ∃ W1, W1 = (w.alloc (.cells #[.int .i64 x.f0, .bool x.f1.f0, .slice A2 x.f1.f1.length c2, .int .i64 x.f1.f2, .string x.f2, .slice A5 x.f3.length c5, .slice A6 x.f4.length c6] 28)).alloc (.cells #[.int .i64 y.f0, .bool y.f1.f0, .slice B2 y.f1.f1.length d2, .int .i64 y.f1.f2, .string y.f2, .slice B5 y.f3.length d5, .slice B6 y.f4.length d6] 28) := ⟨_, rfl⟩
 have hb1 : Below w.heap.size w W1 := by rw [hW1]; exact ((Below.refl _ _).alloc (Nat.le_refl _) _).alloc (by simp) _
 have hx1 : W1.heap[w.heap.size]? = some (.cells #[.int .i64 x.f0, .bool x.f1.f0, .slice A2 x.f1.f1.length c2, .int .i64 x.f1.f2, .string x.f2, .slice A5 x.f3.length c5, .slice A6 x.f4.length c6] 28 (0, 0)) := by rw [hW1]; exact blk_alloc (blk_new _ _) _
 have hy1 : W1.heap[w.heap.size + 1]? = some (.cells #[.int .i64 y.f0, .bool y.f1.f0, .slice B2 y.f1.f1.length d2, .int .i64 y.f1.f2, .string y.f2, .slice B5 y.f3.length d5, .slice B6 y.f4.length d6] 28 (0, 0)) := by
  rw [hW1]
  have := blk_new (w.alloc (.cells #[.int .i64 x.f0, .bool x.f1.f0, .slice A2 x.f1.f1.length c2, .int .i64 x.f1.f2, .string x.f2, .slice A5 x.f3.length c5, .slice A6 x.f4.length c6] 28)) (.cells #[.int .i64 y.f0, .bool y.f1.f0, .slice B2 y.f1.f1.length d2, .int .i64 y.f1.f2, .string y.f2, .slice B5 y.f3.length d5, .slice B6 y.f4.length d6] 28)
  rw [World.size_alloc] at this
  exact this
 have HW1 := Lib.hid hW1
 have HB1 := Lib.hid (below_drew hb1)
 have HX1 := Lib.hid (blk_drew hx1)
 have HY1 := Lib.hid (blk_drew hy1)
 have HOO : Hid (vask2 x y = 0 → ∀ W, Below w.heap.size w W → Calls Tryz.prog 63 #[.agg #[.int .i64 x.f0, .bool x.f1.f0, .slice A2 x.f1.f1.length c2, .int .i64 x.f1.f2, .string x.f2, .slice A5 x.f3.length c5, .slice A6 x.f4.length c6], .agg #[.int .i64 y.f0, .bool y.f1.f0, .slice B2 y.f1.f1.length d2, .int .i64 y.f1.f2, .string y.f2, .slice B5 y.f3.length d5, .slice B6 y.f4.length d6]] W fun e w' => e = .returned (.int .i64 (vord x y)) ∧ Below W.heap.size W w') := Lib.hid (fun h W hW => Order_any x y _ _ W (k28.K_below hW HKX.out) (k28.K_below hW HKY.out) hOx hOy (HNO.out h).1 (HNO.out h).2)
 generalize vask2 x y = r at *
 generalize vcmp x y = vc at *
 generalize vord x y = vo at *
 generalize vchk x = x1 at *
 generalize vchk y = x2 at *
 clear hW1 hb1 hx1 hy1 hLD hOx hOy HNO HKX HKY
 go_enter Tryz.func16, Tryz.ntmps16
 go_upto_region 1 with (fail)
 rw [← HW1.out]
 clear HW1
 obtain ⟨hcx, hfx⟩ := bcells HX1.out (Below.refl _ _)
 obtain ⟨hcy, hfy⟩ := bcells HY1.out (Below.refl _ _)
 go_region_law (first
  | (go_simp; go_at_call 62; (with_reducible refine (HCX.out _ HB1.out).mono ?_); rintro e_ w5 ⟨rfl, hB5⟩; obtain ⟨hx5, hxf5⟩ := bcells HX1.out hB5; obtain ⟨hy5, hyf5⟩ := bcells HY1.out hB5; have HX5 := Lib.hid (blk_below2 HX1.out hB5); have HY5 := Lib.hid (blk_below2 HY1.out hB5); have HB5 := Lib.hid (HB1.out.trans (hB5.mono HB1.out.size)); clear hB5)
  | (go_simp; go_at_call 62; (with_reducible refine (HCY.out _ HB5.out).mono ?_); rintro e_ w6 ⟨rfl, hB6⟩; have HX6 := Lib.hid (blk_below2 HX5.out hB6); have HY6 := Lib.hid (blk_below2 HY5.out hB6); have HB6 := Lib.hid (HB5.out.trans (hB6.mono HB5.out.size)); clear hB6)
  | (go_simp; go_at_call 61; (with_reducible refine (or_err2 _ _ _ _).mono ?_); rintro e_ w7 ⟨rfl, rfl⟩; rw [← HOR.out]))
 all_goals
  rename_i q_ k_ a_
  refine a_ _ _ ?_
  clear a_ hcx hfx hcy hfy hx5 hxf5 hy5 hyf5
  obtain ⟨W8, hW8⟩ : ∃ W8, W8 = w6.alloc (.cells #[.int .i64 x1, .int .i64 x2] 30) := ⟨_, rfl⟩
  have hx8 := blk_alloc HX6.out (.cells #[.int .i64 x1, .int .i64 x2] 30)
  have hy8 := blk_alloc HY6.out (.cells #[.int .i64 x1, .int .i64 x2] 30)
  rw [← hW8] at hx8 hy8 ⊢
  have HX8 := Lib.hid hx8
  have HY8 := Lib.hid hy8
  have HB8 : Hid (Below w.heap.size w W8) := Lib.hid (by rw [hW8]; exact HB6.out.alloc HB6.out.size _)
  clear hx8 hy8 hW8 HX6 HY6 HB6 HX5 HY5 HB5
  by_cases h0 : r = 0
  · have hr : (r != 0) = false := by simp [h0]
    have HO2 := Lib.hid (HOO.out h0 W8 HB8.out)
    have HV := Lib.hid (HVD.out h0)
    have H0 := Lib.hid h0
    clear h0 HOO
    obtain ⟨hcx, hfx⟩ := bcells HX8.out (Below.refl _ _)
    obtain ⟨hcy, hfy⟩ := bcells HY8.out (Below.refl _ _)
    go_wp2_with (go_at_call 63; (with_reducible refine (HO2.out).mono ?_); rintro e_ w9 ⟨rfl, hB9⟩; have HB9 := Lib.hid (HB8.out.trans (hB9.mono HB8.out.size)); clear hB9)
    go_ret2
    exact ⟨by rw [HV.out, H0.out]; rfl, HB9.out⟩
  · have hr : (r != 0) = true := by simp [h0]
    have HV := Lib.hid (HVC.out h0)
    clear h0 HOO
    go_wp2_with fail
    go_ret2
    exact ⟨by rw [HV.out]; rfl, HB8.out⟩
theorem into_box {W : World} {g base : Nat} {x : V} {c0 : Array Value} {a0 a1 a2 a3 a4 a5 a6 : Value} (hM : k28.M W base (fun _ => True) x [a0, a1, a2, a3, a4, a5, a6]) (hg : g < base) (hx : W.heap[g]? = some (.cells c0 28 (0, 0))) (hc : c0.size = 7) {X : World}
 (hX : X = ((((((W.setCell ⟨g, 0, none⟩ a0).setCell ⟨g, 1, none⟩ a1).setCell ⟨g, 2, none⟩ a2).setCell ⟨g, 3, none⟩ a3).setCell ⟨g, 4, none⟩ a4).setCell ⟨g, 5, none⟩ a5).setCell ⟨g, 6, none⟩ a6) :
 X.heap[g]? = some (.cells #[a0, a1, a2, a3, a4, a5, a6] 28 (0, 0)) ∧ k28.M X base (fun _ => True) x [a0, a1, a2, a3, a4, a5, a6] ∧ ∀ B, B ≤ g → Below B W X := by
 obtain ⟨z0, z1, z2, z3, z4, z5, z6, hz⟩ := list7 (l := c0.toList) (by rw [Array.length_toList]; exact hc)
 obtain rfl : c0 = #[z0, z1, z2, z3, z4, z5, z6] := Array.toList_inj.1 hz
 have h7 := blk_set (blk_set (blk_set (blk_set (blk_set (blk_set (blk_set hx 0 a0) 1 a1) 2 a2) 3 a3) 4 a4) 5 a5) 6 a6
 refine ⟨by rw [hX, h7]; rfl, ?_, fun B hB => ?_⟩
 · have hb := k28.M_bound hM
   refine k28.M_mono (fun _ _ => trivial) (k28.M_move (fun k hk => ?_) hb)
   have hne : k ≠ g := by have := hk.2.1; omega
   rw [hX]
   iterate 7 rw [Below.heap_setCell _ _ _ _ (by simpa using hne)]
 · rw [hX]
   iterate 7 refine Below.setCell ?_ (by simpa using hB) _
   exact Below.refl _ _
def zeroV : V := ⟨0, ⟨false, [], 0⟩, ⟨#[]⟩, [], []⟩
theorem zero_M (W : World) (base : Nat) : k28.M W base (fun _ => True) zeroV [.int .i64 0, .bool false, .slice none 0 0, .int .i64 0, .string ⟨#[]⟩, .slice none 0 0, .slice none 0 0] :=
 k28_mkM W base (fun _ => True) zeroV (Kd.R_nil _ _ _ _ _) (Kd.R_nil _ _ _ _ _) (Kd.R_nil _ _ _ _ _)
theorem natFrom_any (n : Nat) (w : World) (h : n < 18446744073709551616) : Calls Tryz.prog 105 #[.int .u64 n] w fun e w' => ∃ v : Value, e = .returned v ∧ Kd.R (Kd.int .u32) 131 w' w.heap.size (fun _ => True) v (limbs n) ∧ Below w.heap.size w w' := by
 obtain ⟨a, ha⟩ : ∃ a : Int, a = ((n % 4294967296 : Nat) : Int) := ⟨_, rfl⟩
 obtain ⟨b, hb⟩ : ∃ b : Int, b = ((n / 4294967296 : Nat) : Int) := ⟨_, rfl⟩
 have ho : (w.alloc (.cells #[.int .u32 a, .int .u32 b] 131)).ownsRow w.heap.size 131 1 (.slice (some ⟨w.heap.size, 0, none⟩) 2 2) 2 (nums .u32 [a, b]) := own_lit w w.heap.size 131 .u32 [a, b] (Nat.le_refl _) (by simp)
 have hR : Kd.R (Kd.int .u32) 131 (w.alloc (.cells #[.int .u32 a, .int .u32 b] 131)) w.heap.size (fun _ => True) (.slice (some ⟨w.heap.size, 0, none⟩) ([a, b] : List Int).length 2) [a, b] := Kd.R_of_own (enc := Value.int .u32) ho (fun _ _ => trivial)
 have HOK : okL [a, b] := fun x hx => by
  simp only [List.mem_cons, List.mem_nil_iff, or_false] at hx
  rcases hx with rfl | rfl <;> omega
 have hv : val [a, b] = n := by
  simp only [val]
  omega
 obtain ⟨t1, t2⟩ := limbs_take HOK
 have h2 := trimV_R hR HOK t1 t2
 rw [hv] at h2
 have HR := Lib.hid h2
 have HT := Lib.hid (trim_det (some ⟨w.heap.size, 0, none⟩) 2 [a, b] _ (Kd.R_reads' hR).2.2 (Nat.le_refl _) HOK (by simp))
 have e1 : (n : Int) % 4294967296 = a := by omega
 have e2 : (n : Int) / 4294967296 = b := by omega
 have e3 : b % 4294967296 = b := by omega
 have e4 : (n : Int) < 18446744073709551616 := by omega
 clear ho hR HOK hv t1 t2 h2 ha hb h
 go_enter Tryz.func105, Tryz.ntmps105
 go_wp2_with fail
 refine HT.out.mono ?_
 rintro e w1 ⟨rfl, rfl⟩
 go_wp2
 go_ret
 exact ⟨_, rfl, HR.out, (Below.refl _ _).alloc (Nat.le_refl _) _⟩
theorem nzero_any (b : Bool) (A : Option Addr) (n c : Nat) (x : Int) (w : World) : Calls Tryz.prog 146 #[.agg #[.bool b, .slice A n c, .int .i64 x]] w fun e w' => e = .returned (.bool ((n : Int) == 0)) ∧ Below w.heap.size w w' := by
 go_enter Tryz.func146, Tryz.ntmps146
 go_wp2
 go_ret
 exact ⟨rfl, (Below.refl _ _).alloc (Nat.le_refl _) _⟩
theorem settle_zero (b : Bool) (A : Option Addr) (c : Nat) (x : Int) (w : World) : Calls Tryz.prog 104 #[.agg #[.bool b, .slice A 0 c, .int .i64 x]] w fun e w' => e = .returned (.tuple #[.agg #[.bool false, .slice none 0 0, .int .i64 0], .int .i64 0]) ∧ Below w.heap.size w w' := by
 have HZ := Lib.hid (nzero_any b A 0 c x)
 obtain ⟨W1, hW1⟩ : ∃ W1, W1 = (w.alloc (.cells #[.bool b, .slice A 0 c, .int .i64 x] 137)).alloc (.cells #[.bool false, .slice none 0 0, .int .i64 0] 24) := ⟨_, rfl⟩
 have hb1 : Below w.heap.size w W1 := by rw [hW1]; exact ((Below.refl _ _).alloc (Nat.le_refl _) _).alloc (by simp) _
 have hx1 : W1.heap[w.heap.size]? = some (.cells #[.bool b, .slice A 0 c, .int .i64 x] 137 (0, 0)) := by rw [hW1]; exact blk_alloc (blk_new _ _) _
 have hy1 : W1.heap[w.heap.size + 1]? = some (.cells #[.bool false, .slice none 0 0, .int .i64 0] 24 (0, 0)) := by
  rw [hW1]
  have := blk_new (w.alloc (.cells #[.bool b, .slice A 0 c, .int .i64 x] 137)) (.cells #[.bool false, .slice none 0 0, .int .i64 0] 24)
  rw [World.size_alloc] at this
  exact this
 have HW1 := Lib.hid hW1
 have HB1 := Lib.hid hb1
 have HX1 := Lib.hid hx1
 have HY1 := Lib.hid hy1
 clear hW1 hb1 hx1 hy1
 go_enter Tryz.func104, Tryz.ntmps104
 go_upto_region 1 with (fail)
 rw [← HW1.out]
 obtain ⟨hcx, hfx⟩ := bcells HX1.out (Below.refl _ _)
 go_wp2_with (go_at_call 146; (with_reducible refine (HZ.out _).mono ?_); rintro e w2 ⟨rfl, hB2⟩; have HB2 := Lib.hid (HB1.out.trans (hB2.mono HB1.out.size)); obtain ⟨hcy, hfy⟩ := bcells HY1.out hB2; have HY2 := Lib.hid (blk_below2 HY1.out hB2); clear hB2)
 obtain ⟨X, hX⟩ : ∃ X, X = ((w2.setCell ⟨w.heap.size + 1, 0, none⟩ (.bool false)).setCell ⟨w.heap.size + 1, 1, none⟩ (.slice none 0 0)).setCell ⟨w.heap.size + 1, 2, none⟩ (.int .i64 0) := ⟨_, rfl⟩
 obtain ⟨y0, y1, y2⟩ := cells3 (by rw [hX]; exact box3_out HY2.out (.bool false) (.slice none 0 0) (.int .i64 0) : X.heap[w.heap.size + 1]? = some (.cells #[.bool false, .slice none 0 0, .int .i64 0] 24 (0, 0)))
 have HXB : Hid (Below w.heap.size w X) := Lib.hid (by rw [hX]; exact ((HB2.out.setCell (p := ⟨w.heap.size + 1, 0, none⟩) (by simp) _).setCell (p := ⟨w.heap.size + 1, 1, none⟩) (by simp) _).setCell (p := ⟨w.heap.size + 1, 2, none⟩) (by simp) _)
 rw [← hX]
 clear hX hcy hfy hcx hfx
 exact bodyPost_ret (v := .tuple #[.agg #[.bool false, .slice none 0 0, .int .i64 0], .int .i64 0]) (by simp [results, Tryz.f104, go_sem, y0, y1, y2]) rfl ⟨rfl, HXB.out⟩
set_option maxHeartbeats 1000000 in
theorem Int_zero (w : World) : Calls Tryz.prog 65 #[.int .i64 0] w fun e w' => e = .returned (.agg #[.bool false, .slice none 0 0, .int .i64 0]) ∧ Below w.heap.size w w' := by
 obtain ⟨W1, hW1⟩ : ∃ W1, W1 = w.alloc (.cells #[.bool false, .slice none 0 0, .int .i64 0] 24) := ⟨_, rfl⟩
 have hb1 : Below w.heap.size w W1 := by rw [hW1]; exact (Below.refl _ _).alloc (Nat.le_refl _) _
 have hx1 : W1.heap[w.heap.size]? = some (.cells #[.bool false, .slice none 0 0, .int .i64 0] 24 (0, 0)) := by rw [hW1]; exact blk_new _ _
 have HF : Hid (Calls Tryz.prog 105 #[.int .u64 0] W1 fun e w' => ∃ v : Value, e = .returned v ∧ Kd.R (Kd.int .u32) 131 w' W1.heap.size (fun _ => True) v [] ∧ Below W1.heap.size W1 w') := Lib.hid (by have := natFrom_any 0 W1 (by decide); rw [limbs_zero] at this; exact this)
 have HW1 := Lib.hid hW1
 have HB1 := Lib.hid hb1
 have HX1 := Lib.hid hx1
 clear hW1 hb1 hx1
 go_enter Tryz.func65, Tryz.ntmps65
 go_upto_region 1 with (fail)
 rw [← HW1.out]
 go_wp2_with (first
  | (go_at_call 105; (with_reducible refine (HF.out).mono ?_); rintro e w2 ⟨v2, rfl, hR2, hB2⟩; obtain ⟨G2, c2, rfl⟩ := Kd.R_slice hR2; have HB2 := Lib.hid hB2; clear hR2 hB2)
  | (go_at_call 104; (with_reducible refine (settle_zero _ G2 c2 _ _).mono ?_); rintro e w5 ⟨rfl, hB5⟩; have HX5 := Lib.hid (blk_below2 (blk_below2 HX1.out HB2.out) hB5); have HB5 := Lib.hid ((HB1.out.trans (HB2.out.mono HB1.out.size)).trans (hB5.mono (Nat.le_trans HB1.out.size HB2.out.size))); clear hB5; obtain ⟨hcz, hfz⟩ := bcells (blk_new w5 (.cells #[.bool false, .slice none 0 0, .int .i64 0] 24)) (Below.refl _ _); have hoa1 := fun (o : Obj) => (bcells (blk_alloc HX5.out o) (Below.refl _ _)).1; have hoa2 := fun (o : Obj) => (bcells (blk_alloc HX5.out o) (Below.refl _ _)).2))
 obtain ⟨W6, hW6⟩ : ∃ W6, W6 = w5.alloc (.cells #[.bool false, .slice none 0 0, .int .i64 0] 24) := ⟨_, rfl⟩
 have hx6 : W6.heap[w.heap.size]? = some (.cells #[.bool false, .slice none 0 0, .int .i64 0] 24 (0, 0)) := by rw [hW6]; exact blk_alloc HX5.out _
 have hb6 : Below w.heap.size w W6 := by rw [hW6]; exact HB5.out.alloc HB5.out.size _
 obtain ⟨X, hX⟩ : ∃ X, X = ((W6.setCell ⟨w.heap.size, 0, none⟩ (.bool false)).setCell ⟨w.heap.size, 1, none⟩ (.slice none 0 0)).setCell ⟨w.heap.size, 2, none⟩ (.int .i64 0) := ⟨_, rfl⟩
 obtain ⟨y0, y1, y2⟩ := cells3 (by rw [hX]; exact box3_out hx6 (.bool false) (.slice none 0 0) (.int .i64 0) : X.heap[w.heap.size]? = some (.cells #[.bool false, .slice none 0 0, .int .i64 0] 24 (0, 0)))
 have HXB : Hid (Below w.heap.size w X) := Lib.hid (by rw [hX]; exact ((hb6.setCell (p := ⟨w.heap.size, 0, none⟩) (by simp) _).setCell (p := ⟨w.heap.size, 1, none⟩) (by simp) _).setCell (p := ⟨w.heap.size, 2, none⟩) (by simp) _)
 rw [hW6] at hX
 rw [← hX]
 clear hX hcz hfz hoa1 hoa2 hW6 hx6 hb6
 exact bodyPost_ret (v := .agg #[.bool false, .slice none 0 0, .int .i64 0]) (by simp [results, Tryz.f65, go_sem, y0, y1, y2]) rfl ⟨rfl, HXB.out⟩
def num0 : V := ⟨3, ⟨false, [], 0⟩, ⟨#[]⟩, [], []⟩
theorem NumberP_zero (w : World) : Calls Tryz.prog 19 #[.int .i64 0] w fun e w' => ∃ cs : List Value, e = .returned (.agg cs.toArray) ∧ k28.M w' w.heap.size (fun _ => True) num0 cs ∧ Below w.heap.size w w' := by
 obtain ⟨W1, hW1⟩ : ∃ W1, W1 = w.alloc (.cells #[.int .i64 0, .bool false, .slice none 0 0, .int .i64 0, .string ⟨#[]⟩, .slice none 0 0, .slice none 0 0] 28) := ⟨_, rfl⟩
 have hb1 : Below w.heap.size w W1 := by rw [hW1]; exact (Below.refl _ _).alloc (Nat.le_refl _) _
 have hx1 : W1.heap[w.heap.size]? = some (.cells #[.int .i64 0, .bool false, .slice none 0 0, .int .i64 0, .string ⟨#[]⟩, .slice none 0 0, .slice none 0 0] 28 (0, 0)) := by rw [hW1]; exact blk_new _ _
 have HF := Lib.hid (Int_zero W1)
 have HW1 := Lib.hid hW1
 have HB1 := Lib.hid hb1
 have HX1 := Lib.hid hx1
 clear hW1 hb1 hx1
 go_enter Tryz.func19, Tryz.ntmps19
 go_upto_region 1 with (fail)
 rw [← HW1.out]
 go_wp2_with (go_at_call 65; (with_reducible refine (HF.out).mono ?_); rintro e w2 ⟨rfl, hB2⟩; have HB2 := Lib.hid (HB1.out.trans (hB2.mono HB1.out.size)); have HX2 := Lib.hid (blk_below2 HX1.out hB2); obtain ⟨hcz, hfz⟩ := bcells HX1.out hB2; clear hB2)
 obtain ⟨X, hX⟩ : ∃ X, X = ((((((w2.setCell ⟨w.heap.size, 0, none⟩ (.int .i64 3)).setCell ⟨w.heap.size, 1, none⟩ (.bool false)).setCell ⟨w.heap.size, 2, none⟩ (.slice none 0 0)).setCell ⟨w.heap.size, 3, none⟩ (.int .i64 0)).setCell ⟨w.heap.size, 4, none⟩ (.string ⟨#[]⟩)).setCell ⟨w.heap.size, 5, none⟩ (.slice none 0 0)).setCell ⟨w.heap.size, 6, none⟩ (.slice none 0 0) := ⟨_, rfl⟩
 obtain ⟨hfx, hm, hbw⟩ := into_box (base := w.heap.size + 1) (x := num0) (k28_mkM w2 (w.heap.size + 1) (fun _ => True) num0 (Kd.R_nil _ _ _ _ _) (Kd.R_nil _ _ _ _ _) (Kd.R_nil _ _ _ _ _)) (Nat.lt_succ_self _) HX2.out rfl hX
 rw [← hX]
 have HBW := Lib.hid (HB2.out.trans (hbw _ (Nat.le_refl _)))
 have HM := Lib.hid (k28.M_lower (Nat.le_succ _) hm)
 clear hX hcz hfz hm hbw
 have hrc := blk_cell hfx
 refine bodyPost_ret (v := .agg #[.int .i64 3, .bool false, .slice none 0 0, .int .i64 0, .string ⟨#[]⟩, .slice none 0 0, .slice none 0 0]) ?_ rfl ⟨_, rfl, HM.out, HBW.out⟩
 simp [results, Tryz.f19, go_sem, hrc, num0]
def wholeE (x : V) (e : Int) : Int := orL [e, vchk x]
def wholeV (x : V) (e : Int) : V := if wholeE x e = 0 then x else zeroV
def WholePost (x : V) (e : Int) (w : World) (r : Ending) (w' : World) : Prop := ∃ cs : List Value, r = .returned (.tuple #[.agg cs.toArray, .int .i64 (wholeE x e)]) ∧ k28.M w' w.heap.size (fun _ => True) (wholeV x e) cs ∧ Below w.heap.size w w'
set_option maxHeartbeats 4000000 in
theorem Whole_any (x : V) (cs : List Value) (e : Int) (w : World) (hLD : LaidW w) (hK : k28.K w x cs) (hO : OkV x) :
 Calls Tryz.prog 69 #[.agg cs.toArray, .int .i64 e] w (WholePost x e w) := by
 have HKX := Lib.hid hK
 obtain ⟨A2, c2, A5, c5, A6, c6, rfl, l2, g2, l5, g5, l6, g6⟩ := k28_open hK
 clear l2 g2 l5 g5 l6 g6 hK
 have HCX := Lib.hid (fun W (hW : Below w.heap.size w W) => Check_any x _ W (hLD.below hW) (k28.K_below hW HKX.out) hO)
 have HCL := Lib.hid (fun W (hW : Below w.heap.size w W) => Clone_any x _ W (k28.K_below hW HKX.out) hO)
 have HOR : Hid (wholeE x e = orL [e, vchk x]) := Lib.hid rfl
 have HV0 : Hid (wholeE x e = 0 → wholeV x e = x) := Lib.hid (fun h => if_pos h)
 have HV1 : Hid (wholeE x e ≠ 0 → wholeV x e = zeroV) := Lib.hid (fun h => if_neg h)
 obtain ⟨W1, hW1⟩ : ∃ W1, W1 = (w.alloc (.cells #[.int .i64 x.f0, .bool x.f1.f0, .slice A2 x.f1.f1.length c2, .int .i64 x.f1.f2, .string x.f2, .slice A5 x.f3.length c5, .slice A6 x.f4.length c6] 28)).alloc (.cells #[.int .i64 0, .bool false, .slice none 0 0, .int .i64 0, .string ⟨#[]⟩, .slice none 0 0, .slice none 0 0] 28) := ⟨_, rfl⟩
 have hb1 : Below w.heap.size w W1 := by rw [hW1]; exact ((Below.refl _ _).alloc (Nat.le_refl _) _).alloc (by simp) _
 have hx1 : W1.heap[w.heap.size]? = some (.cells #[.int .i64 x.f0, .bool x.f1.f0, .slice A2 x.f1.f1.length c2, .int .i64 x.f1.f2, .string x.f2, .slice A5 x.f3.length c5, .slice A6 x.f4.length c6] 28 (0, 0)) := by rw [hW1]; exact blk_alloc (blk_new _ _) _
 have hy1 : W1.heap[w.heap.size + 1]? = some (.cells #[.int .i64 0, .bool false, .slice none 0 0, .int .i64 0, .string ⟨#[]⟩, .slice none 0 0, .slice none 0 0] 28 (0, 0)) := by
  rw [hW1]
  have := blk_new (w.alloc (.cells #[.int .i64 x.f0, .bool x.f1.f0, .slice A2 x.f1.f1.length c2, .int .i64 x.f1.f2, .string x.f2, .slice A5 x.f3.length c5, .slice A6 x.f4.length c6] 28)) (.cells #[.int .i64 0, .bool false, .slice none 0 0, .int .i64 0, .string ⟨#[]⟩, .slice none 0 0, .slice none 0 0] 28)
  rw [World.size_alloc] at this
  exact this
 have hs1 : W1.heap.size = w.heap.size + 2 := by rw [hW1]; simp
 have HS1 := Lib.hid hs1
 have HW1 := Lib.hid hW1
 have HB1 := Lib.hid hb1
 have HX1 := Lib.hid hx1
 have HY1 := Lib.hid hy1
 have HPP : Hid (∀ cs W, k28.M W w.heap.size (fun _ => True) (wholeV x e) cs → Below w.heap.size w W → WholePost x e w (.returned (.tuple #[.agg cs.toArray, .int .i64 (wholeE x e)])) W) := Lib.hid (fun cs W h1 h2 => ⟨cs, rfl, h1, h2⟩)
 generalize hP : WholePost x e w = P at *
 generalize wholeE x e = r at *
 generalize wholeV x e = vv at *
 generalize vchk x = x1 at *
 clear hW1 hb1 hx1 hy1 hLD hO HKX hs1 hP
 by_cases h0 : r = 0
 · have hr : (r != 0) = false := by simp [h0]
   have HV := Lib.hid (HV0.out h0)
   have H0 := Lib.hid h0
   clear h0
   go_enter Tryz.func69, Tryz.ntmps69
   go_upto_region 1 with (fail)
   rw [← HW1.out]
   clear HW1
   obtain ⟨hcx, hfxx⟩ := bcells HX1.out (Below.refl _ _)
   go_wp2_with (first
    | (go_at_call 62; (with_reducible refine (HCX.out _ HB1.out).mono ?_); rintro e_ w5 ⟨rfl, hB5⟩; have HX5 := Lib.hid (blk_below2 HX1.out hB5); have HY5 := Lib.hid (blk_below2 HY1.out hB5); have HB5 := Lib.hid (HB1.out.trans (hB5.mono HB1.out.size)); clear hB5; have hox1 := fun (o : Obj) => (bcells (blk_alloc HX5.out o) (Below.refl _ _)).1; have hox2 := fun (o : Obj) => (bcells (blk_alloc HX5.out o) (Below.refl _ _)).2)
    | (go_at_call 61; (with_reducible refine (or_err2 _ _ _ _).mono ?_); rintro e_ w7 ⟨rfl, rfl⟩; rw [← HOR.out])
    | (go_at_call 66; (with_reducible refine (HCL.out _ (HB5.out.alloc HB5.out.size _)).mono ?_); rintro e_ w8 ⟨cs8, rfl, hM8, hB8⟩; have HM8 := Lib.hid hM8; obtain ⟨v2, v5, v6, rfl, r2, r5, r6⟩ := k28_openM hM8; obtain ⟨E2, s2, rfl⟩ := Kd.R_slice r2; obtain ⟨E5, s5, rfl⟩ := Kd.R_slice r5; obtain ⟨E6, s6, rfl⟩ := Kd.R_slice r6; have HY8 := Lib.hid (blk_below2 (blk_alloc HY5.out _) hB8); obtain ⟨hc8, hf8⟩ := bcells HY8.out (Below.refl _ _); have HB8 := Lib.hid ((HB5.out.alloc HB5.out.size (.cells #[.int .i64 e, .int .i64 x1] 30)).trans (hB8.mono (by rw [World.size_alloc]; have := HB5.out.size; omega))); clear hM8 r2 r5 r6 hB8))
   obtain ⟨X, hX⟩ : ∃ X, X = ((((((w8.setCell ⟨w.heap.size + 1, 0, none⟩ (.int .i64 x.f0)).setCell ⟨w.heap.size + 1, 1, none⟩ (.bool x.f1.f0)).setCell ⟨w.heap.size + 1, 2, none⟩ (.slice E2 x.f1.f1.length s2)).setCell ⟨w.heap.size + 1, 3, none⟩ (.int .i64 x.f1.f2)).setCell ⟨w.heap.size + 1, 4, none⟩ (.string x.f2)).setCell ⟨w.heap.size + 1, 5, none⟩ (.slice E5 x.f3.length s5)).setCell ⟨w.heap.size + 1, 6, none⟩ (.slice E6 x.f4.length s6) := ⟨_, rfl⟩
   have hgw : w.heap.size + 1 < (w5.alloc (.cells #[.int .i64 e, .int .i64 x1] 30)).heap.size := by rw [World.size_alloc]; have := blk_lt HY5.out; omega
   obtain ⟨hfx, hm, hbw⟩ := into_box HM8.out hgw HY8.out rfl hX
   rw [← hX]
   have hfin := HPP.out _ X (by rw [HV.out]; exact k28.M_lower (by omega) hm) (HB8.out.trans (hbw _ (by omega)))
   rw [H0.out] at hfin
   have HFIN := Lib.hid hfin
   clear hX hm hbw hc8 hf8 hcx hfxx hox1 hox2 hgw hfin
   have hrc := blk_cell hfx
   refine bodyPost_ret (v := .tuple #[.agg #[.int .i64 x.f0, .bool x.f1.f0, .slice E2 x.f1.f1.length s2, .int .i64 x.f1.f2, .string x.f2, .slice E5 x.f3.length s5, .slice E6 x.f4.length s6], .int .i64 0]) ?_ rfl HFIN.out
   simp [results, Tryz.f69, go_sem, hrc]
 · have hr : (r != 0) = true := by simp [h0]
   have HV := Lib.hid (HV1.out h0)
   clear h0
   go_enter Tryz.func69, Tryz.ntmps69
   go_upto_region 1 with (fail)
   rw [← HW1.out]
   clear HW1
   obtain ⟨hcx, hfxx⟩ := bcells HX1.out (Below.refl _ _)
   go_wp2_with (first
    | (go_at_call 62; (with_reducible refine (HCX.out _ HB1.out).mono ?_); rintro e_ w5 ⟨rfl, hB5⟩; have HY5 := Lib.hid (blk_below2 HY1.out hB5); have HB5 := Lib.hid (HB1.out.trans (hB5.mono HB1.out.size)); clear hB5; have hoy1 := fun (o : Obj) => (bcells (blk_alloc HY5.out o) (Below.refl _ _)).1; have hoy2 := fun (o : Obj) => (bcells (blk_alloc HY5.out o) (Below.refl _ _)).2)
    | (go_at_call 61; (with_reducible refine (or_err2 _ _ _ _).mono ?_); rintro e_ w7 ⟨rfl, rfl⟩; rw [← HOR.out]))
   obtain ⟨W6, hW6⟩ : ∃ W6, W6 = w5.alloc (.cells #[.int .i64 e, .int .i64 x1] 30) := ⟨_, rfl⟩
   have hy6 : W6.heap[w.heap.size + 1]? = some (.cells #[.int .i64 0, .bool false, .slice none 0 0, .int .i64 0, .string ⟨#[]⟩, .slice none 0 0, .slice none 0 0] 28 (0, 0)) := by rw [hW6]; exact blk_alloc HY5.out _
   have hb6 : Below w.heap.size w W6 := by rw [hW6]; exact HB5.out.alloc HB5.out.size _
   obtain ⟨X, hX⟩ : ∃ X, X = ((((((W6.setCell ⟨w.heap.size + 1, 0, none⟩ (.int .i64 0)).setCell ⟨w.heap.size + 1, 1, none⟩ (.bool false)).setCell ⟨w.heap.size + 1, 2, none⟩ (.slice none 0 0)).setCell ⟨w.heap.size + 1, 3, none⟩ (.int .i64 0)).setCell ⟨w.heap.size + 1, 4, none⟩ (.string ⟨#[]⟩)).setCell ⟨w.heap.size + 1, 5, none⟩ (.slice none 0 0)).setCell ⟨w.heap.size + 1, 6, none⟩ (.slice none 0 0) := ⟨_, rfl⟩
   obtain ⟨hfx, hm, hbw⟩ := into_box (zero_M W6 (w.heap.size + 2)) (by omega) hy6 rfl hX
   rw [hW6] at hX
   rw [← hX]
   have HFIN := Lib.hid (HPP.out _ X (by rw [HV.out]; exact k28.M_lower (by omega) hm) (hb6.trans (hbw _ (by omega))))
   clear hX hm hbw hcx hfxx hoy1 hoy2 hW6 hy6 hb6
   have hrc := blk_cell hfx
   refine bodyPost_ret (v := .tuple #[.agg #[.int .i64 0, .bool false, .slice none 0 0, .int .i64 0, .string ⟨#[]⟩, .slice none 0 0, .slice none 0 0], .int .i64 r]) ?_ rfl HFIN.out
   simp [results, Tryz.f69, go_sem, hrc]
end Go.Proofs.YthigbklhngihkaaGreatDoor.P

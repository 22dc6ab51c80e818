/- Texts of this claim, one behind the other. -/
import Derived.Test.YtmfpakolfpoamaaGreatDoorMOrderFindsv
import Derived.Test.YtmfpakolfpoamaaGreatDoorMOrderFindsq
import Derived.Deep.RegionHeld3
import Derived.Test.YtmfpakolfpoamaaGreatDoorMOrderFindss
import Derived.Test.YtmfpakolfpoamaaGreatDoorMOrderFindsr
set_option maxRecDepth 100000
namespace Go.Proofs.YtmfpakolfpoamaaGreatDoor.P
set_option linter.unusedVariables false
set_option linter.unusedSimpArgs false
open Go.RowKit Go.Proofs.YtmfpakolfpoamaaGreatDoorW.PrintWords Go.Proofs.YtmfpakolfpoamaaGreatDoorW.PrintMore Go.Proofs.YtmfpakolfpoamaaGreatDoorW.PrintLast
theorem symMerge_in (w0 : World) (g cb : Nat) (U : PEl → Prop) (hg : g < w0.heap.size) (hcmp : CmpIn w0 g cb U) : ∀ n, MergeCalls w0 g cb U n := by
 intro n
 induction n with
 | zero =>
  intro A X Y B N cap W h _ hM
  have := List.length_pos_iff.2 hM.nx
  omega
 | succ n ih =>
  intro A X Y B N cap W h hcap hM
  have hx := List.length_pos_iff.2 hM.nx
  have hy := List.length_pos_iff.2 hM.ny
  by_cases h1 : X.length = 1
  · obtain ⟨x, rfl⟩ := List.length_eq_one_iff.1 h1
    refine (merge_one w0 g cb U hg hcmp A Y B x N cap W hM.hN hcap (fun e he => hM.hU e (by simpa using he)) hM.sy (fun y hy => hM.tags x List.mem_cons_self y hy) hM.sw).mono ?_
    rintro e w' ⟨rfl, h2⟩
    exact ⟨rfl, h2⟩
  · by_cases h2 : Y.length = 1
    · obtain ⟨y, rfl⟩ := List.length_eq_one_iff.1 h2
      refine (merge_last w0 g cb U hg hcmp A X B y N cap W hM.hN hcap (fun e he => hM.hU e (by
       rcases List.mem_cons.1 he with rfl | he
       · simp
       · exact List.mem_append_left _ he)) hM.sx (fun x hx => hM.tags x hx y List.mem_cons_self) (by omega) hM.sw).mono ?_
      rintro e w' ⟨rfl, h3⟩
      exact ⟨rfl, h3⟩
    · exact symMerge_step w0 g cb U hg hcmp n ih A X Y B N cap W h hcap (by omega) (by omega) hM
inductive BL (z : Nat) : List PEl → List PEl → Prop
 | last (o c : List PEl) : o.length ≤ z → c.Perm o → c.Pairwise elt → BL z o c
 | more (o1 c1 o c : List PEl) : o1.length = z → c1.Perm o1 → c1.Pairwise elt → BL z o c → BL z (o1 ++ o) (c1 ++ c)
theorem BL.perm {z : Nat} {o c : List PEl} (h : BL z o c) : c.Perm o := by
 induction h with
 | last o c _ h _ => exact h
 | more o1 c1 o c _ h1 _ _ ih => exact h1.append ih
def Done (z : Nat) (o1 c1 : List PEl) : Prop := ∀ o c, BL z o c → BL z (o1 ++ o) (c1 ++ c)
theorem Done.nil (z : Nat) : Done z [] [] := fun o c h => by simpa using h
theorem Done.snoc {z : Nat} {o1 c1 p s : List PEl} (h : Done z o1 c1) (hp : p.length = z) (hs : s.Perm p) (hss : s.Pairwise elt) : Done z (o1 ++ p) (c1 ++ s) := fun o c hb => by
 rw [List.append_assoc, List.append_assoc]
 exact h _ _ (.more p s o c hp hs hss hb)
theorem BL.whole {z : Nat} {o c : List PEl} (h : BL z o c) (hl : o.length ≤ z) : c.Perm o ∧ c.Pairwise elt := by
 refine ⟨h.perm, ?_⟩
 cases h with
 | last _ _ _ _ h => exact h
 | more o1 c1 o c h1 h2 h3 h4 =>
  rw [List.length_append] at hl
  obtain rfl : o = [] := List.eq_nil_of_length_eq_zero (by omega)
  have := h4.perm
  rw [List.perm_nil] at this
  rw [this, List.append_nil]
  exact h3
theorem BL.split {z : Nat} {o c : List PEl} (h : BL z o c) (hl : z < o.length) : ∃ o1 c1 o2 c2, o = o1 ++ o2 ∧ c = c1 ++ c2 ∧ o1.length = z ∧ c1.Perm o1 ∧ c1.Pairwise elt ∧ BL z o2 c2 := by
 cases h with
 | last _ _ h _ _ => omega
 | more o1 c1 o c h1 h2 h3 h4 => exact ⟨o1, c1, o, c, rfl, rfl, h1, h2, h3, h4⟩
theorem BL.first {z : Nat} {o c : List PEl} (h : BL z o c) (hl : z ≤ o.length) : ∃ o1 c1 o2 c2, o = o1 ++ o2 ∧ c = c1 ++ c2 ∧ o1.length = z ∧ c1.Perm o1 ∧ c1.Pairwise elt ∧ BL z o2 c2 := by
 cases h with
 | last _ _ h1 h2 h3 => exact ⟨o, c, [], [], by simp, by simp, by omega, h2, h3, .last _ _ (Nat.zero_le _) (List.Perm.refl _) List.Pairwise.nil⟩
 | more o1 c1 o c h1 h2 h3 h4 => exact ⟨o1, c1, o, c, rfl, rfl, h1, h2, h3, h4⟩
theorem tags_apart {p q X Y o : List PEl} (ht : (p ++ q ++ o).Pairwise (fun x y => x.tag < y.tag)) (hx : X.Perm p) (hy : Y.Perm q) : ∀ x ∈ X, ∀ y ∈ Y, x.tag < y.tag := fun x hx' y hy' => by
 have h1 := (List.pairwise_append.1 ht).1
 exact (List.pairwise_append.1 h1).2.2 x (hx.mem_iff.1 hx') y (hy.mem_iff.1 hy')
structure SortArgs (w0 : World) (g cb : Nat) (U : PEl → Prop) (O : List PEl) (N : Nat) : Prop where
 hg : g < w0.heap.size
 cmp : CmpIn w0 g cb U
 hN : N = O.length
 hcap : N ≤ 1048576
 hU : ∀ e ∈ O, U e
 tags : O.Pairwise (fun x y : PEl => x.tag < y.tag)
theorem Done.perm {z : Nat} {o c : List PEl} (h : Done z o c) : c.Perm o := by
 have := (h [] [] (.last _ _ (Nat.zero_le _) (List.Perm.refl _) List.Pairwise.nil)).perm
 simpa using this
theorem Done.len {z : Nat} {o c : List PEl} (h : Done z o c) : c.length = o.length := h.perm.length_eq
def InB (w0 : World) (g : Nat) (O : List PEl) (a : Nat) (W : World) : Prop := ∃ o1 c1 o2 : List PEl, O = o1 ++ o2 ∧ o1.length = a ∧ Done 20 o1 c1 ∧ SW w0 g (c1 ++ o2) W
theorem InB.drew {w0 : World} {g : Nat} {O : List PEl} {a : Nat} {W : World} (h : InB w0 g O a W) : InB w0 g O a W.drew := by
 obtain ⟨o1, c1, o2, h1, h2, h3, h4⟩ := h
 exact ⟨o1, c1, o2, h1, h2, h3, h4.drew⟩
def InZ (w0 : World) (g : Nat) (O : List PEl) (z : Nat) (W : World) : Prop := ∃ c : List PEl, BL z O c ∧ SW w0 g c W
theorem InZ.drew {w0 : World} {g : Nat} {O : List PEl} {z : Nat} {W : World} (h : InZ w0 g O z W) : InZ w0 g O z W.drew := by
 obtain ⟨c, h1, h2⟩ := h
 exact ⟨c, h1, h2.drew⟩
def InM (w0 : World) (g : Nat) (O : List PEl) (z a : Nat) (W : World) : Prop := ∃ o1 c1 o2 c2 : List PEl, O = o1 ++ o2 ∧ o1.length = a ∧ Done (2 * z) o1 c1 ∧ BL z o2 c2 ∧ SW w0 g (c1 ++ c2) W
theorem InM.drew {w0 : World} {g : Nat} {O : List PEl} {z a : Nat} {W : World} (h : InM w0 g O z a W) : InM w0 g O z a W.drew := by
 obtain ⟨o1, c1, o2, c2, h1, h2, h3, h4, h5⟩ := h
 exact ⟨o1, c1, o2, c2, h1, h2, h3, h4, h5.drew⟩
theorem ins_block {w0 : World} {g cb : Nat} {U : PEl → Prop} {O : List PEl} {N : Nat} (hA : SortArgs w0 g cb U O N) (cap a b : Nat) (W : World) (hb : b = a + 20) (hbN : b ≤ N) (h : InB w0 g O a W) :
 Calls Tryz.prog 122 #[.slice (some ⟨g, 0, none⟩) N cap, .int .i64 a, .int .i64 b, .func (.func 74) #[] #[.pointer (some ⟨cb, 0, none⟩)]] W fun e w' => e = .returned (.tuple #[]) ∧ InB w0 g O b w' := by
 obtain ⟨o1, c1, o2, h1, h2, h3, h4⟩ := h
 have hN := hA.hN
 have hl : (o2.take 20).length = 20 := by rw [h1, List.length_append] at hN; rw [List.length_take]; omega
 have hc1 : c1.length = a := by rw [h3.len, h2]
 have hsub : (o2.take 20).Sublist O := by rw [h1]; exact (List.take_sublist _ _).trans (List.sublist_append_right _ _)
 have h := insertion_in w0 g cb U hA.hg hA.cmp c1 (o2.take 20) (o2.drop 20) N cap W (by rw [List.append_assoc, List.take_append_drop, List.length_append, hc1, hN, h1, List.length_append, h2]) hA.hcap (fun e he => hA.hU e (hsub.subset he)) (hA.tags.sublist hsub) (by rw [List.append_assoc, List.take_append_drop]; exact h4)
 rw [hl, hc1, ← hb] at h
 refine h.mono ?_
 rintro e w' ⟨rfl, S', p1, p2, p3⟩
 exact ⟨rfl, o1 ++ o2.take 20, c1 ++ S', o2.drop 20, by rw [List.append_assoc, List.take_append_drop]; exact h1, by rw [List.length_append, hl, h2]; exact hb.symm, h3.snoc hl p1 p2, p3⟩
theorem ins_last {w0 : World} {g cb : Nat} {U : PEl → Prop} {O : List PEl} {N : Nat} (hA : SortArgs w0 g cb U O N) (cap a : Nat) (W : World) (haN : a ≤ N) (hb : N < a + 20) (h : InB w0 g O a W) :
 Calls Tryz.prog 122 #[.slice (some ⟨g, 0, none⟩) N cap, .int .i64 a, .int .i64 N, .func (.func 74) #[] #[.pointer (some ⟨cb, 0, none⟩)]] W fun e w' => e = .returned (.tuple #[]) ∧ InZ w0 g O 20 w' := by
 obtain ⟨o1, c1, o2, h1, h2, h3, h4⟩ := h
 have hN := hA.hN
 have hl : N = a + o2.length := by rw [hN, h1, List.length_append, h2]
 have hc1 : c1.length = a := by rw [h3.len, h2]
 have hsub : o2.Sublist O := by rw [h1]; exact List.sublist_append_right _ _
 have h := insertion_in w0 g cb U hA.hg hA.cmp c1 o2 [] N cap W (by rw [List.append_nil, List.length_append, hc1]; exact hl) hA.hcap (fun e he => hA.hU e (hsub.subset he)) (hA.tags.sublist hsub) (by rw [List.append_nil]; exact h4)
 rw [hc1, ← hl] at h
 refine h.mono ?_
 rintro e w' ⟨rfl, S', p1, p2, p3⟩
 rw [List.append_nil] at p3
 refine ⟨rfl, c1 ++ S', ?_, p3⟩
 rw [h1]
 exact h3 _ _ (.last _ _ (by omega) p1 p2)
theorem inM_start {w0 : World} {g : Nat} {O : List PEl} {z : Nat} {W : World} (h : InZ w0 g O z W) : InM w0 g O z 0 W := by
 obtain ⟨c, h1, h2⟩ := h
 exact ⟨[], [], O, c, rfl, rfl, Done.nil _, h1, h2⟩
theorem merge_block {w0 : World} {g cb : Nat} {U : PEl → Prop} {O : List PEl} {N : Nat} (hA : SortArgs w0 g cb U O N) (cap z a m b : Nat) (W : World) (hz : 0 < z) (hm : m = a + z) (hb : b = a + 2 * z) (hbN : b ≤ N) (h : InM w0 g O z a W) :
 Calls Tryz.prog 123 #[.slice (some ⟨g, 0, none⟩) N cap, .int .i64 a, .int .i64 m, .int .i64 b, .func (.func 74) #[] #[.pointer (some ⟨cb, 0, none⟩)]] W fun e w' => e = .returned (.tuple #[]) ∧ InM w0 g O z b w' := by
 obtain ⟨o1, c1, o2, c2, h1, h2, h3, h4, h5⟩ := h
 have hN := hA.hN
 have hl : N = a + o2.length := by rw [hN, h1, List.length_append, h2]
 have hc1 : c1.length = a := by rw [h3.len, h2]
 obtain ⟨p, X, o3, c3, rfl, rfl, lp, px, sx, h6⟩ := h4.first (by omega)
 rw [List.length_append] at hl
 obtain ⟨q, Y, o4, c4, rfl, rfl, lq, py, sy, h7⟩ := h6.first (by omega)
 have lX : X.length = z := by rw [px.length_eq, lp]
 have lY : Y.length = z := by rw [py.length_eq, lq]
 have hlen : c4.length = o4.length := h7.perm.length_eq
 have htg : (p ++ q ++ o4).Pairwise (fun x y : PEl => x.tag < y.tag) := by
  have ht := hA.tags
  rw [h1] at ht
  rw [List.append_assoc]
  exact (List.pairwise_append.1 ht).2.1
 have h := symMerge_in w0 g cb U hA.hg hA.cmp (X.length + Y.length) c1 X Y c4 N cap W (Nat.le_refl _) hA.hcap ⟨by intro e; rw [e] at lX; simp at lX; omega, by intro e; rw [e] at lY; simp at lY; omega, by
  simp only [List.length_append] at hl ⊢; omega, fun e he => hA.hU e (by
  rw [h1]
  rcases List.mem_append.1 he with he | he
  · exact List.mem_append_right _ (List.mem_append_left _ (px.mem_iff.1 he))
  · exact List.mem_append_right _ (List.mem_append_right _ (List.mem_append_left _ (py.mem_iff.1 he)))), sx, sy, tags_apart htg px py, by simp only [List.append_assoc] at h5 ⊢; exact h5⟩
 rw [lX, lY, hc1, ← hm, show m + z = b by omega] at h
 refine h.mono ?_
 rintro e w' ⟨rfl, S', p1, p2, p3⟩
 refine ⟨rfl, o1 ++ (p ++ q), c1 ++ S', o4, c4, by rw [h1]; simp only [List.append_assoc], by rw [List.length_append, List.length_append, h2, lp, lq]; omega, h3.snoc (by rw [List.length_append, lp, lq]; omega) (p1.trans (px.append py)) p2, h7, p3⟩
theorem merge_tail {w0 : World} {g cb : Nat} {U : PEl → Prop} {O : List PEl} {N : Nat} (hA : SortArgs w0 g cb U O N) (cap z a m : Nat) (W : World) (hz : 0 < z) (hm : m = a + z) (hmN : m < N) (hb : N < a + 2 * z) (h : InM w0 g O z a W) :
 Calls Tryz.prog 123 #[.slice (some ⟨g, 0, none⟩) N cap, .int .i64 a, .int .i64 m, .int .i64 N, .func (.func 74) #[] #[.pointer (some ⟨cb, 0, none⟩)]] W fun e w' => e = .returned (.tuple #[]) ∧ InZ w0 g O (2 * z) w' := by
 obtain ⟨o1, c1, o2, c2, h1, h2, h3, h4, h5⟩ := h
 have hN := hA.hN
 have hl : N = a + o2.length := by rw [hN, h1, List.length_append, h2]
 have hc1 : c1.length = a := by rw [h3.len, h2]
 obtain ⟨p, X, o3, Y, rfl, rfl, lp, px, sx, h6⟩ := h4.first (by omega)
 rw [List.length_append] at hl
 obtain ⟨py, sy⟩ := h6.whole (by omega)
 have lX : X.length = z := by rw [px.length_eq, lp]
 have lY : Y.length = o3.length := py.length_eq
 have htg : (p ++ o3 ++ []).Pairwise (fun x y : PEl => x.tag < y.tag) := by
  have ht := hA.tags
  rw [h1] at ht
  rw [List.append_nil]
  exact (List.pairwise_append.1 ht).2.1
 have h := symMerge_in w0 g cb U hA.hg hA.cmp (X.length + Y.length) c1 X Y [] N cap W (Nat.le_refl _) hA.hcap ⟨by intro e; rw [e] at lX; simp at lX; omega, by intro e; rw [e] at lY; simp at lY; omega, by
  simp only [List.length_append, List.length_nil]; omega, fun e he => hA.hU e (by
  rw [h1]
  rcases List.mem_append.1 he with he | he
  · exact List.mem_append_right _ (List.mem_append_left _ (px.mem_iff.1 he))
  · exact List.mem_append_right _ (List.mem_append_right _ (py.mem_iff.1 he))), sx, sy, tags_apart htg px py, by simp only [List.append_assoc, List.append_nil] at h5 ⊢; exact h5⟩
 rw [lX, hc1, ← hm, show m + Y.length = N by omega] at h
 refine h.mono ?_
 rintro e w' ⟨rfl, S', p1, p2, p3⟩
 rw [List.append_nil] at p3
 refine ⟨rfl, c1 ++ S', ?_, p3⟩
 rw [h1]
 exact h3 _ _ (.last _ _ (by rw [List.length_append]; omega) (p1.trans (px.append py)) p2)
theorem merge_none {w0 : World} {g cb : Nat} {U : PEl → Prop} {O : List PEl} {N : Nat} (hA : SortArgs w0 g cb U O N) (z a : Nat) (W : World) (hz : 0 < z) (hm : N ≤ a + z) (h : InM w0 g O z a W) : InZ w0 g O (2 * z) W := by
 obtain ⟨o1, c1, o2, c2, h1, h2, h3, h4, h5⟩ := h
 have hN := hA.hN
 have hl : N = a + o2.length := by rw [hN, h1, List.length_append, h2]
 obtain ⟨py, sy⟩ := h4.whole (by omega)
 refine ⟨c1 ++ c2, ?_, h5⟩
 rw [h1]
 exact h3 _ _ (.last _ _ (by omega) py sy)
set_option maxHeartbeats 4000000 in
theorem stable_in (w0 : World) (g cb : Nat) (U : PEl → Prop) (O : List PEl) (N cap : Nat) (W : World) (hA : SortArgs w0 g cb U O N) (h : SW w0 g O W) :
 Calls Tryz.prog 99 #[.slice (some ⟨g, 0, none⟩) N cap, .int .i64 N, .func (.func 74) #[] #[.pointer (some ⟨cb, 0, none⟩)]] W fun e w' => e = .returned (.tuple #[]) ∧ ∃ S', S'.Perm O ∧ S'.Pairwise elt ∧ SW w0 g S' w' := by
 have hcap := hA.hcap
 have hO := hA.hN
 have H0 : Hid (InB w0 g O 0 W) := Lib.hid ⟨[], [], O, rfl, rfl, Done.nil _, h⟩
 have HA := Lib.hid hA
 have HO := Lib.hid hO
 clear hA h hO
 go_enter Tryz.func99, Tryz.ntmps99
 go_wp2
 go_loopw [7, 8] (fun va vb wr => ∃ a b : Nat, va = .int .i64 a ∧ vb = .int .i64 b ∧ b = a + 20 ∧ a ≤ N ∧ Hid (InB w0 g O a wr)) (fun va vb _ => N + 1 - (intOf va).toNat)
 case atStart => exact ⟨0, 20, rfl, rfl, rfl, Nat.zero_le _, H0⟩
 case round =>
  obtain ⟨a, b, rfl, rfl, hab, haN, HB⟩ := hrel
  have HAB := Lib.hid hab
  by_cases hlt : b ≤ N
  · have hlt2 : (b : Int) ≤ (N : Int) := by omega
    have HC := Lib.hid (ins_block HA.out cap a b wr hab hlt HB.out)
    have q1 : (b : Int) + 20 ≤ 1048600 := by omega
    clear hab haN
    go_wp2_with (go_at_call 122; (with_reducible refine (HC.out).mono ?_); rintro e w1 ⟨rfl, hT⟩; have HT := Lib.hid hT; clear hT)
    go_roundw
    case rel => exact ⟨b, b + 20, rfl, by first | rfl | (rw [wrap_in _ (by omega)]; rfl), rfl, hlt, HT⟩
    case measure => have := HAB.out; show N + 1 - b < N + 1 - a; omega
  · have hlt2 : ¬ (b : Int) ≤ (N : Int) := by omega
    have HC := Lib.hid (ins_last HA.out cap a wr haN (by omega) HB.out)
    clear hab haN hlt
    go_wp2_with (go_at_call 122; (with_reducible refine (HC.out).mono ?_); rintro e w1 ⟨rfl, hT⟩; have HT := Lib.hid hT; clear hT)
    clear hlt2 HC HB HAB H0
    go_loopw [6] (fun vz wr => ∃ z : Nat, vz = .int .i64 z ∧ 20 ≤ z ∧ z ≤ 2097152 ∧ Hid (InZ w0 g O z wr)) (fun vz _ => N - (intOf vz).toNat)
    case atStart => exact ⟨20, rfl, Nat.le_refl _, by omega, HT⟩
    case round =>
     obtain ⟨z, rfl, hz1, hz2, HZ⟩ := hrel
     by_cases hzN : z < N
     · have hzN2 : (z : Int) < (N : Int) := by omega
       have c1 : 2 * (z : Int) = ((2 * z : Nat) : Int) := by omega
       have c2 : (z : Int) * 2 = ((2 * z : Nat) : Int) := by omega
       have q1 : ((2 * z : Nat) : Int) ≤ 2097152 := by omega
       obtain ⟨z2, hzz⟩ : ∃ z2, z2 = 2 * z := ⟨_, rfl⟩
       rw [← hzz] at c1 c2 q1
       have HZZ := Lib.hid hzz
       have HM0 := Lib.hid (inM_start HZ.out)
       clear hzz
       go_wp2
       go_loopw [7, 8] (fun va vb wq => ∃ a b : Nat, va = .int .i64 a ∧ vb = .int .i64 b ∧ b = a + z2 ∧ a ≤ N ∧ Hid (InM w0 g O z a wq)) (fun va vb _ => N + 1 - (intOf va).toNat)
       case atStart => exact ⟨0, z2, rfl, by first | rfl | (rw [c1, wrap_in _ (by omega)]) | (rw [c1]), by omega, Nat.zero_le _, by first | exact HM0 | exact Lib.hid (HM0.out.drew)⟩
       case round =>
        obtain ⟨a, b, rfl, rfl, hab, haN, HB⟩ := hrel
        have HAB := Lib.hid hab
        obtain ⟨m, hm⟩ : ∃ m, m = a + z := ⟨_, rfl⟩
        have c3 : (a : Int) + (z : Int) = (m : Int) := by omega
        have q2 : (m : Int) ≤ 2097152 := by omega
        have q3 : (b : Int) + (z2 : Int) ≤ 8388608 := by omega
        have HMM := Lib.hid hm
        by_cases hlt : b ≤ N
        · have hlt2 : (b : Int) ≤ (N : Int) := by omega
          have HC := Lib.hid (merge_block HA.out cap z a m b wr (by omega) hm (by rw [hab, HZZ.out]) hlt HB.out)
          clear hab haN hm
          go_wp2_with (go_at_call 123; (with_reducible refine (HC.out).mono ?_); rintro e w1 ⟨rfl, hT⟩; have HT2 := Lib.hid hT; clear hT)
          go_roundw
          case rel => exact ⟨b, b + z2, rfl, by first | rfl | (rw [c1, wrap_in _ (by omega)]; rfl) | (rw [c1]; rfl), rfl, hlt, HT2⟩
          case measure => have := HAB.out; have := HZZ.out; show N + 1 - b < N + 1 - a; omega
        · have hlt2 : ¬ (b : Int) ≤ (N : Int) := by omega
          have HH : Hid (20 ≤ z2 ∧ z2 ≤ 2097152 ∧ z < z2) := Lib.hid (by have := HZZ.out; omega)
          by_cases hmN : m < N
          · have hmN2 : (m : Int) < (N : Int) := by omega
            have HC := Lib.hid (merge_tail HA.out cap z a m wr (by omega) hm hmN (by have := HZZ.out; omega) HB.out)
            clear hab haN hlt hm
            go_wp2_with (go_at_call 123; (with_reducible refine (HC.out).mono ?_); rintro e w1 ⟨rfl, hT⟩; have HT2 := Lib.hid hT; clear hT)
            rw [← HZZ.out] at HT2
            go_roundw
            case rel => exact ⟨z2, by first | rfl | (rw [c2, wrap_in _ (by omega)]) | (rw [c2]), HH.out.1, HH.out.2.1, HT2⟩
            case measure => have := HH.out; first | (show N - z2 < N - z; omega) | (rw [c2]; show N - z2 < N - z; omega) | (rw [c2, wrap_in _ (by omega)]; show N - z2 < N - z; omega)
          · have hmN2 : ¬ (m : Int) < (N : Int) := by omega
            have HT2 := Lib.hid (merge_none HA.out z a wr (by omega) (by omega) HB.out)
            rw [← HZZ.out] at HT2
            clear hab haN hlt hm
            go_wp2
            go_roundw
            case rel => exact ⟨z2, by first | rfl | (rw [c2, wrap_in _ (by omega)]) | (rw [c2]), HH.out.1, HH.out.2.1, by first | exact HT2 | exact Lib.hid HT2.out.drew⟩
            case measure => have := HH.out; first | (show N - z2 < N - z; omega) | (rw [c2]; show N - z2 < N - z; omega) | (rw [c2, wrap_in _ (by omega)]; show N - z2 < N - z; omega)
     · have hzN2 : ¬ (z : Int) < (N : Int) := by omega
       have HE : Hid (∃ S', S'.Perm O ∧ S'.Pairwise elt ∧ SW w0 g S' wr) := Lib.hid (by
        obtain ⟨c, k1, k2⟩ := HZ.out
        obtain ⟨k3, k4⟩ := k1.whole (by have := HO.out; omega)
        exact ⟨c, k3, k4, k2⟩)
       go_wp2
       exact bodyPost_end (v := .tuple #[]) (by simp [results, Tryz.f99, go_sem]) rfl ⟨rfl, HE.out⟩
theorem four_C (W : World) (a b c d : Int) : Kd.C (Kd.int .i64) (W.alloc (.cells #[.int .i64 a, .int .i64 b, .int .i64 c, .int .i64 d] 3)) (some ⟨W.heap.size, 0, none⟩) 4 [a, b, c, d] := by
 have hb := blk_new W (.cells #[.int .i64 a, .int .i64 b, .int .i64 c, .int .i64 d] 3)
 refine ⟨rfl, by decide, fun _ => ⟨_, rfl, fun j p hj => ⟨[.int .i64 p], rfl, rfl, fun i u hu => ?_⟩⟩⟩
 have hi : i = 0 := by
  rcases Nat.eq_zero_or_pos i with h | h
  · exact h
  · rw [List.getElem?_eq_none (by simp; omega)] at hu; cases hu
 subst hi
 simp only [List.getElem?_cons_zero, Option.some.injEq] at hu
 subst hu
 rw [add_plain]
 show (W.alloc _).cell? ⟨W.heap.size, j * 1 + 0, none⟩ = _
 rw [Nat.mul_one, Nat.add_zero, blk_cell hb]
 rcases j with _ | _ | _ | _ | j
 · simp at hj; subst hj; rfl
 · simp at hj; subst hj; rfl
 · simp at hj; subst hj; rfl
 · simp at hj; subst hj; rfl
 · simp at hj
theorem or_four (W : World) (a b c d : Int) : Calls Tryz.prog 63 #[.slice (some ⟨W.heap.size, 0, none⟩) 4 4] (W.alloc (.cells #[.int .i64 a, .int .i64 b, .int .i64 c, .int .i64 d] 3)) fun e w' => e = .returned (.int .i64 (orL [a, b, c, d])) ∧ W.alloc (.cells #[.int .i64 a, .int .i64 b, .int .i64 c, .int .i64 d] 3) = w' :=
 or_int _ 4 [a, b, c, d] _ (four_C W a b c d)
set_option maxHeartbeats 1000000 in
theorem Order_any : ∀ (x y : V) (cs ds : List Value) (w : World), k34.K w x cs → k34.K w y ds → OkV x → OkV y → NumOk x → NumOk y →
 Calls Tryz.prog 40 #[.agg cs.toArray, .agg ds.toArray] w fun e w' => e = .returned (.int .i64 (vord x y)) ∧ Below w.heap.size w w' := by
 refine V.ind fun x ih => ?_
 intro y cs ds w hK hL hOx hOy hNx hNy
 obtain ⟨A2, c2, A5, c5, A6, c6, rfl, l2, g2, l5, g5, l6, g6⟩ := k34_open hK
 obtain ⟨B2, d2, B5, d5, B6, d6, rfl, m2, h2, m5, h5, m6, h6⟩ := k34_open hL
 have hcf : ∀ W, Below w.heap.size w W → Calls Tryz.prog 66 #[.slice A5 x.f3.length c5, .slice B5 y.f3.length d5, .func (.func 40) #[] #[]] W fun e w' => e = .returned (.int .i64 (lexC vord x.f3 y.f3)) ∧ Below W.heap.size W w' := fun W hW =>
  CompareFunc_in x.f3 y.f3 A5 c5 B5 d5 W (Kd.C_below g5 hW) (Kd.C_below h5 hW) hOx.len3 (fun a ha b hb cs ds W' h1 h2 => ih a ha b cs ds W' h1 h2 (hOx.kids a ha) (hOy.kids b hb) (hNx.kids a ha) (hNy.kids b hb))
 have hck : ∀ W, Below w.heap.size w W → Calls Tryz.prog 65 #[.slice A6 x.f4.length c6, .slice B6 y.f4.length d6] W fun e w' => e = .returned (.int .i64 (lexC strC x.f4 y.f4)) ∧ W = w' := fun W hW =>
  CompareKeys_any x.f4 y.f4 A6 c6 B6 d6 W (Kd.C_below g6 hW) (Kd.C_below h6 hW) hOx.len4
 have hdc : x.f0 = 3 → y.f0 = 3 → ∀ W, Below w.heap.size w W → Calls Tryz.prog 67 #[.agg #[.bool x.f1.f0, .slice A2 x.f1.f1.length c2, .int .i64 x.f1.f2], .agg #[.bool y.f1.f0, .slice B2 y.f1.f1.length d2, .int .i64 y.f1.f2]] W fun e w' => e = .returned (.tuple #[.int .i64 (dcmp x.f1 y.f1), .int .i64 0]) ∧ Below W.heap.size W w' := fun h3 h4 W hW =>
  Compare_any x.f1 y.f1 A2 c2 B2 d2 W l2 (Kd.C_below g2 hW) m2 (Kd.C_below h2 hW) hOx.dec hOy.dec (hNx.num h3) (hNy.num h4)
 have HCF := Lib.hid hcf
 have HCK := Lib.hid hck
 have HDC := Lib.hid hdc
 obtain ⟨r, hr⟩ : ∃ r : Int, r = vord x y := ⟨_, rfl⟩
 rw [← hr]
 rw [vord_eq] at hr
 have HR := Lib.hid hr
 clear hcf hck hdc hr ih hK hL hOx hOy hNx hNy g2 g5 g6 h2 h5 h6
 obtain ⟨cv, hcv⟩ : ∃ cv, cv = cmpI x.f0 y.f0 := ⟨_, rfl⟩
 rw [← hcv] at HR
 have HCV := Lib.hid hcv
 clear hcv
 have HCI : Hid (∀ W, Calls Tryz.prog 62 #[.int .i64 x.f0, .int .i64 y.f0] W fun e w' => e = .returned (.int .i64 cv) ∧ w' = W) := Lib.hid (fun W => by rw [HCV.out]; exact cmp_int x.f0 y.f0 W)
 obtain ⟨W2, hW2⟩ : ∃ W2, W2 = (w.alloc (.cells #[.int .i64 x.f0, .bool x.f1.f0, .slice A2 x.f1.f1.length c2, .int .i64 x.f1.f2, .string x.f2, .slice A5 x.f3.length c5, .slice A6 x.f4.length c6] 34)).alloc (.cells #[.int .i64 y.f0, .bool y.f1.f0, .slice B2 y.f1.f1.length d2, .int .i64 y.f1.f2, .string y.f2, .slice B5 y.f3.length d5, .slice B6 y.f4.length d6] 34) := ⟨_, rfl⟩
 have hz : W2.heap.size = w.heap.size + 2 := by rw [hW2]; simp
 have hA2 : Below w.heap.size w W2 := by rw [hW2]; exact ((Below.refl _ _).alloc (Nat.le_refl _) _).alloc (by simp) _
 have hx : W2.heap[w.heap.size]? = some (.cells #[.int .i64 x.f0, .bool x.f1.f0, .slice A2 x.f1.f1.length c2, .int .i64 x.f1.f2, .string x.f2, .slice A5 x.f3.length c5, .slice A6 x.f4.length c6] 34 (0, 0)) := by rw [hW2]; exact blk_alloc (blk_new _ _) _
 have hy : W2.heap[w.heap.size + 1]? = some (.cells #[.int .i64 y.f0, .bool y.f1.f0, .slice B2 y.f1.f1.length d2, .int .i64 y.f1.f2, .string y.f2, .slice B5 y.f3.length d5, .slice B6 y.f4.length d6] 34 (0, 0)) := by
  rw [hW2]
  have := blk_new (w.alloc (.cells #[.int .i64 x.f0, .bool x.f1.f0, .slice A2 x.f1.f1.length c2, .int .i64 x.f1.f2, .string x.f2, .slice A5 x.f3.length c5, .slice A6 x.f4.length c6] 34)) (.cells #[.int .i64 y.f0, .bool y.f1.f0, .slice B2 y.f1.f1.length d2, .int .i64 y.f1.f2, .string y.f2, .slice B5 y.f3.length d5, .slice B6 y.f4.length d6] 34)
  rw [World.size_alloc] at this
  exact this
 have HZ := Lib.hid hz
 have HA2 := Lib.hid hA2
 have HX := Lib.hid hx
 have HY := Lib.hid hy
 have HW2 := Lib.hid hW2
 clear hz hA2 hx hy hW2
 by_cases hc : cv ≠ 0
 · have hr := HR.out
   rw [if_pos (.inl hc)] at hr
   have HR2 := Lib.hid hr
   have hg : (cv != 0) = true := by simp [hc]
   clear HR hr hc HDC
   go_enter Tryz.func40, Tryz.ntmps40
   go_upto_region 3 with (first | (go_at_call 62; (with_reducible refine (HCI.out _).mono ?_); rintro e w3 ⟨rfl, rfl⟩))
   rw [← HW2.out]
   clear HW2 HCI HCV
   have HAd := Lib.hid (below_drew HA2.out)
   obtain ⟨hx, hxf⟩ := bcells (blk_drew HX.out) (Below.refl _ _)
   obtain ⟨hy, hyf⟩ := bcells (blk_drew HY.out) (Below.refl _ _)
   have hsz := HA2.out.size
   rw [← World.size_drew] at hsz
   clear HA2 HZ
   go_region_held3 (fun w' => w'.cell? ⟨w.heap.size, 4, none⟩ = some (.string x.f2) ∧ w'.cell? ⟨w.heap.size, 5, none⟩ = some (.slice A5 x.f3.length c5) ∧ w'.cell? ⟨w.heap.size, 6, none⟩ = some (.slice A6 x.f4.length c6) ∧ w'.cell? ⟨w.heap.size + 1, 4, none⟩ = some (.string y.f2) ∧ w'.cell? ⟨w.heap.size + 1, 5, none⟩ = some (.slice B5 y.f3.length d5) ∧ w'.cell? ⟨w.heap.size + 1, 6, none⟩ = some (.slice B6 y.f4.length d6)) (go_keep) (first
    | (go_at_call 64; (with_reducible refine (CompareStr_any _ _ _).mono ?_); rintro e w4 ⟨rfl, rfl⟩)
    | (go_at_call 65; (with_reducible refine (HCK.out _ HAd.out).mono ?_); rintro e w4 ⟨rfl, rfl⟩)
    | (go_at_call 66; (with_reducible refine (HCF.out _ HAd.out).mono ?_); rintro e w5 ⟨rfl, hB5⟩; obtain ⟨hx5, hxf5⟩ := bcells (blk_drew HX.out) hB5; obtain ⟨hy5, hyf5⟩ := bcells (blk_drew HY.out) hB5)
    | (go_at_call 63; (with_reducible refine (or_four _ _ _ _ _).mono ?_); rintro e w6 ⟨rfl, rfl⟩))
   rename_i q_ k_ a_ s_
   refine a_ _ _ ?_
   clear a_ s_
   have hs5 := hB5.size
   have HB5 := Lib.hid ((HAd.out.trans (hB5.mono hsz)).alloc (Nat.le_trans hsz hs5) (.cells #[.int .i64 cv, .int .i64 (strC x.f2 y.f2), .int .i64 (lexC strC x.f4 y.f4), .int .i64 (lexC vord x.f3 y.f3)] 3))
   clear hB5
   go_wp2
   go_ret
   exact ⟨by rw [HR2.out]; rfl, HB5.out⟩
 · obtain rfl : cv = 0 := by omega
   by_cases h3 : x.f0 ≠ 3
   · have hr := HR.out
     rw [if_pos (.inr h3)] at hr
     have HR2 := Lib.hid hr
     have hg : (x.f0 != 3) = true := by simp [h3]
     clear HR hr h3 HDC hc
     go_enter Tryz.func40, Tryz.ntmps40
     go_upto_region 3 with (first | (go_at_call 62; (with_reducible refine (HCI.out _).mono ?_); rintro e w3 ⟨rfl, rfl⟩))
     rw [← HW2.out]
     clear HW2 HCI HCV
     have HAd := Lib.hid (below_drew HA2.out)
     obtain ⟨hx, hxf⟩ := bcells (blk_drew HX.out) (Below.refl _ _)
     obtain ⟨hy, hyf⟩ := bcells (blk_drew HY.out) (Below.refl _ _)
     have hsz := HA2.out.size
     rw [← World.size_drew] at hsz
     clear HA2 HZ
     go_region_held3 (fun w' => w'.cell? ⟨w.heap.size, 4, none⟩ = some (.string x.f2) ∧ w'.cell? ⟨w.heap.size, 5, none⟩ = some (.slice A5 x.f3.length c5) ∧ w'.cell? ⟨w.heap.size, 6, none⟩ = some (.slice A6 x.f4.length c6) ∧ w'.cell? ⟨w.heap.size + 1, 4, none⟩ = some (.string y.f2) ∧ w'.cell? ⟨w.heap.size + 1, 5, none⟩ = some (.slice B5 y.f3.length d5) ∧ w'.cell? ⟨w.heap.size + 1, 6, none⟩ = some (.slice B6 y.f4.length d6)) (go_keep) (first
      | (go_at_call 64; (with_reducible refine (CompareStr_any _ _ _).mono ?_); rintro e w4 ⟨rfl, rfl⟩)
      | (go_at_call 65; (with_reducible refine (HCK.out _ HAd.out).mono ?_); rintro e w4 ⟨rfl, rfl⟩)
      | (go_at_call 66; (with_reducible refine (HCF.out _ HAd.out).mono ?_); rintro e w5 ⟨rfl, hB5⟩; obtain ⟨hx5, hxf5⟩ := bcells (blk_drew HX.out) hB5; obtain ⟨hy5, hyf5⟩ := bcells (blk_drew HY.out) hB5)
      | (go_at_call 63; (with_reducible refine (or_four _ _ _ _ _).mono ?_); rintro e w6 ⟨rfl, rfl⟩))
     rename_i q_ k_ a_ s_
     refine a_ _ _ ?_
     clear a_ s_
     have hs5 := hB5.size
     have HB5 := Lib.hid ((HAd.out.trans (hB5.mono hsz)).alloc (Nat.le_trans hsz hs5) (.cells #[.int .i64 0, .int .i64 (strC x.f2 y.f2), .int .i64 (lexC strC x.f4 y.f4), .int .i64 (lexC vord x.f3 y.f3)] 3))
     clear hB5
     go_wp2
     go_ret
     exact ⟨by rw [HR2.out]; rfl, HB5.out⟩
   · have h3' : x.f0 = 3 := by omega
     have hr := HR.out
     rw [if_neg (by intro h; rcases h with h | h; exact h rfl; exact h h3')] at hr
     have HR2 := Lib.hid hr
     have hy3 : y.f0 = 3 := by rw [← cmpI_zero HCV.out.symm]; exact h3'
     have HD2 := Lib.hid (HDC.out h3' hy3)
     have hg : (x.f0 != 3) = false := by simp [h3']
     clear HR hr h3 HDC hc HCF HCK h3' hy3
     have hbI := fun W (hW : Below W2.heap.size W2 W) => HA2.out.trans (hW.mono HA2.out.size)
     rw [HW2.out] at hbI HX HY
     go_enter Tryz.func40, Tryz.ntmps40
     go_wp2_with (first
      | (go_at_call 62; (with_reducible refine (HCI.out _).mono ?_); rintro e w3 ⟨rfl, rfl⟩)
      | (go_at_call 67; (with_reducible refine (HD2.out _ (hbI _ (Below.refl _ _))).mono ?_); rintro e w4 ⟨rfl, hB4⟩; have HB4 := Lib.hid (hbI _ hB4); clear hB4))
     go_ret
     exact ⟨by rw [HR2.out]; rfl, HB4.out⟩
structure KeyEl (w : World) (e : PEl) : Prop where
 ex : ∃ kc vc : List Value, e.row = kc ++ vc ∧ vc.length = 7 ∧ k34.K w e.key kc
 ok : OkV e.key
 num : NumOk e.key
theorem KeyEl.below {w w' : World} {e : PEl} (h : KeyEl w e) (hb : Below w.heap.size w w') : KeyEl w' e := by
 obtain ⟨kc, vc, h1, h2, h3⟩ := h.ex
 exact ⟨⟨kc, vc, h1, h2, k34.K_below hb h3⟩, h.ok, h.num⟩
set_option maxHeartbeats 1000000 in
theorem order_call (x y : PEl) (w : World) (cb : Nat) (hx : KeyEl w x) (hy : KeyEl w y) (hcb : w.heap[cb]? = some (.cells #[.func (.func 40) #[] #[]] 43 (0, 0))) :
 Calls Tryz.prog 74 #[.agg x.row.toArray, .agg y.row.toArray, .pointer (some ⟨cb, 0, none⟩)] w fun e w' => e = .returned (.int .i64 (vord x.key y.key)) ∧ Below w.heap.size w w' := by
 obtain ⟨kc, vc, e1, e2, hk⟩ := hx.ex
 obtain ⟨lc, uc, f1, f2, hl⟩ := hy.ex
 rw [e1, f1]
 have hord : ∀ W, Below w.heap.size w W → Calls Tryz.prog 40 #[.agg kc.toArray, .agg lc.toArray] W fun e w' => e = .returned (.int .i64 (vord x.key y.key)) ∧ Below W.heap.size W w' := fun W hW =>
  Order_any x.key y.key kc lc W (k34.K_below hW hk) (k34.K_below hW hl) hx.ok hy.ok hx.num hy.num
 obtain ⟨A2, c2, A5, c5, A6, c6, rfl, -⟩ := k34_open hk
 obtain ⟨B2, d2, B5, d5, B6, d6, rfl, -⟩ := k34_open hl
 obtain ⟨v0, v1, v2, v3, v4, v5, v6, rfl⟩ := list7 e2
 obtain ⟨u0, u1, u2, u3, u4, u5, u6, rfl⟩ := list7 f2
 generalize vord x.key y.key = r at *
 have HORD := Lib.hid hord
 obtain ⟨W2, hW2⟩ : ∃ W2, W2 = (w.alloc (.cells #[.int .i64 x.key.f0, .bool x.key.f1.f0, .slice A2 x.key.f1.f1.length c2, .int .i64 x.key.f1.f2, .string x.key.f2, .slice A5 x.key.f3.length c5, .slice A6 x.key.f4.length c6, v0, v1, v2, v3, v4, v5, v6] 81)).alloc (.cells #[.int .i64 y.key.f0, .bool y.key.f1.f0, .slice B2 y.key.f1.f1.length d2, .int .i64 y.key.f1.f2, .string y.key.f2, .slice B5 y.key.f3.length d5, .slice B6 y.key.f4.length d6, u0, u1, u2, u3, u4, u5, u6] 81) := ⟨_, rfl⟩
 have hz : W2.heap.size = w.heap.size + 2 := by rw [hW2]; simp
 have hA2 : Below w.heap.size w W2 := by rw [hW2]; exact ((Below.refl _ _).alloc (Nat.le_refl _) _).alloc (by simp) _
 have hbx : W2.heap[w.heap.size]? = some (.cells #[.int .i64 x.key.f0, .bool x.key.f1.f0, .slice A2 x.key.f1.f1.length c2, .int .i64 x.key.f1.f2, .string x.key.f2, .slice A5 x.key.f3.length c5, .slice A6 x.key.f4.length c6, v0, v1, v2, v3, v4, v5, v6] 81 (0, 0)) := by rw [hW2]; exact blk_alloc (blk_new _ _) _
 have hby : W2.heap[w.heap.size + 1]? = some (.cells #[.int .i64 y.key.f0, .bool y.key.f1.f0, .slice B2 y.key.f1.f1.length d2, .int .i64 y.key.f1.f2, .string y.key.f2, .slice B5 y.key.f3.length d5, .slice B6 y.key.f4.length d6, u0, u1, u2, u3, u4, u5, u6] 81 (0, 0)) := by
  rw [hW2]
  have := blk_new (w.alloc (.cells #[.int .i64 x.key.f0, .bool x.key.f1.f0, .slice A2 x.key.f1.f1.length c2, .int .i64 x.key.f1.f2, .string x.key.f2, .slice A5 x.key.f3.length c5, .slice A6 x.key.f4.length c6, v0, v1, v2, v3, v4, v5, v6] 81)) (.cells #[.int .i64 y.key.f0, .bool y.key.f1.f0, .slice B2 y.key.f1.f1.length d2, .int .i64 y.key.f1.f2, .string y.key.f2, .slice B5 y.key.f3.length d5, .slice B6 y.key.f4.length d6, u0, u1, u2, u3, u4, u5, u6] 81)
  rw [World.size_alloc] at this
  exact this
 have hcw : W2.heap[cb]? = some (.cells #[.func (.func 40) #[] #[]] 43 (0, 0)) := (hA2.block cb (blk_lt hcb)).trans hcb
 obtain ⟨hc1, hf1⟩ := bcells hbx (Below.refl _ _)
 obtain ⟨hc2, hf2⟩ := bcells hby (Below.refl _ _)
 obtain ⟨hc3, hf3⟩ := bcells hcw (Below.refl _ _)
 have HA2 := Lib.hid hA2
 have HW2 := Lib.hid hW2
 have HZ := Lib.hid hz
 clear hA2 hz hbx hby hcw hcb hk hl hord hW2 hx hy e1 f1 e2 f2
 go_enter Tryz.func74, Tryz.ntmps74
 go_upto_region 1 with (fail)
 rw [← HW2.out]
 go_wp2_with (first | (go_at_call 40; (with_reducible refine (HORD.out _ HA2.out).mono ?_); rintro e w2 ⟨rfl, hB2⟩; have HB2 := Lib.hid hB2; clear hB2))
 go_ret
 exact ⟨rfl, HA2.out.trans (HB2.out.mono (by have := HZ.out; omega))⟩
theorem cmp_sorted (w00 w0 : World) (g cb : Nat) (h00 : Below w00.heap.size w00 w0) (hg : w00.heap.size ≤ g) (hcg : cb ≠ g) (hcb : w0.heap[cb]? = some (.cells #[.func (.func 40) #[] #[]] 43 (0, 0))) : CmpIn w0 g cb (KeyEl w00) := by
 intro W hW x y hx hy
 have hb : Below w00.heap.size w00 W := hW.below h00 hg h00.size
 exact order_call x y W cb (hx.below hb) (hy.below hb) ((hW.block cb (blk_lt hcb) hcg).trans hcb)
theorem sortStable_in (w0 : World) (g cb : Nat) (U : PEl → Prop) (O : List PEl) (N cap : Nat) (W : World) (hA : SortArgs w0 g cb U O N) (h : SW w0 g O W) :
 Calls Tryz.prog 73 #[.slice (some ⟨g, 0, none⟩) N cap, .func (.func 74) #[] #[.pointer (some ⟨cb, 0, none⟩)]] W fun e w' => e = .returned (.tuple #[]) ∧ ∃ S', S'.Perm O ∧ S'.Pairwise elt ∧ SW w0 g S' w' := by
 have HS := Lib.hid (stable_in w0 g cb U O N cap W hA h)
 clear hA h
 go_enter Tryz.func73, Tryz.ntmps73
 go_wp2_with (go_at_call 99; (with_reducible refine (HS.out).mono ?_); rintro e w1 ⟨rfl, hT⟩; have HT := Lib.hid hT; clear hT)
 exact bodyPost_end (v := .tuple #[]) (by simp [results, Tryz.f73, go_sem]) rfl ⟨rfl, HT.out⟩
theorem SW.base {w0 w1 W : World} {g : Nat} {els : List PEl} (h : SW w1 g els W) (k : KeepG w0 g w1) : SW w0 g els W := ⟨k.trans h.keep, h.at_, h.there, h.ok⟩
theorem sorted_in (w00 w0 : World) (g : Nat) (O : List PEl) (N cap : Nat) (hN : N = O.length) (hcap : N ≤ 1048576) (h00 : Below w00.heap.size w00 w0) (hg0 : w00.heap.size ≤ g) (hg : g < w0.heap.size) (hU : ∀ e ∈ O, KeyEl w00 e) (ht : O.Pairwise (fun x y : PEl => x.tag < y.tag)) (h : SW w0 g O w0) :
 Calls Tryz.prog 48 #[.slice (some ⟨g, 0, none⟩) N cap, .func (.func 40) #[] #[]] w0 fun e w' => e = .returned (.slice (some ⟨g, 0, none⟩) N cap) ∧ ∃ S', S'.Perm O ∧ S'.Pairwise elt ∧ SW w0 g S' w' := by
 obtain ⟨W2, hW2⟩ : ∃ W2, W2 = w0.alloc (.cells #[.func (.func 40) #[] #[]] 43) := ⟨_, rfl⟩
 have hb2 : Below w0.heap.size w0 W2 := by rw [hW2]; exact (Below.refl _ _).alloc (Nat.le_refl _) _
 have hz : W2.heap.size = w0.heap.size + 1 := by rw [hW2]; simp
 have hcb : W2.heap[w0.heap.size]? = some (.cells #[.func (.func 40) #[] #[]] 43 (0, 0)) := by rw [hW2]; exact blk_new _ _
 have hsw : SW W2 g O W2 := ⟨KeepG.refl _ _, (h.grow hg hb2).at_, (h.grow hg hb2).there, h.ok⟩
 have hc : CmpIn W2 g w0.heap.size (KeyEl w00) := cmp_sorted w00 W2 g w0.heap.size (h00.trans (hb2.mono h00.size)) hg0 (by omega) hcb
 have HS := Lib.hid (sortStable_in W2 g w0.heap.size (KeyEl w00) O N cap W2 ⟨by omega, hc, hN, hcap, hU, ht⟩ hsw)
 have HK := Lib.hid ((KeepG.refl w0 g).then hb2 (Nat.le_refl _))
 have HW2 := Lib.hid hW2
 clear hW2 hb2 hz hcb hsw hc hU ht h h00 hN
 go_enter Tryz.func48, Tryz.ntmps48
 go_upto_region 1 with (fail)
 rw [← HW2.out]
 go_wp2_with (go_at_call 73; (with_reducible refine (HS.out).mono ?_); rintro e w1 ⟨rfl, hT⟩; have HT := Lib.hid hT; clear hT)
 go_ret
 obtain ⟨S', k1, k2, k3⟩ := HT.out
 exact ⟨rfl, S', k1, k2, k3.base HK.out⟩
theorem infoP_ : (Tryz.prog.info? 81).map (fun i => (i.zero, i.size, i.bytes)) = some (some (.agg #[(.int .i64 0), (.bool false), (.slice none 0 0), (.int .i64 0), (.string ⟨#[]⟩), (.slice none 0 0), (.slice none 0 0), (.int .i64 0), (.bool false), (.slice none 0 0), (.int .i64 0), (.string ⟨#[]⟩), (.slice none 0 0), (.slice none 0 0)]), 14, 224) := by kernel_rfl
structure PairMid2 (w w2 wr : World) (ks l : List V) (v : Value) (k : Nat) : Prop where
 ex : ∃ rows : List (List Value), rows.length = k ∧ Kd.R (Kd.raw 14) 81 wr w2.heap.size (fun _ => True) v rows ∧ ∀ (j : Nat) (r : List Value), rows[j]? = some r → ∃ kc vc, r = kc ++ vc ∧ k34.K w (rd_T34 ks (j : Int)) kc ∧ k34.K w (rd_T34 l (j : Int)) vc
 below : Below w2.heap.size w2 wr
 nil : k = 0 → v = .slice none 0 0
abbrev PairMid (w wr : World) := PairMid2 w w wr
theorem box7 (wr : World) (a0 a1 a2 a3 a4 a5 a6 : Value) : ∃ W5, W5 = wr.alloc (.cells #[a0, a1, a2, a3, a4, a5, a6] 34) ∧ W5.heap[wr.heap.size]? = some (.cells #[a0, a1, a2, a3, a4, a5, a6] 34 (0, 0)) ∧ Below wr.heap.size wr W5 ∧ W5.heap.size = wr.heap.size + 1 :=
 ⟨_, rfl, blk_new _ _, (Below.refl _ _).alloc (Nat.le_refl _) _, by simp⟩
set_option maxHeartbeats 4000000 in
theorem pairs_from (ks l : List V) (A B : Option Addr) (c d : Nat) (w w2 : World) (h2 : Below w.heap.size w w2) (hA : k34.C w A ks.length ks) (hB : k34.C w B l.length l) (hl : l.length = ks.length) (hz : ks.length ≤ 1048576) :
 Calls Tryz.prog 49 #[.slice A ks.length c, .slice B l.length d] w2 fun e w' => ∃ v, e = .returned v ∧ PairMid2 w w2 w' ks l v ks.length := by
 have H2 := Lib.hid h2
 clear h2
 have HA := Lib.hid hA
 have HB := Lib.hid hB
 have HL := Lib.hid hl
 rw [hl]
 obtain ⟨n, hn⟩ : ∃ n, n = ks.length := ⟨_, rfl⟩
 rw [← hn]
 rw [← hn] at hz
 have HN := Lib.hid hn
 clear hA hB hl hn
 have H0 : Hid (PairMid2 w w2 w2 ks l (.slice none 0 0) 0) := Lib.hid ⟨⟨[], rfl, Kd.R_nil _ _ _ _ _, fun j r h => by simp at h⟩, Below.refl _ _, fun _ => rfl⟩
 go_enter Tryz.func49, Tryz.ntmps49
 go_wp2
 go_loopw [5, 10] (fun vo vi wr => ∃ (k : Nat) (G : Option Addr) (cap : Nat), k ≤ n ∧ vi = .int .i64 k ∧ vo = .slice G k cap ∧ Hid (PairMid2 w w2 wr ks l (.slice G k cap) k)) (fun vo vi _ => n - (intOf vi).toNat)
 case atStart => exact ⟨0, none, 0, Nat.zero_le _, rfl, rfl, H0⟩
 case round =>
  obtain ⟨k, G, cap, hk, rfl, rfl, HM⟩ := hrel
  by_cases hlt : k < n
  · have hlt2 : (k : Int) < (n : Int) := by omega
    obtain ⟨ad, a0, a1, a2, a3, a4, a5, a6, rfl, hKa, p0, p1, p2, p3, p4, p5, p6⟩ := at_V HA.out (H2.out.trans (HM.out.below.mono H2.out.size)) k (by rw [← HN.out]; exact hlt)
    obtain ⟨bd, b0, b1, b2, b3, b4, b5, b6, rfl, hKb, q0, q1, q2, q3, q4, q5, q6⟩ := at_V HB.out (H2.out.trans (HM.out.below.mono H2.out.size)) k (by rw [HL.out, ← HN.out]; exact hlt)
    have hla := k34.K_len hKa
    have hoa := k34.K_one hKa
    have hlb := k34.K_len hKb
    have hob := k34.K_one hKb
    have HONE : Hid (∀ u ∈ ([a0, a1, a2, a3, a4, a5, a6, b0, b1, b2, b3, b4, b5, b6] : List Value), u.oneCell' = true) := Lib.hid (fun u hu => by
     rcases List.mem_append.1 (show u ∈ [a0, a1, a2, a3, a4, a5, a6] ++ [b0, b1, b2, b3, b4, b5, b6] from hu) with h | h
     · exact hoa u h
     · exact hob u h)
    have HKA := Lib.hid hKa
    have HKB := Lib.hid hKb
    obtain ⟨A2, c2, A5, c5, A6, c6, e, -⟩ := k34_open hKa
    simp only [List.cons.injEq, and_true] at e
    obtain ⟨rfl, rfl, rfl, rfl, rfl, rfl, rfl⟩ := e
    obtain ⟨W5, hW5, hbx, hb5, hz5⟩ := box7 wr (.int .i64 (rd_T34 ks (k : Int)).f0) (.bool (rd_T34 ks (k : Int)).f1.f0) (.slice A2 (rd_T34 ks (k : Int)).f1.f1.length c2) (.int .i64 (rd_T34 ks (k : Int)).f1.f2) (.string (rd_T34 ks (k : Int)).f2) (.slice A5 (rd_T34 ks (k : Int)).f3.length c5) (.slice A6 (rd_T34 ks (k : Int)).f4.length c6)
    have HW5 := Lib.hid hW5
    have HBX := Lib.hid hbx
    have HB5 := Lib.hid hb5
    have HZ5 := Lib.hid hz5
    obtain ⟨hc0, hf0⟩ := bcells (blk_new wr (.cells #[.int .i64 0, .bool false, .slice none 0 0, .int .i64 0, .string ⟨#[]⟩, .slice none 0 0, .slice none 0 0] 34)) (Below.refl _ _)
    have HQ : Hid (∀ (p : Addr) (u : Value), wr.cell? p = some u → W5.drew.cell? p = some u) := Lib.hid (fun p u h => pw_cell_below (below_drew HB5.out) h)
    have HQ0 := Lib.hid (HQ.out _ _ q0)
    have HQ1 := Lib.hid (HQ.out _ _ q1)
    have HQ2 := Lib.hid (HQ.out _ _ q2)
    have HQ3 := Lib.hid (HQ.out _ _ q3)
    have HQ4 := Lib.hid (HQ.out _ _ q4)
    have HQ5 := Lib.hid (HQ.out _ _ q5)
    have HQ6 := Lib.hid (HQ.out _ _ q6)
    obtain ⟨rows, hrl, hR, hrk⟩ := HM.out.ex
    have HR5 := Lib.hid (Kd.R_below hR (below_drew HB5.out))
    have HRL := Lib.hid hrl
    have HRK := Lib.hid hrk
    have HBW := Lib.hid (HM.out.below.trans ((below_drew HB5.out).mono HM.out.below.size))
    have HSZ : Hid (w2.heap.size ≤ W5.drew.heap.size) := Lib.hid (HBW.out.size)
    clear hKa hKb hla hlb hoa hob hW5 hbx hb5 hz5 q0 q1 q2 q3 q4 q5 q6 hrl hR hrk
    go_upto_region 5 with (fail)
    rw [← HW5.out]
    clear hc0 hf0 p0 p1 p2 p3 p4 p5 p6
    obtain ⟨hc5, hf5⟩ := bcells (blk_drew HBX.out) (Below.refl _ _)
    have q0 := HQ0.out
    have q1 := HQ1.out
    have q2 := HQ2.out
    have q3 := HQ3.out
    have q4 := HQ4.out
    have q5 := HQ5.out
    have q6 := HQ6.out
    generalize (rd_T34 ks (k : Int)).f1.f1.length = n2 at *
    go_region_law (refine Kd.R_append_step (Kd.raw 14) (w0 := w2) w2.heap.size (by simp [Region.wanted]) (.tmp 15) (.tmp 22) 77 81 (.agg #[.int .i64 0, .bool false, .slice none 0 0, .int .i64 0, .string ⟨#[]⟩, .slice none 0 0, .slice none 0 0, .int .i64 0, .bool false, .slice none 0 0, .int .i64 0, .string ⟨#[]⟩, .slice none 0 0, .slice none 0 0]) 224 rfl Tryz.underlying77 infoP_ rfl (by decide) (by decide) (.slice G k cap) rows _ _ (fun _ => True) (fun _ => False) rfl rfl ⟨rfl, rfl, HONE.out⟩ (fun _ h => h.elim) (fun _ _ => trivial) HR5.out HBW.out HSZ.out (by rw [HRL.out]; omega) ?_; intro v1 w7 hR7 hB7 hg7 hat7)
    all_goals
     rename_i q_ k_ a_
     refine a_ _ _ ?_
     clear a_ hc5 hf5 q0 q1 q2 q3 q4 q5 q6
     obtain ⟨G7, cap7, rfl⟩ := Kd.R_slice hR7
     have hl7 : (rows ++ [[.int .i64 (rd_T34 ks (k : Int)).f0, .bool (rd_T34 ks (k : Int)).f1.f0, .slice A2 n2 c2, .int .i64 (rd_T34 ks (k : Int)).f1.f2, .string (rd_T34 ks (k : Int)).f2, .slice A5 (rd_T34 ks (k : Int)).f3.length c5, .slice A6 (rd_T34 ks (k : Int)).f4.length c6, b0, b1, b2, b3, b4, b5, b6]] : List (List Value)).length = k + 1 := by rw [List.length_append, HRL.out]; rfl
     have hM7 : PairMid2 w w2 w7 ks l (.slice G7 (k + 1) cap7) (k + 1) := ⟨⟨_, hl7, by rw [hl7] at hR7; exact hR7, fun j r hj => by
      rcases Nat.lt_or_ge j k with h | h
      · rw [List.getElem?_append_left (by rw [HRL.out]; exact h)] at hj
        exact HRK.out j r hj
      · have hjl := (List.getElem?_eq_some_iff.1 hj).1
        rw [hl7] at hjl
        obtain rfl : j = k := by omega
        rw [List.getElem?_append_right (by rw [HRL.out]; exact Nat.le_refl _), HRL.out, Nat.sub_self] at hj
        exact ⟨_, _, (Option.some.inj hj).symm.trans rfl, HKA.out, HKB.out⟩⟩, hB7, fun h => absurd h (Nat.succ_ne_zero _)⟩
     rw [hl7]
     have HM7 := Lib.hid hM7
     clear hM7 hl7 hR7 hB7 hg7 hat7
     go_wp2_with fail
     go_roundw
     case rel => exact ⟨k + 1, G7, cap7, hlt, by first | rfl | exact congrArg (Value.int .i64) (wrap64_up k (by omega)), rfl, HM7⟩
     case measure => first | (rw [wrap64_up k (by omega)]; show n - (k + 1) < n - k; omega) | (show n - (k + 1) < n - k; omega)
  · have hlt2 : ¬ (k : Int) < (n : Int) := by omega
    obtain rfl : k = n := by omega
    go_wp2
    go_ret
    exact ⟨_, rfl, HM.out⟩
theorem pairs_any (ks l : List V) (A B : Option Addr) (c d : Nat) (w : World) (hA : k34.C w A ks.length ks) (hB : k34.C w B l.length l) (hl : l.length = ks.length) (hz : ks.length ≤ 1048576) :
 Calls Tryz.prog 49 #[.slice A ks.length c, .slice B l.length d] w fun e w' => ∃ v, e = .returned v ∧ PairMid w w' ks l v ks.length := pairs_from ks l A B c d w w (Below.refl _ _) hA hB hl hz
def PairEl (w : World) (e : PEl) : Prop := ∃ kc vc : List Value, e.row = kc ++ vc ∧ k34.K w e.key kc ∧ k34.K w e.val vc
def pels (rows : List (List Value)) (ks l : List V) (n : Nat) : List PEl := (List.range n).map fun j => ⟨rows.getD j [], rd_T34 ks (j : Int), rd_T34 l (j : Int), j⟩
theorem pels_len {rows : List (List Value)} {ks l : List V} {n : Nat} : (pels rows ks l n).length = n := by simp [pels]
theorem pels_at {rows : List (List Value)} {ks l : List V} {n i : Nat} {e : PEl} (h : (pels rows ks l n)[i]? = some e) : i < n ∧ e = ⟨rows.getD i [], rd_T34 ks (i : Int), rd_T34 l (i : Int), i⟩ := by
 have hi : i < n := by have := (List.getElem?_eq_some_iff.1 h).1; rwa [pels_len] at this
 refine ⟨hi, ?_⟩
 unfold pels at h
 rw [List.getElem?_map, List.getElem?_range hi] at h
 exact (Option.some.inj h).symm
theorem pels_tags (rows : List (List Value)) (ks l : List V) (n : Nat) : (pels rows ks l n).Pairwise (fun x y : PEl => x.tag < y.tag) := by
 unfold pels
 rw [List.pairwise_map]
 exact List.pairwise_lt_range
theorem row_of_raw {inner : List Value} {rows : List (List Value)} {i : Nat} {r : List Value} (hr : Reps (fun (x : List Value) cs => cs = x ∧ cs.length = 14 ∧ ∀ u ∈ cs, u.oneCell' = true) 14 rows inner) (hi : rows[i]? = some r) : r = (inner.drop (i * 14)).take 14 ∧ r.length = 14 ∧ ∀ u ∈ r, u.oneCell' = true := by
 obtain ⟨h1, h2, h3⟩ := hr.2 i r hi
 rw [h1] at h2 h3
 exact ⟨h1.symm, h2, h3⟩
theorem sw_of_pairs {w w2 W : World} {ks l : List V} {v : Value} {n : Nat} (h : PairMid2 w w2 W ks l v n) (hn : 0 < n) : ∃ (g cap : Nat) (rows : List (List Value)), v = .slice (some ⟨g, 0, none⟩) n cap ∧ w2.heap.size ≤ g ∧ g < W.heap.size ∧ SW W g (pels rows ks l n) W ∧ ∀ e ∈ pels rows ks l n, PairEl w e := by
 obtain ⟨rows, hrl, hR, hrk⟩ := h.ex
 obtain ⟨h0, inner, ho, hr⟩ := hR
 rcases ho.2 with ⟨_, e0⟩ | ⟨g, cap, cur, hv, hb, hg, hnc, hcm, hcs, htk⟩
 · omega
 · have hgl := blk_lt hg
   have hsz : (Kd.raw 14).sz = 14 := rfl
   rw [hsz] at hcs htk hr
   rw [hrl] at hv htk hnc
   have hrow : ∀ i e, (pels rows ks l n)[i]? = some e → rows[i]? = some e.row ∧ i < n := fun i e hi => by
    obtain ⟨hin, rfl⟩ := pels_at hi
    refine ⟨?_, hin⟩
    show rows[i]? = some (rows.getD i [])
    rw [List.getD_eq_getElem?_getD, List.getElem?_eq_getElem (by omega)]
    rfl
   refine ⟨g, cap, rows, hv, hb, hgl, ⟨KeepG.refl _ _, fun i e hi j u hu => ?_, fun j hj => ?_, fun e he => ?_⟩, fun e he => ?_⟩
   · obtain ⟨k1, k2⟩ := hrow i e hi
     obtain ⟨k3, k4, k5⟩ := row_of_raw hr k1
     have hj : j < 14 := by rw [← k4]; exact (List.getElem?_eq_some_iff.1 hu).1
     rw [k3, List.getElem?_take_of_lt hj, List.getElem?_drop, ← htk] at hu
     rw [List.getElem?_take_of_lt (by omega)] at hu
     rw [blk_cell hg]
     rw [Array.getElem?_toList] at hu
     exact hu
   · rw [pels_len] at hj
     refine ⟨?_, blk_frozen hg _⟩
     rw [blk_cell hg, Array.getElem?_eq_getElem (by rw [hcs]; have := Nat.mul_le_mul_right 14 hnc; omega)]
     rfl
   · obtain ⟨i, hi⟩ := List.getElem?_of_mem he
     obtain ⟨k1, k2⟩ := hrow i e hi
     obtain ⟨k3, k4, k5⟩ := row_of_raw hr k1
     exact ⟨k4, k5⟩
   · obtain ⟨i, hi⟩ := List.getElem?_of_mem he
     obtain ⟨k1, k2⟩ := hrow i e hi
     obtain ⟨_, he2⟩ := pels_at hi
     obtain ⟨kc, vc, m1, m2, m3⟩ := hrk i e.row k1
     refine ⟨kc, vc, m1, ?_, ?_⟩
     · rw [he2]; exact m2
     · rw [he2]; exact m3
theorem keyEl_of {w : World} {e : PEl} (h : PairEl w e) (ho : OkV e.key) (hn : NumOk e.key) : KeyEl w e := by
 obtain ⟨kc, vc, h1, h2, h3⟩ := h
 exact ⟨⟨kc, vc, h1, k34.K_len h3, h2⟩, ho, hn⟩
def Sorted (ks l ys : List V) : Prop := ∃ S : List PEl, S.Perm (pels [] ks l ks.length) ∧ S.Pairwise elt ∧ ys = S.map PEl.val
def lask (l ks : List V) : Int := if orL [vchks l, vchks ks] ≠ 0 then orL [vchks l, vchks ks] else if l.length ≠ ks.length then 3 else 0
set_option maxHeartbeats 1000000 in
theorem oask_any (l ks : List V) (A B : Option Addr) (c d : Nat) (w : World) (hLD : LaidW w) (hA : k34.C w A l.length l) (hB : k34.C w B ks.length ks) (hO : ∀ x ∈ l, OkV x) (hO2 : ∀ x ∈ ks, OkV x) :
 Calls Tryz.prog 46 #[.slice A l.length c, .slice B ks.length d] w fun e w' => e = .returned (.int .i64 (lask l ks)) ∧ Below w.heap.size w w' := by
 have HC1 := Lib.hid (Checks_any l A c w hLD hA hO)
 have HC2 : Hid (∀ W, Below w.heap.size w W → Calls Tryz.prog 38 #[.slice B ks.length d] W fun e w' => e = .returned (.int .i64 (vchks ks)) ∧ Below W.heap.size W w') := Lib.hid (fun W hW => Checks_any ks B d W (hLD.below hW) (Kd.C_below hB hW) hO2)
 have hl1 := hA.2.1
 have hl2 := hB.2.1
 obtain ⟨r, hr⟩ : ∃ r, r = lask l ks := ⟨_, rfl⟩
 rw [← hr]
 unfold lask at hr
 generalize vchks l = a at *
 generalize vchks ks = b at *
 obtain ⟨o, ho⟩ : ∃ o, o = orL [a, b] := ⟨_, rfl⟩
 rw [← ho] at hr
 have HO := Lib.hid ho
 clear hA hB hO hO2 hLD ho
 by_cases h0 : o = 0
 · rw [if_neg (by simpa using h0)] at hr
   by_cases hl : l.length = ks.length
   · rw [if_neg (by simpa using hl)] at hr
     have hg : (((l.length : Nat) : Int) != ((ks.length : Nat) : Int)) = false := by simp [hl]
     have hn : (o != 0) = false := by simp [h0]
     have HR := Lib.hid hr
     clear hr h0 hl
     go_enter Tryz.func46, Tryz.ntmps46
     go_wp2_with (first
      | (go_at_call 38; (with_reducible refine (HC1.out).mono ?_); rintro e w1 ⟨rfl, hB1⟩; have HB1 := Lib.hid hB1; clear hB1)
      | (go_at_call 38; (with_reducible refine (HC2.out _ HB1.out).mono ?_); rintro e w2 ⟨rfl, hB2⟩; have HB2 := Lib.hid (HB1.out.trans (hB2.mono HB1.out.size)); clear hB2)
      | (go_at_call 37; (with_reducible refine (or_err2 _ _ _ _).mono ?_); rintro e w3 ⟨rfl, rfl⟩; rw [← HO.out]))
     go_ret
     exact ⟨by rw [HR.out]; rfl, HB2.out.alloc HB2.out.size _⟩
   · rw [if_pos (by simpa using hl)] at hr
     have hg : (((l.length : Nat) : Int) != ((ks.length : Nat) : Int)) = true := by simp; omega
     have hn : (o != 0) = false := by simp [h0]
     have HR := Lib.hid hr
     clear hr h0 hl
     go_enter Tryz.func46, Tryz.ntmps46
     go_wp2_with (first
      | (go_at_call 38; (with_reducible refine (HC1.out).mono ?_); rintro e w1 ⟨rfl, hB1⟩; have HB1 := Lib.hid hB1; clear hB1)
      | (go_at_call 38; (with_reducible refine (HC2.out _ HB1.out).mono ?_); rintro e w2 ⟨rfl, hB2⟩; have HB2 := Lib.hid (HB1.out.trans (hB2.mono HB1.out.size)); clear hB2)
      | (go_at_call 37; (with_reducible refine (or_err2 _ _ _ _).mono ?_); rintro e w3 ⟨rfl, rfl⟩; rw [← HO.out]))
     go_ret
     exact ⟨by rw [HR.out]; rfl, HB2.out.alloc HB2.out.size _⟩
 · rw [if_pos h0] at hr
   have hn : (o != 0) = true := by simp [h0]
   have HR := Lib.hid hr
   clear hr h0
   go_enter Tryz.func46, Tryz.ntmps46
   go_wp2_with (first
    | (go_at_call 38; (with_reducible refine (HC1.out).mono ?_); rintro e w1 ⟨rfl, hB1⟩; have HB1 := Lib.hid hB1; clear hB1)
    | (go_at_call 38; (with_reducible refine (HC2.out _ HB1.out).mono ?_); rintro e w2 ⟨rfl, hB2⟩; have HB2 := Lib.hid (HB1.out.trans (hB2.mono HB1.out.size)); clear hB2)
    | (go_at_call 37; (with_reducible refine (or_err2 _ _ _ _).mono ?_); rintro e w3 ⟨rfl, rfl⟩; rw [← HO.out]))
   go_ret
   exact ⟨by rw [HR.out]; rfl, HB2.out.alloc HB2.out.size _⟩
theorem orL_none : ∀ {l : List Int}, orL l = 0 → ∀ x ∈ l, x = 0
 | [], _, x, hx => by cases hx
 | y :: l, h, x, hx => by
  rw [orL] at h
  by_cases hy : y = 0
  · rw [if_pos hy] at h
    rcases List.mem_cons.1 hx with rfl | hx
    · exact hy
    · exact orL_none h x hx
  · rw [if_neg hy] at h
    exact absurd h hy
theorem mem_valls : ∀ {l : List V} {x y : V}, x ∈ l → y ∈ vall x → y ∈ valls l
 | z :: l, x, y, h, hy => by
  rw [valls]
  rcases List.mem_cons.1 h with rfl | h
  · exact List.mem_append_left _ hy
  · exact List.mem_append_right _ (mem_valls h hy)
theorem num_of_own {x : V} (h : vown x = 0) (h3 : x.f0 = 3) : decOkB x.f1 = true := by
 unfold vown at h
 split at h
 · omega
 · split at h
   · contradiction
   · split at h
     · omega
     · split at h
       · rename_i hh
         simp only [Bool.and_eq_true] at hh
         have hn := hh.1.1
         unfold vnumbers at hn
         rw [if_pos h3] at hn
         simp only [beq_iff_eq] at hn
         unfold dchk at hn
         by_cases hd : decOkB x.f1 = true
         · exact hd
         · simp [hd] at hn
       · omega
theorem numOk_of_vall : ∀ x : V, (∀ y ∈ vall x, vown y = 0) → NumOk x := V.ind fun x ih h => by
 refine .mk x (fun h3 => num_of_own (h x (by rw [vall_eq]; exact List.mem_cons_self)) h3) fun y hy => ih y hy fun z hz => h z ?_
 rw [vall_eq]
 exact List.mem_cons_of_mem _ (mem_valls hy hz)
theorem numOk_of_vchk {x : V} (h : vchk x = 0) : NumOk x := by
 refine numOk_of_vall x fun y hy => ?_
 unfold vchk at h
 split at h
 · omega
 · split at h
   · omega
   · exact orL_none h _ (List.mem_map.2 ⟨y, hy, rfl⟩)
theorem numOk_of_vchks {l : List V} (h : vchks l = 0) : ∀ x ∈ l, NumOk x := fun x hx => numOk_of_vchk (orL_none h _ (List.mem_map.2 ⟨x, hx, rfl⟩))
theorem lask_zero {l ks : List V} (h : lask l ks = 0) : (∀ x ∈ l, NumOk x) ∧ (∀ x ∈ ks, NumOk x) ∧ l.length = ks.length := by
 unfold lask at h
 by_cases h0 : orL [vchks l, vchks ks] = 0
 · rw [if_neg (by simpa using h0)] at h
   have h1 := orL_none h0
   refine ⟨numOk_of_vchks (h1 _ List.mem_cons_self), numOk_of_vchks (h1 _ (List.mem_cons_of_mem _ List.mem_cons_self)), ?_⟩
   by_cases hl : l.length = ks.length
   · exact hl
   · rw [if_pos (by simpa using hl)] at h
     omega
 · rw [if_pos (by simpa using h0)] at h
   exact absurd h h0
end Go.Proofs.YtmfpakolfpoamaaGreatDoor.P

/- Texts of this claim, one behind the other. -/
import Derived.Test.YtmfpakolfpoamaaGreatDoorMOrderGroupsy
import Derived.Test.YtmfpakolfpoamaaGreatDoorMOrderGroupszb
namespace Go.Proofs.YtmfpakolfpoamaaGreatDoor.P
set_option linter.unusedVariables false
set_option linter.unusedSimpArgs false
open Go.RowKit Go.Proofs.YtmfpakolfpoamaaGreatDoorW.PrintWords Go.Proofs.YtmfpakolfpoamaaGreatDoorW.PrintMore Go.Proofs.YtmfpakolfpoamaaGreatDoorW.PrintLast
theorem new_of {B : Nat} {w W : World} (h : Below B w W) (cs : Array Value) (t : Nat) : (W.alloc (.cells cs t)).heap[W.heap.size]? = some (.cells cs t (0, 0)) := blk_new _ _
set_option maxHeartbeats 4000000 in
set_option maxRecDepth 100000 in
theorem groups_walk (l : List V) (A : Option Addr) (c : Nat) (ks : List V) (B : Option Addr) (d : Nat) (w : World) (hLD : LaidW w) (hl : l.length ≤ c) (hA : k34.C w A l.length l) (hO : ∀ x ∈ l, OkV x) (hn : l.length ≤ 1048576) (hl2 : ks.length ≤ d) (hB : k34.C w B ks.length ks) (hO2 : ∀ x ∈ ks, OkV x) (hn2 : ks.length ≤ 1048576) :
 Calls Tryz.prog 6 #[.slice A l.length c, .slice B ks.length d] w fun e w' => e = .returned (.bool true) ∧ Below w.heap.size w w' := by
 have HL := Lib.hid hLD
 have HGB : Hid (∀ W, Below w.heap.size w W → Calls Tryz.prog 21 #[.slice A l.length c, .slice B ks.length d] W fun e w' => ∃ G c gs, e = .returned (.tuple #[.slice G gs.length c, .int .i64 (lask l ks)]) ∧ ((Kd.slice 34 k34).C w' G gs.length gs ∧ (lask l ks = 0 → Grouped ks l gs) ∧ (lask l ks ≠ 0 → gs = []) ∧ gs.length ≤ 1048576 ∧ (∀ g ∈ gs, g ≠ [])) ∧ Below W.heap.size W w') := Lib.hid (fun W hW => (GroupBy_any l ks A B c d W (hLD.below hW) (Kd.C_below hA hW) (Kd.C_below hB hW) hO hO2 hn2).mono fun e w' ⟨G, c, gs, h1, h2, h3, h4, h5, h6, h7⟩ => ⟨G, c, gs, h1, ⟨h2, h3, h4, h5, h6⟩, h7⟩)
 have HSB : Hid (∀ W, Below w.heap.size w W → Calls Tryz.prog 22 #[.slice A l.length c, .slice B ks.length d] W fun e w' => ∃ G c ys, e = .returned (.tuple #[.slice G ys.length c, .int .i64 (lask l ks)]) ∧ (ys.length ≤ c ∧ k34.C w' G ys.length ys ∧ (lask l ks = 0 → Sorted ks l ys) ∧ (lask l ks ≠ 0 → ys = [])) ∧ Below W.heap.size W w') := Lib.hid (fun W hW => (SortBy_flat l ks A B c d W (hLD.below hW) (Kd.C_below hA hW) (Kd.C_below hB hW) hO hO2 hn2).mono fun e w' ⟨G, c, ys, h1, h2, h3, h4, h5, h6⟩ => ⟨G, c, ys, h1, ⟨h2, h3, h4, h5⟩, h6⟩)
 have HUB : Hid (∀ W, Below w.heap.size w W → Calls Tryz.prog 23 #[.slice A l.length c, .slice B ks.length d] W fun e w' => ∃ G c gs, e = .returned (.tuple #[.slice G gs.length c, .int .i64 (lask l ks)]) ∧ (gs.length ≤ c ∧ k34.C w' G gs.length (heads gs) ∧ (lask l ks = 0 → Grouped ks l gs) ∧ (lask l ks ≠ 0 → gs = [])) ∧ Below W.heap.size W w') := Lib.hid (fun W hW => (UniqueBy_any l ks A B c d W (hLD.below hW) (Kd.C_below hA hW) (Kd.C_below hB hW) hO hO2 hn2).mono fun e w' ⟨G, c, gs, h1, h2, h3, h4, h5, h6, h7⟩ => ⟨G, c, gs, h1, ⟨h2, h3, h4, h5⟩, h7⟩)
 have HEQ : Hid (∀ gs hs ys, (lask l ks = 0 → Grouped ks l gs) → (lask l ks ≠ 0 → gs = []) → (lask l ks = 0 → Grouped ks l hs) → (lask l ks ≠ 0 → hs = []) → (lask l ks = 0 → Sorted ks l ys) → (lask l ks ≠ 0 → ys = []) → gs.flatten = ys ∧ gs = hs ∧ ys.length ≤ 1048576) := Lib.hid (fun gs hs ys g1 g2 h1 h2 y1 y2 => by
  by_cases h0 : lask l ks = 0
  · have e := (g1 h0).flat (y1 h0)
    refine ⟨e, (g1 h0).unique (h1 h0), ?_⟩
    obtain ⟨S, s1, s2, rfl⟩ := y1 h0
    have := s1.length_eq
    rw [pels_len] at this
    rw [List.length_map, this]
    exact hn2
  · rw [g2 h0, h2 h0, y2 h0]
    exact ⟨rfl, rfl, by simp⟩)
 generalize lask l ks = er at *
 clear hLD hl hA hO hn hl2 hB hO2 hn2
 go_enter Tryz.func6, Tryz.ntmps6
 go_wp2_with (first
  | (go_at_call 9; (with_reducible refine (alive_any _ HL.out).mono ?_); rintro e w0 ⟨rfl, hB0⟩; have HB0 := Lib.hid hB0; clear hB0)
  | (go_at_call 21; (with_reducible refine (HGB.out _ HB0.out).mono ?_); rintro e w1 ⟨G1, c1, gs, rfl, hf1, hB1⟩; have HF1 := Lib.hid hf1; have HB1 := Lib.hid hB1; have HW1 := Lib.hid (HB0.out.trans (hB1.mono HB0.out.size)); clear hB1 hf1)
  | (go_at_call 22; (with_reducible refine (HSB.out _ HW1.out).mono ?_); rintro e w2 ⟨G2, c2, ys, rfl, hf2, hB2⟩; have HF2 := Lib.hid hf2; have HB2 := Lib.hid hB2; have HW2 := Lib.hid (HW1.out.trans (hB2.mono HW1.out.size)); clear hB2 hf2)
  | (go_at_call 23; (with_reducible refine (HUB.out _ HW2.out).mono ?_); rintro e w3 ⟨G3, c3, hs, rfl, hf3, hB3⟩; have HF3 := Lib.hid hf3; have HB3 := Lib.hid hB3; have HW3 := Lib.hid (HW2.out.trans (hB3.mono HW2.out.size)); clear hB3 hf3))
 obtain ⟨hfl, hgs, hyl⟩ := HEQ.out gs hs ys HF1.out.2.1 HF1.out.2.2.1 HF3.out.2.2.1 HF3.out.2.2.2 HF2.out.2.2.1 HF2.out.2.2.2
 subst hgs
 subst hfl
 have HG : Hid ((Kd.slice 34 k34).C w3 G1 gs.length gs) := Lib.hid (Kd.C_below (Kd.C_below HF1.out.1 HB2.out) HB3.out)
 have HY : Hid (k34.C w3 G2 gs.flatten.length gs.flatten) := Lib.hid (Kd.C_below HF2.out.2.1 HB3.out)
 have HU : Hid (k34.C w3 G3 gs.length (heads gs)) := Lib.hid HF3.out.2.1
 have HYC : Hid (gs.flatten.length ≤ c2) := Lib.hid HF2.out.1
 have HUC : Hid (gs.length ≤ c3) := Lib.hid HF3.out.1
 have HFU : Hid (∀ g ∈ gs, g ≠ []) := Lib.hid HF1.out.2.2.2.2
 have HYL := Lib.hid hyl
 have hn := HF1.out.2.2.2.1
 obtain ⟨n, hn0⟩ : ∃ n, n = gs.length := ⟨_, rfl⟩
 have HN := Lib.hid hn0
 rw [← hn0] at hn
 rw [← hn0]
 obtain ⟨m, hm0⟩ : ∃ m, m = gs.flatten.length := ⟨_, rfl⟩
 have HM := Lib.hid hm0
 rw [← hm0]
 clear hn0 hm0 hyl HEQ HGB HSB HUB HF1 HF2 HF3 HB0 HB1 HB2 HB3 HW1 HW2 HL
 go_loopw [11, 12, 13] (fun va vf vi wr => ∃ (k la lf : Nat) (Ga Gf : Option Addr) (ca cf : Nat), k ≤ n ∧ vi = .int .i64 k ∧ va = .slice Ga la ca ∧ vf = .slice Gf lf cf ∧ Hid (TwoMid w3 w3 wr ((gs.take k).flatten) ((heads gs).take k) (.slice Ga la ca) (.slice Gf lf cf))) (fun va vf vi _ => n - (intOf vi).toNat)
 case atStart => exact ⟨0, 0, 0, none, none, 0, 0, Nat.zero_le _, rfl, rfl, rfl, Lib.hid (TwoMid.nil _ _)⟩
 case round =>
  obtain ⟨k, la, lf, Ga, Gf, ca, cf, hk, rfl, rfl, rfl, HT⟩ := hrel
  by_cases hlt : k < n
  · have hlt2 : (k : Int) < (n : Int) := by omega
    have hk1 : k < gs.length := by rw [← HN.out]; exact hlt
    obtain ⟨ad, A0, c0, hAd, hcl, hl0, hC0⟩ := at_G HG.out (Below.refl _ _) k hk1
    subst hAd
    have hp : 0 < (gAt gs k).length := by
     rcases Nat.eq_zero_or_pos (gAt gs k).length with h | h
     · exact absurd (List.eq_nil_of_length_eq_zero h) (HFU.out _ (List.mem_of_getElem? (gAt_of hk1)))
     · exact h
    have htk := take_end (heads_at hk1)
    have htg := take_end (gAt_of hk1)
    have hfk : (gs.take (k + 1)).flatten = (gs.take k).flatten ++ gAt gs k := by rw [htg, List.flatten_append]; simp
    have hbd := flat_le gs (k + 1)
    rw [hfk, List.length_append] at hbd
    have hbd2 : (gs.take k).flatten.length + (gAt gs k).length ≤ 1048576 := Nat.le_trans hbd HYL.out
    obtain ⟨ad0, a0, a1, a2, a3, a4, a5, a6, rfl, hK0, p0, p1, p2, p3, p4, p5, p6⟩ := at_V hC0 (Below.refl _ _) 0 hp
    obtain ⟨news, hnl, hnr, hnk⟩ := Kd.reads_raw hC0 (fun x c hk => ⟨k34.K_len hk, k34.K_one hk⟩)
    have HCL : Hid (∀ W, Below w3.heap.size w3 W → W.cell? (ad.add k) = some (.slice (some ad0) (gAt gs k).length c0)) := Lib.hid (fun W hb => pw_cell_below hb hcl)
    rw [show ad0.add (0 * 7) = ad0 by simp [Addr.add]] at p0 p1 p2 p3 p4 p5 p6
    have HCE : Hid (∀ W, Below w3.heap.size w3 W → W.cell? ad0 = some a0 ∧ W.cell? ⟨ad0.block, ad0.off + 1, none⟩ = some a1 ∧ W.cell? ⟨ad0.block, ad0.off + 2, none⟩ = some a2 ∧ W.cell? ⟨ad0.block, ad0.off + 3, none⟩ = some a3 ∧ W.cell? ⟨ad0.block, ad0.off + 4, none⟩ = some a4 ∧ W.cell? ⟨ad0.block, ad0.off + 5, none⟩ = some a5 ∧ W.cell? ⟨ad0.block, ad0.off + 6, none⟩ = some a6) := Lib.hid (fun W hb => ⟨pw_cell_below hb p0, pw_cell_below hb p1, pw_cell_below hb p2, pw_cell_below hb p3, pw_cell_below hb p4, pw_cell_below hb p5, pw_cell_below hb p6⟩)
    have HONE : Hid (∀ u ∈ ([a0, a1, a2, a3, a4, a5, a6] : List Value), u.oneCell' = true) := Lib.hid (k34.K_one hK0)
    have HK0 := Lib.hid hK0
    have HTK := Lib.hid htk
    have HFK := Lib.hid hfk
    have HBD := Lib.hid hbd2
    have HNL := Lib.hid hnl
    have HNR : Hid ((Kd.raw 7).C w3 (some ad0) (gAt gs k).length news) := Lib.hid hnr
    have HNK := Lib.hid hnk
    have HBc := Lib.hid HT.out.below
    have hq := HCL.out _ HBc.out
    have HGV : Hid (gAt gs k = gAt gs k) := Lib.hid rfl
    obtain ⟨gv, hgv⟩ : ∃ gv, gv = gAt gs k := ⟨_, rfl⟩
    rw [← hgv] at hq HCL HNR HBD HFK HNL HNK hp
    obtain ⟨gl, hgl⟩ : ∃ gl, gl = gv.length := ⟨_, rfl⟩
    have HGL := Lib.hid hgl
    rw [← hgl] at hq HCL HNR HBD hp
    have hp2 : (0 : Int) < (gl : Int) := by omega
    have hp3 : ((gl : Int) == 0) = false := by rw [beq_eq_false_iff_ne]; omega
    have hk0 : (0 : Int) ≤ (k : Int) := by omega
    clear hgv hgl HGV hl0 hC0 hcl p0 p1 p2 p3 p4 p5 p6 hnl hnr hnk hK0 htk htg hfk hbd hbd2 hk1
    go_upto_region 12 with (fail)
    clear hq hp3
    have HHK : Hid (∀ (j : Nat) (x : V) (r : List Value), [rd_T34 (gAt gs k) ((0 : Nat) : Int)][j]? = some x → [[a0, a1, a2, a3, a4, a5, a6]][j]? = some r → k34.K w3 x r) := Lib.hid (fun j x r hx hr => by
     obtain rfl : j = 0 := by have := (List.getElem?_eq_some_iff.1 hx).1; simpa using this
     obtain rfl : _ = x := by simpa using hx
     obtain rfl : _ = r := by simpa using hr
     exact HK0.out)
    have HT := Lib.hid (HT.out.later (below_drew (Below.refl _ _)))
    have HBc := Lib.hid HT.out.below
    refine wp_region_any (by kernel_rfl) ?_
    change wpAny _ _ _ _ _ _ _ (World.drew _)
    generalize World.drew wr = wd at HT HBc ⊢
    refine tk 0 rfl rfl (by kernel_rfl) (fun _ _ _ h => h) (by rfl) (by intro w_; go_simp; try with_reducible rfl) ?_
    refine tk 1 rfl rfl (by kernel_rfl) (fun _ _ _ h => h) (by rfl) (by intro w_; go_simp; try with_reducible rfl) ?_
    simp only [List.set_cons_zero, List.set_cons_succ]
    refine tk 2 rfl rfl (by kernel_rfl) (fun _ _ _ h => h) (by rfl) (by intro w_; go_simp; try with_reducible rfl) ?_
    refine tk 3 rfl rfl (by kernel_rfl) (fun _ _ _ h => h) (by rfl) (by intro w_; go_simp; try with_reducible rfl) ?_
    simp only [List.set_cons_zero, List.set_cons_succ]
    refine tk 6 rfl rfl (by kernel_rfl) (fun _ _ _ h => h) (by rfl) (by intro w_; go_simp; try with_reducible rfl) ?_
    refine tk 7 rfl rfl (by kernel_rfl) (fun _ _ _ h => h) (by rfl) (by intro w_; go_simp; try with_reducible rfl) ?_
    simp only [List.set_cons_zero, List.set_cons_succ]
    refine tk 8 rfl rfl (by kernel_rfl) (fun _ _ _ h => h) (by rfl) (by intro w_; go_simp; try with_reducible rfl) ?_
    refine tk 9 rfl rfl (by kernel_rfl) (fun _ _ _ h => h) (by rfl) (by intro w_; go_simp; try with_reducible rfl) ?_
    simp only [List.set_cons_zero, List.set_cons_succ]
    refine two 4 10 rfl rfl (by kernel_rfl) (by rfl) (by rfl) (fun K_ hK_ => ?_) (fun K_ hK_ => ?_)
    have q := HCL.out _ HBc.out
    simp only [List.getElem_toArray, List.getElem_cons_succ, List.getElem_cons_zero]
    go_simp
    clear q
    refine hK_ _ _ ?_
    clear hK_ K_
    refine two 5 10 rfl rfl (by kernel_rfl) (by rfl) (by rfl) (fun K_ hK_ => ?_) (fun K_ hK_ => ?_)
    obtain ⟨rowsA, ra1, ra2, ra3⟩ := HT.out.left
    refine rows_op (Kd.raw 7) (w0 := w3) w3.heap.size rfl (.tmp 46) (.tmp 50) 22 34 (.agg #[.int .i64 0, .bool false, .slice none 0 0, .int .i64 0, .string ⟨#[]⟩, .slice none 0 0, .slice none 0 0]) 112 rfl Tryz.underlying22 infoV_ rfl (by decide) (by decide) (.slice Ga la ca) rowsA news (some ad0) gl c0 (fun _ => True) (fun _ => False) rfl rfl ra2 (Kd.C_below HNR.out HBc.out) (fun _ _ h => h) (fun _ h => h.elim) (fun _ _ => trivial) HBc.out HBc.out.size (by rw [ra1]; have := HBD.out; omega) ?_
    intro v1 w7 hR7 hB7 hg7 hat7
    have HT := Lib.hid (HT.out.grow ra1 ra3 HNL.out HNK.out hR7 hB7 hg7 hat7)
    first | (have HN13 := Lib.hid ((hg7.block _ (blk_lt HN13.out) (fun e => absurd (HNE.out _ e.symm) (Nat.lt_irrefl _))).trans HN13.out)) | skip
    obtain ⟨G7, c7, rfl⟩ := Kd.R_slice hR7
    clear hR7 hg7 hat7 ra1 ra2 ra3
    have HBc := Lib.hid hB7
    refine hK_ _ _ ?_
    clear hK_ K_
    simp only [Act.put, List.getElem_toArray, List.getElem_cons_zero, List.getElem_cons_succ, List.setIfInBounds_toArray, List.set_cons_zero, List.set_cons_succ]
    refine one 10 rfl (by kernel_rfl) (by rfl) fun K_ hK_ => ?_
    have q := HCL.out _ HBc.out
    simp only [List.getElem_toArray, List.getElem_cons_succ, List.getElem_cons_zero]
    go_simp
    clear q
    refine hK_ _ _ ?_
    clear hK_ K_
    refine tk 11 rfl rfl (by kernel_rfl) (fun _ _ _ h => h) (by rfl) (by intro w_; go_simp; try with_reducible rfl) ?_
    simp only [List.set_cons_zero, List.set_cons_succ]
    refine one 12 rfl (by kernel_rfl) (by rfl) fun K_ hK_ => ?_
    obtain ⟨q0, q1, q2, q3, q4, q5, q6⟩ := HCE.out _ HBc.out
    simp only [List.getElem_toArray, List.getElem_cons_succ, List.getElem_cons_zero]
    go_simp
    clear q0 q1 q2 q3 q4 q5 q6
    refine hK_ _ _ ?_
    clear hK_ K_
    refine one 13 rfl (by kernel_rfl) (by rfl) fun K_ hK_ => ?_
    simp only [List.getElem_toArray, List.getElem_cons_succ, List.getElem_cons_zero]
    go_simp
    have HN13 := Lib.hid (new_of HBc.out #[a0, a1, a2, a3, a4, a5, a6] 34)
    have HNE := Lib.hid HT.out.left.lt
    have HT := Lib.hid (HT.out.later (below_alloc (Below.refl _ _) (.cells #[a0, a1, a2, a3, a4, a5, a6] 34)))
    have HBc := Lib.hid HT.out.below
    have q0 := trivial
    clear q0
    refine hK_ _ _ ?_
    clear hK_ K_
    refine one 14 rfl (by kernel_rfl) (by rfl) fun K_ hK_ => ?_
    obtain ⟨rowsB, rb1, rb2, rb3⟩ := HT.out.right
    refine rows_op (Kd.raw 7) (w0 := w3) w3.heap.size rfl (.tmp 52) (.tmp 59) 22 34 (.agg #[.int .i64 0, .bool false, .slice none 0 0, .int .i64 0, .string ⟨#[]⟩, .slice none 0 0, .slice none 0 0]) 112 rfl Tryz.underlying22 infoV_ rfl (by decide) (by decide) (.slice Gf lf cf) rowsB [[a0, a1, a2, a3, a4, a5, a6]] (some _) 1 1 (fun _ => True) (fun _ => False) rfl rfl rb2 (one_row HN13.out rfl HONE.out) (fun _ _ h => h) (fun _ h => h.elim) (fun _ _ => trivial) HBc.out HBc.out.size (by rw [rb1, List.length_take]; have := Nat.min_le_left k (heads gs).length; omega) ?_
    intro v2 w8 hR8 hB8 hg8 hat8
    have HT := Lib.hid (HT.out.swap.grow rb1 rb3 rfl HHK.out hR8 hB8 hg8 hat8).swap
    obtain ⟨G8, c8, rfl⟩ := Kd.R_slice hR8
    clear hR8 hg8 hat8 rb1 rb2 rb3
    have HBc := Lib.hid hB8
    refine hK_ _ _ ?_
    clear hK_ K_
    simp only [Act.put, List.getElem_toArray, List.getElem_cons_zero, List.getElem_cons_succ, List.setIfInBounds_toArray, List.set_cons_zero, List.set_cons_succ]
    refine tk 15 rfl rfl (by kernel_rfl) (fun _ _ _ h => h) (by rfl) (by intro w_; go_simp; try with_reducible rfl) ?_
    refine tk 16 rfl rfl (by kernel_rfl) (fun _ _ _ h => h) (by rfl) (by intro w_; go_simp; try with_reducible rfl) ?_
    refine wpAny_done (by kernel_rfl) ?_ _
    simp only [List.set_cons_zero, List.set_cons_succ]
    rotate_left
    have q := HCL.out _ HBc.out
    simp only [List.getElem_toArray, List.getElem_cons_succ, List.getElem_cons_zero]
    go_simp
    clear q
    refine hK_ _ _ ?_
    clear hK_ K_
    refine tk 11 rfl rfl (by kernel_rfl) (fun _ _ _ h => h) (by rfl) (by intro w_; go_simp; try with_reducible rfl) ?_
    simp only [List.set_cons_zero, List.set_cons_succ]
    refine two 5 12 rfl rfl (by kernel_rfl) (by rfl) (by rfl) (fun K_ hK_ => ?_) (fun K_ hK_ => ?_)
    obtain ⟨rowsA, ra1, ra2, ra3⟩ := HT.out.left
    refine rows_op (Kd.raw 7) (w0 := w3) w3.heap.size rfl (.tmp 46) (.tmp 50) 22 34 (.agg #[.int .i64 0, .bool false, .slice none 0 0, .int .i64 0, .string ⟨#[]⟩, .slice none 0 0, .slice none 0 0]) 112 rfl Tryz.underlying22 infoV_ rfl (by decide) (by decide) (.slice Ga la ca) rowsA news (some ad0) gl c0 (fun _ => True) (fun _ => False) rfl rfl ra2 (Kd.C_below HNR.out HBc.out) (fun _ _ h => h) (fun _ h => h.elim) (fun _ _ => trivial) HBc.out HBc.out.size (by rw [ra1]; have := HBD.out; omega) ?_
    intro v1 w7 hR7 hB7 hg7 hat7
    have HT := Lib.hid (HT.out.grow ra1 ra3 HNL.out HNK.out hR7 hB7 hg7 hat7)
    first | (have HN13 := Lib.hid ((hg7.block _ (blk_lt HN13.out) (fun e => absurd (HNE.out _ e.symm) (Nat.lt_irrefl _))).trans HN13.out)) | skip
    obtain ⟨G7, c7, rfl⟩ := Kd.R_slice hR7
    clear hR7 hg7 hat7 ra1 ra2 ra3
    have HBc := Lib.hid hB7
    refine hK_ _ _ ?_
    clear hK_ K_
    simp only [Act.put, List.getElem_toArray, List.getElem_cons_zero, List.getElem_cons_succ, List.setIfInBounds_toArray, List.set_cons_zero, List.set_cons_succ]
    refine one 12 rfl (by kernel_rfl) (by rfl) fun K_ hK_ => ?_
    obtain ⟨q0, q1, q2, q3, q4, q5, q6⟩ := HCE.out _ HBc.out
    simp only [List.getElem_toArray, List.getElem_cons_succ, List.getElem_cons_zero]
    go_simp
    clear q0 q1 q2 q3 q4 q5 q6
    refine hK_ _ _ ?_
    clear hK_ K_
    refine one 13 rfl (by kernel_rfl) (by rfl) fun K_ hK_ => ?_
    simp only [List.getElem_toArray, List.getElem_cons_succ, List.getElem_cons_zero]
    go_simp
    have HN13 := Lib.hid (new_of HBc.out #[a0, a1, a2, a3, a4, a5, a6] 34)
    have HNE := Lib.hid HT.out.left.lt
    have HT := Lib.hid (HT.out.later (below_alloc (Below.refl _ _) (.cells #[a0, a1, a2, a3, a4, a5, a6] 34)))
    have HBc := Lib.hid HT.out.below
    have q0 := trivial
    clear q0
    refine hK_ _ _ ?_
    clear hK_ K_
    refine one 14 rfl (by kernel_rfl) (by rfl) fun K_ hK_ => ?_
    obtain ⟨rowsB, rb1, rb2, rb3⟩ := HT.out.right
    refine rows_op (Kd.raw 7) (w0 := w3) w3.heap.size rfl (.tmp 52) (.tmp 59) 22 34 (.agg #[.int .i64 0, .bool false, .slice none 0 0, .int .i64 0, .string ⟨#[]⟩, .slice none 0 0, .slice none 0 0]) 112 rfl Tryz.underlying22 infoV_ rfl (by decide) (by decide) (.slice Gf lf cf) rowsB [[a0, a1, a2, a3, a4, a5, a6]] (some _) 1 1 (fun _ => True) (fun _ => False) rfl rfl rb2 (one_row HN13.out rfl HONE.out) (fun _ _ h => h) (fun _ h => h.elim) (fun _ _ => trivial) HBc.out HBc.out.size (by rw [rb1, List.length_take]; have := Nat.min_le_left k (heads gs).length; omega) ?_
    intro v2 w8 hR8 hB8 hg8 hat8
    have HT := Lib.hid (HT.out.swap.grow rb1 rb3 rfl HHK.out hR8 hB8 hg8 hat8).swap
    obtain ⟨G8, c8, rfl⟩ := Kd.R_slice hR8
    clear hR8 hg8 hat8 rb1 rb2 rb3
    have HBc := Lib.hid hB8
    refine hK_ _ _ ?_
    clear hK_ K_
    simp only [Act.put, List.getElem_toArray, List.getElem_cons_zero, List.getElem_cons_succ, List.setIfInBounds_toArray, List.set_cons_zero, List.set_cons_succ]
    refine tk 15 rfl rfl (by kernel_rfl) (fun _ _ _ h => h) (by rfl) (by intro w_; go_simp; try with_reducible rfl) ?_
    refine tk 16 rfl rfl (by kernel_rfl) (fun _ _ _ h => h) (by rfl) (by intro w_; go_simp; try with_reducible rfl) ?_
    refine wpAny_done (by kernel_rfl) ?_ _
    simp only [List.set_cons_zero, List.set_cons_succ]
    rotate_left
    obtain ⟨q0, q1, q2, q3, q4, q5, q6⟩ := HCE.out _ HBc.out
    simp only [List.getElem_toArray, List.getElem_cons_succ, List.getElem_cons_zero]
    go_simp
    clear q0 q1 q2 q3 q4 q5 q6
    refine hK_ _ _ ?_
    clear hK_ K_
    refine two 5 13 rfl rfl (by kernel_rfl) (by rfl) (by rfl) (fun K_ hK_ => ?_) (fun K_ hK_ => ?_)
    obtain ⟨rowsA, ra1, ra2, ra3⟩ := HT.out.left
    refine rows_op (Kd.raw 7) (w0 := w3) w3.heap.size rfl (.tmp 46) (.tmp 50) 22 34 (.agg #[.int .i64 0, .bool false, .slice none 0 0, .int .i64 0, .string ⟨#[]⟩, .slice none 0 0, .slice none 0 0]) 112 rfl Tryz.underlying22 infoV_ rfl (by decide) (by decide) (.slice Ga la ca) rowsA news (some ad0) gl c0 (fun _ => True) (fun _ => False) rfl rfl ra2 (Kd.C_below HNR.out HBc.out) (fun _ _ h => h) (fun _ h => h.elim) (fun _ _ => trivial) HBc.out HBc.out.size (by rw [ra1]; have := HBD.out; omega) ?_
    intro v1 w7 hR7 hB7 hg7 hat7
    have HT := Lib.hid (HT.out.grow ra1 ra3 HNL.out HNK.out hR7 hB7 hg7 hat7)
    first | (have HN13 := Lib.hid ((hg7.block _ (blk_lt HN13.out) (fun e => absurd (HNE.out _ e.symm) (Nat.lt_irrefl _))).trans HN13.out)) | skip
    obtain ⟨G7, c7, rfl⟩ := Kd.R_slice hR7
    clear hR7 hg7 hat7 ra1 ra2 ra3
    have HBc := Lib.hid hB7
    refine hK_ _ _ ?_
    clear hK_ K_
    simp only [Act.put, List.getElem_toArray, List.getElem_cons_zero, List.getElem_cons_succ, List.setIfInBounds_toArray, List.set_cons_zero, List.set_cons_succ]
    refine one 13 rfl (by kernel_rfl) (by rfl) fun K_ hK_ => ?_
    simp only [List.getElem_toArray, List.getElem_cons_succ, List.getElem_cons_zero]
    go_simp
    have HN13 := Lib.hid (new_of HBc.out #[a0, a1, a2, a3, a4, a5, a6] 34)
    have HNE := Lib.hid HT.out.left.lt
    have HT := Lib.hid (HT.out.later (below_alloc (Below.refl _ _) (.cells #[a0, a1, a2, a3, a4, a5, a6] 34)))
    have HBc := Lib.hid HT.out.below
    have q0 := trivial
    clear q0
    refine hK_ _ _ ?_
    clear hK_ K_
    refine one 14 rfl (by kernel_rfl) (by rfl) fun K_ hK_ => ?_
    obtain ⟨rowsB, rb1, rb2, rb3⟩ := HT.out.right
    refine rows_op (Kd.raw 7) (w0 := w3) w3.heap.size rfl (.tmp 52) (.tmp 59) 22 34 (.agg #[.int .i64 0, .bool false, .slice none 0 0, .int .i64 0, .string ⟨#[]⟩, .slice none 0 0, .slice none 0 0]) 112 rfl Tryz.underlying22 infoV_ rfl (by decide) (by decide) (.slice Gf lf cf) rowsB [[a0, a1, a2, a3, a4, a5, a6]] (some _) 1 1 (fun _ => True) (fun _ => False) rfl rfl rb2 (one_row HN13.out rfl HONE.out) (fun _ _ h => h) (fun _ h => h.elim) (fun _ _ => trivial) HBc.out HBc.out.size (by rw [rb1, List.length_take]; have := Nat.min_le_left k (heads gs).length; omega) ?_
    intro v2 w8 hR8 hB8 hg8 hat8
    have HT := Lib.hid (HT.out.swap.grow rb1 rb3 rfl HHK.out hR8 hB8 hg8 hat8).swap
    obtain ⟨G8, c8, rfl⟩ := Kd.R_slice hR8
    clear hR8 hg8 hat8 rb1 rb2 rb3
    have HBc := Lib.hid hB8
    refine hK_ _ _ ?_
    clear hK_ K_
    simp only [Act.put, List.getElem_toArray, List.getElem_cons_zero, List.getElem_cons_succ, List.setIfInBounds_toArray, List.set_cons_zero, List.set_cons_succ]
    refine tk 15 rfl rfl (by kernel_rfl) (fun _ _ _ h => h) (by rfl) (by intro w_; go_simp; try with_reducible rfl) ?_
    refine tk 16 rfl rfl (by kernel_rfl) (fun _ _ _ h => h) (by rfl) (by intro w_; go_simp; try with_reducible rfl) ?_
    refine wpAny_done (by kernel_rfl) ?_ _
    simp only [List.set_cons_zero, List.set_cons_succ]
    rotate_left
    simp only [List.getElem_toArray, List.getElem_cons_succ, List.getElem_cons_zero]
    go_simp
    have HN13 := Lib.hid (new_of HBc.out #[a0, a1, a2, a3, a4, a5, a6] 34)
    have HNE := Lib.hid HT.out.left.lt
    have HT := Lib.hid (HT.out.later (below_alloc (Below.refl _ _) (.cells #[a0, a1, a2, a3, a4, a5, a6] 34)))
    have HBc := Lib.hid HT.out.below
    have q0 := trivial
    clear q0
    refine hK_ _ _ ?_
    clear hK_ K_
    refine one 5 rfl (by kernel_rfl) (by rfl) fun K_ hK_ => ?_
    obtain ⟨rowsA, ra1, ra2, ra3⟩ := HT.out.left
    refine rows_op (Kd.raw 7) (w0 := w3) w3.heap.size rfl (.tmp 46) (.tmp 50) 22 34 (.agg #[.int .i64 0, .bool false, .slice none 0 0, .int .i64 0, .string ⟨#[]⟩, .slice none 0 0, .slice none 0 0]) 112 rfl Tryz.underlying22 infoV_ rfl (by decide) (by decide) (.slice Ga la ca) rowsA news (some ad0) gl c0 (fun _ => True) (fun _ => False) rfl rfl ra2 (Kd.C_below HNR.out HBc.out) (fun _ _ h => h) (fun _ h => h.elim) (fun _ _ => trivial) HBc.out HBc.out.size (by rw [ra1]; have := HBD.out; omega) ?_
    intro v1 w7 hR7 hB7 hg7 hat7
    have HT := Lib.hid (HT.out.grow ra1 ra3 HNL.out HNK.out hR7 hB7 hg7 hat7)
    first | (have HN13 := Lib.hid ((hg7.block _ (blk_lt HN13.out) (fun e => absurd (HNE.out _ e.symm) (Nat.lt_irrefl _))).trans HN13.out)) | skip
    obtain ⟨G7, c7, rfl⟩ := Kd.R_slice hR7
    clear hR7 hg7 hat7 ra1 ra2 ra3
    have HBc := Lib.hid hB7
    refine hK_ _ _ ?_
    clear hK_ K_
    simp only [Act.put, List.getElem_toArray, List.getElem_cons_zero, List.getElem_cons_succ, List.setIfInBounds_toArray, List.set_cons_zero, List.set_cons_succ]
    refine one 14 rfl (by kernel_rfl) (by rfl) fun K_ hK_ => ?_
    obtain ⟨rowsB, rb1, rb2, rb3⟩ := HT.out.right
    refine rows_op (Kd.raw 7) (w0 := w3) w3.heap.size rfl (.tmp 52) (.tmp 59) 22 34 (.agg #[.int .i64 0, .bool false, .slice none 0 0, .int .i64 0, .string ⟨#[]⟩, .slice none 0 0, .slice none 0 0]) 112 rfl Tryz.underlying22 infoV_ rfl (by decide) (by decide) (.slice Gf lf cf) rowsB [[a0, a1, a2, a3, a4, a5, a6]] (some _) 1 1 (fun _ => True) (fun _ => False) rfl rfl rb2 (one_row HN13.out rfl HONE.out) (fun _ _ h => h) (fun _ h => h.elim) (fun _ _ => trivial) HBc.out HBc.out.size (by rw [rb1, List.length_take]; have := Nat.min_le_left k (heads gs).length; omega) ?_
    intro v2 w8 hR8 hB8 hg8 hat8
    have HT := Lib.hid (HT.out.swap.grow rb1 rb3 rfl HHK.out hR8 hB8 hg8 hat8).swap
    obtain ⟨G8, c8, rfl⟩ := Kd.R_slice hR8
    clear hR8 hg8 hat8 rb1 rb2 rb3
    have HBc := Lib.hid hB8
    refine hK_ _ _ ?_
    clear hK_ K_
    simp only [Act.put, List.getElem_toArray, List.getElem_cons_zero, List.getElem_cons_succ, List.setIfInBounds_toArray, List.set_cons_zero, List.set_cons_succ]
    refine tk 15 rfl rfl (by kernel_rfl) (fun _ _ _ h => h) (by rfl) (by intro w_; go_simp; try with_reducible rfl) ?_
    refine tk 16 rfl rfl (by kernel_rfl) (fun _ _ _ h => h) (by rfl) (by intro w_; go_simp; try with_reducible rfl) ?_
    refine wpAny_done (by kernel_rfl) ?_ _
    simp only [List.set_cons_zero, List.set_cons_succ]
    rotate_left
    have q := HCL.out _ HBc.out
    simp only [List.getElem_toArray, List.getElem_cons_succ, List.getElem_cons_zero]
    go_simp
    clear q
    refine hK_ _ _ ?_
    clear hK_ K_
    refine tk 11 rfl rfl (by kernel_rfl) (fun _ _ _ h => h) (by rfl) (by intro w_; go_simp; try with_reducible rfl) ?_
    simp only [List.set_cons_zero, List.set_cons_succ]
    refine two 4 12 rfl rfl (by kernel_rfl) (by rfl) (by rfl) (fun K_ hK_ => ?_) (fun K_ hK_ => ?_)
    have q := HCL.out _ HBc.out
    simp only [List.getElem_toArray, List.getElem_cons_succ, List.getElem_cons_zero]
    go_simp
    clear q
    refine hK_ _ _ ?_
    clear hK_ K_
    refine two 5 12 rfl rfl (by kernel_rfl) (by rfl) (by rfl) (fun K_ hK_ => ?_) (fun K_ hK_ => ?_)
    obtain ⟨rowsA, ra1, ra2, ra3⟩ := HT.out.left
    refine rows_op (Kd.raw 7) (w0 := w3) w3.heap.size rfl (.tmp 46) (.tmp 50) 22 34 (.agg #[.int .i64 0, .bool false, .slice none 0 0, .int .i64 0, .string ⟨#[]⟩, .slice none 0 0, .slice none 0 0]) 112 rfl Tryz.underlying22 infoV_ rfl (by decide) (by decide) (.slice Ga la ca) rowsA news (some ad0) gl c0 (fun _ => True) (fun _ => False) rfl rfl ra2 (Kd.C_below HNR.out HBc.out) (fun _ _ h => h) (fun _ h => h.elim) (fun _ _ => trivial) HBc.out HBc.out.size (by rw [ra1]; have := HBD.out; omega) ?_
    intro v1 w7 hR7 hB7 hg7 hat7
    have HT := Lib.hid (HT.out.grow ra1 ra3 HNL.out HNK.out hR7 hB7 hg7 hat7)
    first | (have HN13 := Lib.hid ((hg7.block _ (blk_lt HN13.out) (fun e => absurd (HNE.out _ e.symm) (Nat.lt_irrefl _))).trans HN13.out)) | skip
    obtain ⟨G7, c7, rfl⟩ := Kd.R_slice hR7
    clear hR7 hg7 hat7 ra1 ra2 ra3
    have HBc := Lib.hid hB7
    refine hK_ _ _ ?_
    clear hK_ K_
    simp only [Act.put, List.getElem_toArray, List.getElem_cons_zero, List.getElem_cons_succ, List.setIfInBounds_toArray, List.set_cons_zero, List.set_cons_succ]
    refine one 12 rfl (by kernel_rfl) (by rfl) fun K_ hK_ => ?_
    obtain ⟨q0, q1, q2, q3, q4, q5, q6⟩ := HCE.out _ HBc.out
    simp only [List.getElem_toArray, List.getElem_cons_succ, List.getElem_cons_zero]
    go_simp
    clear q0 q1 q2 q3 q4 q5 q6
    refine hK_ _ _ ?_
    clear hK_ K_
    refine one 13 rfl (by kernel_rfl) (by rfl) fun K_ hK_ => ?_
    simp only [List.getElem_toArray, List.getElem_cons_succ, List.getElem_cons_zero]
    go_simp
    have HN13 := Lib.hid (new_of HBc.out #[a0, a1, a2, a3, a4, a5, a6] 34)
    have HNE := Lib.hid HT.out.left.lt
    have HT := Lib.hid (HT.out.later (below_alloc (Below.refl _ _) (.cells #[a0, a1, a2, a3, a4, a5, a6] 34)))
    have HBc := Lib.hid HT.out.below
    have q0 := trivial
    clear q0
    refine hK_ _ _ ?_
    clear hK_ K_
    refine one 14 rfl (by kernel_rfl) (by rfl) fun K_ hK_ => ?_
    obtain ⟨rowsB, rb1, rb2, rb3⟩ := HT.out.right
    refine rows_op (Kd.raw 7) (w0 := w3) w3.heap.size rfl (.tmp 52) (.tmp 59) 22 34 (.agg #[.int .i64 0, .bool false, .slice none 0 0, .int .i64 0, .string ⟨#[]⟩, .slice none 0 0, .slice none 0 0]) 112 rfl Tryz.underlying22 infoV_ rfl (by decide) (by decide) (.slice Gf lf cf) rowsB [[a0, a1, a2, a3, a4, a5, a6]] (some _) 1 1 (fun _ => True) (fun _ => False) rfl rfl rb2 (one_row HN13.out rfl HONE.out) (fun _ _ h => h) (fun _ h => h.elim) (fun _ _ => trivial) HBc.out HBc.out.size (by rw [rb1, List.length_take]; have := Nat.min_le_left k (heads gs).length; omega) ?_
    intro v2 w8 hR8 hB8 hg8 hat8
    have HT := Lib.hid (HT.out.swap.grow rb1 rb3 rfl HHK.out hR8 hB8 hg8 hat8).swap
    obtain ⟨G8, c8, rfl⟩ := Kd.R_slice hR8
    clear hR8 hg8 hat8 rb1 rb2 rb3
    have HBc := Lib.hid hB8
    refine hK_ _ _ ?_
    clear hK_ K_
    simp only [Act.put, List.getElem_toArray, List.getElem_cons_zero, List.getElem_cons_succ, List.setIfInBounds_toArray, List.set_cons_zero, List.set_cons_succ]
    refine tk 15 rfl rfl (by kernel_rfl) (fun _ _ _ h => h) (by rfl) (by intro w_; go_simp; try with_reducible rfl) ?_
    refine tk 16 rfl rfl (by kernel_rfl) (fun _ _ _ h => h) (by rfl) (by intro w_; go_simp; try with_reducible rfl) ?_
    refine wpAny_done (by kernel_rfl) ?_ _
    simp only [List.set_cons_zero, List.set_cons_succ]
    rotate_left
    obtain ⟨q0, q1, q2, q3, q4, q5, q6⟩ := HCE.out _ HBc.out
    simp only [List.getElem_toArray, List.getElem_cons_succ, List.getElem_cons_zero]
    go_simp
    clear q0 q1 q2 q3 q4 q5 q6
    refine hK_ _ _ ?_
    clear hK_ K_
    refine two 5 13 rfl rfl (by kernel_rfl) (by rfl) (by rfl) (fun K_ hK_ => ?_) (fun K_ hK_ => ?_)
    obtain ⟨rowsA, ra1, ra2, ra3⟩ := HT.out.left
    refine rows_op (Kd.raw 7) (w0 := w3) w3.heap.size rfl (.tmp 46) (.tmp 50) 22 34 (.agg #[.int .i64 0, .bool false, .slice none 0 0, .int .i64 0, .string ⟨#[]⟩, .slice none 0 0, .slice none 0 0]) 112 rfl Tryz.underlying22 infoV_ rfl (by decide) (by decide) (.slice Ga la ca) rowsA news (some ad0) gl c0 (fun _ => True) (fun _ => False) rfl rfl ra2 (Kd.C_below HNR.out HBc.out) (fun _ _ h => h) (fun _ h => h.elim) (fun _ _ => trivial) HBc.out HBc.out.size (by rw [ra1]; have := HBD.out; omega) ?_
    intro v1 w7 hR7 hB7 hg7 hat7
    have HT := Lib.hid (HT.out.grow ra1 ra3 HNL.out HNK.out hR7 hB7 hg7 hat7)
    first | (have HN13 := Lib.hid ((hg7.block _ (blk_lt HN13.out) (fun e => absurd (HNE.out _ e.symm) (Nat.lt_irrefl _))).trans HN13.out)) | skip
    obtain ⟨G7, c7, rfl⟩ := Kd.R_slice hR7
    clear hR7 hg7 hat7 ra1 ra2 ra3
    have HBc := Lib.hid hB7
    refine hK_ _ _ ?_
    clear hK_ K_
    simp only [Act.put, List.getElem_toArray, List.getElem_cons_zero, List.getElem_cons_succ, List.setIfInBounds_toArray, List.set_cons_zero, List.set_cons_succ]
    refine one 13 rfl (by kernel_rfl) (by rfl) fun K_ hK_ => ?_
    simp only [List.getElem_toArray, List.getElem_cons_succ, List.getElem_cons_zero]
    go_simp
    have HN13 := Lib.hid (new_of HBc.out #[a0, a1, a2, a3, a4, a5, a6] 34)
    have HNE := Lib.hid HT.out.left.lt
    have HT := Lib.hid (HT.out.later (below_alloc (Below.refl _ _) (.cells #[a0, a1, a2, a3, a4, a5, a6] 34)))
    have HBc := Lib.hid HT.out.below
    have q0 := trivial
    clear q0
    refine hK_ _ _ ?_
    clear hK_ K_
    refine one 14 rfl (by kernel_rfl) (by rfl) fun K_ hK_ => ?_
    obtain ⟨rowsB, rb1, rb2, rb3⟩ := HT.out.right
    refine rows_op (Kd.raw 7) (w0 := w3) w3.heap.size rfl (.tmp 52) (.tmp 59) 22 34 (.agg #[.int .i64 0, .bool false, .slice none 0 0, .int .i64 0, .string ⟨#[]⟩, .slice none 0 0, .slice none 0 0]) 112 rfl Tryz.underlying22 infoV_ rfl (by decide) (by decide) (.slice Gf lf cf) rowsB [[a0, a1, a2, a3, a4, a5, a6]] (some _) 1 1 (fun _ => True) (fun _ => False) rfl rfl rb2 (one_row HN13.out rfl HONE.out) (fun _ _ h => h) (fun _ h => h.elim) (fun _ _ => trivial) HBc.out HBc.out.size (by rw [rb1, List.length_take]; have := Nat.min_le_left k (heads gs).length; omega) ?_
    intro v2 w8 hR8 hB8 hg8 hat8
    have HT := Lib.hid (HT.out.swap.grow rb1 rb3 rfl HHK.out hR8 hB8 hg8 hat8).swap
    obtain ⟨G8, c8, rfl⟩ := Kd.R_slice hR8
    clear hR8 hg8 hat8 rb1 rb2 rb3
    have HBc := Lib.hid hB8
    refine hK_ _ _ ?_
    clear hK_ K_
    simp only [Act.put, List.getElem_toArray, List.getElem_cons_zero, List.getElem_cons_succ, List.setIfInBounds_toArray, List.set_cons_zero, List.set_cons_succ]
    refine tk 15 rfl rfl (by kernel_rfl) (fun _ _ _ h => h) (by rfl) (by intro w_; go_simp; try with_reducible rfl) ?_
    refine tk 16 rfl rfl (by kernel_rfl) (fun _ _ _ h => h) (by rfl) (by intro w_; go_simp; try with_reducible rfl) ?_
    refine wpAny_done (by kernel_rfl) ?_ _
    simp only [List.set_cons_zero, List.set_cons_succ]
    rotate_left
    simp only [List.getElem_toArray, List.getElem_cons_succ, List.getElem_cons_zero]
    go_simp
    have HN13 := Lib.hid (new_of HBc.out #[a0, a1, a2, a3, a4, a5, a6] 34)
    have HNE := Lib.hid HT.out.left.lt
    have HT := Lib.hid (HT.out.later (below_alloc (Below.refl _ _) (.cells #[a0, a1, a2, a3, a4, a5, a6] 34)))
    have HBc := Lib.hid HT.out.below
    have q0 := trivial
    clear q0
    refine hK_ _ _ ?_
    clear hK_ K_
    refine one 5 rfl (by kernel_rfl) (by rfl) fun K_ hK_ => ?_
    obtain ⟨rowsA, ra1, ra2, ra3⟩ := HT.out.left
    refine rows_op (Kd.raw 7) (w0 := w3) w3.heap.size rfl (.tmp 46) (.tmp 50) 22 34 (.agg #[.int .i64 0, .bool false, .slice none 0 0, .int .i64 0, .string ⟨#[]⟩, .slice none 0 0, .slice none 0 0]) 112 rfl Tryz.underlying22 infoV_ rfl (by decide) (by decide) (.slice Ga la ca) rowsA news (some ad0) gl c0 (fun _ => True) (fun _ => False) rfl rfl ra2 (Kd.C_below HNR.out HBc.out) (fun _ _ h => h) (fun _ h => h.elim) (fun _ _ => trivial) HBc.out HBc.out.size (by rw [ra1]; have := HBD.out; omega) ?_
    intro v1 w7 hR7 hB7 hg7 hat7
    have HT := Lib.hid (HT.out.grow ra1 ra3 HNL.out HNK.out hR7 hB7 hg7 hat7)
    first | (have HN13 := Lib.hid ((hg7.block _ (blk_lt HN13.out) (fun e => absurd (HNE.out _ e.symm) (Nat.lt_irrefl _))).trans HN13.out)) | skip
    obtain ⟨G7, c7, rfl⟩ := Kd.R_slice hR7
    clear hR7 hg7 hat7 ra1 ra2 ra3
    have HBc := Lib.hid hB7
    refine hK_ _ _ ?_
    clear hK_ K_
    simp only [Act.put, List.getElem_toArray, List.getElem_cons_zero, List.getElem_cons_succ, List.setIfInBounds_toArray, List.set_cons_zero, List.set_cons_succ]
    refine one 14 rfl (by kernel_rfl) (by rfl) fun K_ hK_ => ?_
    obtain ⟨rowsB, rb1, rb2, rb3⟩ := HT.out.right
    refine rows_op (Kd.raw 7) (w0 := w3) w3.heap.size rfl (.tmp 52) (.tmp 59) 22 34 (.agg #[.int .i64 0, .bool false, .slice none 0 0, .int .i64 0, .string ⟨#[]⟩, .slice none 0 0, .slice none 0 0]) 112 rfl Tryz.underlying22 infoV_ rfl (by decide) (by decide) (.slice Gf lf cf) rowsB [[a0, a1, a2, a3, a4, a5, a6]] (some _) 1 1 (fun _ => True) (fun _ => False) rfl rfl rb2 (one_row HN13.out rfl HONE.out) (fun _ _ h => h) (fun _ h => h.elim) (fun _ _ => trivial) HBc.out HBc.out.size (by rw [rb1, List.length_take]; have := Nat.min_le_left k (heads gs).length; omega) ?_
    intro v2 w8 hR8 hB8 hg8 hat8
    have HT := Lib.hid (HT.out.swap.grow rb1 rb3 rfl HHK.out hR8 hB8 hg8 hat8).swap
    obtain ⟨G8, c8, rfl⟩ := Kd.R_slice hR8
    clear hR8 hg8 hat8 rb1 rb2 rb3
    have HBc := Lib.hid hB8
    refine hK_ _ _ ?_
    clear hK_ K_
    simp only [Act.put, List.getElem_toArray, List.getElem_cons_zero, List.getElem_cons_succ, List.setIfInBounds_toArray, List.set_cons_zero, List.set_cons_succ]
    refine tk 15 rfl rfl (by kernel_rfl) (fun _ _ _ h => h) (by rfl) (by intro w_; go_simp; try with_reducible rfl) ?_
    refine tk 16 rfl rfl (by kernel_rfl) (fun _ _ _ h => h) (by rfl) (by intro w_; go_simp; try with_reducible rfl) ?_
    refine wpAny_done (by kernel_rfl) ?_ _
    simp only [List.set_cons_zero, List.set_cons_succ]
    rotate_left
    obtain ⟨q0, q1, q2, q3, q4, q5, q6⟩ := HCE.out _ HBc.out
    simp only [List.getElem_toArray, List.getElem_cons_succ, List.getElem_cons_zero]
    go_simp
    clear q0 q1 q2 q3 q4 q5 q6
    refine hK_ _ _ ?_
    clear hK_ K_
    refine two 4 13 rfl rfl (by kernel_rfl) (by rfl) (by rfl) (fun K_ hK_ => ?_) (fun K_ hK_ => ?_)
    have q := HCL.out _ HBc.out
    simp only [List.getElem_toArray, List.getElem_cons_succ, List.getElem_cons_zero]
    go_simp
    clear q
    refine hK_ _ _ ?_
    clear hK_ K_
    refine two 5 13 rfl rfl (by kernel_rfl) (by rfl) (by rfl) (fun K_ hK_ => ?_) (fun K_ hK_ => ?_)
    obtain ⟨rowsA, ra1, ra2, ra3⟩ := HT.out.left
    refine rows_op (Kd.raw 7) (w0 := w3) w3.heap.size rfl (.tmp 46) (.tmp 50) 22 34 (.agg #[.int .i64 0, .bool false, .slice none 0 0, .int .i64 0, .string ⟨#[]⟩, .slice none 0 0, .slice none 0 0]) 112 rfl Tryz.underlying22 infoV_ rfl (by decide) (by decide) (.slice Ga la ca) rowsA news (some ad0) gl c0 (fun _ => True) (fun _ => False) rfl rfl ra2 (Kd.C_below HNR.out HBc.out) (fun _ _ h => h) (fun _ h => h.elim) (fun _ _ => trivial) HBc.out HBc.out.size (by rw [ra1]; have := HBD.out; omega) ?_
    intro v1 w7 hR7 hB7 hg7 hat7
    have HT := Lib.hid (HT.out.grow ra1 ra3 HNL.out HNK.out hR7 hB7 hg7 hat7)
    first | (have HN13 := Lib.hid ((hg7.block _ (blk_lt HN13.out) (fun e => absurd (HNE.out _ e.symm) (Nat.lt_irrefl _))).trans HN13.out)) | skip
    obtain ⟨G7, c7, rfl⟩ := Kd.R_slice hR7
    clear hR7 hg7 hat7 ra1 ra2 ra3
    have HBc := Lib.hid hB7
    refine hK_ _ _ ?_
    clear hK_ K_
    simp only [Act.put, List.getElem_toArray, List.getElem_cons_zero, List.getElem_cons_succ, List.setIfInBounds_toArray, List.set_cons_zero, List.set_cons_succ]
    refine one 13 rfl (by kernel_rfl) (by rfl) fun K_ hK_ => ?_
    simp only [List.getElem_toArray, List.getElem_cons_succ, List.getElem_cons_zero]
    go_simp
    have HN13 := Lib.hid (new_of HBc.out #[a0, a1, a2, a3, a4, a5, a6] 34)
    have HNE := Lib.hid HT.out.left.lt
    have HT := Lib.hid (HT.out.later (below_alloc (Below.refl _ _) (.cells #[a0, a1, a2, a3, a4, a5, a6] 34)))
    have HBc := Lib.hid HT.out.below
    have q0 := trivial
    clear q0
    refine hK_ _ _ ?_
    clear hK_ K_
    refine one 14 rfl (by kernel_rfl) (by rfl) fun K_ hK_ => ?_
    obtain ⟨rowsB, rb1, rb2, rb3⟩ := HT.out.right
    refine rows_op (Kd.raw 7) (w0 := w3) w3.heap.size rfl (.tmp 52) (.tmp 59) 22 34 (.agg #[.int .i64 0, .bool false, .slice none 0 0, .int .i64 0, .string ⟨#[]⟩, .slice none 0 0, .slice none 0 0]) 112 rfl Tryz.underlying22 infoV_ rfl (by decide) (by decide) (.slice Gf lf cf) rowsB [[a0, a1, a2, a3, a4, a5, a6]] (some _) 1 1 (fun _ => True) (fun _ => False) rfl rfl rb2 (one_row HN13.out rfl HONE.out) (fun _ _ h => h) (fun _ h => h.elim) (fun _ _ => trivial) HBc.out HBc.out.size (by rw [rb1, List.length_take]; have := Nat.min_le_left k (heads gs).length; omega) ?_
    intro v2 w8 hR8 hB8 hg8 hat8
    have HT := Lib.hid (HT.out.swap.grow rb1 rb3 rfl HHK.out hR8 hB8 hg8 hat8).swap
    obtain ⟨G8, c8, rfl⟩ := Kd.R_slice hR8
    clear hR8 hg8 hat8 rb1 rb2 rb3
    have HBc := Lib.hid hB8
    refine hK_ _ _ ?_
    clear hK_ K_
    simp only [Act.put, List.getElem_toArray, List.getElem_cons_zero, List.getElem_cons_succ, List.setIfInBounds_toArray, List.set_cons_zero, List.set_cons_succ]
    refine tk 15 rfl rfl (by kernel_rfl) (fun _ _ _ h => h) (by rfl) (by intro w_; go_simp; try with_reducible rfl) ?_
    refine tk 16 rfl rfl (by kernel_rfl) (fun _ _ _ h => h) (by rfl) (by intro w_; go_simp; try with_reducible rfl) ?_
    refine wpAny_done (by kernel_rfl) ?_ _
    simp only [List.set_cons_zero, List.set_cons_succ]
    rotate_left
    simp only [List.getElem_toArray, List.getElem_cons_succ, List.getElem_cons_zero]
    go_simp
    have HN13 := Lib.hid (new_of HBc.out #[a0, a1, a2, a3, a4, a5, a6] 34)
    have HNE := Lib.hid HT.out.left.lt
    have HT := Lib.hid (HT.out.later (below_alloc (Below.refl _ _) (.cells #[a0, a1, a2, a3, a4, a5, a6] 34)))
    have HBc := Lib.hid HT.out.below
    have q0 := trivial
    clear q0
    refine hK_ _ _ ?_
    clear hK_ K_
    refine one 5 rfl (by kernel_rfl) (by rfl) fun K_ hK_ => ?_
    obtain ⟨rowsA, ra1, ra2, ra3⟩ := HT.out.left
    refine rows_op (Kd.raw 7) (w0 := w3) w3.heap.size rfl (.tmp 46) (.tmp 50) 22 34 (.agg #[.int .i64 0, .bool false, .slice none 0 0, .int .i64 0, .string ⟨#[]⟩, .slice none 0 0, .slice none 0 0]) 112 rfl Tryz.underlying22 infoV_ rfl (by decide) (by decide) (.slice Ga la ca) rowsA news (some ad0) gl c0 (fun _ => True) (fun _ => False) rfl rfl ra2 (Kd.C_below HNR.out HBc.out) (fun _ _ h => h) (fun _ h => h.elim) (fun _ _ => trivial) HBc.out HBc.out.size (by rw [ra1]; have := HBD.out; omega) ?_
    intro v1 w7 hR7 hB7 hg7 hat7
    have HT := Lib.hid (HT.out.grow ra1 ra3 HNL.out HNK.out hR7 hB7 hg7 hat7)
    first | (have HN13 := Lib.hid ((hg7.block _ (blk_lt HN13.out) (fun e => absurd (HNE.out _ e.symm) (Nat.lt_irrefl _))).trans HN13.out)) | skip
    obtain ⟨G7, c7, rfl⟩ := Kd.R_slice hR7
    clear hR7 hg7 hat7 ra1 ra2 ra3
    have HBc := Lib.hid hB7
    refine hK_ _ _ ?_
    clear hK_ K_
    simp only [Act.put, List.getElem_toArray, List.getElem_cons_zero, List.getElem_cons_succ, List.setIfInBounds_toArray, List.set_cons_zero, List.set_cons_succ]
    refine one 14 rfl (by kernel_rfl) (by rfl) fun K_ hK_ => ?_
    obtain ⟨rowsB, rb1, rb2, rb3⟩ := HT.out.right
    refine rows_op (Kd.raw 7) (w0 := w3) w3.heap.size rfl (.tmp 52) (.tmp 59) 22 34 (.agg #[.int .i64 0, .bool false, .slice none 0 0, .int .i64 0, .string ⟨#[]⟩, .slice none 0 0, .slice none 0 0]) 112 rfl Tryz.underlying22 infoV_ rfl (by decide) (by decide) (.slice Gf lf cf) rowsB [[a0, a1, a2, a3, a4, a5, a6]] (some _) 1 1 (fun _ => True) (fun _ => False) rfl rfl rb2 (one_row HN13.out rfl HONE.out) (fun _ _ h => h) (fun _ h => h.elim) (fun _ _ => trivial) HBc.out HBc.out.size (by rw [rb1, List.length_take]; have := Nat.min_le_left k (heads gs).length; omega) ?_
    intro v2 w8 hR8 hB8 hg8 hat8
    have HT := Lib.hid (HT.out.swap.grow rb1 rb3 rfl HHK.out hR8 hB8 hg8 hat8).swap
    obtain ⟨G8, c8, rfl⟩ := Kd.R_slice hR8
    clear hR8 hg8 hat8 rb1 rb2 rb3
    have HBc := Lib.hid hB8
    refine hK_ _ _ ?_
    clear hK_ K_
    simp only [Act.put, List.getElem_toArray, List.getElem_cons_zero, List.getElem_cons_succ, List.setIfInBounds_toArray, List.set_cons_zero, List.set_cons_succ]
    refine tk 15 rfl rfl (by kernel_rfl) (fun _ _ _ h => h) (by rfl) (by intro w_; go_simp; try with_reducible rfl) ?_
    refine tk 16 rfl rfl (by kernel_rfl) (fun _ _ _ h => h) (by rfl) (by intro w_; go_simp; try with_reducible rfl) ?_
    refine wpAny_done (by kernel_rfl) ?_ _
    simp only [List.set_cons_zero, List.set_cons_succ]
    rotate_left
    simp only [List.getElem_toArray, List.getElem_cons_succ, List.getElem_cons_zero]
    go_simp
    have HN13 := Lib.hid (new_of HBc.out #[a0, a1, a2, a3, a4, a5, a6] 34)
    have HNE := Lib.hid HT.out.left.lt
    have HT := Lib.hid (HT.out.later (below_alloc (Below.refl _ _) (.cells #[a0, a1, a2, a3, a4, a5, a6] 34)))
    have HBc := Lib.hid HT.out.below
    have q0 := trivial
    clear q0
    refine hK_ _ _ ?_
    clear hK_ K_
    refine one 4 rfl (by kernel_rfl) (by rfl) fun K_ hK_ => ?_
    have q := HCL.out _ HBc.out
    simp only [List.getElem_toArray, List.getElem_cons_succ, List.getElem_cons_zero]
    go_simp
    clear q
    refine hK_ _ _ ?_
    clear hK_ K_
    refine one 5 rfl (by kernel_rfl) (by rfl) fun K_ hK_ => ?_
    obtain ⟨rowsA, ra1, ra2, ra3⟩ := HT.out.left
    refine rows_op (Kd.raw 7) (w0 := w3) w3.heap.size rfl (.tmp 46) (.tmp 50) 22 34 (.agg #[.int .i64 0, .bool false, .slice none 0 0, .int .i64 0, .string ⟨#[]⟩, .slice none 0 0, .slice none 0 0]) 112 rfl Tryz.underlying22 infoV_ rfl (by decide) (by decide) (.slice Ga la ca) rowsA news (some ad0) gl c0 (fun _ => True) (fun _ => False) rfl rfl ra2 (Kd.C_below HNR.out HBc.out) (fun _ _ h => h) (fun _ h => h.elim) (fun _ _ => trivial) HBc.out HBc.out.size (by rw [ra1]; have := HBD.out; omega) ?_
    intro v1 w7 hR7 hB7 hg7 hat7
    have HT := Lib.hid (HT.out.grow ra1 ra3 HNL.out HNK.out hR7 hB7 hg7 hat7)
    first | (have HN13 := Lib.hid ((hg7.block _ (blk_lt HN13.out) (fun e => absurd (HNE.out _ e.symm) (Nat.lt_irrefl _))).trans HN13.out)) | skip
    obtain ⟨G7, c7, rfl⟩ := Kd.R_slice hR7
    clear hR7 hg7 hat7 ra1 ra2 ra3
    have HBc := Lib.hid hB7
    refine hK_ _ _ ?_
    clear hK_ K_
    simp only [Act.put, List.getElem_toArray, List.getElem_cons_zero, List.getElem_cons_succ, List.setIfInBounds_toArray, List.set_cons_zero, List.set_cons_succ]
    refine one 14 rfl (by kernel_rfl) (by rfl) fun K_ hK_ => ?_
    obtain ⟨rowsB, rb1, rb2, rb3⟩ := HT.out.right
    refine rows_op (Kd.raw 7) (w0 := w3) w3.heap.size rfl (.tmp 52) (.tmp 59) 22 34 (.agg #[.int .i64 0, .bool false, .slice none 0 0, .int .i64 0, .string ⟨#[]⟩, .slice none 0 0, .slice none 0 0]) 112 rfl Tryz.underlying22 infoV_ rfl (by decide) (by decide) (.slice Gf lf cf) rowsB [[a0, a1, a2, a3, a4, a5, a6]] (some _) 1 1 (fun _ => True) (fun _ => False) rfl rfl rb2 (one_row HN13.out rfl HONE.out) (fun _ _ h => h) (fun _ h => h.elim) (fun _ _ => trivial) HBc.out HBc.out.size (by rw [rb1, List.length_take]; have := Nat.min_le_left k (heads gs).length; omega) ?_
    intro v2 w8 hR8 hB8 hg8 hat8
    have HT := Lib.hid (HT.out.swap.grow rb1 rb3 rfl HHK.out hR8 hB8 hg8 hat8).swap
    obtain ⟨G8, c8, rfl⟩ := Kd.R_slice hR8
    clear hR8 hg8 hat8 rb1 rb2 rb3
    have HBc := Lib.hid hB8
    refine hK_ _ _ ?_
    clear hK_ K_
    simp only [Act.put, List.getElem_toArray, List.getElem_cons_zero, List.getElem_cons_succ, List.setIfInBounds_toArray, List.set_cons_zero, List.set_cons_succ]
    refine tk 15 rfl rfl (by kernel_rfl) (fun _ _ _ h => h) (by rfl) (by intro w_; go_simp; try with_reducible rfl) ?_
    refine tk 16 rfl rfl (by kernel_rfl) (fun _ _ _ h => h) (by rfl) (by intro w_; go_simp; try with_reducible rfl) ?_
    refine wpAny_done (by kernel_rfl) ?_ _
    simp only [List.set_cons_zero, List.set_cons_succ]
    rotate_left
    all_goals
     go_wp2_with fail
     refine ⟨⟨k + 1, _, _, G7, G8, c7, c8, hlt, by go_num, rfl, rfl, Lib.hid ?_⟩, by show n - ((k : Int) + 1).toNat < n - ((k : Nat) : Int).toNat; omega⟩
     rw [HFK.out, HTK.out]
     have hT := HT.out
     simp only [List.length_append] at hT
     exact hT
  · obtain rfl : k = n := by omega
    have hlt2 : ¬ (k : Int) < (k : Int) := by omega
    have htk : gs.take k = gs := List.take_of_length_le (by rw [← HN.out]; exact Nat.le_refl _)
    have hth : (heads gs).take k = heads gs := List.take_of_length_le (by rw [heads_len, ← HN.out]; exact Nat.le_refl _)
    have hT := HT.out
    rw [htk, hth] at hT
    obtain ⟨Ga', ca', ea, la', ga'⟩ := hT.left.reads hT.below
    obtain ⟨Gf', cf', ef, lf', gf'⟩ := hT.right.reads hT.below
    rw [heads_len] at ef lf' gf'
    injection ea with ea1 ea2 ea3
    injection ef with ef1 ef2 ef3
    subst ea1 ea3 ef1 ef3
    rw [← HM.out] at ea2
    rw [← HN.out] at ef2
    subst ea2 ef2
    have HSA : Hid (∀ W, Below w3.heap.size w3 W → Below wr.heap.size wr W → Calls Tryz.prog 14 #[.slice Ga la ca, .slice G2 la c2] W fun e w' => e = .returned (.bool true) ∧ Below W.heap.size W w') := Lib.hid (fun W h3 hW => by
     have := SameAll_any gs.flatten gs.flatten Ga ca G2 c2 W la' (Kd.C_below ga' hW) HYC.out (Kd.C_below HY.out h3)
     rw [same_refl, ← HM.out] at this
     exact this)
    have HSB : Hid (∀ W, Below w3.heap.size w3 W → Below wr.heap.size wr W → Calls Tryz.prog 14 #[.slice Gf lf cf, .slice G3 lf c3] W fun e w' => e = .returned (.bool true) ∧ Below W.heap.size W w') := Lib.hid (fun W h3 hW => by
     have := SameAll_any (heads gs) (heads gs) Gf cf G3 c3 W (by rw [heads_len]; exact lf') (by rw [heads_len]; exact Kd.C_below gf' hW) (by rw [heads_len]; exact HUC.out) (by rw [heads_len]; exact Kd.C_below HU.out h3)
     rw [same_refl, heads_len, ← HN.out] at this
     exact this)
    have HB0 := Lib.hid hT.below
    clear hT ga' gf' la' lf' htk hth
    go_wp2_with (go_at_call 14; first | (refine (HSA.out _ HB0.out (Below.refl _ _)).mono ?_; rintro e w5 ⟨rfl, hB5⟩; have HB5 := Lib.hid hB5; clear hB5) | (refine (HSB.out _ (HB0.out.trans (HB5.out.mono HB0.out.size)) HB5.out).mono ?_; rintro e w6 ⟨rfl, hB6⟩; have HB6 := Lib.hid hB6; clear hB6))
    go_ret
    exact ⟨rfl, HW3.out.trans ((HB0.out.trans ((HB5.out.trans (HB6.out.mono HB5.out.size)).mono HB0.out.size)).mono HW3.out.size)⟩
end Go.Proofs.YtmfpakolfpoamaaGreatDoor.P

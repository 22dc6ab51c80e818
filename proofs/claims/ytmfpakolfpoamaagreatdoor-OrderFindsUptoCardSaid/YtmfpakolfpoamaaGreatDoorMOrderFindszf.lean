/- Texts of this claim, one behind the other. -/
import Derived.Test.YtmfpakolfpoamaaGreatDoorMOrderFindsze
import Derived.Test.YtmfpakolfpoamaaGreatDoorMOrderFindsza
import Derived.Test.YtmfpakolfpoamaaGreatDoorMOrderFindsl
import Derived.Test.YtmfpakolfpoamaaGreatDoorMOrderFindse
import Derived.Test.YtmfpakolfpoamaaGreatDoorRows
import Derived.ChangeArms
import Derived.ChangeSlices
import Derived.DataReads
import Derived.DataElems
set_option maxRecDepth 100000
namespace Go.Proofs.YtmfpakolfpoamaaGreatDoor.P
set_option linter.unusedVariables false
set_option linter.unusedSimpArgs false
open Go.RowKit Go.Proofs.YtmfpakolfpoamaaGreatDoorW.PrintWords Go.Proofs.YtmfpakolfpoamaaGreatDoorW.PrintMore Go.Proofs.YtmfpakolfpoamaaGreatDoorW.PrintLast
theorem leastP_iff {x y : V} : leastP x y = true ↔ vord x y < 0 := by unfold leastP; exact decide_eq_true_iff
theorem mostP_iff {x y : V} : mostP x y = true ↔ ¬ vord x y < 0 := by unfold mostP; rw [decide_eq_true_iff]; omega
def pel (rows : List (List Value)) (ks l : List V) (j : Nat) : PEl := ⟨rows.getD j [], rd_T34 ks (j : Int), rd_T34 l (j : Int), j⟩
theorem mem_pels {rows : List (List Value)} {ks l : List V} {n : Nat} {e : PEl} : e ∈ pels rows ks l n ↔ ∃ j, j < n ∧ e = pel rows ks l j := by
 unfold pels
 rw [List.mem_map]
 constructor
 · rintro ⟨j, hj, rfl⟩
   exact ⟨j, List.mem_range.1 hj, rfl⟩
 · rintro ⟨j, hj, rfl⟩
   exact ⟨j, List.mem_range.2 hj, rfl⟩
theorem least_to (rows : List (List Value)) (ks l : List V) : ∀ k, ∀ j, j < k → j ≠ bestTo leastP ks k → elt (pel rows ks l (bestTo leastP ks k)) (pel rows ks l j)
 | 0, j, hj, _ => by omega
 | k + 1, j, hj, hn => by
  have hb := bestTo_le leastP ks k
  rw [bestTo] at hn ⊢
  by_cases hp : leastP (rd_T34 ks (k : Int)) (rd_T34 ks (bestTo leastP ks k : Nat)) = true
  · rw [if_pos hp] at hn ⊢
    have h1 : elt (pel rows ks l k) (pel rows ks l (bestTo leastP ks k)) := .inl (leastP_iff.1 hp)
    by_cases hj2 : j = bestTo leastP ks k
    · rw [hj2]; exact h1
    · exact elt_trans h1 (least_to rows ks l k j (by omega) hj2)
  · rw [if_neg hp] at hn ⊢
    by_cases hj2 : j = k
    · subst hj2
      rcases Nat.eq_zero_or_pos j with h0 | h0
      · subst h0; exact absurd rfl hn
      · exact elt_of_ge (x := pel rows ks l j) (y := pel rows ks l (bestTo leastP ks j)) (fun h => hp (leastP_iff.2 h)) (bestTo_lt leastP ks j h0)
    · exact least_to rows ks l k j (by omega) hn
theorem most_to (rows : List (List Value)) (ks l : List V) : ∀ k, ∀ j, j < k → j ≠ bestTo mostP ks k → elt (pel rows ks l j) (pel rows ks l (bestTo mostP ks k))
 | 0, j, hj, _ => by omega
 | k + 1, j, hj, hn => by
  have hb := bestTo_le mostP ks k
  rw [bestTo] at hn ⊢
  by_cases hp : mostP (rd_T34 ks (k : Int)) (rd_T34 ks (bestTo mostP ks k : Nat)) = true
  · rw [if_pos hp] at hn ⊢
    have hk : 0 < k := by omega
    have h1 : elt (pel rows ks l (bestTo mostP ks k)) (pel rows ks l k) := elt_of_ge (x := pel rows ks l k) (y := pel rows ks l (bestTo mostP ks k)) (mostP_iff.1 hp) (bestTo_lt mostP ks k hk)
    by_cases hj2 : j = bestTo mostP ks k
    · rw [hj2]; exact h1
    · exact elt_trans (most_to rows ks l k j (by omega) hj2) h1
  · rw [if_neg hp] at hn ⊢
    by_cases hj2 : j = k
    · subst hj2
      exact .inl (Decidable.not_not.1 (fun h => hp (mostP_iff.2 h)))
    · exact most_to rows ks l k j (by omega) hn
theorem Sorted.first {ks l ys : List V} (h : Sorted ks l ys) (hn : 0 < ks.length) : ys[0]? = some (rd_T34 l (bestTo leastP ks ks.length : Nat)) := by
 obtain ⟨S, hp, hs, rfl⟩ := h
 have hb := bestTo_lt leastP ks ks.length hn
 have hm : pel [] ks l (bestTo leastP ks ks.length) ∈ S := hp.mem_iff.2 (mem_pels.2 ⟨_, hb, rfl⟩)
 cases S with
 | nil => cases hm
 | cons e S =>
  obtain ⟨j, hj, he⟩ := mem_pels.1 (hp.mem_iff.1 List.mem_cons_self)
  have hjb : j = bestTo leastP ks ks.length := by
   by_cases hjb : j = bestTo leastP ks ks.length
   · exact hjb
   · have h1 := least_to [] ks l ks.length j hj hjb
     rcases List.mem_cons.1 hm with h2 | h2
     · have h3 := congrArg PEl.tag (h2.trans he)
       exact h3.symm
     · exact absurd ((List.pairwise_cons.1 hs).1 _ h2) (fun h4 => elt_irr h4 (by rw [he]; exact h1))
  rw [he, hjb]
  rfl
theorem Sorted.last {ks l ys : List V} (h : Sorted ks l ys) (hn : 0 < ks.length) : ys.length = ks.length ∧ ys[ks.length - 1]? = some (rd_T34 l (bestTo mostP ks ks.length : Nat)) := by
 obtain ⟨S, hp, hs, rfl⟩ := h
 have hl : S.length = ks.length := by rw [hp.length_eq, pels_len]
 refine ⟨by rw [List.length_map]; exact hl, ?_⟩
 have hb := bestTo_lt mostP ks ks.length hn
 have hm : pel [] ks l (bestTo mostP ks ks.length) ∈ S := hp.mem_iff.2 (mem_pels.2 ⟨_, hb, rfl⟩)
 have hne : S ≠ [] := by intro e; rw [e] at hl; simp at hl; omega
 obtain ⟨S', e, rfl⟩ : ∃ S' e, S = S' ++ [e] := ⟨S.dropLast, S.getLast hne, (List.dropLast_concat_getLast hne).symm⟩
 obtain ⟨j, hj, he⟩ := mem_pels.1 (hp.mem_iff.1 (List.mem_append_right _ List.mem_cons_self))
 have hjb : j = bestTo mostP ks ks.length := by
  by_cases hjb : j = bestTo mostP ks ks.length
  · exact hjb
  · have h1 := most_to [] ks l ks.length j hj hjb
    rcases List.mem_append.1 hm with h2 | h2
    · exact absurd ((List.pairwise_append.1 hs).2.2 _ h2 e List.mem_cons_self) (fun h4 => elt_irr h4 (by rw [he]; exact h1))
    · have h3 := congrArg PEl.tag ((List.mem_singleton.1 h2).trans he)
      exact h3.symm
 have hl2 : ks.length - 1 = (S'.map PEl.val).length := by rw [List.length_append, List.length_singleton] at hl; rw [List.length_map]; omega
 rw [List.map_append, hl2, List.getElem?_append_right (Nat.le_refl _), Nat.sub_self, he, hjb]
 rfl
def numV (n : Int) : V := ⟨3, ⟨false, [n], 0⟩, ⟨#[]⟩, [], []⟩
theorem num_small {n : Nat} (h0 : n ≠ 0) (h1 : n ≤ 9) : numI n = numV n := by
 have hs : strip n = (n, 0) := strip_end (by omega)
 have hd : (decs n).length ≤ 300 := Nat.le_trans (decs_len (k := 1) (by omega)) (by decide)
 have hl : limbs n = [(n : Int)] := by rw [limbs_pos h0, show n / 4294967296 = 0 by omega, limbs_zero, show n % 4294967296 = n by omega]
 unfold numI intD madeD
 rw [if_neg h0, hs, if_neg (Nat.not_lt.2 hd), if_neg (by simp)]
 simp [numV, hl]
theorem number_1 : numI 1 = numV 1 := num_small (by decide) (by decide)
theorem number_2 : numI 2 = numV 2 := num_small (by decide) (by decide)
theorem number_3 : numI 3 = numV 3 := num_small (by decide) (by decide)
theorem Number_any (n : Nat) (hf : numI n = numV n) (h : n ≤ 9) (w : World) :
 Calls Tryz.prog 34 #[.int .i64 (n : Int)] w fun e w' => ∃ cs : List Value, e = .returned (.agg cs.toArray) ∧ k34.M w' w.heap.size (fun _ => True) (numV n) cs ∧ Below w.heap.size w w' := by
 rw [← hf]
 exact NumberI_any n w (by omega)
theorem lask_three : lask [numV 3, numV 1, numV 2] [numV 3, numV 1, numV 2] = 0 := by decide +kernel
def lst3 : List V := [numV 3, numV 1, numV 2]
theorem best_three : bestTo leastP lst3 3 = 1 ∧ bestTo mostP lst3 3 = 0 := by decide +kernel
theorem sorted_three {ys : List V} (h : Sorted lst3 lst3 ys) : ys.length = 3 ∧ ys[0]? = some (numV 1) ∧ ys[2]? = some (numV 3) := by
 have h1 := h.first (by decide)
 have h2 := h.last (by decide)
 rw [show lst3.length = 3 from rfl] at h1 h2
 rw [best_three.1] at h1
 rw [best_three.2] at h2
 exact ⟨h2.1, h1, h2.2⟩
theorem three_C {w0 w : World} {x y z : V} {cs ds es : List Value} {t : Nat} (hb : Below w0.heap.size w0 w) (hx : k34.K w0 x cs) (hy : k34.K w0 y ds) (hz : k34.K w0 z es) :
 k34.C (w.alloc (.cells (cs ++ (ds ++ es)).toArray t)) (some ⟨w.heap.size, 0, none⟩) 3 [x, y, z] := by
 have hb2 : Below w0.heap.size w0 (w.alloc (.cells (cs ++ (ds ++ es)).toArray t)) := hb.alloc hb.size _
 have l1 : cs.length = 7 := k34.K_len hx
 have l2 : ds.length = 7 := k34.K_len hy
 have l3 : es.length = 7 := k34.K_len hz
 have hc : ∀ i u, (cs ++ (ds ++ es))[i]? = some u → (w.alloc (.cells (cs ++ (ds ++ es)).toArray t)).cell? ((⟨w.heap.size, 0, none⟩ : Addr).add i) = some u := fun i u hu => by
  rw [Addr.add_mid, Nat.zero_add, blk_cell (blk_new w _), List.getElem?_toArray]
  exact hu
 refine ⟨rfl, by decide, fun _ => ⟨_, rfl, fun j p hj => ?_⟩⟩
 rcases j with _ | _ | _ | j
 · obtain rfl := Option.some.inj hj
   exact ⟨cs, l1, k34.K_below hb2 hx, fun i u hu => hc _ u (by
    have hi := (List.getElem?_eq_some_iff.1 hu).1
    rw [show 0 * k34.sz + i = i by omega, List.getElem?_append_left hi]; exact hu)⟩
 · obtain rfl := Option.some.inj hj
   exact ⟨ds, l2, k34.K_below hb2 hy, fun i u hu => hc _ u (by
    have hi := (List.getElem?_eq_some_iff.1 hu).1
    rw [show (0 + 1) * k34.sz + i = 7 + i from rfl, List.getElem?_append_right (by omega), l1, show 7 + i - 7 = i by omega, List.getElem?_append_left hi]; exact hu)⟩
 · obtain rfl := Option.some.inj hj
   exact ⟨es, l3, k34.K_below hb2 hz, fun i u hu => hc _ u (by
    rw [show (0 + 1 + 1) * k34.sz + i = 14 + i from rfl, List.getElem?_append_right (by omega), l1, List.getElem?_append_right (by omega), l2, show 14 + i - 7 - 7 = i by omega]; exact hu)⟩
 · simp at hj
theorem okV_num (n : Int) (h0 : 0 ≤ n) (h1 : n ≤ 9) : OkV (numV n) :=
 OkV.mk _ (by show (Lit.int .i64 3).wf = true; rfl) (fun m hm => by
  have : m = n := by simpa [numV] using hm
  subst this
  rcases (show m = 0 ∨ m = 1 ∨ m = 2 ∨ m = 3 ∨ m = 4 ∨ m = 5 ∨ m = 6 ∨ m = 7 ∨ m = 8 ∨ m = 9 by omega) with rfl | rfl | rfl | rfl | rfl | rfl | rfl | rfl | rfl | rfl <;> rfl) (by show (Lit.int .i64 0).wf = true; rfl) (by show (0 : Nat) ≤ 1073741824; decide) (fun n hn => absurd hn (by unfold numV; simp)) (by unfold numV; simp) (by unfold numV; simp) (by unfold numV; simp) (fun y hy => absurd hy (by unfold numV; simp))
theorem okV_three : ∀ x ∈ lst3, OkV x := fun x hx => by
 unfold lst3 at hx
 simp only [List.mem_cons, List.mem_nil_iff, or_false] at hx
 rcases hx with rfl | rfl | rfl
 · exact okV_num 3 (by decide) (by decide)
 · exact okV_num 1 (by decide) (by decide)
 · exact okV_num 2 (by decide) (by decide)
theorem rd_of_at {l : List V} {k : Nat} {x : V} (h : l[k]? = some x) : rd_T34 l (k : Int) = x := by
 unfold rd_T34
 rw [Int.toNat_natCast, List.getD_eq_getElem?_getD, h]
 rfl
theorem rng_V {w0 : World} {g : Nat} {l : List V} (h : k34.C w0 (some ⟨g, 0, none⟩) l.length l) (k : Nat) (hk : k < l.length) : ∃ cs : List Value, cs.length = 7 ∧ k34.K w0 (rd_T34 l (k : Int)) cs ∧ ∀ W : World, Below w0.heap.size w0 W → W.rangeAt g (k * 7) cs := by
 obtain ⟨ad, c, hA, hl, hK, hc⟩ := Kd.C_get h z34 (k : Int) (by omega) (by omega)
 obtain rfl := Option.some.inj hA
 rw [Int.toNat_natCast] at hK hc
 refine ⟨c, hl, by unfold rd_T34; rw [Int.toNat_natCast]; exact hK, fun W hb j v hj => ?_⟩
 have := hc j v hj
 rw [Addr.add_mid, Nat.zero_add] at this
 exact pw_cell_below hb this
theorem info_V (cs : List Value) (h : cs.length = 7) : (Tryz.prog.info? 34).map (·.size) = some cs.length := by rw [h]; kernel_rfl
theorem num_any (n : Int) (W : World) : Calls Tryz.prog 15 #[.int .i64 n] W fun e w' => e = .returned (.int .i64 n) ∧ w' = W := by
 go_enter Tryz.func15, Tryz.ntmps15
 go_wp2
 go_ret
 exact ⟨rfl, rfl⟩
set_option maxHeartbeats 2000000 in
theorem alive_any (w : World) (hLD : LaidW w) : Calls Tryz.prog 9 #[] w fun e w' => e = .returned (.bool true) ∧ Below w.heap.size w w' := by
 have H1 : Hid (∀ W, Calls Tryz.prog 34 #[.int .i64 1] W fun e w' => ∃ cs : List Value, e = .returned (.agg cs.toArray) ∧ k34.M w' W.heap.size (fun _ => True) (numV 1) cs ∧ Below W.heap.size W w') := Lib.hid (fun W => Number_any 1 number_1 (by decide) W)
 have H2 : Hid (∀ W, Calls Tryz.prog 34 #[.int .i64 2] W fun e w' => ∃ cs : List Value, e = .returned (.agg cs.toArray) ∧ k34.M w' W.heap.size (fun _ => True) (numV 2) cs ∧ Below W.heap.size W w') := Lib.hid (fun W => Number_any 2 number_2 (by decide) W)
 have H3 : Hid (∀ W, Calls Tryz.prog 34 #[.int .i64 3] W fun e w' => ∃ cs : List Value, e = .returned (.agg cs.toArray) ∧ k34.M w' W.heap.size (fun _ => True) (numV 3) cs ∧ Below W.heap.size W w') := Lib.hid (fun W => Number_any 3 number_3 (by decide) W)
 have HLD := Lib.hid hLD
 clear hLD
 have HOK : Hid (∀ x ∈ lst3, OkV x) := Lib.hid okV_three
 go_enter Tryz.func9, Tryz.ntmps9
 go_upto_region 2 with (first
  | (go_at_call 34; (with_reducible refine (H3.out _).mono ?_); rintro e w1 ⟨cs3, rfl, hM3, hB1⟩; have HM3 := Lib.hid hM3; have HB1 := Lib.hid hB1; obtain ⟨v2, v5, v6, rfl, r2, r5, r6⟩ := k34_openM hM3; clear hM3 hB1 r2 r5 r6)
  | (go_at_call 34; (with_reducible refine (H1.out _).mono ?_); rintro e w2 ⟨cs1, rfl, hM1, hB2⟩; have HM1 := Lib.hid hM1; have HB2 := Lib.hid hB2; obtain ⟨u2, u5, u6, rfl, r2, r5, r6⟩ := k34_openM hM1; clear hM1 hB2 r2 r5 r6)
  | (go_at_call 34; (with_reducible refine (H2.out _).mono ?_); rintro e w3 ⟨cs2, rfl, hM2, hB3⟩; have HM2 := Lib.hid hM2; have HB3 := Lib.hid hB3; obtain ⟨t2, t5, t6, rfl, r2, r5, r6⟩ := k34_openM hM2; clear hM2 hB3 r2 r5 r6)
  | (go_at_call 11; go_loud (refine (Sort_any lst3 (some ⟨w3.heap.size, 0, none⟩) 3 _ (HLD.out.below ((HB1.out.trans (HB2.out.mono HB1.out.size)).trans (HB3.out.mono (Nat.le_trans HB1.out.size HB2.out.size)) |>.alloc (Nat.le_trans HB1.out.size (Nat.le_trans HB2.out.size HB3.out.size)) _)) (three_C (w0 := w3) (Below.refl _ _) (k34.K_below (HB3.out) (k34.K_below HB2.out (k34.K_of_M HM3.out))) (k34.K_below HB3.out (k34.K_of_M HM1.out)) (k34.K_of_M HM2.out)) HOK.out (by decide)).mono ?_); rintro e w4 ⟨(⟨hbad, rfl⟩ | ⟨h0, v4, ys, rfl, hs, hr⟩), hB4⟩))
 · exact absurd lask_three hbad
 · obtain ⟨y1, y2, y3⟩ := sorted_three hs
   obtain ⟨g, c4, rfl, -⟩ := Kd.R_form hr (by omega)
   have hC := (Kd.R_reads' hr).2.2
   have e0 : rd_T34 ys ((0 : Nat) : Int) = numV 1 := rd_of_at y2
   have e2 : rd_T34 ys ((2 : Nat) : Int) = numV 3 := rd_of_at y3
   obtain ⟨ca, la, hKa, ra⟩ := rng_V hC 0 (by omega)
   obtain ⟨cb, lb, hKb, rb⟩ := rng_V hC 2 (by omega)
   rw [e0] at hKa
   rw [e2] at hKb
   rw [y1]
   have HKA := Lib.hid hKa
   have HKB := Lib.hid hKb
   have RA := Lib.hid ra
   have RB := Lib.hid rb
   have ia := info_V ca la
   have ib := info_V cb lb
   have hu := Tryz.underlying34
   have HW4 : Hid (Below w.heap.size w w4) := Lib.hid ((((HB1.out.trans (HB2.out.mono HB1.out.size)).trans (HB3.out.mono (Nat.le_trans HB1.out.size HB2.out.size))).alloc (Nat.le_trans HB1.out.size (Nat.le_trans HB2.out.size HB3.out.size)) _).trans (hB4.mono (by have h1 := HB1.out.size; have h2 := HB2.out.size; have h3 := HB3.out.size; rw [World.size_alloc]; omega)))
   clear hC hKa hKb hr hs y1 y2 y3 e0 e2 HM1 HM2 HM3 HOK HLD H2 hB4 HB1 HB2 HB3 h0 ra rb la lb
   have HBc : Hid (Below w4.heap.size w4 w4.drew) := Lib.hid (below_drew (Below.refl _ _))
   refine wp_region_any (by kernel_rfl) ?_
   change wpAny _ _ _ _ _ _ _ (World.drew _)
   refine tq 0 (h := ?_)
   simp only [lst]
   refine one 1 rfl (by kernel_rfl) (by rfl) fun K_ hK_ => ?_
   simp only [lgt]
   go_simp
   refine (num_any _ _).mono ?_
   rintro e_ w5 ⟨rfl, rfl⟩
   simp only [Oper.upon]
   refine hK_ _ _ ?_
   clear hK_ K_
   refine tq 2 (h := ?_)
   refine tq 3 (h := ?_)
   simp only [lst]
   refine tq 4 (h := ?_)
   simp only [lst]
   refine one 5 rfl (by kernel_rfl) (by rfl) fun K_ hK_ => ?_
   simp only [lgt]
   go_simp
   refine hK_ _ _ ?_
   clear hK_ K_
   refine tq 6 (h := ?_)
   refine tq 7 (h := ?_)
   simp only [lst]
   refine tq 8 (h := ?_)
   refine tq 9 (h := ?_)
   simp only [lst]
   refine tq 10 (h := ?_)
   simp only [lst]
   refine two 11 12 rfl rfl (by kernel_rfl) (by rfl) (by rfl) (fun K_ hK_ => ?_) (fun K_ hK_ => ?_)
   have rx := RA.out _ HBc.out
   refine wp_load_mid _ _ rfl _ _ rfl _ _ rx hu rfl ia ?_
   refine hK_ _ _ ?_
   clear hK_ K_
   simp only [Act.put, lgt, List.setIfInBounds_toArray, lst]
   refine one 12 rfl (by kernel_rfl) (by rfl) fun K_ hK_ => ?_
   simp only [lgt]
   go_simp
   refine (H1.out _).mono ?_
   rintro e_ w6 ⟨cs6, rfl, hM6, hB6⟩
   have HB6 := Lib.hid hB6
   have HK6 := Lib.hid (k34.K_of_M hM6)
   clear hB6 hM6
   have HBc := Lib.hid (HBc.out.trans (HB6.out.mono HBc.out.size))
   simp only [Oper.upon]
   refine hK_ _ _ ?_
   clear hK_ K_
   refine one 13 rfl (by kernel_rfl) (by rfl) fun K_ hK_ => ?_
   simp only [lgt]
   go_simp
   refine (Same_any _ _ _ _ _ (k34.K_below HBc.out HKA.out) HK6.out).mono ?_
   rw [same_refl]
   rintro e_ w7 ⟨rfl, hB7⟩
   have HB7 := Lib.hid hB7
   clear hB7
   have HBc := Lib.hid (HBc.out.trans (HB7.out.mono HBc.out.size))
   simp only [Oper.upon]
   refine hK_ _ _ ?_
   clear hK_ K_
   refine tq 14 (h := ?_)
   refine tq 15 (h := ?_)
   simp only [lst]
   refine tq 16 (h := ?_)
   refine tq 17 (h := ?_)
   simp only [lst]
   refine two 18 19 rfl rfl (by kernel_rfl) (by rfl) (by rfl) (fun K_ hK_ => ?_) (fun K_ hK_ => ?_)
   have rx := RB.out _ HBc.out
   refine wp_load_mid _ _ rfl _ _ rfl _ _ rx hu rfl ib ?_
   refine hK_ _ _ ?_
   clear hK_ K_
   simp only [Act.put, lgt, List.setIfInBounds_toArray, lst]
   refine one 19 rfl (by kernel_rfl) (by rfl) fun K_ hK_ => ?_
   simp only [lgt]
   go_simp
   refine (H3.out _).mono ?_
   rintro e_ w6 ⟨cs6, rfl, hM6, hB6⟩
   have HB6 := Lib.hid hB6
   have HK6 := Lib.hid (k34.K_of_M hM6)
   clear hB6 hM6
   have HBc := Lib.hid (HBc.out.trans (HB6.out.mono HBc.out.size))
   simp only [Oper.upon]
   refine hK_ _ _ ?_
   clear hK_ K_
   refine one 20 rfl (by kernel_rfl) (by rfl) fun K_ hK_ => ?_
   simp only [lgt]
   go_simp
   refine (Same_any _ _ _ _ _ (k34.K_below HBc.out HKB.out) HK6.out).mono ?_
   rw [same_refl]
   rintro e_ w7 ⟨rfl, hB7⟩
   have HB7 := Lib.hid hB7
   clear hB7
   have HBc := Lib.hid (HBc.out.trans (HB7.out.mono HBc.out.size))
   simp only [Oper.upon]
   refine hK_ _ _ ?_
   clear hK_ K_
   refine tq 21 (h := ?_)
   refine tq 22 (h := ?_)
   refine wpAny_done (by kernel_rfl) ?_ _
   simp only [lst]
   rotate_left
   simp only [lgt]
   go_simp
   refine (H3.out _).mono ?_
   rintro e_ w6 ⟨cs6, rfl, hM6, hB6⟩
   have HB6 := Lib.hid hB6
   have HK6 := Lib.hid (k34.K_of_M hM6)
   clear hB6 hM6
   have HBc := Lib.hid (HBc.out.trans (HB6.out.mono HBc.out.size))
   simp only [Oper.upon]
   refine hK_ _ _ ?_
   clear hK_ K_
   refine one 18 rfl (by kernel_rfl) (by rfl) fun K_ hK_ => ?_
   have rx := RB.out _ HBc.out
   refine wp_load_mid _ _ rfl _ _ rfl _ _ rx hu rfl ib ?_
   refine hK_ _ _ ?_
   clear hK_ K_
   simp only [Act.put, lgt, List.setIfInBounds_toArray, lst]
   refine one 20 rfl (by kernel_rfl) (by rfl) fun K_ hK_ => ?_
   simp only [lgt]
   go_simp
   refine (Same_any _ _ _ _ _ (k34.K_below HBc.out HKB.out) HK6.out).mono ?_
   rw [same_refl]
   rintro e_ w7 ⟨rfl, hB7⟩
   have HB7 := Lib.hid hB7
   clear hB7
   have HBc := Lib.hid (HBc.out.trans (HB7.out.mono HBc.out.size))
   simp only [Oper.upon]
   refine hK_ _ _ ?_
   clear hK_ K_
   refine tq 21 (h := ?_)
   refine tq 22 (h := ?_)
   refine wpAny_done (by kernel_rfl) ?_ _
   simp only [lst]
   rotate_left
   simp only [lgt]
   go_simp
   refine (H1.out _).mono ?_
   rintro e_ w6 ⟨cs6, rfl, hM6, hB6⟩
   have HB6 := Lib.hid hB6
   have HK6 := Lib.hid (k34.K_of_M hM6)
   clear hB6 hM6
   have HBc := Lib.hid (HBc.out.trans (HB6.out.mono HBc.out.size))
   simp only [Oper.upon]
   refine hK_ _ _ ?_
   clear hK_ K_
   refine one 11 rfl (by kernel_rfl) (by rfl) fun K_ hK_ => ?_
   have rx := RA.out _ HBc.out
   refine wp_load_mid _ _ rfl _ _ rfl _ _ rx hu rfl ia ?_
   refine hK_ _ _ ?_
   clear hK_ K_
   simp only [Act.put, lgt, List.setIfInBounds_toArray, lst]
   refine one 13 rfl (by kernel_rfl) (by rfl) fun K_ hK_ => ?_
   simp only [lgt]
   go_simp
   refine (Same_any _ _ _ _ _ (k34.K_below HBc.out HKA.out) HK6.out).mono ?_
   rw [same_refl]
   rintro e_ w7 ⟨rfl, hB7⟩
   have HB7 := Lib.hid hB7
   clear hB7
   have HBc := Lib.hid (HBc.out.trans (HB7.out.mono HBc.out.size))
   simp only [Oper.upon]
   refine hK_ _ _ ?_
   clear hK_ K_
   refine tq 14 (h := ?_)
   refine tq 15 (h := ?_)
   simp only [lst]
   refine tq 16 (h := ?_)
   refine tq 17 (h := ?_)
   simp only [lst]
   refine two 18 19 rfl rfl (by kernel_rfl) (by rfl) (by rfl) (fun K_ hK_ => ?_) (fun K_ hK_ => ?_)
   have rx := RB.out _ HBc.out
   refine wp_load_mid _ _ rfl _ _ rfl _ _ rx hu rfl ib ?_
   refine hK_ _ _ ?_
   clear hK_ K_
   simp only [Act.put, lgt, List.setIfInBounds_toArray, lst]
   refine one 19 rfl (by kernel_rfl) (by rfl) fun K_ hK_ => ?_
   simp only [lgt]
   go_simp
   refine (H3.out _).mono ?_
   rintro e_ w6 ⟨cs6, rfl, hM6, hB6⟩
   have HB6 := Lib.hid hB6
   have HK6 := Lib.hid (k34.K_of_M hM6)
   clear hB6 hM6
   have HBc := Lib.hid (HBc.out.trans (HB6.out.mono HBc.out.size))
   simp only [Oper.upon]
   refine hK_ _ _ ?_
   clear hK_ K_
   refine one 20 rfl (by kernel_rfl) (by rfl) fun K_ hK_ => ?_
   simp only [lgt]
   go_simp
   refine (Same_any _ _ _ _ _ (k34.K_below HBc.out HKB.out) HK6.out).mono ?_
   rw [same_refl]
   rintro e_ w7 ⟨rfl, hB7⟩
   have HB7 := Lib.hid hB7
   clear hB7
   have HBc := Lib.hid (HBc.out.trans (HB7.out.mono HBc.out.size))
   simp only [Oper.upon]
   refine hK_ _ _ ?_
   clear hK_ K_
   refine tq 21 (h := ?_)
   refine tq 22 (h := ?_)
   refine wpAny_done (by kernel_rfl) ?_ _
   simp only [lst]
   rotate_left
   simp only [lgt]
   go_simp
   refine (H3.out _).mono ?_
   rintro e_ w6 ⟨cs6, rfl, hM6, hB6⟩
   have HB6 := Lib.hid hB6
   have HK6 := Lib.hid (k34.K_of_M hM6)
   clear hB6 hM6
   have HBc := Lib.hid (HBc.out.trans (HB6.out.mono HBc.out.size))
   simp only [Oper.upon]
   refine hK_ _ _ ?_
   clear hK_ K_
   refine one 18 rfl (by kernel_rfl) (by rfl) fun K_ hK_ => ?_
   have rx := RB.out _ HBc.out
   refine wp_load_mid _ _ rfl _ _ rfl _ _ rx hu rfl ib ?_
   refine hK_ _ _ ?_
   clear hK_ K_
   simp only [Act.put, lgt, List.setIfInBounds_toArray, lst]
   refine one 20 rfl (by kernel_rfl) (by rfl) fun K_ hK_ => ?_
   simp only [lgt]
   go_simp
   refine (Same_any _ _ _ _ _ (k34.K_below HBc.out HKB.out) HK6.out).mono ?_
   rw [same_refl]
   rintro e_ w7 ⟨rfl, hB7⟩
   have HB7 := Lib.hid hB7
   clear hB7
   have HBc := Lib.hid (HBc.out.trans (HB7.out.mono HBc.out.size))
   simp only [Oper.upon]
   refine hK_ _ _ ?_
   clear hK_ K_
   refine tq 21 (h := ?_)
   refine tq 22 (h := ?_)
   refine wpAny_done (by kernel_rfl) ?_ _
   simp only [lst]
   rotate_left
   all_goals
    have HF := Lib.hid (HW4.out.trans (HBc.out.mono HW4.out.size))
    clear HBc HB7 HK6 HB6 HKA HKB RA RB ia ib hu
    go_wp2_with fail
    go_ret
    exact ⟨rfl, HF.out⟩
set_option maxHeartbeats 4000000 in
theorem finds_walk (l : List V) (A : Option Addr) (c : Nat) (v : V) (cs : List Value) (w : World) (hLD : LaidW w) (hl : l.length ≤ c) (hA : k34.C w A l.length l) (hO : ∀ x ∈ l, OkV x) (hn : l.length ≤ 1048576) (hKv : k34.K w v cs) (hOv : OkV v) :
 Calls Tryz.prog 7 #[.slice A l.length c, .agg cs.toArray] w fun e w' => e = .returned (.bool true) ∧ Below w.heap.size w w' := by
 have HKV := Lib.hid hKv
 obtain ⟨A2, c2, A5, c5, A6, c6, rfl, l2, g2, l5, g5, l6, g6⟩ := k34_open hKv
 clear l2 g2 l5 g5 l6 g6 hKv
 have HS := Lib.hid (fun W (hW : Below w.heap.size w W) => Search_any l v A c _ W (hLD.below hW) (Kd.C_below hA hW) hO hn (k34.K_below hW HKV.out) hOv)
 have HRS := Lib.hid (fun W (hW : Below w.heap.size w W) => rSearch_any l v A c _ W (Kd.C_below hA hW) hO hn (k34.K_below hW HKV.out) hOv)
 have HI := Lib.hid (fun W (hW : Below w.heap.size w W) => Index_any l v A c _ W (hLD.below hW) (Kd.C_below hA hW) hO hn (k34.K_below hW HKV.out) hOv)
 have HRI := Lib.hid (fun W (hW : Below w.heap.size w W) => rIndex_any l v A c _ W (Kd.C_below hA hW) hO hn (k34.K_below hW HKV.out) hOv)
 have HAL := Lib.hid (fun W (hW : Below w.heap.size w W) => alive_any W (hLD.below hW))
 have HSI := Lib.hid (sameInts_any (iidx l v))
 obtain ⟨W1, hW1⟩ : ∃ W1, W1 = w.alloc (.cells #[.int .i64 v.f0, .bool v.f1.f0, .slice A2 v.f1.f1.length c2, .int .i64 v.f1.f2, .string v.f2, .slice A5 v.f3.length c5, .slice A6 v.f4.length c6] 34) := ⟨_, rfl⟩
 have hb1 : Below w.heap.size w W1 := by rw [hW1]; exact (Below.refl _ _).alloc (Nat.le_refl _) _
 have hx1 : W1.heap[w.heap.size]? = some (.cells #[.int .i64 v.f0, .bool v.f1.f0, .slice A2 v.f1.f1.length c2, .int .i64 v.f1.f2, .string v.f2, .slice A5 v.f3.length c5, .slice A6 v.f4.length c6] 34 (0, 0)) := by rw [hW1]; exact blk_new _ _
 have HW1 := Lib.hid hW1
 have HB1 := Lib.hid hb1
 have HX1 := Lib.hid hx1
 obtain ⟨hcv, hfv⟩ := bcells hx1 (Below.refl _ _)
 generalize iidx l v = il at *
 generalize iask l v = ia at *
 clear hW1 hb1 hx1 hLD hl hA hO hn hOv
 go_enter Tryz.func7, Tryz.ntmps7
 go_upto_region 1 with (fail)
 rw [← HW1.out]
 go_wp2_with (first
  | (go_at_call 24; (with_reducible refine (HS.out _ HB1.out).mono ?_); rintro e w2 ⟨p, b, er, rfl, hf2, hB2⟩; obtain ⟨hc2, hz2⟩ := bcells HX1.out hB2; have HX2 := Lib.hid (blk_below2 HX1.out hB2); have HF2 := Lib.hid hf2; have HB2 := Lib.hid (HB1.out.trans (hB2.mono HB1.out.size)); clear hB2 hf2)
  | (go_at_call 25; (with_reducible refine (HRS.out _ HB2.out).mono ?_); rintro e w3 ⟨p3, b3, er3, rfl, hf3, hB3⟩; obtain ⟨e1, e2, e3⟩ := HF2.out.one hf3; subst e1 e2 e3; obtain ⟨hc3, hz3⟩ := bcells HX2.out hB3; have HX3 := Lib.hid (blk_below2 HX2.out hB3); have HB3 := Lib.hid (HB2.out.trans (hB3.mono HB2.out.size)); clear hB3 hf3)
  | (go_at_call 16; (with_reducible refine (HI.out _ HB3.out).mono ?_); rintro e w4 ⟨G4, g4, rfl, hR4, hB4⟩; obtain ⟨hc4, hz4⟩ := bcells HX3.out hB4; have HX4 := Lib.hid (blk_below2 HX3.out hB4); have HR4 := Lib.hid (Kd.R_reads' hR4).2.2; have HB4 := Lib.hid (HB3.out.trans (hB4.mono HB3.out.size)); clear hB4 hR4)
  | (go_at_call 26; (with_reducible refine (HRI.out _ HB4.out).mono ?_); rintro e w5 ⟨G5, g5, rfl, hR5, hB5⟩; have HR5 := Lib.hid (Kd.R_reads' hR5).2.2; have HR4' := Lib.hid (Kd.C_below HR4.out hB5); have HB5 := Lib.hid (HB4.out.trans (hB5.mono HB4.out.size)); clear hB5 hR5)
  | (go_at_call 15; (with_reducible refine (num_any _ _).mono ?_); rintro e w9 ⟨rfl, hw9⟩; obtain rfl := hw9.symm)
  | (go_at_call 27; (with_reducible refine (HSI.out _ _ _ _ _ HR4'.out HR5.out).mono ?_); rintro e w6 ⟨rfl, hB6⟩; have HB6 := Lib.hid (HB5.out.trans (hB6.mono HB5.out.size)); clear hB6)
  | (go_at_call 9; (with_reducible refine (HAL.out _ HB6.out).mono ?_); rintro e w7 ⟨rfl, hB7⟩; have HB7 := Lib.hid (HB6.out.trans (hB7.mono HB6.out.size)); clear hB7))
 go_ret
 exact ⟨rfl, HB7.out⟩
end Go.Proofs.YtmfpakolfpoamaaGreatDoor.P
namespace Go.Proofs.YtmfpakolfpoamaaGreatDoor.P
set_option linter.unusedVariables false
set_option linter.unusedSimpArgs false
open Go.RowKit Go.Proofs.YtmfpakolfpoamaaGreatDoorW.PrintWords Go.Proofs.YtmfpakolfpoamaaGreatDoorW.PrintMore
section
open _root_.Go.Proofs.YtmfpakolfpoamaaGreatDoor.Rows
theorem one_le_bulk {H : Type} (d : DataW H) : 1 ≤ uptoBulk d := by
 cases d with
 | lit l => cases l <;> simp [uptoBulk]
 | nil => simp [uptoBulk]
 | ptr d => simp [uptoBulk]
 | slice elems spare => simp [uptoBulk]
 | agg parts => simp [uptoBulk]
 | iface t d => simp [uptoBulk]
 | map entries => simp [uptoBulk]
 | held h => simp [uptoBulk]
theorem length_le_bulk {H : Type} (l : List (DataW H)) : l.length ≤ uptoBulkAll l := by
 induction l with
 | nil => simp [uptoBulkAll]
 | cons x r ih => have := one_le_bulk x; simp only [uptoBulkAll, List.length_cons]; omega
theorem mem_le_bulk {H : Type} {l : List (DataW H)} {d : DataW H} (h : d ∈ l) : uptoBulk d ≤ uptoBulkAll l := by
 induction l with
 | nil => simp at h
 | cons x r ih =>
  simp only [uptoBulkAll]
  rcases List.mem_cons.1 h with rfl | h
  · omega
  · have := ih h; omega
end
section
variable {H : Type} {enc : TypeId × Value → H} {P : Program} {w : World} {base : Nat} {spare : Nat → Bool} {held : Bool}
theorem open_row {α : Type} {d : Kd α} {okv : α → Prop} {t e : TypeId} {fuel : Nat} {cs : List Value} {x : DataW H × List MemPlace} (ht : P.underlying t = some (.slice e)) (hsz : d.sz = P.cellsOf e)
 (ih : ∀ n cs x, n < fuel → DataW.trod enc P w base spare held n e cs = some x → Rows.uptoBulk x.1 ≤ 1048576 → ∃ y : α, d.K w y cs ∧ okv y) (hbulk : Rows.uptoBulk x.1 ≤ 1048576) (h : DataW.trod enc P w base spare held fuel t cs = some x) :
 ∃ (A : Option Addr) (c : Nat) (ys : List α), cs = [.slice A ys.length c] ∧ ys.length ≤ c ∧ ys.length ≤ 1048576 ∧ d.C w A ys.length ys ∧ ∀ y ∈ ys, okv y := by
 rcases DataW.trod_slice ht h with ⟨rfl, _⟩ | ⟨a, len, cap, elems, rest, n, rfl, rfl, rfl, hb, hl, hm, hel0, hel, _, _⟩
 · exact ⟨none, 0, [], rfl, Nat.le_refl _, Nat.zero_le _, Kd.C_nil d w, fun y hy => by simp at hy⟩
 · have each : ∀ i, i < len → ∃ (cs : List Value) (y : α), w.cells? base (a.add (i * P.cellsOf e)) (P.cellsOf e) = some cs ∧ d.K w y cs ∧ okv y := fun i hi => by
    have h1 := hel i hi
    obtain ⟨z, hz⟩ : ∃ z, elems[i]? = some z := ⟨elems[i], List.getElem?_eq_getElem (by omega)⟩
    rw [hz, Option.bind_eq_some_iff] at h1
    obtain ⟨cs, h2, h3⟩ := h1
    obtain ⟨y, hy, hk⟩ := ih n cs z (Nat.lt_succ_self _) h3 (by
     have hm : z.1 ∈ elems.map (·.1) := List.mem_map_of_mem (List.mem_of_getElem? hz)
     have := mem_le_bulk hm
     replace hbulk : Rows.uptoBulk (DataW.slice (elems.map (·.1)) (rest.map (·.1))) ≤ 1048576 := hbulk
     rw [Rows.uptoBulk] at hbulk
     omega)
    exact ⟨cs, y, h2, hy, hk⟩
   have pick : ∀ m, m ≤ len → ∃ ys : List α, ys.length = m ∧ ∀ i y, ys[i]? = some y → (∃ cs, w.cells? base (a.add (i * P.cellsOf e)) (P.cellsOf e) = some cs ∧ d.K w y cs) ∧ okv y := by
    intro m
    induction m with
    | zero => exact fun _ => ⟨[], rfl, fun i y hy => by simp at hy⟩
    | succ m ihm =>
     intro hm
     obtain ⟨ys, hy1, hy2⟩ := ihm (by omega)
     obtain ⟨cs, y, h1, h2, h3⟩ := each m (by omega)
     refine ⟨ys ++ [y], by simp [hy1], fun i z hz => ?_⟩
     rcases Nat.lt_or_ge i m with hi | hi
     · rw [List.getElem?_append_left (by omega)] at hz
       exact hy2 i z hz
     · rw [List.getElem?_append_right (by omega), hy1] at hz
       have : i = m := by
        rcases Nat.lt_or_ge m i with h | h
        · rw [List.getElem?_eq_none (by simp; omega)] at hz; simp at hz
        · omega
       subst this
       simp at hz
       subst hz
       exact ⟨⟨cs, h1, h2⟩, h3⟩
   obtain ⟨ys, hy1, hy2⟩ := pick len (Nat.le_refl _)
   have hll : len ≤ 1048576 := by
    have := length_le_bulk (elems.map (·.1))
    rw [List.length_map, hel0] at this
    replace hbulk : Rows.uptoBulk (DataW.slice (elems.map (·.1)) (rest.map (·.1))) ≤ 1048576 := hbulk
    rw [Rows.uptoBulk] at hbulk
    omega
   refine ⟨some a, cap, ys, by rw [hy1], by omega, by omega, ⟨rfl, by unfold maxLen at hm; omega, fun _ => ⟨a, rfl, fun j p hj => ?_⟩⟩, fun y hy => ?_⟩
   · obtain ⟨⟨cs, h1, h2⟩, _⟩ := hy2 j p hj
     obtain ⟨_, h4, h5⟩ := World.cells?_some h1
     refine ⟨cs, by rw [hsz]; exact h4, h2, fun i u hu => ?_⟩
     have hi : i < P.cellsOf e := by have := (List.getElem?_eq_some_iff.1 hu).1; omega
     have := h5 i hi
     rw [hu] at this
     rw [← this, hsz, Addr.add_add]
   · obtain ⟨i, hi⟩ := List.getElem?_of_mem hy
     exact (hy2 i y hi).2
end
theorem field_at {H : Type} {enc : TypeId × Value → H} {P : Program} {w : World} {base : Nat} {spare : Nat → Bool} {held : Bool} {n : Nat} {cs : List Value} {xs : List (DataW H × List MemPlace)} {fs : Array Field}
 (hf : ∀ (i : Nat) (f : Field), fs[i]? = some f → DataW.trod enc P w base spare held n f.type ((cs.drop f.offset).take (P.cellsOf f.type)) = xs[i]?) (i t off k : Nat) (h : (fs[i]?).map (fun f => (f.type, f.offset)) = some (t, off)) (hk : P.cellsOf t = k) :
 DataW.trod enc P w base spare held n t ((cs.drop off).take k) = xs[i]? := by
 obtain ⟨f, h1, h2⟩ := Option.map_eq_some_iff.1 h
 simp only [Prod.mk.injEq] at h2
 obtain ⟨rfl, rfl⟩ := h2
 subst hk
 exact hf i f h1
section
variable {H : Type} {enc : TypeId × Value → H} {w : World} {base : Nat} {spare : Nat → Bool} {held : Bool}
theorem open_val : ∀ (fuel : Nat) (cs : List Value) (x : DataW H × List MemPlace), DataW.trod enc Tryz.prog w base spare held fuel 34 cs = some x → Rows.uptoBulk x.1 ≤ 1048576 → ∃ y : S34, k34.K w y cs ∧ OkV y := by
 intro fuel
 induction fuel using Nat.strongRecOn with
 | _ fuel ih =>
  intro cs x h hbulk
  obtain ⟨xs, n, rfl, rfl, hlen, hxl, hf⟩ := DataW.trod_struct Tryz.underlying34 h
  replace hbulk : Rows.uptoBulk (DataW.agg (xs.map (·.1))) ≤ 1048576 := hbulk
  rw [Rows.uptoBulk] at hbulk
  have part : ∀ (i : Nat) y, xs[i]? = some y → Rows.uptoBulk y.1 ≤ 1048576 := fun i y hy => by
   have := mem_le_bulk (List.mem_map_of_mem (f := (·.1)) (List.mem_of_getElem? hy))
   omega
  have hsz : Tryz.prog.cellsOf 34 = 7 := by kernel_rfl
  rw [hsz] at hlen
  obtain ⟨c0, c1, c2, c3, c4, c5, c6, rfl⟩ := list7 hlen
  have e3 : Tryz.prog.cellsOf 3 = 1 := by kernel_rfl
  have e24 : Tryz.prog.cellsOf 31 = 3 := by kernel_rfl
  have e9 : Tryz.prog.cellsOf 9 = 1 := by kernel_rfl
  have e25 : Tryz.prog.cellsOf 22 = 1 := by kernel_rfl
  have e26 : Tryz.prog.cellsOf 32 = 1 := by kernel_rfl
  have q0 : DataW.trod enc Tryz.prog w base spare held n 3 [c0] = xs[0]? := field_at hf 0 3 0 1 rfl e3
  have q1 : DataW.trod enc Tryz.prog w base spare held n 31 [c1, c2, c3] = xs[1]? := field_at hf 1 31 1 3 rfl e24
  have q2 : DataW.trod enc Tryz.prog w base spare held n 9 [c4] = xs[2]? := field_at hf 2 9 4 1 rfl e9
  have q3 : DataW.trod enc Tryz.prog w base spare held n 22 [c5] = xs[3]? := field_at hf 3 22 5 1 rfl e25
  have q4 : DataW.trod enc Tryz.prog w base spare held n 32 [c6] = xs[4]? := field_at hf 4 32 6 1 rfl e26
  obtain ⟨y0, g0⟩ : ∃ y, xs[0]? = some y := ⟨xs[0]'(by rw [hxl]; decide), List.getElem?_eq_getElem _⟩
  obtain ⟨y1, g1⟩ : ∃ y, xs[1]? = some y := ⟨xs[1]'(by rw [hxl]; decide), List.getElem?_eq_getElem _⟩
  obtain ⟨y2, g2⟩ : ∃ y, xs[2]? = some y := ⟨xs[2]'(by rw [hxl]; decide), List.getElem?_eq_getElem _⟩
  obtain ⟨y3, g3⟩ : ∃ y, xs[3]? = some y := ⟨xs[3]'(by rw [hxl]; decide), List.getElem?_eq_getElem _⟩
  obtain ⟨y4, g4⟩ : ∃ y, xs[4]? = some y := ⟨xs[4]'(by rw [hxl]; decide), List.getElem?_eq_getElem _⟩
  rw [g0] at q0
  rw [g1] at q1
  rw [g2] at q2
  rw [g3] at q3
  rw [g4] at q4
  obtain ⟨n0, p0, _, w0⟩ := DataW.trod_int Tryz.underlying3 q0
  obtain ⟨s, p2, hy2, _⟩ := DataW.trod_string Tryz.underlying9 q2
  have w2 : s.size ≤ 1073741824 := by
   have := part _ _ g2
   rw [hy2] at this
   replace this : Rows.uptoBulk (DataW.lit (.string s.data.toList) : DataW H) ≤ 1048576 := this
   rw [Rows.uptoBulk, Array.length_toList] at this
   have : s.size = s.data.size := rfl
   omega
  obtain ⟨zs, m, rfl, hy1, _, hzl, hz⟩ := DataW.trod_struct Tryz.underlying31 q1
  have e4 : Tryz.prog.cellsOf 4 = 1 := by kernel_rfl
  have e22 : Tryz.prog.cellsOf 29 = 1 := by kernel_rfl
  have r0 : DataW.trod enc Tryz.prog w base spare held m 4 [c1] = zs[0]? := field_at hz 0 4 0 1 rfl e4
  have r1 : DataW.trod enc Tryz.prog w base spare held m 29 [c2] = zs[1]? := field_at hz 1 29 1 1 rfl e22
  have r2 : DataW.trod enc Tryz.prog w base spare held m 3 [c3] = zs[2]? := field_at hz 2 3 2 1 rfl e3
  obtain ⟨z0, t0⟩ : ∃ y, zs[0]? = some y := ⟨zs[0]'(by rw [hzl]; decide), List.getElem?_eq_getElem _⟩
  obtain ⟨z1, t1⟩ : ∃ y, zs[1]? = some y := ⟨zs[1]'(by rw [hzl]; decide), List.getElem?_eq_getElem _⟩
  obtain ⟨z2, t2⟩ : ∃ y, zs[2]? = some y := ⟨zs[2]'(by rw [hzl]; decide), List.getElem?_eq_getElem _⟩
  rw [t0] at r0
  rw [t1] at r1
  rw [t2] at r2
  have hb1 := part _ _ g1
  rw [hy1] at hb1
  replace hb1 : Rows.uptoBulk (DataW.agg (zs.map (·.1))) ≤ 1048576 := hb1
  rw [Rows.uptoBulk] at hb1
  have hbz : Rows.uptoBulk z1.1 ≤ 1048576 := by
   have := mem_le_bulk (List.mem_map_of_mem (f := (·.1)) (List.mem_of_getElem? t1))
   omega
  obtain ⟨b, b0, _⟩ := DataW.trod_bool Tryz.underlying4 r0
  obtain ⟨ex, b2, _, w3⟩ := DataW.trod_int Tryz.underlying3 r2
  obtain ⟨A1, k1, co, b1, l1, m1, C1, ok1⟩ := open_row (d := Kd.int .u32) (okv := fun n => (Lit.int .u32 n).wf = true) Tryz.underlying29 (by kernel_rfl) (fun n cs x _ hx _ => by
   obtain ⟨v, rfl, _, hv⟩ := DataW.trod_int Tryz.underlying90 hx
   exact ⟨v, rfl, hv⟩) hbz r1
  obtain ⟨A3, k3, li, b3, l3, m3, C3, ok3⟩ := open_row (d := k34) (okv := OkV) Tryz.underlying22 (by rw [hsz]; rfl) (fun n cs x hn hx hb => ih n (by omega) cs x hx hb) (part _ _ g3) q3
  obtain ⟨A4, k4, ke, b4, l4, m4, C4, ok4⟩ := open_row (d := Kd.string) (okv := fun s => s.size ≤ 1073741824) Tryz.underlying32 (by kernel_rfl) (fun n cs x _ hx hb => by
   obtain ⟨v, rfl, rfl, hv⟩ := DataW.trod_string Tryz.underlying9 hx
   replace hb : Rows.uptoBulk (DataW.lit (.string v.data.toList) : DataW H) ≤ 1048576 := hb
   rw [Rows.uptoBulk, Array.length_toList] at hb
   exact ⟨v, rfl, by have : v.size = v.data.size := rfl; omega⟩) (part _ _ g4) q4
  simp only [List.cons.injEq, and_true] at p0 p2 b0 b1 b2 b3 b4
  subst p0 p2 b0 b1 b2 b3 b4
  exact ⟨⟨n0, ⟨b, co, ex⟩, s, li, ke⟩, k34_mk w ⟨n0, ⟨b, co, ex⟩, s, li, ke⟩ l1 C1 l3 C3 l4 C4, OkV.mk _ w0 ok1 w3 w2 ok4 (by simp only; omega) (by simp only; omega) (by simp only; omega) ok3⟩
end
end Go.Proofs.YtmfpakolfpoamaaGreatDoor.P

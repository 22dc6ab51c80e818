/- Texts of this claim, one behind the other. -/
import Derived.Test.YtmfpakolfpoamaaGreatDoorMOrderKeepsx
namespace Go.Proofs.YtmfpakolfpoamaaGreatDoor.P
set_option linter.unusedVariables false
set_option linter.unusedSimpArgs false
open Go.RowKit Go.Proofs.YtmfpakolfpoamaaGreatDoorW.PrintWords Go.Proofs.YtmfpakolfpoamaaGreatDoorW.PrintMore Go.Proofs.YtmfpakolfpoamaaGreatDoorW.PrintLast
structure OutMid (w w1 wr : World) (S : List PEl) (v : Value) (k : Nat) : Prop where
 ex : ∃ rows : List (List Value), rows.length = k ∧ Kd.R (Kd.raw 7) 34 wr w1.heap.size (fun _ => True) v rows ∧ ∀ (j : Nat) (e : PEl) (r : List Value), S[j]? = some e → rows[j]? = some r → k34.K w e.val r
 below : Below w1.heap.size w1 wr
theorem OutMid.reads {w w1 wr : World} {S : List PEl} {G : Option Addr} {cap k : Nat} (h : OutMid w w1 wr S (.slice G k cap) k) (hS : S.length = k) (hb : Below w.heap.size w w1) : k ≤ cap ∧ k34.C wr G (S.map PEl.val).length (S.map PEl.val) := by
 obtain ⟨rows, h1, h2, h3⟩ := h.ex
 obtain ⟨A, c, e1, e2, e3⟩ := Kd.R_reads h2
 injection e1 with e4 e5 e6
 subst e4 e6
 refine ⟨by rw [h1] at e2; exact e2, raw_reads (w0 := w) e3 (by rw [List.length_map, h1, hS]) (hb.trans (h.below.mono hb.size)) fun j x c hx hc => ?_⟩
 rw [List.getElem?_map] at hx
 obtain ⟨e, he, rfl⟩ := Option.map_eq_some_iff.1 hx
 exact h3 j e c he hc
def SortDone (l ks : List V) (w : World) (e : Ending) (w' : World) : Prop := ((lask l ks ≠ 0 ∧ e = .returned (.tuple #[.slice none 0 0, .int .i64 (lask l ks)])) ∨ (lask l ks = 0 ∧ ∃ v ys, e = .returned (.tuple #[v, .int .i64 0]) ∧ Sorted ks l ys ∧ k34.R 34 w' w.heap.size (fun _ => True) v ys)) ∧ Below w.heap.size w w'
set_option maxHeartbeats 4000000 in
set_option maxRecDepth 100000 in
theorem sortBy_any (l ks : List V) (A B : Option Addr) (c d : Nat) (w : World) (hLD : LaidW w) (hA : k34.C w A l.length l) (hB : k34.C w B ks.length ks) (hO : ∀ x ∈ l, OkV x) (hO2 : ∀ x ∈ ks, OkV x) (h1 : ks.length ≤ 1048576) :
 Calls Tryz.prog 22 #[.slice A l.length c, .slice B ks.length d] w (SortDone l ks w) := by
 have HASK := Lib.hid (oask_any l ks A B c d w hLD hA hB hO hO2)
 by_cases h0 : lask l ks = 0
 · obtain ⟨hN1, hN2, hlen⟩ := lask_zero h0
   have HP : Hid (∀ W, Below w.heap.size w W → Calls Tryz.prog 49 #[.slice B ks.length d, .slice A l.length c] W fun e w' => ∃ v, e = .returned v ∧ PairMid W w' ks l v ks.length) := Lib.hid (fun W hW => pairs_any ks l B A d c W (Kd.C_below hB hW) (Kd.C_below hA hW) hlen h1)
   have HSC : Hid (∀ w1 W v, PairMid w1 W ks l v ks.length → Calls Tryz.prog 48 #[v, .func (.func 40) #[] #[]] W fun e w' => ∃ A cap S, e = .returned (.slice A ks.length cap) ∧ SortRow w1 w' ks l ks.length A S ∧ Below w1.heap.size w1 w') := Lib.hid (fun w1 W v h => sorted_call h rfl h1 hO2 hN2)
   have HVAL : Hid (∀ w1 w' A S, SortRow w1 w' ks l ks.length A S → ∀ x ∈ S.map PEl.val, OkV x) := Lib.hid (fun w1 w' A S h x hx => by
    obtain ⟨e, he, rfl⟩ := List.mem_map.1 hx
    exact hO _ (h.val (by omega) e he))
   have HDONE : Hid (∀ w1 w2 A S v w', SortRow w1 w2 ks l ks.length A S → k34.R 34 w' w.heap.size (fun _ => True) v (S.map PEl.val) → Below w.heap.size w w' → SortDone l ks w (.returned (.tuple #[v, .int .i64 0])) w') := Lib.hid (fun w1 w2 A S v w' h hr hb => ⟨.inr ⟨h0, v, _, rfl, h.said, hr⟩, hb⟩)
   rw [h0] at HASK
   obtain ⟨n, hn⟩ : ∃ n, n = ks.length := ⟨_, rfl⟩
   rw [← hn] at HP HSC HVAL HDONE h1
   rw [← hn]
   rw [← hn] at HASK
   clear hA hB hO hO2 hN1 hN2 hlen hLD h0 hn
   go_enter Tryz.func22, Tryz.ntmps22
   go_wp2_with (first
    | (go_at_call 46; (with_reducible refine (HASK.out).mono ?_); rintro e w1 ⟨rfl, hB1⟩; have HB1 := Lib.hid hB1; clear hB1)
    | (go_at_call 49; (with_reducible refine (HP.out _ HB1.out).mono ?_); rintro e w2 ⟨v2, rfl, hM2⟩; have HM2 := Lib.hid hM2; clear hM2)
    | (go_at_call 48; (with_reducible refine (HSC.out _ _ _ HM2.out).mono ?_); rintro e w3 ⟨A3, cap3, S, rfl, hS3, hB3⟩; have HS3 := Lib.hid hS3; have HB3 := Lib.hid hB3; clear hS3 hB3))
   have H0 : Hid (OutMid w1 w3 w3 S (.slice none 0 0) 0) := Lib.hid ⟨⟨[], rfl, Kd.R_nil _ _ _ _ _, fun j e r _ h => by simp at h⟩, Below.refl _ _⟩
   go_loopw [7, 21] (fun vo vi wr => ∃ (k : Nat) (G : Option Addr) (cap : Nat), k ≤ n ∧ vi = .int .i64 k ∧ vo = .slice G k cap ∧ Hid (OutMid w1 w3 wr S (.slice G k cap) k)) (fun vo vi _ => n - (intOf vi).toNat)
   case atStart => exact ⟨0, none, 0, Nat.zero_le _, rfl, rfl, H0⟩
   case round =>
    obtain ⟨k, G, cap, hk, rfl, rfl, HM⟩ := hrel
    by_cases hlt : k < n
    · have hlt2 : (k : Int) < (n : Int) := by omega
      obtain ⟨e, ad, A2, c2, A5, c5, A6, c6, B2, d2, B5, d5, B6, d6, hSk, rfl, hKv, hKk, p0, p1, p2, p3, p4, p5, p6, p7, p8, p9, p10, p11, p12, p13⟩ := at_P HS3.out HM.out.below k hlt
      have HKV := Lib.hid hKv
      have HONE : Hid (∀ u ∈ ([.int .i64 e.val.f0, .bool e.val.f1.f0, .slice B2 e.val.f1.f1.length d2, .int .i64 e.val.f1.f2, .string e.val.f2, .slice B5 e.val.f3.length d5, .slice B6 e.val.f4.length d6] : List Value), u.oneCell' = true) := Lib.hid (k34.K_one hKv)
      have HSK := Lib.hid hSk
      obtain ⟨W5, hW5⟩ : ∃ W5, W5 = wr.alloc (.cells #[.int .i64 e.key.f0, .bool e.key.f1.f0, .slice A2 e.key.f1.f1.length c2, .int .i64 e.key.f1.f2, .string e.key.f2, .slice A5 e.key.f3.length c5, .slice A6 e.key.f4.length c6, .int .i64 e.val.f0, .bool e.val.f1.f0, .slice B2 e.val.f1.f1.length d2, .int .i64 e.val.f1.f2, .string e.val.f2, .slice B5 e.val.f3.length d5, .slice B6 e.val.f4.length d6] 81) := ⟨_, rfl⟩
      have hbx : W5.heap[wr.heap.size]? = some (.cells #[.int .i64 e.key.f0, .bool e.key.f1.f0, .slice A2 e.key.f1.f1.length c2, .int .i64 e.key.f1.f2, .string e.key.f2, .slice A5 e.key.f3.length c5, .slice A6 e.key.f4.length c6, .int .i64 e.val.f0, .bool e.val.f1.f0, .slice B2 e.val.f1.f1.length d2, .int .i64 e.val.f1.f2, .string e.val.f2, .slice B5 e.val.f3.length d5, .slice B6 e.val.f4.length d6] 81 (0, 0)) := by rw [hW5]; exact blk_new _ _
      have hb5 : Below wr.heap.size wr W5 := by rw [hW5]; exact (Below.refl _ _).alloc (Nat.le_refl _) _
      obtain ⟨rows, hrl, hR, hrk⟩ := HM.out.ex
      have HR5 := Lib.hid (Kd.R_below hR hb5)
      have HRL := Lib.hid hrl
      have HRK := Lib.hid hrk
      have HBW := Lib.hid (HM.out.below.trans (hb5.mono HM.out.below.size))
      have HSZ : Hid (w3.heap.size ≤ W5.heap.size) := Lib.hid (HBW.out.size)
      have HW5 := Lib.hid hW5
      obtain ⟨hc5, hf5⟩ := bcells hbx (Below.refl _ _)
      obtain ⟨hc0, hf0⟩ := bcells (blk_new wr (.cells #[.int .i64 0, .bool false, .slice none 0 0, .int .i64 0, .string ⟨#[]⟩, .slice none 0 0, .slice none 0 0, .int .i64 0, .bool false, .slice none 0 0, .int .i64 0, .string ⟨#[]⟩, .slice none 0 0, .slice none 0 0] 81)) (Below.refl _ _)
      clear hKv hKk hSk hW5 hbx hb5 hrl hR hrk HP HSC HVAL HDONE HM2 HASK
      go_upto_region 8 with (fail)
      rw [← HW5.out]
      clear hc0 hf0 p0 p1 p2 p3 p4 p5 p6 p7 p8 p9 p10 p11 p12 p13
      go_wp2_with (at_builtin; refine Kd.R_append (Kd.raw 7) (w0 := w3) w3.heap.size rfl (.tmp 25) (.tmp 28) 22 34 (.agg #[.int .i64 0, .bool false, .slice none 0 0, .int .i64 0, .string ⟨#[]⟩, .slice none 0 0, .slice none 0 0]) 112 rfl Tryz.underlying22 infoV_ rfl (by decide) (by decide) (.slice G k cap) rows _ _ (fun _ => True) (fun _ => False) rfl rfl ⟨rfl, rfl, HONE.out⟩ (fun _ h => h.elim) (fun _ _ => trivial) HR5.out HBW.out HSZ.out (by rw [HRL.out]; omega) ?_; intro v1 w7 hR7 hB7 hg7 hat7; obtain ⟨G7, cap7, rfl⟩ := Kd.R_slice hR7)
      have hl7 : (rows ++ [[.int .i64 e.val.f0, .bool e.val.f1.f0, .slice B2 e.val.f1.f1.length d2, .int .i64 e.val.f1.f2, .string e.val.f2, .slice B5 e.val.f3.length d5, .slice B6 e.val.f4.length d6]] : List (List Value)).length = k + 1 := by rw [List.length_append, HRL.out]; rfl
      have hM7 : OutMid w1 w3 w7 S (.slice G7 (k + 1) cap7) (k + 1) := ⟨⟨_, hl7, by rw [hl7] at hR7; exact hR7, fun j e2 r hj hr => by
       rcases Nat.lt_or_ge j k with h | h
       · rw [List.getElem?_append_left (by rw [HRL.out]; exact h)] at hr
         exact HRK.out j e2 r hj hr
       · have hjl := (List.getElem?_eq_some_iff.1 hr).1
         rw [hl7] at hjl
         obtain rfl : j = k := by omega
         rw [List.getElem?_append_right (by rw [HRL.out]; exact Nat.le_refl _), HRL.out, Nat.sub_self] at hr
         have hr2 := (Option.some.inj hr).symm
         have he2 : e = e2 := Option.some.inj (HSK.out.symm.trans hj)
         subst he2
         rw [hr2]
         exact HKV.out⟩, hB7⟩
      exact ⟨⟨k + 1, G7, cap7, hlt, rfl, by rw [HRL.out], Lib.hid hM7⟩, by show n - (k + 1) < n - k; omega⟩
    · obtain rfl : k = n := by omega
      have hlt2 : ¬ (k : Int) < (k : Int) := by omega
      have hw13 : Below w.heap.size w w3 := HB1.out.trans (HB3.out.mono HB1.out.size)
      obtain ⟨hcc, hrd⟩ := HM.out.reads HS3.out.len HB3.out
      have hln : (S.map PEl.val).length = k := by rw [List.length_map]; exact HS3.out.len
      have hbr : Below w.heap.size w wr := hw13.trans (HM.out.below.mono hw13.size)
      have hcl := Clones_any (S.map PEl.val) G cap wr (by rw [hln]; exact hcc) hrd (HVAL.out _ _ _ _ HS3.out) (by omega)
      rw [hln] at hcl
      have HCL := Lib.hid hcl
      have HBR := Lib.hid hbr
      clear hw13 hcc hrd hln hbr hcl HASK HP HSC HVAL
      go_wp2_with (go_at_call 50; (with_reducible refine (HCL.out).mono ?_); rintro e w5 ⟨v5, rfl, hR5, hB5⟩; have HR5 := Lib.hid hR5; have HB5 := Lib.hid hB5; clear hR5 hB5)
      go_ret2
      exact HDONE.out _ _ _ _ _ _ HS3.out (Kd.R_lower HR5.out HBR.out.size) (HBR.out.trans (HB5.out.mono HBR.out.size))
 · have HR := Lib.hid h0
   have hn : (lask l ks != 0) = true := by simp [h0]
   have HD : Hid (∀ w', Below w.heap.size w w' → SortDone l ks w (.returned (.tuple #[.slice none 0 0, .int .i64 (lask l ks)])) w') := Lib.hid (fun w' hb => ⟨.inl ⟨h0, rfl⟩, hb⟩)
   generalize lask l ks = r at *
   clear hA hB hO hO2 hLD h0 h1
   go_enter Tryz.func22, Tryz.ntmps22
   go_wp2_with (go_at_call 46; (with_reducible refine (HASK.out).mono ?_); rintro e w1 ⟨rfl, hB1⟩; have HB1 := Lib.hid hB1; clear hB1)
   go_ret2
   exact HD.out _ HB1.out
theorem Sort_any (l : List V) (A : Option Addr) (c : Nat) (w : World) (hLD : LaidW w) (hA : k34.C w A l.length l) (hO : ∀ x ∈ l, OkV x) (h1 : l.length ≤ 1048576) :
 Calls Tryz.prog 11 #[.slice A l.length c] w (SortDone l l w) := by
 have HS := Lib.hid (sortBy_any l l A A c c w hLD hA hA hO hO h1)
 clear hA hO hLD
 go_enter Tryz.func11, Tryz.ntmps11
 go_wp2_with (go_at_call 22; (with_reducible refine (HS.out).mono ?_); rintro e w1 ⟨(⟨h0, rfl⟩ | ⟨h0, v, ys, rfl, hs, hr⟩), hB⟩)
 · go_ret2
   exact ⟨.inl ⟨h0, rfl⟩, hB⟩
 · go_ret2
   exact ⟨.inr ⟨h0, v, ys, rfl, hs, hr⟩, hB⟩
def bestTo (p : V → V → Bool) (ks : List V) : Nat → Nat
 | 0 => 0
 | k + 1 => if p (rd_T34 ks (k : Int)) (rd_T34 ks (bestTo p ks k : Nat)) = true then k else bestTo p ks k
theorem bestTo_le (p : V → V → Bool) (ks : List V) : ∀ k, bestTo p ks k ≤ k
 | 0 => Nat.le_refl _
 | k + 1 => by
  have := bestTo_le p ks k
  rw [bestTo]
  split <;> omega
theorem bestTo_lt (p : V → V → Bool) (ks : List V) : ∀ k, 0 < k → bestTo p ks k < k
 | k + 1, _ => by
  have := bestTo_le p ks k
  rw [bestTo]
  split <;> omega
def leastP (x y : V) : Bool := decide (vord x y < 0)
def mostP (x y : V) : Bool := decide (vord x y ≥ 0)
def lbest (p : V → V → Bool) (l ks : List V) : Int × Int := if lask l ks ≠ 0 then (0, lask l ks) else if l.length = 0 then (0, 71) else (((bestTo p ks ks.length : Nat) : Int), 0)
theorem leastP_iff {x y : V} : leastP x y = true ↔ vord x y < 0 := by unfold leastP; exact decide_eq_true_iff
theorem mostP_iff {x y : V} : mostP x y = true ↔ ¬ vord x y < 0 := by unfold mostP; rw [decide_eq_true_iff]; omega
def pel (rows : List (List Value)) (ks l : List V) (j : Nat) : PEl := ⟨rows.getD j [], rd_T34 ks (j : Int), rd_T34 l (j : Int), j⟩
theorem mem_pels {rows : List (List Value)} {ks l : List V} {n : Nat} {e : PEl} : e ∈ pels rows ks l n ↔ ∃ j, j < n ∧ e = pel rows ks l j := by
 unfold pels
 rw [List.mem_map]
 constructor
 · rintro ⟨j, hj, rfl⟩
   exact ⟨j, List.mem_range.1 hj, rfl⟩
 · rintro ⟨j, hj, rfl⟩
   exact ⟨j, List.mem_range.2 hj, rfl⟩
theorem least_to (rows : List (List Value)) (ks l : List V) : ∀ k, ∀ j, j < k → j ≠ bestTo leastP ks k → elt (pel rows ks l (bestTo leastP ks k)) (pel rows ks l j)
 | 0, j, hj, _ => by omega
 | k + 1, j, hj, hn => by
  have hb := bestTo_le leastP ks k
  rw [bestTo] at hn ⊢
  by_cases hp : leastP (rd_T34 ks (k : Int)) (rd_T34 ks (bestTo leastP ks k : Nat)) = true
  · rw [if_pos hp] at hn ⊢
    have h1 : elt (pel rows ks l k) (pel rows ks l (bestTo leastP ks k)) := .inl (leastP_iff.1 hp)
    by_cases hj2 : j = bestTo leastP ks k
    · rw [hj2]; exact h1
    · exact elt_trans h1 (least_to rows ks l k j (by omega) hj2)
  · rw [if_neg hp] at hn ⊢
    by_cases hj2 : j = k
    · subst hj2
      rcases Nat.eq_zero_or_pos j with h0 | h0
      · subst h0; exact absurd rfl hn
      · exact elt_of_ge (x := pel rows ks l j) (y := pel rows ks l (bestTo leastP ks j)) (fun h => hp (leastP_iff.2 h)) (bestTo_lt leastP ks j h0)
    · exact least_to rows ks l k j (by omega) hn
theorem most_to (rows : List (List Value)) (ks l : List V) : ∀ k, ∀ j, j < k → j ≠ bestTo mostP ks k → elt (pel rows ks l j) (pel rows ks l (bestTo mostP ks k))
 | 0, j, hj, _ => by omega
 | k + 1, j, hj, hn => by
  have hb := bestTo_le mostP ks k
  rw [bestTo] at hn ⊢
  by_cases hp : mostP (rd_T34 ks (k : Int)) (rd_T34 ks (bestTo mostP ks k : Nat)) = true
  · rw [if_pos hp] at hn ⊢
    have hk : 0 < k := by omega
    have h1 : elt (pel rows ks l (bestTo mostP ks k)) (pel rows ks l k) := elt_of_ge (x := pel rows ks l k) (y := pel rows ks l (bestTo mostP ks k)) (mostP_iff.1 hp) (bestTo_lt mostP ks k hk)
    by_cases hj2 : j = bestTo mostP ks k
    · rw [hj2]; exact h1
    · exact elt_trans (most_to rows ks l k j (by omega) hj2) h1
  · rw [if_neg hp] at hn ⊢
    by_cases hj2 : j = k
    · subst hj2
      exact .inl (Decidable.not_not.1 (fun h => hp (mostP_iff.2 h)))
    · exact most_to rows ks l k j (by omega) hn
theorem Sorted.first {ks l ys : List V} (h : Sorted ks l ys) (hn : 0 < ks.length) : ys[0]? = some (rd_T34 l (bestTo leastP ks ks.length : Nat)) := by
 obtain ⟨S, hp, hs, rfl⟩ := h
 have hb := bestTo_lt leastP ks ks.length hn
 have hm : pel [] ks l (bestTo leastP ks ks.length) ∈ S := hp.mem_iff.2 (mem_pels.2 ⟨_, hb, rfl⟩)
 cases S with
 | nil => cases hm
 | cons e S =>
  obtain ⟨j, hj, he⟩ := mem_pels.1 (hp.mem_iff.1 List.mem_cons_self)
  have hjb : j = bestTo leastP ks ks.length := by
   by_cases hjb : j = bestTo leastP ks ks.length
   · exact hjb
   · have h1 := least_to [] ks l ks.length j hj hjb
     rcases List.mem_cons.1 hm with h2 | h2
     · have h3 := congrArg PEl.tag (h2.trans he)
       exact h3.symm
     · exact absurd ((List.pairwise_cons.1 hs).1 _ h2) (fun h4 => elt_irr h4 (by rw [he]; exact h1))
  rw [he, hjb]
  rfl
theorem Sorted.last {ks l ys : List V} (h : Sorted ks l ys) (hn : 0 < ks.length) : ys.length = ks.length ∧ ys[ks.length - 1]? = some (rd_T34 l (bestTo mostP ks ks.length : Nat)) := by
 obtain ⟨S, hp, hs, rfl⟩ := h
 have hl : S.length = ks.length := by rw [hp.length_eq, pels_len]
 refine ⟨by rw [List.length_map]; exact hl, ?_⟩
 have hb := bestTo_lt mostP ks ks.length hn
 have hm : pel [] ks l (bestTo mostP ks ks.length) ∈ S := hp.mem_iff.2 (mem_pels.2 ⟨_, hb, rfl⟩)
 have hne : S ≠ [] := by intro e; rw [e] at hl; simp at hl; omega
 obtain ⟨S', e, rfl⟩ : ∃ S' e, S = S' ++ [e] := ⟨S.dropLast, S.getLast hne, (List.dropLast_concat_getLast hne).symm⟩
 obtain ⟨j, hj, he⟩ := mem_pels.1 (hp.mem_iff.1 (List.mem_append_right _ List.mem_cons_self))
 have hjb : j = bestTo mostP ks ks.length := by
  by_cases hjb : j = bestTo mostP ks ks.length
  · exact hjb
  · have h1 := most_to [] ks l ks.length j hj hjb
    rcases List.mem_append.1 hm with h2 | h2
    · exact absurd ((List.pairwise_append.1 hs).2.2 _ h2 e List.mem_cons_self) (fun h4 => elt_irr h4 (by rw [he]; exact h1))
    · have h3 := congrArg PEl.tag ((List.mem_singleton.1 h2).trans he)
      exact h3.symm
 have hl2 : ks.length - 1 = (S'.map PEl.val).length := by rw [List.length_append, List.length_singleton] at hl; rw [List.length_map]; omega
 rw [List.map_append, hl2, List.getElem?_append_right (Nat.le_refl _), Nat.sub_self, he, hjb]
 rfl
theorem rd_get {l : List V} {j : Nat} (h : j < l.length) : rd_T34 l (j : Int) = l[j] := by unfold rd_T34; simp [h]
theorem rd_map (l : List V) : (List.range l.length).map (fun j => rd_T34 l ((j : Nat) : Int)) = l := by
 refine List.ext_getElem (by simp) fun i h1 h2 => ?_
 rw [List.getElem_map, List.getElem_range, rd_get h2]
theorem pels_vals (l : List V) : (pels [] l l l.length).map PEl.val = l := by
 unfold pels
 rw [List.map_map]
 exact rd_map l
theorem Sorted.perm {l ys : List V} (h : Sorted l l ys) : ys.Perm l := by
 obtain ⟨S, h1, _, rfl⟩ := h
 have := h1.map PEl.val
 rwa [pels_vals] at this
theorem Sorted.asc {l ys : List V} (h : Sorted l l ys) : ys.Pairwise (fun x y => vord x y ≤ 0) := by
 obtain ⟨S, h1, h2, rfl⟩ := h
 rw [List.pairwise_map]
 refine h2.imp_of_mem fun {x y} hx hy hxy => ?_
 obtain ⟨i, hi, rfl⟩ := mem_pels.1 (h1.mem_iff.1 hx)
 obtain ⟨j, hj, rfl⟩ := mem_pels.1 (h1.mem_iff.1 hy)
 rcases hxy with hxy | ⟨hxy, _⟩
 · exact Int.le_of_lt hxy
 · exact Int.le_of_eq hxy
theorem asc_next {ys : List V} (h : ys.Pairwise (fun x y => vord x y ≤ 0)) {i : Nat} (hi : i + 1 < ys.length) : vord (rd_T34 ys (i : Int)) (rd_T34 ys ((i + 1 : Nat) : Int)) ≤ 0 := by
 rw [rd_get (by omega), rd_get hi]
 exact (List.pairwise_iff_getElem.1 h) i (i + 1) (by omega) hi (Nat.lt_succ_self _)
theorem pels_asc {ys : List V} (h : ys.Pairwise (fun x y => vord x y ≤ 0)) : (pels [] ys ys ys.length).Pairwise elt := by
 have h2 := List.pairwise_iff_getElem.1 h
 unfold pels
 rw [List.pairwise_map]
 refine List.pairwise_lt_range.imp_of_mem fun {i j} hi hj hij => ?_
 have hi' := List.mem_range.1 hi
 have hj' := List.mem_range.1 hj
 have h3 := h2 i j hi' hj' hij
 unfold elt
 simp only
 rw [rd_get hi', rd_get hj']
 by_cases h0 : vord ys[i] ys[j] = 0
 · exact .inr ⟨h0, hij⟩
 · exact .inl (by omega)
theorem Sorted.again {l ys zs : List V} (h : Sorted l l ys) (k : Sorted ys ys zs) : zs = ys := by
 obtain ⟨S, h1, h2, rfl⟩ := k
 rw [kept_unique h1 h2 (List.Perm.refl _) (pels_asc h.asc), pels_vals]
theorem vchks_zero {l : List V} : vchks l = 0 ↔ ∀ x ∈ l, vchk x = 0 := by
 constructor
 · intro h x hx
   exact orL_none h _ (List.mem_map.2 ⟨x, hx, rfl⟩)
 · intro h
   exact vchks_all l fun i hi => by rw [rd_get hi]; exact h _ (List.getElem_mem hi)
theorem lask_both {l : List V} : lask l l = 0 ↔ vchks l = 0 := by
 unfold lask
 constructor
 · intro h
   by_cases h0 : orL [vchks l, vchks l] = 0
   · exact orL_none h0 _ List.mem_cons_self
   · rw [if_pos h0] at h; exact absurd h h0
 · intro h
   rw [h]
   simp [orL]
theorem lask_perm {l ys : List V} (h : lask l l = 0) (hp : ys.Perm l) : lask ys ys = 0 := lask_both.2 (vchks_zero.2 fun x hx => vchks_zero.1 (lask_both.1 h) x (hp.mem_iff.1 hx))
theorem iask_mem {l ys : List V} {v : V} (h : lask l l = 0) (hp : ys.Perm l) (hv : v ∈ l) : iask ys v = 0 := by
 have h1 := lask_both.1 (lask_perm h hp)
 have h2 := vchks_zero.1 (lask_both.1 h) v hv
 unfold iask
 rw [h1, h2]
 rfl
theorem idx_count (l : List V) (v : V) : ∀ k, k ≤ l.length → (idx l v k).length = (l.take k).countP (fun x => vord x v == 0)
 | 0, _ => by simp [idx]
 | k + 1, hk => by
  have ih := idx_count l v k (by omega)
  have e : l[k]? = some l[k] := List.getElem?_eq_getElem (by omega)
  rw [idx, take_end e, List.countP_append, ← ih, rd_get (by omega)]
  by_cases h : vord l[k] v = 0
  · rw [if_pos h, List.length_append]; simp [h]
  · rw [if_neg h]; simp [h]
theorem iidx_len {l ys : List V} {v : V} (h : lask l l = 0) (hp : ys.Perm l) (hv : v ∈ l) : (iidx ys v).length = (iidx l v).length := by
 unfold iidx
 rw [if_pos (iask_mem h hp hv), if_pos (iask_mem h (List.Perm.refl _) hv), idx_count _ _ _ (Nat.le_refl _), idx_count _ _ _ (Nat.le_refl _), List.take_length, List.take_length]
 exact hp.countP_eq _
set_option maxHeartbeats 2000000 in
set_option maxRecDepth 100000 in
theorem Trim_any (d : List Int) (A : Option Addr) (c : Nat) (w : World) (hC : Kd.C (Kd.int .i64) w A d.length d) (hc : d.length ≤ c) (hl : d.length ≤ 1048576) (hok : okD d) :
 Calls Tryz.prog 107 #[.slice A d.length c] w fun e w' => e = .returned (.slice A (decs (dval d)).length c) ∧ w' = w ∧ d.take (decs (dval d)).length = decs (dval d) ∧ (decs (dval d)).length ≤ d.length := by
 have HTK := fun (j : Nat) (hj : j ≤ d.length) => (print_take_int (P := Tryz.prog) (k := .i64) 40 3 Tryz.underlying40 (i := (Tryz.prog.info? 3).get (by kernel_rfl)) (by kernel_rfl) (by kernel_rfl) A c d (j : Int) (by omega) (by omega) hc).1
 obtain ⟨n, hn⟩ : ∃ n, n = d.length := ⟨_, rfl⟩
 have HD : Hid (∀ m, m ≤ n → dval (d.take m) = dval d → (m = 0 ∨ d.getD (m - 1) 0 ≠ 0) → d.take m = decs (dval d)) := Lib.hid (fun m hm h1 h2 => dtrim_done hok (by omega) h1 h2)
 have HTS : Hid (∀ m, m + 1 ≤ n → dval (d.take (m + 1)) = dval d → d.getD m 0 = 0 → dval (d.take m) = dval d) := Lib.hid (fun m hm h1 h2 => dtrim_step (by omega) h1 h2)
 have HT2 : Hid (∀ (j : Nat), j ≤ n → ∀ W : World, (Instr.slice 40 (.slice A n c) none (some (.int .i64 (j : Int))) none).run Tryz.prog W = .ok (.slice A j c) W) := Lib.hid (fun j hj W => by
  have := HTK j (by omega) W
  rw [Int.toNat_natCast, List.length_take, Nat.min_eq_left (by omega), ← hn] at this
  exact this)
 have HC := Lib.hid hC
 have HN := Lib.hid hn
 rw [← hn]
 rw [← hn] at hc hl HC
 clear hC hn hok HTK
 go_enter Tryz.func107, Tryz.ntmps107
 go_wp2
 go_loopw [3] (fun vi wr => ∃ m : Nat, m ≤ n ∧ vi = .int .i64 m ∧ Hid (dval (d.take m) = dval d) ∧ wr = w) (fun vi _ => (intOf vi).toNat)
 case atStart => exact ⟨n, Nat.le_refl _, rfl, Lib.hid (by rw [HN.out, List.take_length]), rfl⟩
 case round =>
  obtain ⟨m, hm, rfl, HV, rfl⟩ := hrel
  by_cases hz : m = 0
  · subst hz
    have hzz : ¬ (0 : Int) < ((0 : Nat) : Int) := by omega
    have hcut := HT2.out 0 (by omega) wr
    have HE := Lib.hid (HD.out 0 (by omega) HV.out (.inl rfl))
    have hlen : (decs (dval d)).length = 0 := by rw [← HE.out]; rfl
    have HLN := Lib.hid hlen
    clear hlen
    go_wp2
    go_ret
    exact ⟨by rw [HLN.out]; rfl, rfl, by rw [HLN.out, ← HE.out], by rw [HLN.out]; omega⟩
  · obtain ⟨j, rfl⟩ : ∃ j, m = j + 1 := ⟨m - 1, by omega⟩
    have hzz : (0 : Int) < ((j + 1 : Nat) : Int) := by omega
    have hjj : (((j + 1 : Nat) : Int) - 1) = (j : Int) := by omega
    have hj0 : (0 : Int) ≤ (j : Int) := by omega
    have hjn : (j : Int) < (n : Int) := by omega
    obtain ⟨ad, rfl, hx⟩ := Kd.at_int HC.out (j : Int) (by omega) (by omega)
    rw [Int.toNat_natCast] at hx
    have hxe : rd d (j : Int) = d.getD j 0 := by unfold rd; rw [Int.toNat_natCast]
    obtain ⟨x, hxx⟩ : ∃ x, x = d.getD j 0 := ⟨_, rfl⟩
    rw [hxe, ← hxx] at hx
    by_cases h0 : x = 0
    · have hb0 : (x == 0) = true := by simp [h0]
      have HV2 := Lib.hid (HTS.out j hm HV.out (by rw [← hxx]; exact h0))
      clear hxe hxx h0 hz
      go_wp2
      go_roundw
      case rel => exact ⟨j, by omega, by first | rfl | (congr 1; omega), HV2, by first | rfl | trivial⟩
      case measure => simp [intOf]
    · have hb0 : (x == 0) = false := by simpa using h0
      have HE := Lib.hid (HD.out (j + 1) hm HV.out (.inr (by rw [Nat.add_sub_cancel, ← hxx]; exact h0)))
      have hcut := HT2.out (j + 1) hm wr
      have HLN : Hid ((decs (dval d)).length = j + 1) := Lib.hid (by rw [← HE.out, List.length_take, ← HN.out, Nat.min_eq_left hm])
      clear hxe hxx h0 hz
      go_wp2
      go_ret
      exact ⟨by rw [HLN.out]; rfl, rfl, by rw [HLN.out]; exact HE.out, by rw [HLN.out]; exact hm⟩
set_option maxHeartbeats 4000000 in
set_option maxRecDepth 100000 in
theorem carry_any (d : List Int) (A : Option Addr) (c : Nat) (w : World) (hC : Kd.C (Kd.int .i64) w A d.length d) (hl : d.length ≤ 1000000) (hd : ∀ x ∈ d, 0 ≤ x ∧ x ≤ 18) :
 Calls Tryz.prog 106 #[.slice A d.length c] w fun e w' => ∃ v : Value, e = .returned v ∧ Kd.R (Kd.int .i64) 3 w' w.heap.size (fun _ => True) v (decs (dval d)) ∧ Below w.heap.size w w' := by
 obtain ⟨n, hn⟩ : ∃ n, n = d.length := ⟨_, rfl⟩
 obtain ⟨T, hT⟩ : ∃ T, T = dval d := ⟨_, rfl⟩
 have h0 : TimesTo T 1 d [] 0 := ⟨okD_nil, by rw [hT]; simp [dval]⟩
 rw [← hT]
 have HC := Lib.hid hC
 have HN := Lib.hid hn
 have HD := Lib.hid hd
 have H0 := Lib.hid h0
 rw [← hn]
 rw [← hn] at hl HC
 clear hC hn hd h0 hT
 go_enter Tryz.func106, Tryz.ntmps106
 go_wp2
 go_loopw [3, 4, 5] (fun vo vm vi wr => ∃ (i mo : Nat) (o : List Int) (G : Option Addr) (cap : Nat), i ≤ n ∧ vi = .int .i64 i ∧ vm = .int .i64 mo ∧ vo = .slice G i cap ∧ mo ≤ 2 ∧ Hid (o.length = i ∧ TimesTo T 1 (d.drop i) o mo) ∧ Hid (Kd.R (Kd.int .i64) 3 wr w.heap.size (fun _ => True) (.slice G i cap) o ∧ Below w.heap.size w wr)) (fun vo vm vi _ => n - (intOf vi).toNat)
 case atStart => exact ⟨0, 0, [], none, 0, Nat.zero_le _, rfl, rfl, rfl, by omega, Lib.hid ⟨rfl, by rw [List.drop_zero]; exact H0.out⟩, Lib.hid ⟨Kd.R_nil _ _ _ _ _, Below.refl _ _⟩⟩
 case round =>
  obtain ⟨i, mo, o, G, cap, hi, rfl, rfl, rfl, hmo, HT, HR⟩ := hrel
  by_cases hlt : i < n
  · have hlt2 : (i : Int) < (n : Int) := by omega
    obtain ⟨ad, rfl, hx⟩ := Kd.at_int (Kd.C_below HC.out HR.out.2) (i : Int) (by omega) (by omega)
    rw [Int.toNat_natCast] at hx
    obtain ⟨x, hxe⟩ : ∃ x, x = rd d (i : Int) := ⟨_, rfl⟩
    have hxd : d.drop i = x :: d.drop (i + 1) := by
     rw [List.drop_eq_getElem_cons (by rw [← HN.out]; exact hlt), hxe]
     unfold rd
     rw [Int.toNat_natCast, List.getD_eq_getElem?_getD, List.getElem?_eq_getElem (by rw [← HN.out]; exact hlt)]
     rfl
    have hxr : 0 ≤ x ∧ x ≤ 18 := HD.out x (List.mem_of_mem_drop (by rw [hxd]; exact List.mem_cons_self))
    rw [← hxe] at hx
    obtain ⟨x', rfl⟩ : ∃ x' : Nat, x = (x' : Int) := ⟨x.toNat, by omega⟩
    have HST : Hid ((o ++ [((mo : Int) + x') % 10]).length = i + 1 ∧ (mo + x') / 10 ≤ 2 ∧ TimesTo T 1 (d.drop (i + 1)) (o ++ [((mo : Int) + x') % 10]) ((mo + x') / 10)) := Lib.hid (by
     obtain ⟨h1, h3⟩ := HT.out
     rw [hxd] at h3
     have h4 := h3.step hxr.1
     rw [Int.toNat_natCast, Nat.one_mul, show (((mo + x') % 10 : Nat) : Int) = ((mo : Int) + x') % 10 by omega] at h4
     exact ⟨by simp [h1], by omega, h4⟩)
    have hx1 : (0 : Int) ≤ (x' : Int) := by omega
    have hx2 : (x' : Int) ≤ 18 := by omega
    have hm1 : (0 : Int) ≤ (mo : Int) := by omega
    have hm2 : (mo : Int) ≤ 2 := by omega
    have HSZ : Hid (w.heap.size ≤ wr.heap.size) := Lib.hid HR.out.2.size
    have hol : o.length ≤ 1048576 := by rw [HT.out.1]; omega
    clear hxe hxd hxr
    go_wp2_with (at_builtin; refine Kd.R_append (Kd.int .i64) (w0 := w) w.heap.size rfl (.tmp 18) (.tmp 21) 40 3 (.int .i64 0) 8 rfl Tryz.underlying40 infoI_ rfl (by decide) (by decide) (.slice G i cap) o _ _ (fun _ => True) (fun _ => False) rfl rfl rfl (fun _ h => h.elim) (fun _ _ => trivial) HR.out.1 HR.out.2 HSZ.out (by omega) ?_; intro v1 w7 hR7 hB7 hg7 hat7)
    obtain ⟨G7, cap7, rfl⟩ := Kd.R_slice hR7
    have hl7 : (o ++ [((mo : Int) + x') % 10]).length = i + 1 := HST.out.1
    rw [hl7] at hR7
    have HR7 := Lib.hid (And.intro hR7 hB7)
    clear hR7 hB7 hg7 hat7 hol
    go_roundw
    case rel => exact ⟨i + 1, (mo + x') / 10, o ++ [((mo : Int) + x') % 10], G7, cap7, hlt, by go_num, congrArg (Value.int .i64) (by omega), by rw [← hl7, List.length_append], HST.out.2.1, Lib.hid ⟨HST.out.1, HST.out.2.2⟩, HR7⟩
    case measure => simp [intOf]; omega
  · obtain rfl : i = n := by omega
    have hlt2 : ¬ (i : Int) < (i : Int) := by omega
    have HT2 : Hid (o.length ≤ 1000000 ∧ TimesTo T 1 [] o mo) := Lib.hid (by
     obtain ⟨h1, h3⟩ := HT.out
     rw [HN.out, List.drop_length] at h3
     exact ⟨by omega, h3⟩)
    have HLO := Lib.hid HT.out.1
    clear HT
    go_wp2
    go_loopw [3, 4] (fun vo vm w3 => ∃ (mo : Nat) (o : List Int) (G : Option Addr) (cap : Nat), vm = .int .i64 mo ∧ vo = .slice G o.length cap ∧ mo ≤ 2 ∧ Hid (o.length + mo ≤ 1000002 ∧ TimesTo T 1 [] o mo) ∧ Hid (Kd.R (Kd.int .i64) 3 w3 w.heap.size (fun _ => True) (.slice G o.length cap) o ∧ Below w.heap.size w w3)) (fun vo vm _ => (intOf vm).toNat)
    case atStart => exact ⟨mo, o, G, cap, rfl, by rw [HLO.out], hmo, Lib.hid ⟨by have := HT2.out.1; omega, HT2.out.2⟩, Lib.hid (by rw [HLO.out]; exact HR.out)⟩
    case round =>
     clear HR HT2 HLO
     obtain ⟨mo, o, G, cap, rfl, rfl, hmo, HT, HR⟩ := hrel
     have hm0 : (0 : Int) ≤ (mo : Int) := by omega
     have hm2 : (mo : Int) ≤ 2 := by omega
     by_cases hz : mo = 0
     · subst hz
       have hzz : ¬ (0 : Int) < ((0 : Nat) : Int) := by omega
       have hv : dval o = T := by have := HT.out.2.2; simpa [dval] using this
       have hr := Kd.R_reads' HR.out.1
       have ht := Trim_any o G cap wr hr.2.2 hr.2.1 (by have := HT.out.1; omega) HT.out.2.1
       rw [hv] at ht
       have HTR := Lib.hid ht
       clear hv hr ht
       go_wp2_with (go_at_call 107; (with_reducible refine (HTR.out).mono ?_); rintro e w5 ⟨rfl, rfl, hT1, hT2⟩; have HTK := Lib.hid (And.intro hT1 hT2); clear hT1 hT2)
       go_ret
       exact ⟨_, rfl, by have := Kd.R_take HR.out.1 HTK.out.2; rw [HTK.out.1] at this; exact this, HR.out.2⟩
     · have hzz : (0 : Int) < (mo : Int) := by omega
       have HST : Hid (TimesTo T 1 [] (o ++ [(mo : Int) % 10]) (mo / 10)) := Lib.hid (by
        have h4 := HT.out.2.more
        rw [show ((mo % 10 : Nat) : Int) = (mo : Int) % 10 by omega] at h4
        exact h4)
       have hol : o.length ≤ 1048586 := by have := HT.out.1; omega
       have hol2 : Hid (o.length + mo ≤ 1000002) := Lib.hid HT.out.1
       have HSZ : Hid (w.heap.size ≤ wr.heap.size) := Lib.hid HR.out.2.size
       clear hz
       go_wp2_with (at_builtin; refine Kd.R_append (Kd.int .i64) (w0 := w) w.heap.size rfl (.tmp 27) (.tmp 30) 40 3 (.int .i64 0) 8 rfl Tryz.underlying40 infoI_ rfl (by decide) (by decide) (.slice G o.length cap) o _ _ (fun _ => True) (fun _ => False) rfl rfl rfl (fun _ h => h.elim) (fun _ _ => trivial) HR.out.1 HR.out.2 HSZ.out (by omega) ?_; intro v1 w7 hR7 hB7 hg7 hat7)
       obtain ⟨G7, cap7, rfl⟩ := Kd.R_slice hR7
       have HR7 := Lib.hid (And.intro hR7 hB7)
       clear hR7 hB7 hg7 hat7 hol
       have hmd : mo / 10 < mo := by omega
       go_roundw
       case rel => exact ⟨mo / 10, o ++ [(mo : Int) % 10], G7, cap7, congrArg (Value.int .i64) (by omega), by rw [List.length_append], by omega, Lib.hid ⟨by have := hol2.out; rw [List.length_append, List.length_singleton]; omega, HST.out⟩, HR7⟩
       case measure => simp [intOf]; omega
structure LimbAt (k : Nat) (j rest : Nat) (ys : List Int) : Prop where
 len : ys.length = (decs k).length
 le : j ≤ ys.length
 head : ys.take j = (decs k).take j
 ok : okD ys
 rest : rest = dval ((decs k).drop j) % 4294967296
 quo : dval (ys.drop j) = dval ((decs k).drop j) / 4294967296
theorem LimbAt.step {k j rest : Nat} {ys : List Int} (h : LimbAt k (j + 1) rest ys) : 0 ≤ ys.getD j 0 ∧ ys.getD j 0 ≤ 9 ∧ LimbAt k j ((rest * 10 + (ys.getD j 0).toNat) % 4294967296) (ys.set j (((rest * 10 + (ys.getD j 0).toNat) / 4294967296 : Nat) : Int)) := by
 have hj : j < ys.length := h.le
 have hx := okD_getD h.ok j
 have hxe : ys.getD j 0 = (decs k).getD j 0 := by
  have h1 : (ys.take (j + 1))[j]? = ((decs k).take (j + 1))[j]? := by rw [h.head]
  rw [List.getElem?_take_of_lt (by omega), List.getElem?_take_of_lt (by omega)] at h1
  rw [List.getD_eq_getElem?_getD, List.getD_eq_getElem?_getD, h1]
 have hj2 : j < (decs k).length := by rw [← h.len]; exact hj
 have hd : dval ((decs k).drop j) = (ys.getD j 0).toNat + 10 * dval ((decs k).drop (j + 1)) := by
  rw [hxe, List.drop_eq_getElem_cons hj2, dval, List.getD_eq_getElem?_getD, List.getElem?_eq_getElem hj2]
  rfl
 have hr := h.rest
 have hq := h.quo
 have hrl : rest < 4294967296 := by rw [hr]; exact Nat.mod_lt _ (by decide)
 have hx9 : (ys.getD j 0).toNat ≤ 9 := by omega
 have hxx : 0 ≤ ys.getD j 0 ∧ ys.getD j 0 ≤ 9 := by omega
 generalize (ys.getD j 0).toNat = x at *
 generalize dval ((decs k).drop (j + 1)) = t at *
 refine ⟨hxx.1, hxx.2, by simp [h.len], by simp; omega, ?_, ?_, ?_, ?_⟩
 · rw [List.take_set_of_le (Nat.le_refl _)]
   have h1 := congrArg (List.take j) h.head
   rw [List.take_take, List.take_take, Nat.min_eq_left (by omega)] at h1
   exact h1
 · intro y hy
   rcases List.mem_or_eq_of_mem_set hy with hy | rfl
   · exact h.ok y hy
   · have : (rest * 10 + x) / 4294967296 ≤ 9 := by omega
     omega
 · rw [hd, hr]; omega
 · have h1 : (ys.set j (((rest * 10 + x) / 4294967296 : Nat) : Int)).drop j = (((rest * 10 + x) / 4294967296 : Nat) : Int) :: ys.drop (j + 1) := by
    rw [List.drop_eq_getElem_cons (by rw [List.length_set]; exact hj), List.getElem_set_self, List.drop_set_of_lt (by omega)]
   rw [h1, dval, Int.toNat_natCast, hq, hd, hr]
   omega
theorem shl_back (s : Nat) (h : s < 42949672970) : wrap64 ((s : Int) - wrap64 (((s / 4294967296 : Nat) : Int) * 4294967296)) = ((s % 4294967296 : Nat) : Int) := by
 have h1 : s = s / 4294967296 * 4294967296 + s % 4294967296 := by omega
 have h2 : s % 4294967296 < 4294967296 := by omega
 have h3 : s / 4294967296 ≤ 10 := by omega
 generalize s / 4294967296 = q at *
 generalize s % 4294967296 = r at *
 have e1 : wrap64 ((q : Int) * 4294967296) = (q : Int) * 4294967296 := by unfold wrap64; omega
 rw [e1]
 have e2 : (s : Int) - (q : Int) * 4294967296 = (r : Int) := by omega
 rw [e2]
 unfold wrap64
 omega
theorem limb_sum (rest x : Nat) (h1 : rest < 4294967296) (h2 : x ≤ 9) : wrap64 (wrap64 ((rest : Int) * 10) + (x : Int)) = ((rest * 10 + x : Nat) : Int) := by
 have e1 : wrap64 ((rest : Int) * 10) = (rest : Int) * 10 := by unfold wrap64; omega
 rw [e1]
 unfold wrap64
 omega
set_option maxHeartbeats 4000000 in
set_option maxRecDepth 100000 in
theorem Limbs_any (m : Nat) (A : Option Addr) (c : Nat) (w : World) (hC : Kd.C (Kd.int .i64) w A (decs m).length (decs m)) (hl : (decs m).length ≤ 1000000) :
 Calls Tryz.prog 108 #[.slice A (decs m).length c] w fun e w' => ∃ v : Value, e = .returned v ∧ Kd.R (Kd.int .u32) 90 w' w.heap.size (fun _ => True) v (limbs m) ∧ Below w.heap.size w w' := by
 have HLM : Hid (∀ k, k ≤ m → (decs k).length ≤ 1000000) := Lib.hid (fun k hk => Nat.le_trans (decs_len (Nat.lt_of_le_of_lt hk (by have := dval_lt (okD_decs m); rw [dval_decs] at this; exact this))) hl)
 have HLO : Hid (∀ o k, o ++ limbs k = limbs m → o.length ≤ 1000000) := Lib.hid (fun o k h => by
  have h1 : (limbs m).length ≤ (decs m).length := limbs_len (by
   have h1 := dval_lt (okD_decs m)
   rw [dval_decs] at h1
   exact Nat.lt_of_lt_of_le h1 (Nat.pow_le_pow_left (by decide) _))
  have := congrArg List.length h
  rw [List.length_append] at this
  omega)
 obtain ⟨n, hn⟩ : ∃ n, n = (decs m).length := ⟨_, rfl⟩
 have HC := Lib.hid hC
 have HN := Lib.hid hn
 rw [← hn]
 rw [← hn] at HC hl
 clear hC hn
 go_enter Tryz.func108, Tryz.ntmps108
 go_wp2_with (at_builtin; refine Kd.R_append_row (Value.int .i64) (0 : Int) w.heap.size rfl (.tmp 7) (.tmp 8) 40 3 (.int .i64 0) 8 rfl Tryz.underlying40 infoI_ rfl (by decide) _ [] _ _ _ _ (fun _ => True) rfl rfl (fun _ _ => trivial) (Kd.R_nil _ _ _ _ _) HC.out (Below.refl _ _) (Nat.le_refl _) (by simp; omega) ?_; intro v1 w1 hR1 hB1 hg1 hat1; obtain ⟨G1, d1, rfl⟩ := Kd.R_slice hR1)
 simp only [List.nil_append, ← HN.out] at hR1 ⊢
 have HR1 := Lib.hid (And.intro hR1 hB1)
 clear hR1 hB1 hg1 hat1
 go_loopg [3, 4] m (fun k vo vw wr => ∃ (o : List Int) (G : Option Addr) (cap : Nat) (B : Option Addr) (ln d : Nat), vo = .slice G o.length cap ∧ vw = .slice B ln d ∧ k ≤ m ∧ Hid (ln = (decs k).length ∧ Kd.R (Kd.int .i64) 3 wr w.heap.size (fun _ => True) (.slice B ln d) (decs k)) ∧ Hid (Kd.R (Kd.int .u32) 90 wr w.heap.size (fun _ => True) (.slice G o.length cap) o ∧ Below w.heap.size w wr) ∧ Hid (o ++ limbs k = limbs m))
 case atStart => exact ⟨[], none, 0, G1, n, d1, rfl, rfl, Nat.le_refl _, Lib.hid ⟨HN.out, HR1.out.1⟩, Lib.hid ⟨Kd.R_nil _ _ _ _ _, HR1.out.2⟩, Lib.hid rfl⟩
 case round =>
  obtain ⟨o, G, cap, B, ln, d, rfl, rfl, hk, HW, HO, HE⟩ := hrel
  by_cases hz : gk = 0
  · subst hz
    have hl0 : ln = 0 := by rw [HW.out.1, decs_zero]; rfl
    subst hl0
    have HEE : Hid (o = limbs m) := Lib.hid (by have := HE.out; rw [limbs_zero, List.append_nil] at this; exact this)
    go_wp2
    go_ret
    exact ⟨_, rfl, by rw [← HEE.out]; exact HO.out.1, HO.out.2⟩
  · have hlp : 0 < ln := by rw [HW.out.1, decs_pos hz]; simp
    obtain ⟨g, d2, e, -⟩ := Kd.R_form HW.out.2 (by rw [← HW.out.1]; exact hlp)
    injection e with e1 e2 e3
    subst e1 e3
    clear e2
    have hlm : ln ≤ 1000000 := by rw [HW.out.1]; exact HLM.out gk hk
    have HZ := Lib.hid hz
    have HG : Hid (w.heap.size ≤ g) := Lib.hid (Kd.R_base HW.out.2 g rfl)
    clear hz
    go_wp2
    go_loopw [5, 6] (fun vr vi w3 => ∃ (j rest : Nat) (ys : List Int), vi = .int .i64 ((j : Int) - 1) ∧ vr = .int .i64 rest ∧ j ≤ ln ∧ Hid (rest < 4294967296 ∧ ys.length = ln ∧ LimbAt gk j rest ys) ∧ Hid (Kd.R (Kd.int .i64) 3 w3 w.heap.size (fun _ => True) (.slice (some ⟨g, 0, none⟩) ln d) ys ∧ Kd.R (Kd.int .u32) 90 w3 w.heap.size (fun _ => True) (.slice G o.length cap) o ∧ Below w.heap.size w w3)) (fun vr vi _ => (intOf vi + 1).toNat)
    case atStart => exact ⟨ln, 0, decs gk, rfl, rfl, Nat.le_refl _, Lib.hid ⟨by decide, HW.out.1.symm, ⟨rfl, by rw [HW.out.1]; exact Nat.le_refl _, rfl, okD_decs _, by rw [HW.out.1, List.drop_length]; rfl, by rw [HW.out.1, List.drop_length]; rfl⟩⟩, Lib.hid ⟨HW.out.2, HO.out.1, HO.out.2⟩⟩
    case round =>
     obtain ⟨j, rest, ys, rfl, rfl, hj, HL, HR⟩ := hrel
     by_cases hj0 : j = 0
     · subst hj0
       have hT := HL.out.2.2
       have hv : dval ys = gk / 4294967296 := by have := hT.quo; rw [List.drop_zero, List.drop_zero, dval_decs] at this; exact this
       have hr : rest = gk % 4294967296 := by have := hT.rest; rw [List.drop_zero, dval_decs] at this; exact this
       have hca := Lib.hid (fun W (hW : Kd.R (Kd.int .i64) 3 W w.heap.size (fun _ => True) (.slice (some ⟨g, 0, none⟩) ln d) ys) => carry_any ys (some ⟨g, 0, none⟩) d W (Kd.R_reads' hW).2.2 (by rw [HL.out.2.1]; exact hlm) (fun y hy => by have := hT.ok y hy; omega))
       have HNX : Hid ((o ++ [(rest : Int) % 4294967296]) ++ limbs (gk / 4294967296) = limbs m) := Lib.hid (by rw [← HE.out, limbs_pos HZ.out, hr, show ((gk % 4294967296 : Nat) : Int) % 4294967296 = ((gk % 4294967296 : Nat) : Int) by omega]; simp)
       have hol : o.length ≤ 1000000 := HLO.out o gk HE.out
       have HLT : Hid (gk / 4294967296 < gk) := Lib.hid (by have := HZ.out; omega)
       have HYL := Lib.hid HL.out.2.1
       have HRB := Lib.hid HL.out.1
       have HSZ : Hid (w.heap.size ≤ wr.heap.size) := Lib.hid HR.out.2.2.size
       have hr0 : (0 : Int) ≤ (rest : Int) := by omega
       rw [hv] at hca
       clear hT hv hr HL HE
       go_wp2_with (first
        | (at_builtin; refine Kd.R_append (Kd.int .u32) (w0 := w) w.heap.size rfl (.tmp 39) (.tmp 42) 29 90 (.int .u32 0) 4 rfl Tryz.underlying29 infoU rfl (by decide) (by decide) (.slice G o.length cap) o _ _ (fun _ => True) (fun _ => False) rfl rfl rfl (fun _ h => h.elim) (fun _ _ => trivial) HR.out.2.1 HR.out.2.2 HSZ.out (by omega) ?_; intro v1 w7 hR7 hB7 hg7 hat7; obtain ⟨G7, cap7, rfl⟩ := Kd.R_slice hR7; have HO7 := Lib.hid hR7; have HW7 := Lib.hid (Kd.R_over' HR.out.1 (Kd.R_typed HR.out.2.1) (by decide) hg7); have HB7 := Lib.hid hB7; clear hR7 hB7 hg7 hat7)
        | (go_at_call 106; have hcc := hca.out _ HW7.out; rw [HYL.out] at hcc; refine hcc.mono ?_; rintro e w8 ⟨v8, rfl, hR8, hB8⟩; obtain ⟨B8, d8, rfl⟩ := Kd.R_slice hR8; have HR8 := Lib.hid (Kd.R_lower hR8 HB7.out.size); have HO8 := Lib.hid (And.intro (Kd.R_below HO7.out hB8) (HB7.out.trans (hB8.mono HB7.out.size))); clear hR8 hB8 hcc))
       have hkm : gk / 4294967296 ≤ m := by have := HLT.out; omega
       go_roundg (gk / 4294967296)
       case measure => exact HLT.out
       case rel => exact ⟨o ++ [(rest : Int) % 4294967296], G7, cap7, B8, _, d8, by rw [List.length_append]; rfl, rfl, hkm, Lib.hid ⟨rfl, HR8.out⟩, HO8, HNX⟩
     · obtain ⟨i, rfl⟩ : ∃ i, j = i + 1 := ⟨j - 1, by omega⟩
       obtain ⟨hx0, hx9, hst⟩ := HL.out.2.2.step
       obtain ⟨hcx, hfx⟩ := Kd.R_celln (0 : Int) HR.out.1 (i : Int) (by omega) (by omega)
       rw [Int.toNat_natCast] at hcx hfx
       have hxe : rdOf (0 : Int) ys (i : Int) = ys.getD i 0 := by unfold rdOf; rw [Int.toNat_natCast]
       rw [hxe] at hcx
       obtain ⟨x, hx⟩ : ∃ x : Nat, ys.getD i 0 = (x : Int) := ⟨(ys.getD i 0).toNat, by omega⟩
       rw [hx, Int.toNat_natCast] at hst
       rw [hx] at hcx hx9
       have hii : (((i + 1 : Nat) : Int) - 1) = (i : Int) := by omega
       rw [hii]
       have hi0 : (0 : Int) ≤ (i : Int) := by omega
       have hin : (i : Int) < (ln : Int) := by omega
       clear hxe hx hx0 hii hj0
       go_wp2
       have hrb := HL.out.1
       obtain ⟨s, hs⟩ : ∃ s, s = rest * 10 + x := ⟨_, rfl⟩
       have E1 : wrap64 (wrap64 ((rest : Int) * 10) + (x : Int)) = (s : Int) := by rw [hs]; exact limb_sum rest x hrb (by omega)
       have E2 : (s : Int) / 4294967296 = ((s / 4294967296 : Nat) : Int) := by omega
       have E3 := shl_back s (by omega)
       rw [E1, E2, E3]
       rw [← hs] at hst
       have hp := Kd.R_putn HR.out.1 (i : Int) ((s / 4294967296 : Nat) : Int)
       rw [Int.toNat_natCast] at hp
       refine ⟨⟨i, s % 4294967296, _, rfl, rfl, by omega, Lib.hid ⟨Nat.mod_lt _ (by decide), by rw [List.length_set]; exact HL.out.2.1, hst⟩, Lib.hid ⟨hp, ?_, HR.out.2.2.setCell (p := ⟨g, i, none⟩) HG.out _⟩⟩, by show ((i : Int) - 1 + 1).toNat < ((i : Int) + 1).toNat; omega⟩
       obtain ⟨cells, hcg⟩ := Kd.R_typed HR.out.1 g rfl
       exact Kd.R_set HR.out.2.1 hcg (by decide) i _
structure PlusDg (a b : List Int) (i : Nat) (o : List Int) : Prop where
 len : o.length = i
 sum : dval o = dval (a.take i) + dval (b.take i)
 ok : ∀ x ∈ o, 0 ≤ x ∧ x ≤ 18
theorem PlusDg.nil (a b : List Int) : PlusDg a b 0 [] := ⟨rfl, rfl, fun x hx => by cases hx⟩
theorem PlusDg.step {a b : List Int} {i : Nat} {o : List Int} (h : PlusDg a b i o) (ha : okD a) (hb : okD b) : PlusDg a b (i + 1) (o ++ [a.getD i 0 + b.getD i 0]) := by
 have h1 := okD_getD ha i
 have h2 := okD_getD hb i
 refine ⟨by rw [List.length_append, h.len]; rfl, ?_, fun x hx => ?_⟩
 · rw [dval_snoc, h.len, h.sum, dval_take_step, dval_take_step, show (a.getD i 0 + b.getD i 0).toNat = (a.getD i 0).toNat + (b.getD i 0).toNat by omega, Nat.mul_add]
   omega
 · rcases List.mem_append.1 hx with hx | hx
   · exact h.ok x hx
   · rw [List.mem_singleton.1 hx]; omega
theorem PlusDg.done {a b : List Int} {i : Nat} {o : List Int} (h : PlusDg a b i o) (h1 : a.length ≤ i) (h2 : b.length ≤ i) : dval o = dval a + dval b := by
 rw [h.sum, List.take_of_length_le h1, List.take_of_length_le h2]
structure MinusDg (a b : List Int) (i : Nat) (ls : Nat) (o : List Int) : Prop where
 len : o.length = i
 sum : dval (a.take i) + 10 ^ i * ls = dval o + dval (b.take i)
 ok : okD o
 one : ls ≤ 1
theorem MinusDg.nil (a b : List Int) : MinusDg a b 0 0 [] := ⟨rfl, rfl, okD_nil, by omega⟩
theorem MinusDg.step {a b : List Int} {i ls : Nat} {o : List Int} (h : MinusDg a b i ls o) (ha : okD a) (hb : okD b) {x : Int} {ls' : Nat} (hx : x = a.getD i 0 - (ls : Int) - b.getD i 0 + 10 * (ls' : Int)) (h0 : 0 ≤ x) (h9 : x < 10) (hl : ls' ≤ 1) : MinusDg a b (i + 1) ls' (o ++ [x]) := by
 have h1 := okD_getD ha i
 have h2 := okD_getD hb i
 have hs := h.sum
 have ho := h.one
 refine ⟨by rw [List.length_append, h.len]; rfl, ?_, okD_app.2 ⟨h.ok, fun y hy => by rw [List.mem_singleton.1 hy]; exact ⟨h0, h9⟩⟩, hl⟩
 rw [dval_snoc, h.len, dval_take_step, dval_take_step, Nat.pow_succ]
 have e : x.toNat + ls + (b.getD i 0).toNat = (a.getD i 0).toNat + 10 * ls' := by omega
 generalize (a.getD i 0).toNat = p at *
 generalize (b.getD i 0).toNat = q at *
 generalize x.toNat = r at *
 generalize 10 ^ i = t at *
 have e2 := congrArg (t * ·) e
 simp only [Nat.mul_add] at e2
 have e3 : t * 10 * ls' = t * (10 * ls') := Nat.mul_assoc _ _ _
 omega
theorem MinusDg.done {a b : List Int} {i ls : Nat} {o : List Int} (h : MinusDg a b i ls o) (h1 : a.length ≤ i) (h2 : b.length ≤ i) (hle : dval b ≤ dval a) : dval o = dval a - dval b := by
 have hs := h.sum
 rw [List.take_of_length_le h1, List.take_of_length_le h2] at hs
 have hlt := dval_lt h.ok
 rw [h.len] at hlt
 rcases Nat.eq_zero_or_pos ls with h0 | h0
 · rw [h0] at hs; omega
 · have : ls = 1 := by have := h.one; omega
   rw [this] at hs
   omega
theorem dlt_at {a b : List Int} (ha : okD a) (hb : okD b) (hl : a.length = b.length) {i : Nat} (hi : i < a.length) (he : a.drop (i + 1) = b.drop (i + 1)) (hlt : a.getD i 0 < b.getD i 0) : dval a < dval b := by
 have hx := okD_getD ha i
 have hy := okD_getD hb i
 have h1 : dval a = dval (a.take i) + 10 ^ i * ((a.getD i 0).toNat + 10 * dval (a.drop (i + 1))) := by
  have e := congrArg dval (List.take_append_drop i a)
  rw [dval_app, List.length_take, Nat.min_eq_left (by omega), List.drop_eq_getElem_cons hi, dval] at e
  rw [← e, List.getD_eq_getElem?_getD, List.getElem?_eq_getElem hi]; rfl
 have h2 : dval b = dval (b.take i) + 10 ^ i * ((b.getD i 0).toNat + 10 * dval (b.drop (i + 1))) := by
  have e := congrArg dval (List.take_append_drop i b)
  rw [dval_app, List.length_take, Nat.min_eq_left (by omega), List.drop_eq_getElem_cons (by omega), dval] at e
  rw [← e, List.getD_eq_getElem?_getD, List.getElem?_eq_getElem (by omega)]; rfl
 have h3 := dval_lt (okD_take ha i)
 rw [List.length_take, Nat.min_eq_left (by omega)] at h3
 rw [← he] at h2
 have h4 : (a.getD i 0).toNat + 10 * dval (a.drop (i + 1)) + 1 ≤ (b.getD i 0).toNat + 10 * dval (a.drop (i + 1)) := by omega
 have h5 := Nat.mul_le_mul_left (10 ^ i) h4
 rw [Nat.mul_add _ _ 1] at h5
 generalize 10 ^ i * ((a.getD i 0).toNat + 10 * dval (a.drop (i + 1))) = p at *
 generalize 10 ^ i * ((b.getD i 0).toNat + 10 * dval (a.drop (i + 1))) = q at *
 omega
theorem dlen_lt {m n : Nat} (h : (decs m).length < (decs n).length) : m < n := by
 have h1 := dval_lt (okD_decs m)
 have hn : decs n ≠ [] := fun e => by rw [e] at h; simp at h
 have h2 := dcanon_ge (dcanon_decs n) hn
 rw [dval_decs] at h1 h2
 have h3 : 10 ^ (decs m).length ≤ 10 ^ ((decs n).length - 1) := Nat.pow_le_pow_right (by decide) (by omega)
 omega
theorem drop_step {a b : List Int} {i : Nat} (ha : i < a.length) (hb : i < b.length) (he : a.drop (i + 1) = b.drop (i + 1)) (hx : a.getD i 0 = b.getD i 0) : a.drop i = b.drop i := by
 rw [List.drop_eq_getElem_cons ha, List.drop_eq_getElem_cons hb, he]
 rw [List.getD_eq_getElem?_getD, List.getD_eq_getElem?_getD, List.getElem?_eq_getElem ha, List.getElem?_eq_getElem hb] at hx
 rw [show a[i] = b[i] from hx]
theorem decs_shift {m : Nat} (h : m ≠ 0) : ∀ k, decs (m * 10 ^ k) = List.replicate k 0 ++ decs m
 | 0 => by simp
 | k + 1 => by
  have e : m * 10 ^ (k + 1) = 10 * (m * 10 ^ k) := by rw [Nat.pow_succ]; simp only [Nat.mul_comm, Nat.mul_left_comm]
  have hp : m * 10 ^ k ≠ 0 := Nat.mul_ne_zero h (Nat.pos_iff_ne_zero.1 (Nat.pow_pos (by decide)))
  rw [e, decs_pos (by omega), show 10 * (m * 10 ^ k) % 10 = 0 by omega, show 10 * (m * 10 ^ k) / 10 = m * 10 ^ k by omega, decs_shift h k]
  rfl
theorem decs_shift_len (m k : Nat) : (decs (m * 10 ^ k)).length ≤ (decs m).length + k := by
 by_cases h : m = 0
 · subst h; simp [decs_zero]
 · rw [decs_shift h]; simp; omega
end Go.Proofs.YtmfpakolfpoamaaGreatDoor.P

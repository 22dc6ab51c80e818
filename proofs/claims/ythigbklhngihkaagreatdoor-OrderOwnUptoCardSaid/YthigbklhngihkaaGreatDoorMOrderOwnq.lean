import Derived.Test.YthigbklhngihkaaGreatDoorMOrderOwnp
import Derived.Maps.OwnIn
import Derived.StillTail
import Derived.Sort.CutIn
set_option linter.unusedVariables false
set_option linter.unusedSimpArgs false
set_option maxRecDepth 100000
namespace Go.Proofs.YthigbklhngihkaaGreatDoor.P
open Go.RowKit Go.Proofs.YthigbklhngihkaaGreatDoorW.PrintWords Go.Proofs.YthigbklhngihkaaGreatDoorW.PrintMore Go.Proofs.YthigbklhngihkaaGreatDoorW.PrintLast
def PairEl (w : World) (e : PEl) : Prop := ∃ kc vc : List Value, e.row = kc ++ vc ∧ k28.K w e.key kc ∧ k28.K w e.val vc
def pels (rows : List (List Value)) (ks l : List V) (n : Nat) : List PEl := (List.range n).map fun j => ⟨rows.getD j [], rd_T28 ks (j : Int), rd_T28 l (j : Int), j⟩
theorem pels_len {rows : List (List Value)} {ks l : List V} {n : Nat} : (pels rows ks l n).length = n := by simp [pels]
theorem pels_at {rows : List (List Value)} {ks l : List V} {n i : Nat} {e : PEl} (h : (pels rows ks l n)[i]? = some e) : i < n ∧ e = ⟨rows.getD i [], rd_T28 ks (i : Int), rd_T28 l (i : Int), i⟩ := by
 have hi : i < n := by have := (List.getElem?_eq_some_iff.1 h).1; rwa [pels_len] at this
 refine ⟨hi, ?_⟩
 unfold pels at h
 rw [List.getElem?_map, List.getElem?_range hi] at h
 exact (Option.some.inj h).symm
theorem pels_tags (rows : List (List Value)) (ks l : List V) (n : Nat) : (pels rows ks l n).Pairwise (fun x y : PEl => x.tag < y.tag) := by
 unfold pels
 rw [List.pairwise_map]
 exact List.pairwise_lt_range
theorem row_of_raw {inner : List Value} {rows : List (List Value)} {i : Nat} {r : List Value} (hr : Reps (fun (x : List Value) cs => cs = x ∧ cs.length = 14 ∧ ∀ u ∈ cs, u.oneCell' = true) 14 rows inner) (hi : rows[i]? = some r) : r = (inner.drop (i * 14)).take 14 ∧ r.length = 14 ∧ ∀ u ∈ r, u.oneCell' = true := by
 obtain ⟨h1, h2, h3⟩ := hr.2 i r hi
 rw [h1] at h2 h3
 exact ⟨h1.symm, h2, h3⟩
theorem sw_of_pairs {w w2 W : World} {ks l : List V} {v : Value} {n : Nat} (h : PairMid2 w w2 W ks l v n) (hn : 0 < n) : ∃ (g cap : Nat) (rows : List (List Value)), v = .slice (some ⟨g, 0, none⟩) n cap ∧ w2.heap.size ≤ g ∧ g < W.heap.size ∧ SW W g (pels rows ks l n) W ∧ ∀ e ∈ pels rows ks l n, PairEl w e := by
 obtain ⟨rows, hrl, hR, hrk⟩ := h.ex
 obtain ⟨h0, inner, ho, hr⟩ := hR
 rcases ho.2 with ⟨_, e0⟩ | ⟨g, cap, cur, hv, hb, hg, hnc, hcm, hcs, htk⟩
 · omega
 · have hgl := blk_lt hg
   have hsz : (Kd.raw 14).sz = 14 := rfl
   rw [hsz] at hcs htk hr
   rw [hrl] at hv htk hnc
   have hrow : ∀ i e, (pels rows ks l n)[i]? = some e → rows[i]? = some e.row ∧ i < n := fun i e hi => by
    obtain ⟨hin, rfl⟩ := pels_at hi
    refine ⟨?_, hin⟩
    show rows[i]? = some (rows.getD i [])
    rw [List.getD_eq_getElem?_getD, List.getElem?_eq_getElem (by omega)]
    rfl
   refine ⟨g, cap, rows, hv, hb, hgl, ⟨KeepG.refl _ _, fun i e hi j u hu => ?_, fun j hj => ?_, fun e he => ?_⟩, fun e he => ?_⟩
   · obtain ⟨k1, k2⟩ := hrow i e hi
     obtain ⟨k3, k4, k5⟩ := row_of_raw hr k1
     have hj : j < 14 := by rw [← k4]; exact (List.getElem?_eq_some_iff.1 hu).1
     rw [k3, List.getElem?_take_of_lt hj, List.getElem?_drop, ← htk] at hu
     rw [List.getElem?_take_of_lt (by omega)] at hu
     rw [blk_cell hg]
     rw [Array.getElem?_toList] at hu
     exact hu
   · rw [pels_len] at hj
     refine ⟨?_, blk_frozen hg _⟩
     rw [blk_cell hg, Array.getElem?_eq_getElem (by rw [hcs]; have := Nat.mul_le_mul_right 14 hnc; omega)]
     rfl
   · obtain ⟨i, hi⟩ := List.getElem?_of_mem he
     obtain ⟨k1, k2⟩ := hrow i e hi
     obtain ⟨k3, k4, k5⟩ := row_of_raw hr k1
     exact ⟨k4, k5⟩
   · obtain ⟨i, hi⟩ := List.getElem?_of_mem he
     obtain ⟨k1, k2⟩ := hrow i e hi
     obtain ⟨_, he2⟩ := pels_at hi
     obtain ⟨kc, vc, m1, m2, m3⟩ := hrk i e.row k1
     refine ⟨kc, vc, m1, ?_, ?_⟩
     · rw [he2]; exact m2
     · rw [he2]; exact m3
theorem keyEl_of {w : World} {e : PEl} (h : PairEl w e) (ho : OkV e.key) (hn : NumOk e.key) : KeyEl w e := by
 obtain ⟨kc, vc, h1, h2, h3⟩ := h
 exact ⟨⟨kc, vc, h1, k28.K_len h3, h2⟩, ho, hn⟩
def Sorted (ks l ys : List V) : Prop := ∃ S : List PEl, S.Perm (pels [] ks l ks.length) ∧ S.Pairwise elt ∧ ys = S.map PEl.val
def lask (l ks : List V) : Int := if orL [vchks l, vchks ks] ≠ 0 then orL [vchks l, vchks ks] else if l.length ≠ ks.length then 3 else 0
set_option maxHeartbeats 1000000 in
theorem oask_any (l ks : List V) (A B : Option Addr) (c d : Nat) (w : World) (hLD : LaidW w) (hA : k28.C w A l.length l) (hB : k28.C w B ks.length ks) (hO : ∀ x ∈ l, OkV x) (hO2 : ∀ x ∈ ks, OkV x) :
 Calls Tryz.prog 75 #[.slice A l.length c, .slice B ks.length d] w fun e w' => e = .returned (.int .i64 (lask l ks)) ∧ Below w.heap.size w w' := by
 have HC1 := Lib.hid (Checks_any l A c w hLD hA hO)
 have HC2 : Hid (∀ W, Below w.heap.size w W → Calls Tryz.prog 118 #[.slice B ks.length d] W fun e w' => e = .returned (.int .i64 (vchks ks)) ∧ Below W.heap.size W w') := Lib.hid (fun W hW => Checks_any ks B d W (hLD.below hW) (Kd.C_below hB hW) hO2)
 have hl1 := hA.2.1
 have hl2 := hB.2.1
 obtain ⟨r, hr⟩ : ∃ r, r = lask l ks := ⟨_, rfl⟩
 rw [← hr]
 unfold lask at hr
 generalize vchks l = a at *
 generalize vchks ks = b at *
 obtain ⟨o, ho⟩ : ∃ o, o = orL [a, b] := ⟨_, rfl⟩
 rw [← ho] at hr
 have HO := Lib.hid ho
 clear hA hB hO hO2 hLD ho
 by_cases h0 : o = 0
 · rw [if_neg (by simpa using h0)] at hr
   by_cases hl : l.length = ks.length
   · rw [if_neg (by simpa using hl)] at hr
     have hg : (((l.length : Nat) : Int) != ((ks.length : Nat) : Int)) = false := by simp [hl]
     have hn : (o != 0) = false := by simp [h0]
     have HR := Lib.hid hr
     clear hr h0 hl
     go_enter Tryz.func75, Tryz.ntmps75
     go_wp2_with (first
      | (go_at_call 118; (with_reducible refine (HC1.out).mono ?_); rintro e w1 ⟨rfl, hB1⟩; have HB1 := Lib.hid hB1; clear hB1)
      | (go_at_call 118; (with_reducible refine (HC2.out _ HB1.out).mono ?_); rintro e w2 ⟨rfl, hB2⟩; have HB2 := Lib.hid (HB1.out.trans (hB2.mono HB1.out.size)); clear hB2)
      | (go_at_call 61; (with_reducible refine (or_err2 _ _ _ _).mono ?_); rintro e w3 ⟨rfl, rfl⟩; rw [← HO.out]))
     go_ret
     exact ⟨by rw [HR.out]; rfl, HB2.out.alloc HB2.out.size _⟩
   · rw [if_pos (by simpa using hl)] at hr
     have hg : (((l.length : Nat) : Int) != ((ks.length : Nat) : Int)) = true := by simp; omega
     have hn : (o != 0) = false := by simp [h0]
     have HR := Lib.hid hr
     clear hr h0 hl
     go_enter Tryz.func75, Tryz.ntmps75
     go_wp2_with (first
      | (go_at_call 118; (with_reducible refine (HC1.out).mono ?_); rintro e w1 ⟨rfl, hB1⟩; have HB1 := Lib.hid hB1; clear hB1)
      | (go_at_call 118; (with_reducible refine (HC2.out _ HB1.out).mono ?_); rintro e w2 ⟨rfl, hB2⟩; have HB2 := Lib.hid (HB1.out.trans (hB2.mono HB1.out.size)); clear hB2)
      | (go_at_call 61; (with_reducible refine (or_err2 _ _ _ _).mono ?_); rintro e w3 ⟨rfl, rfl⟩; rw [← HO.out]))
     go_ret
     exact ⟨by rw [HR.out]; rfl, HB2.out.alloc HB2.out.size _⟩
 · rw [if_pos h0] at hr
   have hn : (o != 0) = true := by simp [h0]
   have HR := Lib.hid hr
   clear hr h0
   go_enter Tryz.func75, Tryz.ntmps75
   go_wp2_with (first
    | (go_at_call 118; (with_reducible refine (HC1.out).mono ?_); rintro e w1 ⟨rfl, hB1⟩; have HB1 := Lib.hid hB1; clear hB1)
    | (go_at_call 118; (with_reducible refine (HC2.out _ HB1.out).mono ?_); rintro e w2 ⟨rfl, hB2⟩; have HB2 := Lib.hid (HB1.out.trans (hB2.mono HB1.out.size)); clear hB2)
    | (go_at_call 61; (with_reducible refine (or_err2 _ _ _ _).mono ?_); rintro e w3 ⟨rfl, rfl⟩; rw [← HO.out]))
   go_ret
   exact ⟨by rw [HR.out]; rfl, HB2.out.alloc HB2.out.size _⟩
theorem orL_none : ∀ {l : List Int}, orL l = 0 → ∀ x ∈ l, x = 0
 | [], _, x, hx => by cases hx
 | y :: l, h, x, hx => by
  rw [orL] at h
  by_cases hy : y = 0
  · rw [if_pos hy] at h
    rcases List.mem_cons.1 hx with rfl | hx
    · exact hy
    · exact orL_none h x hx
  · rw [if_neg hy] at h
    exact absurd h hy
theorem mem_valls : ∀ {l : List V} {x y : V}, x ∈ l → y ∈ vall x → y ∈ valls l
 | z :: l, x, y, h, hy => by
  rw [valls]
  rcases List.mem_cons.1 h with rfl | h
  · exact List.mem_append_left _ hy
  · exact List.mem_append_right _ (mem_valls h hy)
theorem num_of_own {x : V} (h : vown x = 0) (h3 : x.f0 = 3) : decOkB x.f1 = true := by
 unfold vown at h
 split at h
 · omega
 · split at h
   · contradiction
   · split at h
     · omega
     · split at h
       · rename_i hh
         simp only [Bool.and_eq_true] at hh
         have hn := hh.1.1
         unfold vnumbers at hn
         rw [if_pos h3] at hn
         simp only [beq_iff_eq] at hn
         unfold dchk at hn
         by_cases hd : decOkB x.f1 = true
         · exact hd
         · simp [hd] at hn
       · omega
theorem numOk_of_vall : ∀ x : V, (∀ y ∈ vall x, vown y = 0) → NumOk x := V.ind fun x ih h => by
 refine .mk x (fun h3 => num_of_own (h x (by rw [vall_eq]; exact List.mem_cons_self)) h3) fun y hy => ih y hy fun z hz => h z ?_
 rw [vall_eq]
 exact List.mem_cons_of_mem _ (mem_valls hy hz)
theorem numOk_of_vchk {x : V} (h : vchk x = 0) : NumOk x := by
 refine numOk_of_vall x fun y hy => ?_
 unfold vchk at h
 split at h
 · omega
 · split at h
   · omega
   · exact orL_none h _ (List.mem_map.2 ⟨y, hy, rfl⟩)
theorem numOk_of_vchks {l : List V} (h : vchks l = 0) : ∀ x ∈ l, NumOk x := fun x hx => numOk_of_vchk (orL_none h _ (List.mem_map.2 ⟨x, hx, rfl⟩))
theorem lask_zero {l ks : List V} (h : lask l ks = 0) : (∀ x ∈ l, NumOk x) ∧ (∀ x ∈ ks, NumOk x) ∧ l.length = ks.length := by
 unfold lask at h
 by_cases h0 : orL [vchks l, vchks ks] = 0
 · rw [if_neg (by simpa using h0)] at h
   have h1 := orL_none h0
   refine ⟨numOk_of_vchks (h1 _ List.mem_cons_self), numOk_of_vchks (h1 _ (List.mem_cons_of_mem _ List.mem_cons_self)), ?_⟩
   by_cases hl : l.length = ks.length
   · exact hl
   · rw [if_pos (by simpa using hl)] at h
     omega
 · rw [if_pos (by simpa using h0)] at h
   exact absurd h h0
theorem insertion_nil (cb : Nat) (W : World) : Calls Tryz.prog 198 #[.slice none 0 0, .int .i64 0, .int .i64 0, .func (.func 120) #[] #[.pointer (some ⟨cb, 0, none⟩)]] W fun e w' => e = .returned (.tuple #[]) ∧ w' = W := by
 go_enter Tryz.func198, Tryz.ntmps198
 go_wp2
 go_loopw [8] (fun vi wr => vi = .int .i64 1 ∧ wr = W) (fun vi _ => 0)
 case atStart => exact ⟨rfl, rfl⟩
 case round =>
  obtain ⟨rfl, rfl⟩ := hrel
  go_wp2
  exact bodyPost_end (v := .tuple #[]) (by simp [results, Tryz.f198, go_sem]) rfl ⟨rfl, rfl⟩
theorem stable_nil (cb : Nat) (W : World) : Calls Tryz.prog 160 #[.slice none 0 0, .int .i64 0, .func (.func 120) #[] #[.pointer (some ⟨cb, 0, none⟩)]] W fun e w' => e = .returned (.tuple #[]) ∧ w' = W := by
 have HI := Lib.hid (insertion_nil cb W)
 go_enter Tryz.func160, Tryz.ntmps160
 go_wp2
 go_loopw [7, 8] (fun va vb wr => va = .int .i64 0 ∧ vb = .int .i64 20 ∧ wr = W) (fun va vb _ => 0)
 case atStart => exact ⟨rfl, rfl, rfl⟩
 case round =>
  obtain ⟨rfl, rfl, rfl⟩ := hrel
  go_wp2_with (go_at_call 198; (with_reducible refine (HI.out).mono ?_); rintro e w1 ⟨rfl, rfl⟩)
  go_loopw [6] (fun vz w2 => vz = .int .i64 20 ∧ w2 = w1) (fun vz _ => 0)
  case atStart => exact ⟨rfl, rfl⟩
  case round =>
   obtain ⟨rfl, rfl⟩ := hrel
   go_wp2
   exact bodyPost_end (v := .tuple #[]) (by simp [results, Tryz.f160, go_sem]) rfl ⟨rfl, rfl⟩
theorem sortStable_nil (cb : Nat) (W : World) : Calls Tryz.prog 119 #[.slice none 0 0, .func (.func 120) #[] #[.pointer (some ⟨cb, 0, none⟩)]] W fun e w' => e = .returned (.tuple #[]) ∧ w' = W := by
 have HS := Lib.hid (stable_nil cb W)
 go_enter Tryz.func119, Tryz.ntmps119
 go_wp2_with (go_at_call 160; (with_reducible refine (HS.out).mono ?_); rintro e w1 ⟨rfl, rfl⟩)
 exact bodyPost_end (v := .tuple #[]) (by simp [results, Tryz.f119, go_sem]) rfl ⟨rfl, rfl⟩
theorem sorted_nil (w : World) : Calls Tryz.prog 76 #[.slice none 0 0, .func (.func 63) #[] #[]] w fun e w' => e = .returned (.slice none 0 0) ∧ Below w.heap.size w w' := by
 obtain ⟨W2, hW2⟩ : ∃ W2, W2 = w.alloc (.cells #[.func (.func 63) #[] #[]] 84) := ⟨_, rfl⟩
 have HB : Hid (Below w.heap.size w W2) := Lib.hid (by rw [hW2]; exact (Below.refl _ _).alloc (Nat.le_refl _) _)
 have HS := Lib.hid (sortStable_nil w.heap.size W2)
 have HW2 := Lib.hid hW2
 clear hW2
 go_enter Tryz.func76, Tryz.ntmps76
 go_upto_region 1 with (fail)
 rw [← HW2.out]
 go_wp2_with (go_at_call 119; (with_reducible refine (HS.out).mono ?_); rintro e w1 ⟨rfl, rfl⟩)
 go_ret
 exact ⟨rfl, HB.out⟩
theorem raw_reads {w0 W : World} {A : Option Addr} {n : Nat} {rows : List (List Value)} {l : List V} (h : (Kd.raw 7).C W A n rows) (hl : rows.length = l.length) (hb : Below w0.heap.size w0 W)
 (hk : ∀ (j : Nat) (x : V) (c : List Value), l[j]? = some x → rows[j]? = some c → k28.K w0 x c) : k28.C W A l.length l := by
 have h1 := h.1
 refine ⟨rfl, by have := h.2.1; omega, fun hp => ?_⟩
 obtain ⟨ad, e, hc⟩ := h.2.2 (by omega)
 refine ⟨ad, e, fun j x hx => ?_⟩
 have hj : j < rows.length := by rw [hl]; exact (List.getElem?_eq_some_iff.1 hx).1
 obtain ⟨cs, h2, ⟨rfl, _, _⟩, h3⟩ := hc j _ (List.getElem?_eq_getElem hj)
 exact ⟨_, h2, k28.K_below hb (hk j x _ hx (List.getElem?_eq_getElem hj)), h3⟩
structure SortRow (w w' : World) (ks l : List V) (n : Nat) (A : Option Addr) (S : List PEl) : Prop where
 perm : ∃ rows, S.Perm (pels rows ks l n)
 sorted : S.Pairwise elt
 els : ∀ e ∈ S, PairEl w e
 cells : n = 0 ∨ ∃ g, A = some ⟨g, 0, none⟩ ∧ g < w'.heap.size ∧ ∀ i e, S[i]? = some e → w'.rangeAt g (i * 14) e.row
theorem SortRow.len {w w' : World} {ks l : List V} {n : Nat} {A : Option Addr} {S : List PEl} (h : SortRow w w' ks l n A S) : S.length = n := by
 obtain ⟨rows, hp⟩ := h.perm
 rw [hp.length_eq, pels_len]
theorem rd_mem {l : List V} {j : Nat} (h : j < l.length) : rd_T28 l (j : Int) ∈ l := by unfold rd_T28; simp [h]
theorem SortRow.said {w w' : World} {ks l : List V} {A : Option Addr} {S : List PEl} (h : SortRow w w' ks l ks.length A S) : Sorted ks l (S.map PEl.val) := by
 obtain ⟨rows, hp⟩ := h.perm
 refine ⟨S.map fun e => { e with row := [] }, ?_, ?_, by rw [List.map_map]; rfl⟩
 · have := hp.map (fun e : PEl => { e with row := [] })
   have e : (pels rows ks l ks.length).map (fun e : PEl => { e with row := [] }) = pels [] ks l ks.length := by
    unfold pels
    rw [List.map_map]
    refine List.map_congr_left fun j _ => ?_
    simp
   rw [e] at this
   exact this
 · rw [List.pairwise_map]
   exact h.sorted
theorem SortRow.val {w w' : World} {ks l : List V} {n : Nat} {A : Option Addr} {S : List PEl} (h : SortRow w w' ks l n A S) (hl : n ≤ l.length) : ∀ e ∈ S, e.val ∈ l := fun e he => by
 obtain ⟨rows, hp⟩ := h.perm
 obtain ⟨i, hi⟩ := List.getElem?_of_mem (hp.mem_iff.1 he)
 obtain ⟨k1, k2⟩ := pels_at hi
 rw [k2]
 exact rd_mem (by omega)
theorem sw_cap {w w2 W : World} {ks l : List V} {v : Value} {n : Nat} (h : PairMid2 w w2 W ks l v n) (hn : 0 < n) : ∀ A m cap, v = .slice A m cap → n ≤ cap := by
 obtain ⟨rows, hrl, hR, _⟩ := h.ex
 obtain ⟨A, c, rfl, hl, _⟩ := Kd.R_reads hR
 rintro A' m cap e
 injection e with _ _ e
 omega
theorem sorted_from {w w2 W : World} {ks l : List V} {v : Value} {n : Nat} (h2 : Below w.heap.size w w2) (h : PairMid2 w w2 W ks l v n) (hn1 : n = ks.length) (hn : n ≤ 1048576) (hO : ∀ x ∈ ks, OkV x) (hN : ∀ x ∈ ks, NumOk x) :
 Calls Tryz.prog 76 #[v, .func (.func 63) #[] #[]] W fun e w' => ∃ A cap S, e = .returned (.slice A n cap) ∧ SortRow w w' ks l n A S ∧ Below w2.heap.size w2 w' ∧ n ≤ cap ∧ ∀ g, A = some ⟨g, 0, none⟩ → w2.heap.size ≤ g := by
 by_cases h0 : n = 0
 · subst h0
   rw [h.nil rfl]
   refine (sorted_nil W).mono ?_
   rintro e w' ⟨rfl, hB⟩
   exact ⟨none, 0, [], rfl, ⟨⟨[], by simp [pels]⟩, List.Pairwise.nil, (fun e he => by cases he), .inl rfl⟩, h.below.trans (hB.mono h.below.size), Nat.le_refl _, fun g hg => by cases hg⟩
 · obtain ⟨g, cap, rows, rfl, hg1, hg2, hsw, hel⟩ := sw_of_pairs h (by omega)
   have hcap := sw_cap h (by omega)
   have hke : ∀ e ∈ pels rows ks l n, KeyEl w2 e := fun e he => KeyEl.below (by
    obtain ⟨i, hi⟩ := List.getElem?_of_mem he
    obtain ⟨k1, k2⟩ := pels_at hi
    have hm : e.key ∈ ks := by rw [k2]; exact rd_mem (by omega)
    exact keyEl_of (hel e he) (hO _ hm) (hN _ hm)) h2
   refine (sorted_in w2 W g (pels rows ks l n) n cap pels_len.symm hn h.below hg1 hg2 hke (pels_tags _ _ _ _) hsw).mono ?_
   rintro e w' ⟨rfl, S', p1, p2, p3⟩
   exact ⟨_, cap, S', rfl, ⟨⟨rows, p1⟩, p2, fun e he => hel e (p1.mem_iff.1 he), .inr ⟨g, rfl, Nat.lt_of_lt_of_le hg2 p3.keep.size, p3.at_⟩⟩, p3.keep.below h.below hg1 h.below.size, hcap _ _ _ rfl, fun g' hg' => by injection hg' with hg'; injection hg' with hg'; omega⟩
theorem sorted_call {w W : World} {ks l : List V} {v : Value} {n : Nat} (h : PairMid w W ks l v n) (hn1 : n = ks.length) (hn : n ≤ 1048576) (hO : ∀ x ∈ ks, OkV x) (hN : ∀ x ∈ ks, NumOk x) :
 Calls Tryz.prog 76 #[v, .func (.func 63) #[] #[]] W fun e w' => ∃ A cap S, e = .returned (.slice A n cap) ∧ SortRow w w' ks l n A S ∧ Below w.heap.size w w' :=
 (sorted_from (Below.refl _ _) h hn1 hn hO hN).mono fun e w' ⟨A, cap, S, h1, h2, h3, _, _⟩ => ⟨A, cap, S, h1, h2, h3⟩
theorem at_P {w w1 wr : World} {ks l : List V} {n : Nat} {A : Option Addr} {S : List PEl} (h : SortRow w w1 ks l n A S) (hb : Below w1.heap.size w1 wr) (k : Nat) (hk : k < n) : ∃ (e : PEl) (ad : Addr) (A2 : Option Addr) (c2 : Nat) (A5 : Option Addr) (c5 : Nat) (A6 : Option Addr) (c6 : Nat) (B2 : Option Addr) (d2 : Nat) (B5 : Option Addr) (d5 : Nat) (B6 : Option Addr) (d6 : Nat), S[k]? = some e ∧ A = some ad ∧ k28.K w e.val [.int .i64 e.val.f0, .bool e.val.f1.f0, .slice B2 e.val.f1.f1.length d2, .int .i64 e.val.f1.f2, .string e.val.f2, .slice B5 e.val.f3.length d5, .slice B6 e.val.f4.length d6] ∧ k28.K w e.key [.int .i64 e.key.f0, .bool e.key.f1.f0, .slice A2 e.key.f1.f1.length c2, .int .i64 e.key.f1.f2, .string e.key.f2, .slice A5 e.key.f3.length c5, .slice A6 e.key.f4.length c6] ∧ wr.cell? (ad.add (k * 14)) = some (.int .i64 e.key.f0) ∧ wr.cell? ⟨(ad.add (k * 14)).block, (ad.add (k * 14)).off + 1, none⟩ = some (.bool e.key.f1.f0) ∧ wr.cell? ⟨(ad.add (k * 14)).block, (ad.add (k * 14)).off + 2, none⟩ = some (.slice A2 e.key.f1.f1.length c2) ∧ wr.cell? ⟨(ad.add (k * 14)).block, (ad.add (k * 14)).off + 3, none⟩ = some (.int .i64 e.key.f1.f2) ∧ wr.cell? ⟨(ad.add (k * 14)).block, (ad.add (k * 14)).off + 4, none⟩ = some (.string e.key.f2) ∧ wr.cell? ⟨(ad.add (k * 14)).block, (ad.add (k * 14)).off + 5, none⟩ = some (.slice A5 e.key.f3.length c5) ∧ wr.cell? ⟨(ad.add (k * 14)).block, (ad.add (k * 14)).off + 6, none⟩ = some (.slice A6 e.key.f4.length c6) ∧ wr.cell? ⟨(ad.add (k * 14)).block, (ad.add (k * 14)).off + 7, none⟩ = some (.int .i64 e.val.f0) ∧ wr.cell? ⟨(ad.add (k * 14)).block, (ad.add (k * 14)).off + 8, none⟩ = some (.bool e.val.f1.f0) ∧ wr.cell? ⟨(ad.add (k * 14)).block, (ad.add (k * 14)).off + 9, none⟩ = some (.slice B2 e.val.f1.f1.length d2) ∧ wr.cell? ⟨(ad.add (k * 14)).block, (ad.add (k * 14)).off + 10, none⟩ = some (.int .i64 e.val.f1.f2) ∧ wr.cell? ⟨(ad.add (k * 14)).block, (ad.add (k * 14)).off + 11, none⟩ = some (.string e.val.f2) ∧ wr.cell? ⟨(ad.add (k * 14)).block, (ad.add (k * 14)).off + 12, none⟩ = some (.slice B5 e.val.f3.length d5) ∧ wr.cell? ⟨(ad.add (k * 14)).block, (ad.add (k * 14)).off + 13, none⟩ = some (.slice B6 e.val.f4.length d6) := by
 have hl := h.len
 obtain ⟨e, he⟩ : ∃ e, S[k]? = some e := ⟨_, List.getElem?_eq_getElem (by omega)⟩
 obtain ⟨kc, vc, e1, e2, e3⟩ := h.els e (List.mem_of_getElem? he)
 obtain ⟨A2, c2, A5, c5, A6, c6, rfl, -⟩ := k28_open e2
 obtain ⟨B2, d2, B5, d5, B6, d6, rfl, -⟩ := k28_open e3
 rcases h.cells with h0 | ⟨g, rfl, hg, hr⟩
 · omega
 · have hc : ∀ j v, e.row[j]? = some v → wr.cell? ⟨g, k * 14 + j, none⟩ = some v := fun j v hj => by
    rw [World.cell?_of_block (hb.block g hg)]
    exact hr k e he j v hj
   rw [e1] at hc
   refine ⟨e, ⟨g, 0, none⟩, A2, c2, A5, c5, A6, c6, B2, d2, B5, d5, B6, d6, he, rfl, e3, e2, ?_, ?_, ?_, ?_, ?_, ?_, ?_, ?_, ?_, ?_, ?_, ?_, ?_, ?_⟩
   all_goals (rw [Addr.add_mid]; first | (show wr.cell? ⟨g, 0 + k * 14, none⟩ = _; rw [Nat.zero_add]; exact hc 0 _ rfl) | (simp only [Nat.zero_add]; exact hc _ _ rfl))
theorem infoI_ : (Tryz.prog.info? 3).map (fun i => (i.zero, i.size, i.bytes)) = some (some (.int .i64 0), (Kd.int .i64).sz, 8) := by kernel_rfl
theorem dval_snoc (o : List Int) (x : Int) : dval (o ++ [x]) = dval o + 10 ^ o.length * x.toNat := by rw [dval_app]; simp [dval]
def TimesTo (T b : Nat) (rest : List Int) (o : List Int) (mo : Nat) : Prop := okD o ∧ dval o + 10 ^ o.length * (mo + b * dval rest) = T
theorem TimesTo.step {T b : Nat} {x : Int} {rest o : List Int} {mo : Nat} (h : TimesTo T b (x :: rest) o mo) (hx : 0 ≤ x) : TimesTo T b rest (o ++ [(((mo + b * x.toNat) % 10 : Nat) : Int)]) ((mo + b * x.toNat) / 10) := by
 obtain ⟨h1, h2⟩ := h
 refine ⟨okD_app.2 ⟨h1, fun y hy => by rw [List.mem_singleton.1 hy]; omega⟩, ?_⟩
 rw [dval_snoc, List.length_append, List.length_singleton, Nat.pow_succ, ← h2, dval, Int.toNat_natCast, Nat.mul_add b, ← Nat.add_assoc, Nat.mul_left_comm b 10]
 generalize mo + b * x.toNat = s
 generalize b * dval rest = q
 have : s + 10 * q = s % 10 + 10 * (s / 10 + q) := by omega
 rw [this, Nat.mul_add (10 ^ o.length), Nat.mul_assoc (10 ^ o.length) 10]
 omega
theorem TimesTo.more {T b : Nat} {o : List Int} {mo : Nat} (h : TimesTo T b [] o mo) : TimesTo T b [] (o ++ [((mo % 10 : Nat) : Int)]) (mo / 10) := by
 obtain ⟨h1, h2⟩ := h
 refine ⟨okD_app.2 ⟨h1, fun y hy => by rw [List.mem_singleton.1 hy]; omega⟩, ?_⟩
 rw [dval_snoc, List.length_append, List.length_singleton, Nat.pow_succ, ← h2, Int.toNat_natCast]
 simp only [dval, Nat.mul_zero, Nat.add_zero]
 have : mo = mo % 10 + 10 * (mo / 10) := by omega
 generalize hq : mo / 10 = q at *
 generalize hr : mo % 10 = r at *
 rw [this, Nat.mul_add (10 ^ o.length), Nat.mul_assoc (10 ^ o.length) 10]
 omega
def LastOk (o : List Int) : Prop := ∀ h : o ≠ [], o.getLast h ≠ 0
theorem TimesTo.done {T b : Nat} {o : List Int} (h : TimesTo T b [] o 0) (hl : LastOk o) : o = decs T := by
 obtain ⟨h1, h2⟩ := h
 simp only [dval, Nat.mul_zero, Nat.add_zero] at h2
 have := dcanon_of_last h1 hl
 rw [← h2]
 exact this.symm
theorem lastOk_snoc {o : List Int} {x : Int} (h : x ≠ 0) : LastOk (o ++ [x]) := fun hn => by rw [List.getLast_concat]; exact h
theorem times_mid {m b more : Nat} {o : List Int} {mo : Nat} (hb : 10 ≤ b) (h : TimesTo (m * b + more) b [] o mo) (ho : o.length = (decs m).length) : 0 < mo ∨ LastOk o := by
 obtain ⟨h1, h2⟩ := h
 simp only [dval, Nat.mul_zero, Nat.add_zero] at h2
 by_cases h0 : decs m = []
 · right
   rw [h0] at ho
   have : o = [] := List.eq_nil_of_length_eq_zero ho
   intro hn
   exact absurd this hn
 · left
   have hlt := dval_lt h1
   have hge := dcanon_ge (dcanon_decs m) h0
   rw [dval_decs] at hge
   rcases Nat.eq_zero_or_pos mo with hz | hz
   · rw [hz, Nat.mul_zero, Nat.add_zero] at h2
     rw [ho] at hlt
     have hpos : 0 < (decs m).length := List.length_pos_iff.2 h0
     have : 10 ^ (decs m).length = 10 ^ ((decs m).length - 1) * 10 := by rw [← Nat.pow_succ]; congr 1; omega
     have h3 : 10 ^ ((decs m).length - 1) * 10 ≤ m * b := Nat.mul_le_mul hge hb
     omega
   · exact hz
set_option maxHeartbeats 4000000 in
theorem times_any (m more : Nat) (b : Int) (A : Option Addr) (c : Nat) (w : World) (hC : Kd.C (Kd.int .i64) w A (decs m).length (decs m)) (hl : (decs m).length ≤ 1048576) (hb : b = 4294967296) (hm : more < 4294967296) :
 Calls Tryz.prog 197 #[.slice A (decs m).length c, .int .i64 b, .int .i64 more] w fun e w' => ∃ v : Value, e = .returned v ∧ Kd.R (Kd.int .i64) 3 w' w.heap.size (fun _ => True) v (decs (m * 4294967296 + more)) ∧ Below w.heap.size w w' := by
 have hlenT : (decs (m * 4294967296 + more)).length ≤ (decs m).length + 10 := decs_len (by
  have h1 := dval_lt (okD_decs m)
  rw [dval_decs] at h1
  rw [Nat.pow_add]
  have h2 : (m + 1) * 4294967296 ≤ 10 ^ (decs m).length * 4294967296 := Nat.mul_le_mul_right _ h1
  have h3 : 10 ^ (decs m).length * 4294967296 ≤ 10 ^ (decs m).length * 10 ^ 10 := Nat.mul_le_mul_left _ (by decide)
  omega)
 obtain ⟨T, hT⟩ : ∃ T, T = m * 4294967296 + more := ⟨_, rfl⟩
 obtain ⟨ds, hds⟩ : ∃ ds, ds = decs m := ⟨_, rfl⟩
 obtain ⟨n, hn⟩ : ∃ n, n = ds.length := ⟨_, rfl⟩
 have h0 : TimesTo T 4294967296 ds [] more := ⟨okD_nil, by rw [hT, hds, dval_decs]; simp [dval]; omega⟩
 have HMID : Hid (∀ o mo, TimesTo T 4294967296 [] o mo → o.length = n → 0 < mo ∨ LastOk o) := Lib.hid (fun o mo h ho => times_mid (m := m) (b := 4294967296) (more := more) (by decide) (by rw [← hT]; exact h) (by rw [ho, hn, hds]))
 rw [← hT]
 have HOK : Hid (okD ds) := Lib.hid (by rw [hds]; exact okD_decs m)
 rw [← hds] at hC hl hlenT
 rw [← hds, ← hn]
 rw [← hn] at hC hl hlenT
 rw [← hT] at hlenT
 have HC := Lib.hid hC
 have HN := Lib.hid hn
 have HB := Lib.hid hb
 have H0 := Lib.hid h0
 have HM := Lib.hid hm
 have HLT := Lib.hid hlenT
 have hmc : (0 : Int) ≤ (more : Int) := by omega
 clear hC hn hb h0 hm hlenT hT hds
 go_enter Tryz.func197, Tryz.ntmps197
 go_wp2
 go_loopw [2, 7, 8] (fun vm vo vi wr => ∃ (i mo : Nat) (o : List Int) (G : Option Addr) (cap : Nat), i ≤ n ∧ vi = .int .i64 i ∧ vm = .int .i64 mo ∧ vo = .slice G i cap ∧ Hid (o.length = i ∧ mo ≤ 4294967296 ∧ TimesTo T 4294967296 (ds.drop i) o mo) ∧ Hid (Kd.R (Kd.int .i64) 3 wr w.heap.size (fun _ => True) (.slice G i cap) o ∧ Below w.heap.size w wr)) (fun vm vo vi _ => n - (intOf vi).toNat)
 case atStart => exact ⟨0, more, [], none, 0, Nat.zero_le _, rfl, rfl, rfl, Lib.hid ⟨rfl, Nat.le_of_lt HM.out, by rw [List.drop_zero]; exact H0.out⟩, Lib.hid ⟨Kd.R_nil _ _ _ _ _, Below.refl _ _⟩⟩
 case round =>
  obtain ⟨i, mo, o, G, cap, hi, rfl, rfl, rfl, HT, HR⟩ := hrel
  by_cases hlt : i < n
  · have hlt2 : (i : Int) < (n : Int) := by omega
    obtain ⟨ad, rfl, hx⟩ := Kd.at_int (Kd.C_below HC.out HR.out.2) (i : Int) (by omega) (by omega)
    rw [Int.toNat_natCast] at hx
    obtain ⟨x, hxe⟩ : ∃ x, x = rd ds (i : Int) := ⟨_, rfl⟩
    have hxd : ds.drop i = x :: ds.drop (i + 1) := by
     rw [List.drop_eq_getElem_cons (by rw [← HN.out]; exact hlt), hxe]
     unfold rd
     rw [Int.toNat_natCast, List.getD_eq_getElem?_getD, List.getElem?_eq_getElem (by rw [← HN.out]; exact hlt)]
     rfl
    have hxr : 0 ≤ x ∧ x < 10 := HOK.out x (List.mem_of_mem_drop (by rw [hxd]; exact List.mem_cons_self))
    rw [← hxe] at hx
    obtain ⟨s, hs⟩ : ∃ s : Nat, s = mo + 4294967296 * x.toNat := ⟨_, rfl⟩
    have HST : Hid ((o ++ [(s : Int) % 10]).length = i + 1 ∧ s / 10 ≤ 4294967296 ∧ TimesTo T 4294967296 (ds.drop (i + 1)) (o ++ [(s : Int) % 10]) (s / 10)) := Lib.hid (by
     obtain ⟨h1, h2, h3⟩ := HT.out
     rw [hxd] at h3
     have h4 := h3.step hxr.1
     rw [← hs, show ((s % 10 : Nat) : Int) = (s : Int) % 10 by omega] at h4
     exact ⟨by simp [h1], by omega, h4⟩)
    have e1 : wrap64 (x * b) = x * b := by rw [HB.out]; unfold wrap64; omega
    have e2 : wrap64 ((mo : Int) + x * b) = (s : Int) := by have := HT.out.2.1; rw [HB.out, hs]; unfold wrap64; omega
    have hs0 : (0 : Int) ≤ (s : Int) := by omega
    have HE3 : Hid (wrap64 ((s : Int) / 10) = ((s / 10 : Nat) : Int)) := Lib.hid (by have := HST.out.2.1; unfold wrap64; omega)
    have HSZ : Hid (w.heap.size ≤ wr.heap.size) := Lib.hid HR.out.2.size
    have hol : o.length ≤ 1048576 := by rw [HT.out.1]; omega
    clear hxe hxd hxr hs
    go_wp2_with (at_builtin; refine Kd.R_append (Kd.int .i64) (w0 := w) w.heap.size rfl (.tmp 23) (.tmp 26) 104 3 (.int .i64 0) 8 rfl Tryz.underlying104 infoI_ rfl (by decide) (by decide) (.slice G i cap) o _ _ (fun _ => True) (fun _ => False) rfl rfl rfl (fun _ h => h.elim) (fun _ _ => trivial) HR.out.1 HR.out.2 HSZ.out (by omega) ?_; intro v1 w7 hR7 hB7 hg7 hat7)
    obtain ⟨G7, cap7, rfl⟩ := Kd.R_slice hR7
    have hl7 : (o ++ [(s : Int) % 10]).length = i + 1 := by rw [List.length_append, HT.out.1]; rfl
    rw [hl7] at hR7
    have HR7 := Lib.hid (And.intro hR7 hB7)
    clear hR7 hB7 hg7 hat7 hol e1 e2
    go_roundw
    case rel => exact ⟨i + 1, s / 10, o ++ [(s : Int) % 10], G7, cap7, hlt, by go_num, congrArg (Value.int .i64) HE3.out, by rw [← hl7, List.length_append], HST, HR7⟩
    case measure => simp [intOf]; omega
  · obtain rfl : i = n := by omega
    have hlt2 : ¬ (i : Int) < (i : Int) := by omega
    have HT2 : Hid (mo ≤ 4294967296 ∧ TimesTo T 4294967296 [] o mo ∧ (0 < mo ∨ LastOk o)) := Lib.hid (by
     obtain ⟨h1, h2, h3⟩ := HT.out
     rw [HN.out, List.drop_length] at h3
     exact ⟨h2, h3, HMID.out o mo h3 h1⟩)
    have HLO := Lib.hid HT.out.1
    clear HT
    go_wp2
    go_loopw [2, 7] (fun vm vo w3 => ∃ (mo : Nat) (o : List Int) (G : Option Addr) (cap : Nat), vm = .int .i64 mo ∧ vo = .slice G o.length cap ∧ Hid (mo ≤ 4294967296 ∧ TimesTo T 4294967296 [] o mo ∧ (0 < mo ∨ LastOk o)) ∧ Hid (Kd.R (Kd.int .i64) 3 w3 w.heap.size (fun _ => True) (.slice G o.length cap) o ∧ Below w.heap.size w w3)) (fun vm vo _ => (intOf vm).toNat)
    case atStart => exact ⟨mo, o, G, cap, rfl, by rw [HLO.out], HT2, Lib.hid (by rw [HLO.out]; exact HR.out)⟩
    case round =>
     clear HR HT2 HLO
     obtain ⟨mo, o, G, cap, rfl, rfl, HT, HR⟩ := hrel
     have hm0 : (0 : Int) ≤ (mo : Int) := by omega
     by_cases hz : mo = 0
     · subst hz
       have hzz : ¬ (0 : Int) < ((0 : Nat) : Int) := by omega
       have HD : Hid (o = decs T) := Lib.hid (HT.out.2.1.done (HT.out.2.2.resolve_left (by omega)))
       go_wp2
       go_ret
       exact ⟨_, rfl, by rw [← HD.out]; exact HR.out.1, HR.out.2⟩
     · have hzz : (0 : Int) < (mo : Int) := by omega
       have HST : Hid (mo / 10 ≤ 4294967296 ∧ TimesTo T 4294967296 [] (o ++ [(mo : Int) % 10]) (mo / 10) ∧ (0 < mo / 10 ∨ LastOk (o ++ [(mo : Int) % 10]))) := Lib.hid (by
        obtain ⟨h1, h2, h3⟩ := HT.out
        have h4 := h2.more
        rw [show ((mo % 10 : Nat) : Int) = (mo : Int) % 10 by omega] at h4
        refine ⟨by omega, h4, ?_⟩
        by_cases h5 : 0 < mo / 10
        · exact .inl h5
        · exact .inr (lastOk_snoc (by omega)))
       have HE3 : Hid (wrap64 ((mo : Int) / 10) = ((mo / 10 : Nat) : Int)) := Lib.hid (by have := HT.out.1; unfold wrap64; omega)
       have hol : o.length ≤ 1048586 := by
        have h1 := HT.out.2.1.1
        have h2 := HT.out.2.1.2
        simp only [dval, Nat.mul_zero, Nat.add_zero] at h2
        have h3 : 10 ^ o.length ≤ T := by
         have : 10 ^ o.length * 1 ≤ 10 ^ o.length * mo := Nat.mul_le_mul_left _ (by omega)
         omega
        have h4 := HLT.out
        have h5 := dval_lt (okD_decs T)
        rw [dval_decs] at h5
        have h6 : 10 ^ o.length < 10 ^ (decs T).length := Nat.lt_of_le_of_lt h3 h5
        have h7 := (Nat.pow_lt_pow_iff_right (by decide : 1 < 10)).1 h6
        omega
       have HSZ : Hid (w.heap.size ≤ wr.heap.size) := Lib.hid HR.out.2.size
       clear hz
       go_wp2_with (at_builtin; refine Kd.R_append (Kd.int .i64) (w0 := w) w.heap.size rfl (.tmp 32) (.tmp 35) 104 3 (.int .i64 0) 8 rfl Tryz.underlying104 infoI_ rfl (by decide) (by decide) (.slice G o.length cap) o _ _ (fun _ => True) (fun _ => False) rfl rfl rfl (fun _ h => h.elim) (fun _ _ => trivial) HR.out.1 HR.out.2 HSZ.out (by omega) ?_; intro v1 w7 hR7 hB7 hg7 hat7)
       obtain ⟨G7, cap7, rfl⟩ := Kd.R_slice hR7
       have HR7 := Lib.hid (And.intro hR7 hB7)
       clear hR7 hB7 hg7 hat7 hol
       have hmd : mo / 10 < mo := by omega
       go_roundw
       case rel => exact ⟨mo / 10, o ++ [(mo : Int) % 10], G7, cap7, congrArg (Value.int .i64) HE3.out, by rw [List.length_append], HST, HR7⟩
       case measure => rw [HE3.out]; exact hmd
theorem val_drop {a : List Int} {k : Nat} (h : k < a.length) : val (a.drop k) = (rd a (k : Int)).toNat + 4294967296 * val (a.drop (k + 1)) := by
 rw [List.drop_eq_getElem_cons h, val]
 unfold rd
 rw [Int.toNat_natCast, List.getD_eq_getElem?_getD, List.getElem?_eq_getElem h]
 rfl
set_option maxHeartbeats 2000000 in
theorem Digits_any (a : List Int) (A : Option Addr) (c : Nat) (w : World) (hC : Kd.C (Kd.int .u32) w A a.length a) (hl : a.length ≤ 256) (hok : okL a) :
 Calls Tryz.prog 155 #[.slice A a.length c] w fun e w' => ∃ v : Value, e = .returned v ∧ Kd.R (Kd.int .i64) 3 w' w.heap.size (fun _ => True) v (decs (val a)) ∧ Below w.heap.size w w' := by
 obtain ⟨n, hn⟩ : ∃ n, n = a.length := ⟨_, rfl⟩
 have HL : Hid (∀ k, (decs (val (a.drop k))).length ≤ 1048576) := Lib.hid (fun k => Nat.le_trans (decs_256 (fun x hx => hok x (List.mem_of_mem_drop hx)) (by rw [List.length_drop]; omega)) (by decide))
 have HC := Lib.hid hC
 have HN := Lib.hid hn
 have HOK := Lib.hid hok
 rw [← hn]
 rw [← hn] at hl HC
 clear hC hn hok
 go_enter Tryz.func155, Tryz.ntmps155
 go_wp2
 go_loopw [3, 4] (fun vd vi wr => ∃ (k m : Nat) (G : Option Addr) (cap : Nat), k ≤ n ∧ vi = .int .i64 ((k : Int) - 1) ∧ vd = .slice G m cap ∧ Hid (m = (decs (val (a.drop k))).length ∧ Kd.R (Kd.int .i64) 3 wr w.heap.size (fun _ => True) (.slice G m cap) (decs (val (a.drop k))) ∧ Below w.heap.size w wr)) (fun vd vi _ => (intOf vi + 1).toNat)
 case atStart => exact ⟨n, 0, none, 0, Nat.le_refl _, rfl, rfl, Lib.hid (by rw [HN.out, List.drop_length, val, decs_zero]; exact ⟨rfl, Kd.R_nil _ _ _ _ _, Below.refl _ _⟩)⟩
 case round =>
  obtain ⟨k, m, G, cap, hk, rfl, rfl, HR⟩ := hrel
  by_cases hz : k = 0
  · subst hz
    go_wp2
    go_ret
    exact ⟨_, rfl, by have := HR.out.2.1; rw [List.drop_zero] at this; exact this, HR.out.2.2⟩
  · obtain ⟨j, rfl⟩ : ∃ j, k = j + 1 := ⟨k - 1, by omega⟩
    have hj1 : (((j + 1 : Nat) : Int) - 1) = (j : Int) := by omega
    rw [hj1]
    have hj0 : (0 : Int) ≤ (j : Int) := by omega
    have hjn : (j : Int) < (n : Int) := by omega
    obtain ⟨ad, rfl, hx⟩ := Kd.at_int (Kd.C_below HC.out HR.out.2.2) (j : Int) (by omega) (by omega)
    rw [Int.toNat_natCast] at hx
    have hv := val_drop (a := a) (k := j) (by rw [← HN.out]; omega)
    have hxr : 0 ≤ rd a (j : Int) ∧ rd a (j : Int) < 4294967296 := by
     have : rd a (j : Int) ∈ a := by unfold rd; rw [Int.toNat_natCast, List.getD_eq_getElem?_getD, List.getElem?_eq_getElem (by rw [← HN.out]; omega)]; exact List.getElem_mem _
     exact HOK.out _ this
    obtain ⟨x, hxe⟩ : ∃ x : Nat, rd a (j : Int) = (x : Int) := ⟨(rd a (j : Int)).toNat, by omega⟩
    rw [hxe] at hx hv hxr
    rw [Int.toNat_natCast] at hv
    have HT : Hid (Calls Tryz.prog 197 #[.slice G m cap, .int .i64 4294967296, .int .i64 x] wr fun e w' => ∃ v : Value, e = .returned v ∧ Kd.R (Kd.int .i64) 3 w' wr.heap.size (fun _ => True) v (decs (val (a.drop j))) ∧ Below wr.heap.size wr w') := Lib.hid (by
     obtain ⟨h1, h2, h3⟩ := HR.out
     subst h1
     have ht := times_any (val (a.drop (j + 1))) x 4294967296 G cap wr (Kd.R_reads' h2).2.2 (HL.out _) rfl (by omega)
     rw [show val (a.drop (j + 1)) * 4294967296 + x = val (a.drop j) by omega] at ht
     exact ht)
    have e1 : wrap64 (x : Int) = (x : Int) := by unfold wrap64; omega
    have hx0 : (0 : Int) ≤ (x : Int) := by omega
    have HXR := Lib.hid hxr
    clear hxe hv hxr hj1 hz
    go_wp2_with (go_at_call 197; (with_reducible refine (HT.out).mono ?_); rintro e w2 ⟨v2, rfl, hR2, hB2⟩; obtain ⟨G2, cap2, rfl⟩ := Kd.R_slice hR2; have HR2 : Hid (_ ∧ _) := Lib.hid (And.intro (Kd.R_lower hR2 HR.out.2.2.size) (HR.out.2.2.trans (hB2.mono HR.out.2.2.size))); clear hR2 hB2)
    go_roundw
    case rel => exact ⟨j, _, G2, cap2, by omega, by go_num, rfl, Lib.hid ⟨rfl, HR2.out.1, HR2.out.2⟩⟩
    case measure => simp [intOf]
def iask (l : List V) (v : V) : Int := orL [vchks l, vchk v]
def idx (l : List V) (v : V) : Nat → List Int
 | 0 => []
 | k + 1 => if vord (rd_T28 l (k : Int)) v = 0 then idx l v k ++ [(k : Int)] else idx l v k
def iidx (l : List V) (v : V) : List Int := if iask l v = 0 then idx l v l.length else []
section
variable {F : Fence} {n m : Nat} {P : Program}
def rndPost (l : Nat) (r : Loop) (R : World → Prop) : Exit → Act → World → Prop
 | .normal, _, W => W.heap[l]? = some (.loop { r with state := .busy }) ∧ R (W.putObj l (.loop { r with state := .ready, pending := none }))
 | .ret, _, _ => False
 | .exit _, _, _ => False
 | .goto _, _, _ => False
 | .panic _, _, _ => False
 | .outgrown, _, _ => False
end
section
variable {F : Fence} {nF : Nat} {P : Program} {α : Type} {o : Oper} {a : Act} {Q : Exit → Act → World → Prop} {K : Act → World → Prop}
end
end Go.Proofs.YthigbklhngihkaaGreatDoor.P
namespace Go.Proofs.YthigbklhngihkaaGreatDoor.P
open Go.RowKit Go
section
variable {F : Fence} {n : Nat} {P : Program} {ops : Array Oper} {C : World → Prop} {md : Region.Mode}
def wpHead (F : Fence) (n : Nat) (P : Program) (md : Region.Mode) (ops : Array Oper) (C : World → Prop) (m : Nat) (L : Array Bool → Act → Prop) : Nat → Array Bool → Act → Prop
 | 0, listed, a => L listed a
 | f + 1, listed, a => Region.ready md ops listed ≠ [] ∧ ∀ i ∈ Region.ready md ops listed, i < m ∧ qOpIn F n P ops C i (wpHead F n P md ops C m L f (listed.setIfInBounds i true)) a
def headB (md : Region.Mode) (ops : Array Oper) (M : Array Bool) : Nat → Nat → Array Bool → Bool
 | 0, _, listed => listed == M
 | f + 1, k, listed => (Region.ready md ops listed).contains k && Region.free md ops listed k && headB md ops M f (k + 1) (listed.setIfInBounds k true)
def tailB (ops : Array Oper) (m : Nat) : Bool := headB .any ops (mask1 m (ops.size - m)) m 0 (Array.replicate ops.size false) && Region.sinkB .any ops m && Region.chainB .any ops m && Region.noSelect ops && decide (m < ops.size) && noDeferB ops.toList && (Region.ready .any ops (mask1 m (ops.size - m))).all (fun j => decide (m ≤ j))
end
end Go.Proofs.YthigbklhngihkaaGreatDoor.P
namespace Go.Proofs.YthigbklhngihkaaGreatDoor.P
open Go.RowKit Go.Shelf Go.Proofs.YthigbklhngihkaaGreatDoorW.PrintWords Go.Proofs.YthigbklhngihkaaGreatDoorW.PrintMore Go.Proofs.YthigbklhngihkaaGreatDoorW.PrintLast
attribute [local go_sem] Oper.semAt_some
def pkey (S : List PEl) (k : Nat) : V := rd_T28 (S.map PEl.key) (k : Int)
def pval (S : List PEl) (k : Nat) : V := rd_T28 (S.map PEl.val) (k : Int)
def gcut (S : List PEl) (k : Nat) : Bool := decide (k + 1 = S.length) || decide (vord (pkey S k) (pkey S (k + 1)) ≠ 0)
def gst (S : List PEl) : Nat → List (List V) × List V
 | 0 => ([], [])
 | k + 1 => if gcut S k = true then ((gst S k).1 ++ [(gst S k).2 ++ [pval S k]], []) else ((gst S k).1, (gst S k).2 ++ [pval S k])
theorem pval_of {S : List PEl} {k : Nat} {e : PEl} (h : S[k]? = some e) : pval S k = e.val := by
 unfold pval rd_T28
 rw [Int.toNat_natCast, List.getD_eq_getElem?_getD, List.getElem?_map, h]
 rfl
theorem KeepG.grown {w a b : World} {g : Nat} (h : KeepG w g a) {row : Option Nat} (hg : a.grownBy b row) (hr : ∀ k, row = some k → w.heap.size ≤ k) : KeepG w g b :=
 h.then ((Below.refl w.heap.size a).grown hg h.size hr) (Nat.le_refl _)
theorem SortRow.move {w W0 W : World} {ks l : List V} {n : Nat} {A : Option Addr} {S : List PEl} {B7 : Nat} (h : SortRow w W0 ks l n A S) (hk : KeepG W0 B7 W) (hA : ∀ g, A = some ⟨g, 0, none⟩ → g ≠ B7) : SortRow w W ks l n A S :=
 ⟨h.perm, h.sorted, h.els, h.cells.imp id (fun ⟨g, e, hg, hr⟩ => ⟨g, e, Nat.lt_of_lt_of_le hg hk.size, fun i e' he j v hv => by rw [World.cell?_of_block (hk.block g hg (hA g e))]; exact hr i e' he j v hv⟩)⟩
structure GW (w W0 : World) (B7 : Nat) (r : Loop) (done : List (List V)) (now : List V) (vn : Value) (W : World) : Prop where
 keep : KeepG W0 B7 W
 size : W0.heap.size + 2 ≤ W.heap.size
 loop : W.heap[W0.heap.size + 1]? = some (.loop r)
 dfr : W.heap[W0.heap.size]? = some (.deferred (some []))
 out : ∃ v, W.heap[B7]? = some (.cells #[v] 60 (0, 0)) ∧ (Kd.slice 28 k28).R 25 W (W0.heap.size + 2) (fun k => True ∧ some k ≠ vn.ownBlock) v done
 nw : ∃ rows : List (List Value), rows.length = now.length ∧ Kd.R (Kd.raw 7) 28 W (W0.heap.size + 2) (fun _ => True) vn rows ∧ ∀ (j : Nat) (x : V) (c : List Value), now[j]? = some x → rows[j]? = some c → k28.K w x c
 ok : ∀ x ∈ now, OkV x
theorem GW.below {w W0 W W' : World} {B7 : Nat} {r : Loop} {done : List (List V)} {now : List V} {vn : Value} (h : GW w W0 B7 r done now vn W) (hb : Below W.heap.size W W') : GW w W0 B7 r done now vn W' := by
 obtain ⟨v, h1, h2⟩ := h.out
 obtain ⟨rows, n1, n2, n3⟩ := h.nw
 exact ⟨h.keep.then hb h.keep.size, Nat.le_trans h.size hb.size, (hb.block _ (blk_lt h.loop)).trans h.loop, (hb.block _ (blk_lt h.dfr)).trans h.dfr, ⟨v, (hb.block _ (blk_lt h1)).trans h1, Kd.R_below h2 hb⟩, ⟨rows, n1, Kd.R_below n2 hb, n3⟩, h.ok⟩
theorem GW.fresh {w W0 W : World} {B7 : Nat} {r : Loop} {done : List (List V)} {now : List V} {vn : Value} (h : GW w W0 B7 r done now vn W) : GW w W0 B7 r done [] (.slice none 0 0) W := by
 obtain ⟨v, h1, h2⟩ := h.out
 exact ⟨h.keep, h.size, h.loop, h.dfr, ⟨v, h1, Kd.R_mono h2 (fun k hk => ⟨trivial, by simp [Value.ownBlock]⟩)⟩, ⟨[], rfl, Kd.R_nil _ _ _ _ _, fun j x c hj _ => by simp at hj⟩, fun x hx => by cases hx⟩
end Go.Proofs.YthigbklhngihkaaGreatDoor.P
namespace Go.Proofs.YthigbklhngihkaaGreatDoor.P
open Go.RowKit Go.Proofs.YthigbklhngihkaaGreatDoorW.PrintWords Go.Proofs.YthigbklhngihkaaGreatDoorW.PrintMore Go.Proofs.YthigbklhngihkaaGreatDoorW.PrintLast
def Grouped (ks l : List V) (gs : List (List V)) : Prop := ∃ S : List PEl, S.Perm (pels [] ks l ks.length) ∧ S.Pairwise elt ∧ gs = (gst S S.length).1
theorem elt_not {x y : PEl} (h : elt x y) : ¬ elt y x := by
 have a := vord_anti x.key y.key
 rintro (k | ⟨k, k'⟩) <;> rcases h with h | ⟨h, h'⟩ <;> omega
theorem kept_unique {ks l : List V} {S T : List PEl} (h1 : S.Perm (pels [] ks l ks.length)) (h2 : S.Pairwise elt) (k1 : T.Perm (pels [] ks l ks.length)) (k2 : T.Pairwise elt) : S = T :=
 List.Perm.eq_of_pairwise (le := elt) (fun a b _ _ x y => (elt_not x y).elim) h2 k2 (h1.trans k1.symm)
theorem take_end {α : Type} {l : List α} {k : Nat} {x : α} (h : l[k]? = some x) : l.take (k + 1) = l.take k ++ [x] := by
 rw [List.take_add_one, h]; rfl
theorem gst_take (S : List PEl) : ∀ k, k ≤ S.length → (gst S k).1.flatten ++ (gst S k).2 = (S.map PEl.val).take k
 | 0, _ => by simp [gst]
 | k + 1, hk => by
  have ih := gst_take S k (by omega)
  have he : S[k]? = some S[k] := List.getElem?_eq_getElem (by omega)
  have hv : (S.map PEl.val)[k]? = some (pval S k) := by rw [pval_of he, List.getElem?_map, he]; rfl
  rw [take_end hv, ← ih, gst]
  split <;> simp
theorem gst_end (S : List PEl) : (gst S S.length).2 = [] := by
 rcases Nat.eq_zero_or_pos S.length with h | h
 · rw [h]; rfl
 · obtain ⟨k, hk⟩ : ∃ k, S.length = k + 1 := ⟨S.length - 1, by omega⟩
   have hc : gcut S k = true := by unfold gcut; simp [hk]
   rw [hk, gst, if_pos hc]
theorem Grouped.flat {ks l ys : List V} {gs : List (List V)} (h : Grouped ks l gs) (k : Sorted ks l ys) : gs.flatten = ys := by
 obtain ⟨S, h1, h2, rfl⟩ := h
 obtain ⟨T, k1, k2, rfl⟩ := k
 rw [← kept_unique h1 h2 k1 k2]
 have := gst_take S S.length (Nat.le_refl _)
 rw [gst_end, List.append_nil, List.take_of_length_le (by simp)] at this
 exact this
structure OutMid (w w1 wr : World) (S : List PEl) (v : Value) (k : Nat) : Prop where
 ex : ∃ rows : List (List Value), rows.length = k ∧ Kd.R (Kd.raw 7) 28 wr w1.heap.size (fun _ => True) v rows ∧ ∀ (j : Nat) (e : PEl) (r : List Value), S[j]? = some e → rows[j]? = some r → k28.K w e.val r
 below : Below w1.heap.size w1 wr
theorem OutMid.reads {w w1 wr : World} {S : List PEl} {G : Option Addr} {cap k : Nat} (h : OutMid w w1 wr S (.slice G k cap) k) (hS : S.length = k) (hb : Below w.heap.size w w1) : k ≤ cap ∧ k28.C wr G (S.map PEl.val).length (S.map PEl.val) := by
 obtain ⟨rows, h1, h2, h3⟩ := h.ex
 obtain ⟨A, c, e1, e2, e3⟩ := Kd.R_reads h2
 injection e1 with e4 e5 e6
 subst e4 e6
 refine ⟨by rw [h1] at e2; exact e2, raw_reads (w0 := w) e3 (by rw [List.length_map, h1, hS]) (hb.trans (h.below.mono hb.size)) fun j x c hx hc => ?_⟩
 rw [List.getElem?_map] at hx
 obtain ⟨e, he, rfl⟩ := Option.map_eq_some_iff.1 hx
 exact h3 j e c he hc
def SortDone (l ks : List V) (w : World) (e : Ending) (w' : World) : Prop := ((lask l ks ≠ 0 ∧ e = .returned (.tuple #[.slice none 0 0, .int .i64 (lask l ks)])) ∨ (lask l ks = 0 ∧ ∃ v ys, e = .returned (.tuple #[v, .int .i64 0]) ∧ Sorted ks l ys ∧ k28.R 28 w' w.heap.size (fun _ => True) v ys)) ∧ Below w.heap.size w w'
set_option maxHeartbeats 4000000 in
theorem sortBy_any (l ks : List V) (A B : Option Addr) (c d : Nat) (w : World) (hLD : LaidW w) (hA : k28.C w A l.length l) (hB : k28.C w B ks.length ks) (hO : ∀ x ∈ l, OkV x) (hO2 : ∀ x ∈ ks, OkV x) (h1 : ks.length ≤ 1048576) :
 Calls Tryz.prog 37 #[.slice A l.length c, .slice B ks.length d] w (SortDone l ks w) := by
 have HASK := Lib.hid (oask_any l ks A B c d w hLD hA hB hO hO2)
 by_cases h0 : lask l ks = 0
 · obtain ⟨hN1, hN2, hlen⟩ := lask_zero h0
   have HP : Hid (∀ W, Below w.heap.size w W → Calls Tryz.prog 77 #[.slice B ks.length d, .slice A l.length c] W fun e w' => ∃ v, e = .returned v ∧ PairMid W w' ks l v ks.length) := Lib.hid (fun W hW => pairs_any ks l B A d c W (Kd.C_below hB hW) (Kd.C_below hA hW) hlen h1)
   have HSC : Hid (∀ w1 W v, PairMid w1 W ks l v ks.length → Calls Tryz.prog 76 #[v, .func (.func 63) #[] #[]] W fun e w' => ∃ A cap S, e = .returned (.slice A ks.length cap) ∧ SortRow w1 w' ks l ks.length A S ∧ Below w1.heap.size w1 w') := Lib.hid (fun w1 W v h => sorted_call h rfl h1 hO2 hN2)
   have HVAL : Hid (∀ w1 w' A S, SortRow w1 w' ks l ks.length A S → ∀ x ∈ S.map PEl.val, OkV x) := Lib.hid (fun w1 w' A S h x hx => by
    obtain ⟨e, he, rfl⟩ := List.mem_map.1 hx
    exact hO _ (h.val (by omega) e he))
   have HDONE : Hid (∀ w1 w2 A S v w', SortRow w1 w2 ks l ks.length A S → k28.R 28 w' w.heap.size (fun _ => True) v (S.map PEl.val) → Below w.heap.size w w' → SortDone l ks w (.returned (.tuple #[v, .int .i64 0])) w') := Lib.hid (fun w1 w2 A S v w' h hr hb => ⟨.inr ⟨h0, v, _, rfl, h.said, hr⟩, hb⟩)
   rw [h0] at HASK
   obtain ⟨n, hn⟩ : ∃ n, n = ks.length := ⟨_, rfl⟩
   rw [← hn] at HP HSC HVAL HDONE h1
   rw [← hn]
   rw [← hn] at HASK
   clear hA hB hO hO2 hN1 hN2 hlen hLD h0 hn
   go_enter Tryz.func37, Tryz.ntmps37
   go_wp2_with (first
    | (go_at_call 75; (with_reducible refine (HASK.out).mono ?_); rintro e w1 ⟨rfl, hB1⟩; have HB1 := Lib.hid hB1; clear hB1)
    | (go_at_call 77; (with_reducible refine (HP.out _ HB1.out).mono ?_); rintro e w2 ⟨v2, rfl, hM2⟩; have HM2 := Lib.hid hM2; clear hM2)
    | (go_at_call 76; (with_reducible refine (HSC.out _ _ _ HM2.out).mono ?_); rintro e w3 ⟨A3, cap3, S, rfl, hS3, hB3⟩; have HS3 := Lib.hid hS3; have HB3 := Lib.hid hB3; clear hS3 hB3))
   have H0 : Hid (OutMid w1 w3 w3 S (.slice none 0 0) 0) := Lib.hid ⟨⟨[], rfl, Kd.R_nil _ _ _ _ _, fun j e r _ h => by simp at h⟩, Below.refl _ _⟩
   go_loopw [7, 21] (fun vo vi wr => ∃ (k : Nat) (G : Option Addr) (cap : Nat), k ≤ n ∧ vi = .int .i64 k ∧ vo = .slice G k cap ∧ Hid (OutMid w1 w3 wr S (.slice G k cap) k)) (fun vo vi _ => n - (intOf vi).toNat)
   case atStart => exact ⟨0, none, 0, Nat.zero_le _, rfl, rfl, H0⟩
   case round =>
    obtain ⟨k, G, cap, hk, rfl, rfl, HM⟩ := hrel
    by_cases hlt : k < n
    · have hlt2 : (k : Int) < (n : Int) := by omega
      obtain ⟨e, ad, A2, c2, A5, c5, A6, c6, B2, d2, B5, d5, B6, d6, hSk, rfl, hKv, hKk, p0, p1, p2, p3, p4, p5, p6, p7, p8, p9, p10, p11, p12, p13⟩ := at_P HS3.out HM.out.below k hlt
      have HKV := Lib.hid hKv
      have HONE : Hid (∀ u ∈ ([.int .i64 e.val.f0, .bool e.val.f1.f0, .slice B2 e.val.f1.f1.length d2, .int .i64 e.val.f1.f2, .string e.val.f2, .slice B5 e.val.f3.length d5, .slice B6 e.val.f4.length d6] : List Value), u.oneCell' = true) := Lib.hid (k28.K_one hKv)
      have HSK := Lib.hid hSk
      obtain ⟨W5, hW5⟩ : ∃ W5, W5 = wr.alloc (.cells #[.int .i64 e.key.f0, .bool e.key.f1.f0, .slice A2 e.key.f1.f1.length c2, .int .i64 e.key.f1.f2, .string e.key.f2, .slice A5 e.key.f3.length c5, .slice A6 e.key.f4.length c6, .int .i64 e.val.f0, .bool e.val.f1.f0, .slice B2 e.val.f1.f1.length d2, .int .i64 e.val.f1.f2, .string e.val.f2, .slice B5 e.val.f3.length d5, .slice B6 e.val.f4.length d6] 102) := ⟨_, rfl⟩
      have hbx : W5.heap[wr.heap.size]? = some (.cells #[.int .i64 e.key.f0, .bool e.key.f1.f0, .slice A2 e.key.f1.f1.length c2, .int .i64 e.key.f1.f2, .string e.key.f2, .slice A5 e.key.f3.length c5, .slice A6 e.key.f4.length c6, .int .i64 e.val.f0, .bool e.val.f1.f0, .slice B2 e.val.f1.f1.length d2, .int .i64 e.val.f1.f2, .string e.val.f2, .slice B5 e.val.f3.length d5, .slice B6 e.val.f4.length d6] 102 (0, 0)) := by rw [hW5]; exact blk_new _ _
      have hb5 : Below wr.heap.size wr W5 := by rw [hW5]; exact (Below.refl _ _).alloc (Nat.le_refl _) _
      obtain ⟨rows, hrl, hR, hrk⟩ := HM.out.ex
      have HR5 := Lib.hid (Kd.R_below hR hb5)
      have HRL := Lib.hid hrl
      have HRK := Lib.hid hrk
      have HBW := Lib.hid (HM.out.below.trans (hb5.mono HM.out.below.size))
      have HSZ : Hid (w3.heap.size ≤ W5.heap.size) := Lib.hid (HBW.out.size)
      have HW5 := Lib.hid hW5
      obtain ⟨hc5, hf5⟩ := bcells hbx (Below.refl _ _)
      obtain ⟨hc0, hf0⟩ := bcells (blk_new wr (.cells #[.int .i64 0, .bool false, .slice none 0 0, .int .i64 0, .string ⟨#[]⟩, .slice none 0 0, .slice none 0 0, .int .i64 0, .bool false, .slice none 0 0, .int .i64 0, .string ⟨#[]⟩, .slice none 0 0, .slice none 0 0] 102)) (Below.refl _ _)
      clear hKv hKk hSk hW5 hbx hb5 hrl hR hrk HP HSC HVAL HDONE HM2 HASK
      go_upto_region 8 with (fail)
      rw [← HW5.out]
      clear hc0 hf0 p0 p1 p2 p3 p4 p5 p6 p7 p8 p9 p10 p11 p12 p13
      go_wp2_with (at_builtin; refine Kd.R_append (Kd.raw 7) (w0 := w3) w3.heap.size rfl (.tmp 25) (.tmp 28) 25 28 (.agg #[.int .i64 0, .bool false, .slice none 0 0, .int .i64 0, .string ⟨#[]⟩, .slice none 0 0, .slice none 0 0]) 112 rfl Tryz.underlying25 infoV_ rfl (by decide) (by decide) (.slice G k cap) rows _ _ (fun _ => True) (fun _ => False) rfl rfl ⟨rfl, rfl, HONE.out⟩ (fun _ h => h.elim) (fun _ _ => trivial) HR5.out HBW.out HSZ.out (by rw [HRL.out]; omega) ?_; intro v1 w7 hR7 hB7 hg7 hat7; obtain ⟨G7, cap7, rfl⟩ := Kd.R_slice hR7)
      have hl7 : (rows ++ [[.int .i64 e.val.f0, .bool e.val.f1.f0, .slice B2 e.val.f1.f1.length d2, .int .i64 e.val.f1.f2, .string e.val.f2, .slice B5 e.val.f3.length d5, .slice B6 e.val.f4.length d6]] : List (List Value)).length = k + 1 := by rw [List.length_append, HRL.out]; rfl
      have hM7 : OutMid w1 w3 w7 S (.slice G7 (k + 1) cap7) (k + 1) := ⟨⟨_, hl7, by rw [hl7] at hR7; exact hR7, fun j e2 r hj hr => by
       rcases Nat.lt_or_ge j k with h | h
       · rw [List.getElem?_append_left (by rw [HRL.out]; exact h)] at hr
         exact HRK.out j e2 r hj hr
       · have hjl := (List.getElem?_eq_some_iff.1 hr).1
         rw [hl7] at hjl
         obtain rfl : j = k := by omega
         rw [List.getElem?_append_right (by rw [HRL.out]; exact Nat.le_refl _), HRL.out, Nat.sub_self] at hr
         have hr2 := (Option.some.inj hr).symm
         have he2 : e = e2 := Option.some.inj (HSK.out.symm.trans hj)
         subst he2
         rw [hr2]
         exact HKV.out⟩, hB7⟩
      exact ⟨⟨k + 1, G7, cap7, hlt, rfl, by rw [HRL.out], Lib.hid hM7⟩, by show n - (k + 1) < n - k; omega⟩
    · obtain rfl : k = n := by omega
      have hlt2 : ¬ (k : Int) < (k : Int) := by omega
      have hw13 : Below w.heap.size w w3 := HB1.out.trans (HB3.out.mono HB1.out.size)
      obtain ⟨hcc, hrd⟩ := HM.out.reads HS3.out.len HB3.out
      have hln : (S.map PEl.val).length = k := by rw [List.length_map]; exact HS3.out.len
      have hbr : Below w.heap.size w wr := hw13.trans (HM.out.below.mono hw13.size)
      have hcl := Clones_any (S.map PEl.val) G cap wr (by rw [hln]; exact hcc) hrd (HVAL.out _ _ _ _ HS3.out) (by omega)
      rw [hln] at hcl
      have HCL := Lib.hid hcl
      have HBR := Lib.hid hbr
      clear hw13 hcc hrd hln hbr hcl HASK HP HSC HVAL
      go_wp2_with (go_at_call 78; (with_reducible refine (HCL.out).mono ?_); rintro e w5 ⟨v5, rfl, hR5, hB5⟩; have HR5 := Lib.hid hR5; have HB5 := Lib.hid hB5; clear hR5 hB5)
      go_ret2
      exact HDONE.out _ _ _ _ _ _ HS3.out (Kd.R_lower HR5.out HBR.out.size) (HBR.out.trans (HB5.out.mono HBR.out.size))
 · have HR := Lib.hid h0
   have hn : (lask l ks != 0) = true := by simp [h0]
   have HD : Hid (∀ w', Below w.heap.size w w' → SortDone l ks w (.returned (.tuple #[.slice none 0 0, .int .i64 (lask l ks)])) w') := Lib.hid (fun w' hb => ⟨.inl ⟨h0, rfl⟩, hb⟩)
   generalize lask l ks = r at *
   clear hA hB hO hO2 hLD h0 h1
   go_enter Tryz.func37, Tryz.ntmps37
   go_wp2_with (go_at_call 75; (with_reducible refine (HASK.out).mono ?_); rintro e w1 ⟨rfl, hB1⟩; have HB1 := Lib.hid hB1; clear hB1)
   go_ret2
   exact HD.out _ HB1.out
theorem Sort_any (l : List V) (A : Option Addr) (c : Nat) (w : World) (hLD : LaidW w) (hA : k28.C w A l.length l) (hO : ∀ x ∈ l, OkV x) (h1 : l.length ≤ 1048576) :
 Calls Tryz.prog 33 #[.slice A l.length c] w (SortDone l l w) := by
 have HS := Lib.hid (sortBy_any l l A A c c w hLD hA hA hO hO h1)
 clear hA hO hLD
 go_enter Tryz.func33, Tryz.ntmps33
 go_wp2_with (go_at_call 37; (with_reducible refine (HS.out).mono ?_); rintro e w1 ⟨(⟨h0, rfl⟩ | ⟨h0, v, ys, rfl, hs, hr⟩), hB⟩)
 · go_ret2
   exact ⟨.inl ⟨h0, rfl⟩, hB⟩
 · go_ret2
   exact ⟨.inr ⟨h0, v, ys, rfl, hs, hr⟩, hB⟩
def bestTo (p : V → V → Bool) (ks : List V) : Nat → Nat
 | 0 => 0
 | k + 1 => if p (rd_T28 ks (k : Int)) (rd_T28 ks (bestTo p ks k : Nat)) = true then k else bestTo p ks k
theorem bestTo_le (p : V → V → Bool) (ks : List V) : ∀ k, bestTo p ks k ≤ k
 | 0 => Nat.le_refl _
 | k + 1 => by
  have := bestTo_le p ks k
  rw [bestTo]
  split <;> omega
theorem bestTo_lt (p : V → V → Bool) (ks : List V) : ∀ k, 0 < k → bestTo p ks k < k
 | k + 1, _ => by
  have := bestTo_le p ks k
  rw [bestTo]
  split <;> omega
def leastP (x y : V) : Bool := decide (vord x y < 0)
def mostP (x y : V) : Bool := decide (vord x y ≥ 0)
def lbest (p : V → V → Bool) (l ks : List V) : Int × Int := if lask l ks ≠ 0 then (0, lask l ks) else if l.length = 0 then (0, 71) else (((bestTo p ks ks.length : Nat) : Int), 0)
theorem leastP_iff {x y : V} : leastP x y = true ↔ vord x y < 0 := by unfold leastP; exact decide_eq_true_iff
theorem mostP_iff {x y : V} : mostP x y = true ↔ ¬ vord x y < 0 := by unfold mostP; rw [decide_eq_true_iff]; omega
def pel (rows : List (List Value)) (ks l : List V) (j : Nat) : PEl := ⟨rows.getD j [], rd_T28 ks (j : Int), rd_T28 l (j : Int), j⟩
theorem mem_pels {rows : List (List Value)} {ks l : List V} {n : Nat} {e : PEl} : e ∈ pels rows ks l n ↔ ∃ j, j < n ∧ e = pel rows ks l j := by
 unfold pels
 rw [List.mem_map]
 constructor
 · rintro ⟨j, hj, rfl⟩
   exact ⟨j, List.mem_range.1 hj, rfl⟩
 · rintro ⟨j, hj, rfl⟩
   exact ⟨j, List.mem_range.2 hj, rfl⟩
theorem least_to (rows : List (List Value)) (ks l : List V) : ∀ k, ∀ j, j < k → j ≠ bestTo leastP ks k → elt (pel rows ks l (bestTo leastP ks k)) (pel rows ks l j)
 | 0, j, hj, _ => by omega
 | k + 1, j, hj, hn => by
  have hb := bestTo_le leastP ks k
  rw [bestTo] at hn ⊢
  by_cases hp : leastP (rd_T28 ks (k : Int)) (rd_T28 ks (bestTo leastP ks k : Nat)) = true
  · rw [if_pos hp] at hn ⊢
    have h1 : elt (pel rows ks l k) (pel rows ks l (bestTo leastP ks k)) := .inl (leastP_iff.1 hp)
    by_cases hj2 : j = bestTo leastP ks k
    · rw [hj2]; exact h1
    · exact elt_trans h1 (least_to rows ks l k j (by omega) hj2)
  · rw [if_neg hp] at hn ⊢
    by_cases hj2 : j = k
    · subst hj2
      rcases Nat.eq_zero_or_pos j with h0 | h0
      · subst h0; exact absurd rfl hn
      · exact elt_of_ge (x := pel rows ks l j) (y := pel rows ks l (bestTo leastP ks j)) (fun h => hp (leastP_iff.2 h)) (bestTo_lt leastP ks j h0)
    · exact least_to rows ks l k j (by omega) hn
theorem most_to (rows : List (List Value)) (ks l : List V) : ∀ k, ∀ j, j < k → j ≠ bestTo mostP ks k → elt (pel rows ks l j) (pel rows ks l (bestTo mostP ks k))
 | 0, j, hj, _ => by omega
 | k + 1, j, hj, hn => by
  have hb := bestTo_le mostP ks k
  rw [bestTo] at hn ⊢
  by_cases hp : mostP (rd_T28 ks (k : Int)) (rd_T28 ks (bestTo mostP ks k : Nat)) = true
  · rw [if_pos hp] at hn ⊢
    have hk : 0 < k := by omega
    have h1 : elt (pel rows ks l (bestTo mostP ks k)) (pel rows ks l k) := elt_of_ge (x := pel rows ks l k) (y := pel rows ks l (bestTo mostP ks k)) (mostP_iff.1 hp) (bestTo_lt mostP ks k hk)
    by_cases hj2 : j = bestTo mostP ks k
    · rw [hj2]; exact h1
    · exact elt_trans (most_to rows ks l k j (by omega) hj2) h1
  · rw [if_neg hp] at hn ⊢
    by_cases hj2 : j = k
    · subst hj2
      exact .inl (Decidable.not_not.1 (fun h => hp (mostP_iff.2 h)))
    · exact most_to rows ks l k j (by omega) hn
theorem Sorted.first {ks l ys : List V} (h : Sorted ks l ys) (hn : 0 < ks.length) : ys[0]? = some (rd_T28 l (bestTo leastP ks ks.length : Nat)) := by
 obtain ⟨S, hp, hs, rfl⟩ := h
 have hb := bestTo_lt leastP ks ks.length hn
 have hm : pel [] ks l (bestTo leastP ks ks.length) ∈ S := hp.mem_iff.2 (mem_pels.2 ⟨_, hb, rfl⟩)
 cases S with
 | nil => cases hm
 | cons e S =>
  obtain ⟨j, hj, he⟩ := mem_pels.1 (hp.mem_iff.1 List.mem_cons_self)
  have hjb : j = bestTo leastP ks ks.length := by
   by_cases hjb : j = bestTo leastP ks ks.length
   · exact hjb
   · have h1 := least_to [] ks l ks.length j hj hjb
     rcases List.mem_cons.1 hm with h2 | h2
     · have h3 := congrArg PEl.tag (h2.trans he)
       exact h3.symm
     · exact absurd ((List.pairwise_cons.1 hs).1 _ h2) (fun h4 => elt_irr h4 (by rw [he]; exact h1))
  rw [he, hjb]
  rfl
theorem Sorted.last {ks l ys : List V} (h : Sorted ks l ys) (hn : 0 < ks.length) : ys.length = ks.length ∧ ys[ks.length - 1]? = some (rd_T28 l (bestTo mostP ks ks.length : Nat)) := by
 obtain ⟨S, hp, hs, rfl⟩ := h
 have hl : S.length = ks.length := by rw [hp.length_eq, pels_len]
 refine ⟨by rw [List.length_map]; exact hl, ?_⟩
 have hb := bestTo_lt mostP ks ks.length hn
 have hm : pel [] ks l (bestTo mostP ks ks.length) ∈ S := hp.mem_iff.2 (mem_pels.2 ⟨_, hb, rfl⟩)
 have hne : S ≠ [] := by intro e; rw [e] at hl; simp at hl; omega
 obtain ⟨S', e, rfl⟩ : ∃ S' e, S = S' ++ [e] := ⟨S.dropLast, S.getLast hne, (List.dropLast_concat_getLast hne).symm⟩
 obtain ⟨j, hj, he⟩ := mem_pels.1 (hp.mem_iff.1 (List.mem_append_right _ List.mem_cons_self))
 have hjb : j = bestTo mostP ks ks.length := by
  by_cases hjb : j = bestTo mostP ks ks.length
  · exact hjb
  · have h1 := most_to [] ks l ks.length j hj hjb
    rcases List.mem_append.1 hm with h2 | h2
    · exact absurd ((List.pairwise_append.1 hs).2.2 _ h2 e List.mem_cons_self) (fun h4 => elt_irr h4 (by rw [he]; exact h1))
    · have h3 := congrArg PEl.tag ((List.mem_singleton.1 h2).trans he)
      exact h3.symm
 have hl2 : ks.length - 1 = (S'.map PEl.val).length := by rw [List.length_append, List.length_singleton] at hl; rw [List.length_map]; omega
 rw [List.map_append, hl2, List.getElem?_append_right (Nat.le_refl _), Nat.sub_self, he, hjb]
 rfl
theorem rd_get {l : List V} {j : Nat} (h : j < l.length) : rd_T28 l (j : Int) = l[j] := by unfold rd_T28; simp [h]
theorem rd_map (l : List V) : (List.range l.length).map (fun j => rd_T28 l ((j : Nat) : Int)) = l := by
 refine List.ext_getElem (by simp) fun i h1 h2 => ?_
 rw [List.getElem_map, List.getElem_range, rd_get h2]
theorem pels_vals (l : List V) : (pels [] l l l.length).map PEl.val = l := by
 unfold pels
 rw [List.map_map]
 exact rd_map l
theorem Sorted.perm {l ys : List V} (h : Sorted l l ys) : ys.Perm l := by
 obtain ⟨S, h1, _, rfl⟩ := h
 have := h1.map PEl.val
 rwa [pels_vals] at this
theorem Sorted.asc {l ys : List V} (h : Sorted l l ys) : ys.Pairwise (fun x y => vord x y ≤ 0) := by
 obtain ⟨S, h1, h2, rfl⟩ := h
 rw [List.pairwise_map]
 refine h2.imp_of_mem fun {x y} hx hy hxy => ?_
 obtain ⟨i, hi, rfl⟩ := mem_pels.1 (h1.mem_iff.1 hx)
 obtain ⟨j, hj, rfl⟩ := mem_pels.1 (h1.mem_iff.1 hy)
 rcases hxy with hxy | ⟨hxy, _⟩
 · exact Int.le_of_lt hxy
 · exact Int.le_of_eq hxy
theorem pels_asc {ys : List V} (h : ys.Pairwise (fun x y => vord x y ≤ 0)) : (pels [] ys ys ys.length).Pairwise elt := by
 have h2 := List.pairwise_iff_getElem.1 h
 unfold pels
 rw [List.pairwise_map]
 refine List.pairwise_lt_range.imp_of_mem fun {i j} hi hj hij => ?_
 have hi' := List.mem_range.1 hi
 have hj' := List.mem_range.1 hj
 have h3 := h2 i j hi' hj' hij
 unfold elt
 simp only
 rw [rd_get hi', rd_get hj']
 by_cases h0 : vord ys[i] ys[j] = 0
 · exact .inr ⟨h0, hij⟩
 · exact .inl (by omega)
theorem Sorted.again {l ys zs : List V} (h : Sorted l l ys) (k : Sorted ys ys zs) : zs = ys := by
 obtain ⟨S, h1, h2, rfl⟩ := k
 rw [kept_unique h1 h2 (List.Perm.refl _) (pels_asc h.asc), pels_vals]
end Go.Proofs.YthigbklhngihkaaGreatDoor.P

/- Texts of this claim, one behind the other. -/
import Derived.Test.YtmfpakolfpoamaaGreatDoorMOrderFindsy
import Derived.Test.YtmfpakolfpoamaaGreatDoorMOrderFindszc
import Derived.Test.YtmfpakolfpoamaaGreatDoorMOrderFindszd
import Derived.Test.YtmfpakolfpoamaaGreatDoorMOrderFindsz
import Derived.Test.YtmfpakolfpoamaaGreatDoorMOrderFindsx
set_option maxRecDepth 100000
namespace Go.Proofs.YtmfpakolfpoamaaGreatDoor.P
set_option linter.unusedVariables false
set_option linter.unusedSimpArgs false
open Go.RowKit Go.Proofs.YtmfpakolfpoamaaGreatDoorW.PrintWords Go.Proofs.YtmfpakolfpoamaaGreatDoorW.PrintMore Go.Proofs.YtmfpakolfpoamaaGreatDoorW.PrintLast
def Finds (l : List V) (v : V) (p : Nat) (b : Bool) (er : Int) : Prop := (iask l v ≠ 0 ∧ p = 0 ∧ b = false ∧ er = iask l v) ∨ (iask l v = 0 ∧ ¬ Asc l ∧ p = 0 ∧ b = false ∧ er = 9) ∨ (iask l v = 0 ∧ Asc l ∧ FoundAt l v p ∧ b = decide (p < l.length ∧ vord (rd_T34 l (p : Int)) v = 0) ∧ er = 0)
theorem Finds.one {l : List V} {v : V} {p q : Nat} {b c : Bool} {e f : Int} (h : Finds l v p b e) (k : Finds l v q c f) : p = q ∧ b = c ∧ e = f := by
 rcases h with ⟨h1, rfl, rfl, rfl⟩ | ⟨h1, h2, rfl, rfl, rfl⟩ | ⟨h1, h2, h3, rfl, rfl⟩ <;> rcases k with ⟨k1, rfl, rfl, rfl⟩ | ⟨k1, k2, rfl, rfl, rfl⟩ | ⟨k1, k2, k3, rfl, rfl⟩
 · exact ⟨rfl, rfl, rfl⟩
 · exact absurd k1 h1
 · exact absurd k1 h1
 · exact absurd h1 k1
 · exact ⟨rfl, rfl, rfl⟩
 · exact absurd k2 h2
 · exact absurd h1 k1
 · exact absurd h2 k2
 · obtain rfl := h3.one k3
   exact ⟨rfl, rfl, rfl⟩
theorem rng_A' {w0 : World} {A : Option Addr} {l : List V} (h : k34.C w0 A l.length l) (k : Nat) (hk : k < l.length) : ∃ ad a0 a1 a2 a3 a4 a5 a6, A = some ad ∧ k34.K w0 (rd_T34 l (k : Int)) [a0, a1, a2, a3, a4, a5, a6] ∧
 ∀ w : World, Below w0.heap.size w0 w → w.cell? (ad.add (k * 7)) = some a0 ∧ w.cell? ⟨(ad.add (k * 7)).block, (ad.add (k * 7)).off + 1, none⟩ = some a1 ∧ w.cell? ⟨(ad.add (k * 7)).block, (ad.add (k * 7)).off + 2, none⟩ = some a2 ∧ w.cell? ⟨(ad.add (k * 7)).block, (ad.add (k * 7)).off + 3, none⟩ = some a3 ∧ w.cell? ⟨(ad.add (k * 7)).block, (ad.add (k * 7)).off + 4, none⟩ = some a4 ∧ w.cell? ⟨(ad.add (k * 7)).block, (ad.add (k * 7)).off + 5, none⟩ = some a5 ∧ w.cell? ⟨(ad.add (k * 7)).block, (ad.add (k * 7)).off + 6, none⟩ = some a6 := by
 obtain ⟨ad, a0, a1, a2, a3, a4, a5, a6, e, hK, p0, p1, p2, p3, p4, p5, p6⟩ := at_V h (Below.refl _ _) k hk
 exact ⟨ad, a0, a1, a2, a3, a4, a5, a6, e, hK, fun w hb => ⟨pw_cell_below hb p0, pw_cell_below hb p1, pw_cell_below hb p2, pw_cell_below hb p3, pw_cell_below hb p4, pw_cell_below hb p5, pw_cell_below hb p6⟩⟩
def FindPost (l : List V) (v : V) (w : World) (e : Ending) (w' : World) : Prop := ∃ (p : Nat) (b : Bool) (er : Int), e = .returned (.tuple #[.int .i64 p, .bool b, .int .i64 er]) ∧ Finds l v p b er ∧ Below w.heap.size w w'
set_option maxHeartbeats 4000000 in
theorem Search_any (l : List V) (v : V) (A : Option Addr) (c : Nat) (cs : List Value) (w : World) (hLD : LaidW w) (hA : k34.C w A l.length l) (hO : ∀ x ∈ l, OkV x) (hn : l.length ≤ 1048576) (hKv : k34.K w v cs) (hOv : OkV v) :
 Calls Tryz.prog 24 #[.slice A l.length c, .agg cs.toArray] w (FindPost l v w) := by
 have HKV := Lib.hid hKv
 obtain ⟨A2, c2, A5, c5, A6, c6, rfl, l2, g2, l5, g5, l6, g6⟩ := k34_open hKv
 clear l2 g2 l5 g5 l6 g6 hKv
 have HCS := Lib.hid (fun W (hW : Below w.heap.size w W) => Checks_any l A c W (hLD.below hW) (Kd.C_below hA hW) hO)
 have HCV := Lib.hid (fun W (hW : Below w.heap.size w W) => Check_any v _ W (hLD.below hW) (k34.K_below hW HKV.out) hOv)
 have HIS : Hid (iask l v = 0 → ∀ W, Below w.heap.size w W → Calls Tryz.prog 51 #[.slice A l.length c, .func (.func 40) #[] #[]] W (SortedPost l W)) := Lib.hid (fun h W hW => isSorted_any l A c W (Kd.C_below hA hW) hO (iask_zero h).1 hn)
 have HBS : Hid (iask l v = 0 → Asc l → ∀ W, Below w.heap.size w W → Calls Tryz.prog 52 #[.slice A l.length c, .agg #[.int .i64 v.f0, .bool v.f1.f0, .slice A2 v.f1.f1.length c2, .int .i64 v.f1.f2, .string v.f2, .slice A5 v.f3.length c5, .slice A6 v.f4.length c6], .func (.func 40) #[] #[]] W (SearchPost l v W)) := Lib.hid (fun h hs W hW => binary_any l v A c _ W (Kd.C_below hA hW) hO (iask_zero h).1 hn (k34.K_below hW HKV.out) hOv (iask_zero h).2 hs)
 have HOR : Hid (iask l v = orL [vchks l, vchk v]) := Lib.hid rfl
 have HF1 : Hid (iask l v ≠ 0 → ∀ W, Below w.heap.size w W → FindPost l v w (.returned (.tuple #[.int .i64 0, .bool false, .int .i64 (iask l v)])) W) := Lib.hid (fun h W hW => ⟨0, false, _, rfl, .inl ⟨h, rfl, rfl, rfl⟩, hW⟩)
 have HF2 : Hid (iask l v = 0 → ¬ Asc l → ∀ W, Below w.heap.size w W → FindPost l v w (.returned (.tuple #[.int .i64 0, .bool false, .int .i64 9])) W) := Lib.hid (fun h h2 W hW => ⟨0, false, _, rfl, .inr (.inl ⟨h, h2, rfl, rfl, rfl⟩), hW⟩)
 have HF3 : Hid (iask l v = 0 → Asc l → ∀ p, FoundAt l v p → ∀ W, Below w.heap.size w W → FindPost l v w (.returned (.tuple #[.int .i64 p, .bool (decide (p < l.length ∧ vord (rd_T34 l (p : Int)) v = 0)), .int .i64 0])) W) := Lib.hid (fun h h2 p hp W hW => ⟨p, _, _, rfl, .inr (.inr ⟨h, h2, hp, rfl, rfl⟩), hW⟩)
 obtain ⟨r, hr⟩ : ∃ r, r = iask l v := ⟨_, rfl⟩
 obtain ⟨W1, hW1⟩ : ∃ W1, W1 = w.alloc (.cells #[.int .i64 v.f0, .bool v.f1.f0, .slice A2 v.f1.f1.length c2, .int .i64 v.f1.f2, .string v.f2, .slice A5 v.f3.length c5, .slice A6 v.f4.length c6] 34) := ⟨_, rfl⟩
 have hb1 : Below w.heap.size w W1 := by rw [hW1]; exact (Below.refl _ _).alloc (Nat.le_refl _) _
 have hx1 : W1.heap[w.heap.size]? = some (.cells #[.int .i64 v.f0, .bool v.f1.f0, .slice A2 v.f1.f1.length c2, .int .i64 v.f1.f2, .string v.f2, .slice A5 v.f3.length c5, .slice A6 v.f4.length c6] 34 (0, 0)) := by rw [hW1]; exact blk_new _ _
 have HW1 := Lib.hid hW1
 have HB1 := Lib.hid (below_drew hb1)
 have HX1 := Lib.hid (blk_drew hx1)
 rw [← hr] at HOR HF1 HF2 HF3 HIS HBS
 generalize vchks l = x1 at *
 generalize vchk v = x2 at *
 clear hW1 hb1 hx1 hr hLD hA hO hOv
 go_enter Tryz.func24, Tryz.ntmps24
 go_upto_region 1 with (fail)
 rw [← HW1.out]
 clear HW1
 obtain ⟨hcv, hfv⟩ := bcells HX1.out (Below.refl _ _)
 go_region_law (first
  | (go_simp; go_at_call 38; (with_reducible refine (HCS.out _ HB1.out).mono ?_); rintro e_ w5 ⟨rfl, hB5⟩; obtain ⟨hx5, hxf5⟩ := bcells HX1.out hB5; have HX5 := Lib.hid (blk_below2 HX1.out hB5); have HB5 := Lib.hid (HB1.out.trans (hB5.mono HB1.out.size)); clear hB5)
  | (go_simp; go_at_call 39; (with_reducible refine (HCV.out _ HB5.out).mono ?_); rintro e_ w6 ⟨rfl, hB6⟩; have HX6 := Lib.hid (blk_below2 HX5.out hB6); have HB6 := Lib.hid (HB5.out.trans (hB6.mono HB5.out.size)); clear hB6)
  | (go_simp; go_at_call 37; (with_reducible refine (or_err2 _ _ _ _).mono ?_); rintro e_ w7 ⟨rfl, rfl⟩; rw [← HOR.out]))
 all_goals
  rename_i q_ k_ a_
  refine a_ _ _ ?_
  clear a_ hcv hfv hx5 hxf5
  have hx8 := blk_alloc HX6.out (.cells #[.int .i64 x1, .int .i64 x2] 25)
  have hb8 := HB6.out.alloc HB6.out.size (.cells #[.int .i64 x1, .int .i64 x2] 25)
  generalize w6.alloc (.cells #[.int .i64 x1, .int .i64 x2] 25) = W8 at hx8 hb8 ⊢
  have HX8 := Lib.hid hx8
  have HB8 := Lib.hid hb8
  clear hx8 hb8 HX6 HX5 HB5 HB6
  obtain ⟨hcv, hfv⟩ := bcells HX8.out (Below.refl _ _)
  by_cases h0 : r = 0
  · have hne : (r != 0) = false := by simp [h0]
    have H0 := Lib.hid h0
    clear h0
    by_cases hs : Asc l
    · have HI3 := Lib.hid ((HIS.out H0.out W8 HB8.out).mono fun e w' (h : SortedPost l W8 e w') => show e = .returned (.bool true) ∧ Below W8.heap.size W8 w' from by
       obtain ⟨b, rfl, hb, hB⟩ := h
       have e1 : b = true := hb.out.2 hs
       exact ⟨by rw [e1], hB⟩)
      have HBB := Lib.hid (HBS.out H0.out hs)
      have HFF := Lib.hid (HF3.out H0.out hs)
      clear hs HIS HBS HF1 HF2 HF3
      go_wp2_with (first
       | (go_at_call 51; (with_reducible refine (HI3.out).mono ?_); rintro e_ w9 ⟨rfl, hB9⟩; obtain ⟨hcv9, hfv9⟩ := bcells HX8.out hB9; have HB9 := Lib.hid (HB8.out.trans (hB9.mono HB8.out.size)); clear hB9)
       | (go_at_call 52; (with_reducible refine (HBB.out _ HB9.out).mono ?_); rintro e_ w10 ⟨p, hfp, rfl, hB10⟩; obtain ⟨bq, hbq⟩ : ∃ b, b = decide (p < l.length ∧ vord (rd_T34 l (p : Int)) v = 0) := ⟨_, rfl⟩; rw [← hbq]; have HBQ := Lib.hid hbq; clear hbq; have HFP := Lib.hid hfp; have HB10 := Lib.hid (HB9.out.trans (hB10.mono HB9.out.size)); clear hB10 hfp))
      go_ret3
      have hq := HFF.out p HFP.out _ HB10.out
      rw [← HBQ.out] at hq
      exact hq
    · have HI3 := Lib.hid ((HIS.out H0.out W8 HB8.out).mono fun e w' (h : SortedPost l W8 e w') => show e = .returned (.bool false) ∧ Below W8.heap.size W8 w' from by
       obtain ⟨b, rfl, hb, hB⟩ := h
       have e1 : b = false := by cases b; rfl; exact absurd (hb.out.1 rfl) hs
       exact ⟨by rw [e1], hB⟩)
      have HFF := Lib.hid (HF2.out H0.out hs)
      clear hs HIS HBS HF1 HF2 HF3
      go_wp2_with (go_at_call 51; (with_reducible refine (HI3.out).mono ?_); rintro e_ w9 ⟨rfl, hB9⟩; have HB9 := Lib.hid (HB8.out.trans (hB9.mono HB8.out.size)); clear hB9)
      go_ret3
      exact HFF.out _ HB9.out
  · have hne : (r != 0) = true := by simp [h0]
    have HP := Lib.hid (HF1.out h0)
    clear h0
    go_wp2_with fail
    go_ret3
    exact HP.out _ HB8.out
theorem orL_two (a b : Int) : orL [a, b] = if a = 0 then b else a := by
 simp only [orL]
 by_cases ha : a = 0
 · rw [if_pos ha, if_pos ha]; split <;> simp_all
 · rw [if_neg ha, if_neg ha]
set_option maxHeartbeats 4000000 in
theorem rSearch_any (l : List V) (v : V) (A : Option Addr) (c : Nat) (cs : List Value) (w : World) (hA : k34.C w A l.length l) (hO : ∀ x ∈ l, OkV x) (hn : l.length ≤ 1048576) (hKv : k34.K w v cs) (hOv : OkV v) :
 Calls Tryz.prog 25 #[.slice A l.length c, .agg cs.toArray] w (FindPost l v w) := by
 have HKV := Lib.hid hKv
 obtain ⟨A2, c2, A5, c5, A6, c6, rfl, l2, g2, l5, g5, l6, g6⟩ := k34_open hKv
 clear l2 g2 l5 g5 l6 g6 hKv
 have HA := Lib.hid hA
 have HCS := Lib.hid (fun W (hW : Below w.heap.size w W) => rChecks_any l A c W (Kd.C_below hA hW) hO)
 have HCV := Lib.hid (fun W (hW : Below w.heap.size w W) => rCheck_any v _ W (k34.K_below hW HKV.out) hOv)
 have HOR : Hid (iask l v = if vchks l = 0 then vchk v else vchks l) := Lib.hid (orL_two _ _)
 have HF1 : Hid (iask l v ≠ 0 → ∀ W, Below w.heap.size w W → FindPost l v w (.returned (.tuple #[.int .i64 0, .bool false, .int .i64 (iask l v)])) W) := Lib.hid (fun h W hW => ⟨0, false, _, rfl, .inl ⟨h, rfl, rfl, rfl⟩, hW⟩)
 have HF2 : Hid (iask l v = 0 → ¬ Asc l → ∀ W, Below w.heap.size w W → FindPost l v w (.returned (.tuple #[.int .i64 0, .bool false, .int .i64 9])) W) := Lib.hid (fun h h2 W hW => ⟨0, false, _, rfl, .inr (.inl ⟨h, h2, rfl, rfl, rfl⟩), hW⟩)
 have HF3 : Hid (iask l v = 0 → Asc l → ∀ p, FoundAt l v p → ∀ W, Below w.heap.size w W → FindPost l v w (.returned (.tuple #[.int .i64 p, .bool (decide (p < l.length ∧ vord (rd_T34 l (p : Int)) v = 0)), .int .i64 0])) W) := Lib.hid (fun h h2 p hp W hW => ⟨p, _, _, rfl, .inr (.inr ⟨h, h2, hp, rfl, rfl⟩), hW⟩)
 have HNO : Hid (iask l v = 0 → (∀ x ∈ l, NumOk x) ∧ NumOk v) := Lib.hid (fun h => iask_zero h)
 obtain ⟨r, hr⟩ : ∃ r, r = iask l v := ⟨_, rfl⟩
 obtain ⟨n, hnn⟩ : ∃ n, n = l.length := ⟨_, rfl⟩
 obtain ⟨W1, hW1⟩ : ∃ W1, W1 = w.alloc (.cells #[.int .i64 v.f0, .bool v.f1.f0, .slice A2 v.f1.f1.length c2, .int .i64 v.f1.f2, .string v.f2, .slice A5 v.f3.length c5, .slice A6 v.f4.length c6] 34) := ⟨_, rfl⟩
 have hb1 : Below w.heap.size w W1 := by rw [hW1]; exact (Below.refl _ _).alloc (Nat.le_refl _) _
 have hx1 : W1.heap[w.heap.size]? = some (.cells #[.int .i64 v.f0, .bool v.f1.f0, .slice A2 v.f1.f1.length c2, .int .i64 v.f1.f2, .string v.f2, .slice A5 v.f3.length c5, .slice A6 v.f4.length c6] 34 (0, 0)) := by rw [hW1]; exact blk_new _ _
 have HW1 := Lib.hid hW1
 have HB1 := Lib.hid hb1
 have HX1 := Lib.hid hx1
 rw [← hr] at HOR HF1 HF2 HF3 HNO
 rw [← hnn] at HCS HF3 hn ⊢
 have HN := Lib.hid hnn
 generalize vchks l = x1 at *
 generalize vchk v = x2 at *
 clear hW1 hb1 hx1 hr hA hOv hnn
 by_cases h1 : x1 = 0
 rotate_left
 · have h1b : (x1 == 0) = false := by simp [h1]
   have h1n : (x1 != 0) = true := by simp [h1]
   have hrx : r = x1 := by rw [HOR.out, if_neg h1]
   have HP := Lib.hid (HF1.out (by rw [hrx]; exact h1))
   rw [hrx] at HP
   clear h1 hrx hO
   go_enter Tryz.func25, Tryz.ntmps25
   go_upto_region 1 with (fail)
   rw [← HW1.out]
   go_wp2_with (go_at_call 53; (with_reducible refine (HCS.out _ HB1.out).mono ?_); rintro e_ w5 ⟨rfl, hB5⟩; have HB5 := Lib.hid (HB1.out.trans (hB5.mono HB1.out.size)); clear hB5)
   go_ret3
   exact HP.out _ HB5.out
 subst h1
 have hrx : r = x2 := by rw [HOR.out, if_pos rfl]
 subst hrx
 by_cases h2 : r = 0
 rotate_left
 · have h2n : (r != 0) = true := by simp [h2]
   have HP := Lib.hid (HF1.out h2)
   clear h2 hO
   go_enter Tryz.func25, Tryz.ntmps25
   go_upto_region 1 with (fail)
   rw [← HW1.out]
   go_wp2_with (first
    | (go_at_call 53; (with_reducible refine (HCS.out _ HB1.out).mono ?_); rintro e_ w5 ⟨rfl, hB5⟩; obtain ⟨hx5, hxf5⟩ := bcells HX1.out hB5; have HB5 := Lib.hid (HB1.out.trans (hB5.mono HB1.out.size)); clear hB5)
    | (go_at_call 54; (with_reducible refine (HCV.out _ HB5.out).mono ?_); rintro e_ w6 ⟨rfl, hB6⟩; have HB6 := Lib.hid (HB5.out.trans (hB6.mono HB5.out.size)); clear hB6))
   go_ret3
   exact HP.out _ HB6.out
 subst h2
 obtain ⟨hN1, hN2⟩ := HNO.out rfl
 have HORD : Hid (∀ i j, i < n → j < n → ∀ cs ds W, k34.K W (rd_T34 l (i : Nat)) cs → k34.K W (rd_T34 l (j : Nat)) ds → Calls Tryz.prog 17 #[.agg cs.toArray, .agg ds.toArray] W fun e w' => e = .returned (.int .i64 (vord (rd_T34 l (i : Nat)) (rd_T34 l (j : Nat)))) ∧ Below W.heap.size W w') := Lib.hid (fun i j hi hj cs ds W hK hL => Order05_any _ cs _ ds W hK hL (hN1 _ (rd_mem (by rw [← HN.out]; omega))) (hN1 _ (rd_mem (by rw [← HN.out]; omega))))
 have HORV : Hid (∀ i, i < n → ∀ cs ds W, k34.K W (rd_T34 l (i : Nat)) cs → k34.K W v ds → Calls Tryz.prog 17 #[.agg cs.toArray, .agg ds.toArray] W fun e w' => e = .returned (.int .i64 (vord (rd_T34 l (i : Nat)) v)) ∧ Below W.heap.size W w') := Lib.hid (fun i hi cs ds W hK hL => Order05_any _ cs _ ds W hK hL (hN1 _ (rd_mem (by rw [← HN.out]; omega))) hN2)
 have HASC : Hid (Asc l ↔ ∀ i, i + 1 < n → vord (rd_T34 l (i : Int)) (rd_T34 l ((i + 1 : Nat) : Int)) ≤ 0) := Lib.hid (by rw [HN.out]; exact Iff.rfl)
 have HFND : Hid (∀ p, p ≤ n → (∀ k, k < p → vord (rd_T34 l (k : Int)) v < 0) → (p < n → 0 ≤ vord (rd_T34 l (p : Int)) v) → FoundAt l v p) := Lib.hid (fun p h1 h2 h3 => ⟨by rw [← HN.out]; exact h1, h2, fun h => by have := h3 (by rw [HN.out]; exact h); omega⟩)
 have HFF2 := Lib.hid (HF2.out rfl)
 have HFF3 := Lib.hid (HF3.out rfl)
 clear hO hN1 hN2 HNO HF1 HF2 HF3 HOR
 go_enter Tryz.func25, Tryz.ntmps25
 go_upto_region 1 with (fail)
 rw [← HW1.out]
 clear HW1
 go_wp2_with (first
  | (go_at_call 53; (with_reducible refine (HCS.out _ HB1.out).mono ?_); rintro e_ w5 ⟨rfl, hB5⟩; obtain ⟨hx5, hxf5⟩ := bcells HX1.out hB5; have HX5 := Lib.hid (blk_below2 HX1.out hB5); have HB5 := Lib.hid (HB1.out.trans (hB5.mono HB1.out.size)); clear hB5)
  | (go_at_call 54; (with_reducible refine (HCV.out _ HB5.out).mono ?_); rintro e_ w6 ⟨rfl, hB6⟩; have HX6 := Lib.hid (blk_below2 HX5.out hB6); have HB6 := Lib.hid (HB5.out.trans (hB6.mono HB5.out.size)); clear hB6))
 clear hx5 hxf5 HCS HCV
 go_loopw [8] (fun vi wr => ∃ k : Nat, 1 ≤ k ∧ (k ≤ n ∨ n = 0) ∧ vi = .int .i64 k ∧ Hid (∀ i, i + 1 < k → i + 1 < n → vord (rd_T34 l (i : Int)) (rd_T34 l ((i + 1 : Nat) : Int)) ≤ 0) ∧ Hid (Below w6.heap.size w6 wr)) (fun vi _ => n - (intOf vi).toNat)
 case atStart => exact ⟨1, Nat.le_refl _, by omega, rfl, Lib.hid (fun i h => absurd h (by omega)), Lib.hid (Below.refl _ _)⟩
 case round =>
  obtain ⟨k, hk1, hk2, rfl, HU, HB⟩ := hrel
  have HBW := Lib.hid (HB6.out.trans (HB.out.mono HB6.out.size))
  by_cases hlt : k < n
  · obtain ⟨j, hj⟩ : ∃ j, j + 1 = k := ⟨k - 1, by omega⟩
    have HJK := Lib.hid hj
    obtain ⟨ad, a0, a1, a2, a3, a4, a5, a6, rfl, hKa, p0, p1, p2, p3, p4, p5, p6⟩ := at_V HA.out HBW.out j (by rw [← HN.out]; omega)
    obtain ⟨bd, b0, b1, b2, b3, b4, b5, b6, e, hKb, q0, q1, q2, q3, q4, q5, q6⟩ := at_V HA.out HBW.out k (by rw [← HN.out]; exact hlt)
    obtain rfl := Option.some.inj e
    have HCC := Lib.hid (fun W (hW : Below w.heap.size w W) => HORD.out j k (by omega) hlt [a0, a1, a2, a3, a4, a5, a6] [b0, b1, b2, b3, b4, b5, b6] W (k34.K_below hW hKa) (k34.K_below hW hKb))
    have g1 : (k : Int) < (n : Int) := by omega
    have g2 : (0 : Int) ≤ (k : Int) := by omega
    have g3 : IntKind.i64.wrap ((k : Int) - 1) = (j : Int) := by rw [wrap_in _ (by omega)]; omega
    have g4 : (j : Int) < (n : Int) := by omega
    have g5 : (0 : Int) ≤ (j : Int) := by omega
    generalize hrr : vord (rd_T34 l (j : Int)) (rd_T34 l (k : Int)) = r at HCC
    have HRR := Lib.hid hrr
    clear hKa hKb hrr hj
    go_upto_region 9 with (fail)
    go_still_tail 9, (by kernel_rfl)
    change wpList _ _ _ _ _ (wr.drewN 1)
    have HBD : Hid (Below w.heap.size w (wr.drewN 1)) := Lib.hid (pw_below_drewN HBW.out _)
    have HBE : Hid (Below w6.heap.size w6 (wr.drewN 1)) := Lib.hid (pw_below_drewN HB.out _)
    generalize wr.drewN 1 = wd at HBD HBE ⊢
    by_cases hr0 : 0 < r
    · have HNA : Hid (¬ Asc l) := Lib.hid (fun h => by
       have h1 := HASC.out.1 h j (by have := HJK.out; omega)
       rw [HJK.out, HRR.out] at h1
       omega)
      go_wp2_with (go_at_call 17; (with_reducible refine (HCC.out _ HBD.out).mono ?_); rintro e w7 ⟨rfl, hB7⟩; have HB7 := Lib.hid (HBD.out.trans (hB7.mono HBD.out.size)); clear hB7)
      go_ret3
      exact HFF2.out HNA.out _ HB7.out
    · have HU2 : Hid (∀ i, i + 1 < k + 1 → i + 1 < n → vord (rd_T34 l (i : Int)) (rd_T34 l ((i + 1 : Nat) : Int)) ≤ 0) := Lib.hid (fun i h1 h2 => by
       rcases Nat.lt_or_ge (i + 1) k with h | h
       · exact HU.out i h h2
       · have e : i = j := by have := HJK.out; omega
         rw [e, HJK.out, HRR.out]
         omega)
      go_wp2_with (go_at_call 17; (with_reducible refine (HCC.out _ HBD.out).mono ?_); rintro e w7 ⟨rfl, hB7⟩; have HB7 := Lib.hid (HBE.out.trans (hB7.mono HBE.out.size)); clear hB7)
      go_roundw
      case rel => exact ⟨k + 1, by omega, by omega, by go_num, HU2, HB7⟩
      case measure => simp [intOf]; omega
  · have g1 : ¬ (k : Int) < (n : Int) := by omega
    have HS : Hid (Asc l) := Lib.hid (HASC.out.2 (fun i hi => HU.out i (by omega) hi))
    have HFS := Lib.hid (HFF3.out HS.out)
    clear HU HORD HASC HFF2 HS hk1 hk2
    go_wp2
    clear g1 hlt
    go_loopw [9] (fun vi wr2 => ∃ p : Nat, p ≤ n ∧ vi = .int .i64 p ∧ Hid (∀ k, k < p → vord (rd_T34 l (k : Int)) v < 0) ∧ Hid (Below w6.heap.size w6 wr2)) (fun vi _ => n - (intOf vi).toNat)
    case atStart => exact ⟨0, Nat.zero_le _, rfl, Lib.hid (fun k h => absurd h (by omega)), HB⟩
    case round =>
     clear HB HBW
     obtain ⟨p, hp, rfl, HU, HB⟩ := hrel
     have HBW := Lib.hid (HB6.out.trans (HB.out.mono HB6.out.size))
     have HVX := Lib.hid (blk_below2 HX6.out HB.out)
     have g0 : (0 : Int) ≤ (p : Int) := by omega
     by_cases hlt : p < n
     · have g1 : (p : Int) < (n : Int) := by omega
       have g1b : decide (p < n) = true := by simpa using hlt
       obtain ⟨ad, a0, a1, a2, a3, a4, a5, a6, hAd, hKa, ra⟩ := rng_A' HA.out p (by rw [← HN.out]; exact hlt)
       subst hAd
       have HCC := Lib.hid (fun W (hW : Below w.heap.size w W) => HORV.out p hlt [a0, a1, a2, a3, a4, a5, a6] _ W (k34.K_below hW hKa) (k34.K_below hW HKV.out))
       have HRA := Lib.hid ra
       have HF0 := Lib.hid (fun h => HFND.out p hp HU.out h)
       have HFP := Lib.hid (fun h => HFS.out p (HF0.out h))
       have hdd : decide (p < n ∧ vord (rd_T34 l (p : Int)) v = 0) = (vord (rd_T34 l (p : Int)) v == 0) := by rw [Bool.eq_iff_iff]; simp [hlt]
       rw [hdd] at HFP
       have HU2 : Hid (vord (rd_T34 l (p : Int)) v < 0 → ∀ k, k < p + 1 → vord (rd_T34 l (k : Int)) v < 0) := Lib.hid (fun h k hk => by
        rcases Nat.lt_or_ge k p with h' | h'
        · exact HU.out k h'
        · obtain rfl : k = p := by omega
          exact h)
       generalize vord (rd_T34 l (p : Int)) v = r at *
       have HBc : Hid (Below wr.heap.size wr wr.drew) := Lib.hid (below_drew (Below.refl _ _))
       clear hKa ra hdd HU HF0
       go_upto_region 12 with (fail)
       refine wp_region_any (by kernel_rfl) ?_
       change wpAny _ _ _ _ _ _ _ (World.drew _)
       refine tq 0 (h := ?_)
       refine tq 1 (h := ?_)
       simp only [lst]
       refine one 2 rfl (by kernel_rfl) (by rfl) fun K_ hK_ => ?_
       simp only [lgt]
       go_simp
       refine hK_ _ _ ?_
       clear hK_ K_
       refine tq 3 (h := ?_)
       refine tq 4 (h := ?_)
       simp only [lst]
       refine tq 5 (h := ?_)
       refine tq 6 (h := ?_)
       simp only [lst]
       refine tq 7 (h := ?_)
       simp only [lst]
       refine two 8 9 rfl rfl (by kernel_rfl) (by rfl) (by rfl) (fun K_ hK_ => ?_) (fun K_ hK_ => ?_)
       obtain ⟨p0, p1, p2, p3, p4, p5, p6⟩ := HRA.out _ (HBW.out.trans (HBc.out.mono HBW.out.size))
       simp only [lgt]
       go_simp
       clear p0 p1 p2 p3 p4 p5 p6
       refine hK_ _ _ ?_
       clear hK_ K_
       refine one 9 rfl (by kernel_rfl) (by rfl) fun K_ hK_ => ?_
       obtain ⟨q0, -⟩ := bcells (blk_below2 HVX.out HBc.out) (Below.refl _ _)
       simp only [lgt]
       go_simp
       clear q0
       refine hK_ _ _ ?_
       clear hK_ K_
       refine one 10 rfl (by kernel_rfl) (by rfl) fun K_ hK_ => ?_
       simp only [lgt]
       go_simp
       refine (HCC.out _ (HBW.out.trans (HBc.out.mono HBW.out.size))).mono ?_
       rintro e_ w5_ ⟨rfl, hB5⟩
       have HBc := Lib.hid (HBc.out.trans (hB5.mono HBc.out.size))
       clear hB5
       simp only [Oper.upon]
       refine hK_ _ _ ?_
       clear hK_ K_
       refine tq 11 (h := ?_)
       refine tq 12 (h := ?_)
       refine wpAny_done (by kernel_rfl) ?_ _
       simp only [lst]
       rotate_left
       obtain ⟨q0, -⟩ := bcells (blk_below2 HVX.out HBc.out) (Below.refl _ _)
       simp only [lgt]
       go_simp
       clear q0
       refine hK_ _ _ ?_
       clear hK_ K_
       refine one 8 rfl (by kernel_rfl) (by rfl) fun K_ hK_ => ?_
       obtain ⟨p0, p1, p2, p3, p4, p5, p6⟩ := HRA.out _ (HBW.out.trans (HBc.out.mono HBW.out.size))
       simp only [lgt]
       go_simp
       clear p0 p1 p2 p3 p4 p5 p6
       refine hK_ _ _ ?_
       clear hK_ K_
       refine one 10 rfl (by kernel_rfl) (by rfl) fun K_ hK_ => ?_
       simp only [lgt]
       go_simp
       refine (HCC.out _ (HBW.out.trans (HBc.out.mono HBW.out.size))).mono ?_
       rintro e_ w5_ ⟨rfl, hB5⟩
       have HBc := Lib.hid (HBc.out.trans (hB5.mono HBc.out.size))
       clear hB5
       simp only [Oper.upon]
       refine hK_ _ _ ?_
       clear hK_ K_
       refine tq 11 (h := ?_)
       refine tq 12 (h := ?_)
       refine wpAny_done (by kernel_rfl) ?_ _
       simp only [lst]
       rotate_left
       all_goals
        have HBX := Lib.hid (HB.out.trans (HBc.out.mono HB.out.size))
        have HBY := Lib.hid (HBW.out.trans (HBc.out.mono HBW.out.size))
        by_cases hr0 : r < 0
        · have hr1 : decide (r < 0) = true := by simpa using hr0
          have HU3 := Lib.hid (HU2.out hr0)
          go_wp2_with fail
          go_roundw
          case rel => exact ⟨p + 1, by omega, by go_num, HU3, HBX⟩
          case measure => simp [intOf]; omega
        · have hr1 : decide (r < 0) = false := by simpa using hr0
          have HFQ := Lib.hid (HFP.out (fun _ => by omega))
          clear HU2 HFP
          have HVX2 := Lib.hid (blk_below2 HVX.out HBc.out)
          have HRA2 := Lib.hid (fun W (hb : Below w5_.heap.size w5_ W) => HRA.out W (HBY.out.trans (hb.mono HBY.out.size)))
          clear HVX
          have HBc : Hid (Below w5_.heap.size w5_ w5_.drew) := Lib.hid (below_drew (Below.refl _ _))
          go_upto_region 14 with (fail)
          refine wp_region_any (by kernel_rfl) ?_
          change wpAny _ _ _ _ _ _ _ (World.drew _)
          refine tq 0 (h := ?_)
          refine tq 1 (h := ?_)
          simp only [lst]
          refine tq 2 (h := ?_)
          simp only [lst]
          refine one 3 rfl (by kernel_rfl) (by rfl) fun K_ hK_ => ?_
          simp only [lgt]
          go_simp
          refine hK_ _ _ ?_
          clear hK_ K_
          refine tq 4 (h := ?_)
          refine tq 5 (h := ?_)
          simp only [lst]
          refine tq 6 (h := ?_)
          refine tq 7 (h := ?_)
          simp only [lst]
          refine tq 8 (h := ?_)
          simp only [lst]
          refine two 9 10 rfl rfl (by kernel_rfl) (by rfl) (by rfl) (fun K_ hK_ => ?_) (fun K_ hK_ => ?_)
          obtain ⟨p0, p1, p2, p3, p4, p5, p6⟩ := HRA2.out _ HBc.out
          simp only [lgt]
          go_simp
          clear p0 p1 p2 p3 p4 p5 p6
          refine hK_ _ _ ?_
          clear hK_ K_
          refine one 10 rfl (by kernel_rfl) (by rfl) fun K_ hK_ => ?_
          obtain ⟨q0, -⟩ := bcells (blk_below2 HVX2.out HBc.out) (Below.refl _ _)
          simp only [lgt]
          go_simp
          clear q0
          refine hK_ _ _ ?_
          clear hK_ K_
          refine one 11 rfl (by kernel_rfl) (by rfl) fun K_ hK_ => ?_
          simp only [lgt]
          go_simp
          refine (HCC.out _ (HBY.out.trans (HBc.out.mono HBY.out.size))).mono ?_
          rintro e_ w6_ ⟨rfl, hB5⟩
          have HBc := Lib.hid (HBc.out.trans (hB5.mono HBc.out.size))
          clear hB5
          simp only [Oper.upon]
          refine hK_ _ _ ?_
          clear hK_ K_
          refine tq 12 (h := ?_)
          refine tq 13 (h := ?_)
          simp only [lst]
          refine tq 14 (h := ?_)
          refine tq 15 (h := ?_)
          simp only [lst]
          refine tq 16 (h := ?_)
          refine wpAny_done (by kernel_rfl) ?_ _
          simp only [lst]
          rotate_left
          obtain ⟨q0, -⟩ := bcells (blk_below2 HVX2.out HBc.out) (Below.refl _ _)
          simp only [lgt]
          go_simp
          clear q0
          refine hK_ _ _ ?_
          clear hK_ K_
          refine one 9 rfl (by kernel_rfl) (by rfl) fun K_ hK_ => ?_
          obtain ⟨p0, p1, p2, p3, p4, p5, p6⟩ := HRA2.out _ HBc.out
          simp only [lgt]
          go_simp
          clear p0 p1 p2 p3 p4 p5 p6
          refine hK_ _ _ ?_
          clear hK_ K_
          refine one 11 rfl (by kernel_rfl) (by rfl) fun K_ hK_ => ?_
          simp only [lgt]
          go_simp
          refine (HCC.out _ (HBY.out.trans (HBc.out.mono HBY.out.size))).mono ?_
          rintro e_ w6_ ⟨rfl, hB5⟩
          have HBc := Lib.hid (HBc.out.trans (hB5.mono HBc.out.size))
          clear hB5
          simp only [Oper.upon]
          refine hK_ _ _ ?_
          clear hK_ K_
          refine tq 12 (h := ?_)
          refine tq 13 (h := ?_)
          simp only [lst]
          refine tq 14 (h := ?_)
          refine tq 15 (h := ?_)
          simp only [lst]
          refine tq 16 (h := ?_)
          refine wpAny_done (by kernel_rfl) ?_ _
          simp only [lst]
          rotate_left
          all_goals
           have HF := Lib.hid (HBY.out.trans (HBc.out.mono HBY.out.size))
           go_wp2_with fail
           go_ret3
           exact HFQ.out _ HF.out
     · have g1 : ¬ (p : Int) < (n : Int) := by omega
       have g1b : decide (p < n) = false := by simpa using hlt
       have HFP := Lib.hid (HFS.out p (HFND.out p hp HU.out (fun h => absurd h hlt)))
       have hdd : decide (p < n ∧ vord (rd_T34 l (p : Int)) v = 0) = false := decide_eq_false (fun h => hlt h.1)
       rw [hdd] at HFP
       clear hdd HU
       go_wp2
       go_quiet (fail)
       go_wp2
       go_quiet (fail)
       go_wp2
       go_ret3
       exact HFP.out _ (by first | exact pw_below_drewN (pw_below_drewN HBW.out _) _ | exact pw_below_drewN HBW.out _)
set_option maxHeartbeats 4000000 in
theorem rIndex_any (l : List V) (v : V) (A : Option Addr) (c : Nat) (cs : List Value) (w : World) (hA : k34.C w A l.length l) (hO : ∀ x ∈ l, OkV x) (hn : l.length ≤ 1048576) (hKv : k34.K w v cs) (hOv : OkV v) :
 Calls Tryz.prog 26 #[.slice A l.length c, .agg cs.toArray] w fun e w' => ∃ G g, e = .returned (.tuple #[.slice G (iidx l v).length g, .int .i64 (iask l v)]) ∧ Kd.R (Kd.int .i64) 3 w' w.heap.size (fun _ => True) (.slice G (iidx l v).length g) (iidx l v) ∧ Below w.heap.size w w' := by
 have HKV := Lib.hid hKv
 obtain ⟨A2, c2, A5, c5, A6, c6, rfl, l2, g2, l5, g5, l6, g6⟩ := k34_open hKv
 clear l2 g2 l5 g5 l6 g6 hKv
 have HA := Lib.hid hA
 have HCS := Lib.hid (fun W (hW : Below w.heap.size w W) => rChecks_any l A c W (Kd.C_below hA hW) hO)
 have HCV := Lib.hid (fun W (hW : Below w.heap.size w W) => rCheck_any v _ W (k34.K_below hW HKV.out) hOv)
 have HOR : Hid (iask l v = if vchks l = 0 then vchk v else vchks l) := Lib.hid (orL_two _ _)
 have HNO : Hid (iask l v = 0 → (∀ x ∈ l, NumOk x) ∧ NumOk v) := Lib.hid (fun h => iask_zero h)
 have HI0 : Hid (iask l v = 0 → iidx l v = idx l v l.length) := Lib.hid (fun h => by unfold iidx; rw [if_pos h])
 have HI1 : Hid (iask l v ≠ 0 → iidx l v = []) := Lib.hid (fun h => by unfold iidx; rw [if_neg h])
 obtain ⟨r, hr⟩ : ∃ r, r = iask l v := ⟨_, rfl⟩
 obtain ⟨n, hnn⟩ : ∃ n, n = l.length := ⟨_, rfl⟩
 obtain ⟨W1, hW1⟩ : ∃ W1, W1 = w.alloc (.cells #[.int .i64 v.f0, .bool v.f1.f0, .slice A2 v.f1.f1.length c2, .int .i64 v.f1.f2, .string v.f2, .slice A5 v.f3.length c5, .slice A6 v.f4.length c6] 34) := ⟨_, rfl⟩
 have hb1 : Below w.heap.size w W1 := by rw [hW1]; exact (Below.refl _ _).alloc (Nat.le_refl _) _
 have hx1 : W1.heap[w.heap.size]? = some (.cells #[.int .i64 v.f0, .bool v.f1.f0, .slice A2 v.f1.f1.length c2, .int .i64 v.f1.f2, .string v.f2, .slice A5 v.f3.length c5, .slice A6 v.f4.length c6] 34 (0, 0)) := by rw [hW1]; exact blk_new _ _
 have HW1 := Lib.hid hW1
 have HB1 := Lib.hid hb1
 have HX1 := Lib.hid hx1
 rw [← hr] at HOR HNO HI0 HI1 ⊢
 rw [← hnn] at HCS HI0 hn ⊢
 have HN := Lib.hid hnn
 generalize vchks l = x1 at *
 generalize vchk v = x2 at *
 clear hW1 hb1 hx1 hr hA hOv hnn
 by_cases h1 : x1 = 0
 rotate_left
 · have h1b : (x1 == 0) = false := by simp [h1]
   have h1n : (x1 != 0) = true := by simp [h1]
   have hrx : r = x1 := by rw [HOR.out, if_neg h1]
   have hq := HI1.out (by rw [hrx]; exact h1)
   have HRX := Lib.hid hrx
   have HQ := Lib.hid hq
   clear h1 hrx hO hq
   go_enter Tryz.func26, Tryz.ntmps26
   go_upto_region 1 with (fail)
   rw [← HW1.out]
   go_wp2_with (go_at_call 53; (with_reducible refine (HCS.out _ HB1.out).mono ?_); rintro e_ w5 ⟨rfl, hB5⟩; have HB5 := Lib.hid (HB1.out.trans (hB5.mono HB1.out.size)); clear hB5)
   go_ret2
   exact ⟨none, 0, by rw [HQ.out, HRX.out]; rfl, by rw [HQ.out]; exact Kd.R_nil _ _ _ _ _, HB5.out⟩
 subst h1
 have hrx : r = x2 := by rw [HOR.out, if_pos rfl]
 subst hrx
 by_cases h2 : r = 0
 rotate_left
 · have h2n : (r != 0) = true := by simp [h2]
   have HQ := Lib.hid (HI1.out h2)
   clear h2 hO
   go_enter Tryz.func26, Tryz.ntmps26
   go_upto_region 1 with (fail)
   rw [← HW1.out]
   go_wp2_with (first
    | (go_at_call 53; (with_reducible refine (HCS.out _ HB1.out).mono ?_); rintro e_ w5 ⟨rfl, hB5⟩; obtain ⟨hx5, hxf5⟩ := bcells HX1.out hB5; have HB5 := Lib.hid (HB1.out.trans (hB5.mono HB1.out.size)); clear hB5)
    | (go_at_call 54; (with_reducible refine (HCV.out _ HB5.out).mono ?_); rintro e_ w6 ⟨rfl, hB6⟩; have HB6 := Lib.hid (HB5.out.trans (hB6.mono HB5.out.size)); clear hB6))
   go_ret2
   exact ⟨none, 0, by rw [HQ.out]; rfl, by rw [HQ.out]; exact Kd.R_nil _ _ _ _ _, HB6.out⟩
 subst h2
 obtain ⟨hN1, hN2⟩ := HNO.out rfl
 have HORV : Hid (∀ i, i < n → ∀ cs ds W, k34.K W (rd_T34 l (i : Nat)) cs → k34.K W v ds → Calls Tryz.prog 17 #[.agg cs.toArray, .agg ds.toArray] W fun e w' => e = .returned (.int .i64 (vord (rd_T34 l (i : Nat)) v)) ∧ Below W.heap.size W w') := Lib.hid (fun i hi cs ds W hK hL => Order05_any _ cs _ ds W hK hL (hN1 _ (rd_mem (by rw [← HN.out]; omega))) hN2)
 have HRES := Lib.hid (HI0.out rfl)
 clear hO hN1 hN2 HNO HOR HI0 HI1
 go_enter Tryz.func26, Tryz.ntmps26
 go_upto_region 1 with (fail)
 rw [← HW1.out]
 clear HW1
 go_wp2_with (first
  | (go_at_call 53; (with_reducible refine (HCS.out _ HB1.out).mono ?_); rintro e_ w5 ⟨rfl, hB5⟩; obtain ⟨hx5, hxf5⟩ := bcells HX1.out hB5; have HX5 := Lib.hid (blk_below2 HX1.out hB5); have HB5 := Lib.hid (HB1.out.trans (hB5.mono HB1.out.size)); clear hB5)
  | (go_at_call 54; (with_reducible refine (HCV.out _ HB5.out).mono ?_); rintro e_ w6 ⟨rfl, hB6⟩; have HX6 := Lib.hid (blk_below2 HX5.out hB6); have HB6 := Lib.hid (HB5.out.trans (hB6.mono HB5.out.size)); clear hB6))
 clear hx5 hxf5 HCS HCV
 go_loopw [7, 8] (fun vo vi wr => ∃ (k ln : Nat) (G : Option Addr) (cap : Nat), k ≤ n ∧ vi = .int .i64 k ∧ vo = .slice G ln cap ∧ Hid (ln = (idx l v k).length) ∧ Hid (Kd.R (Kd.int .i64) 3 wr w6.heap.size (fun _ => True) (.slice G ln cap) (idx l v k) ∧ Below w6.heap.size w6 wr)) (fun vo vi _ => n - (intOf vi).toNat)
 case atStart => exact ⟨0, 0, none, 0, Nat.zero_le _, rfl, rfl, Lib.hid rfl, Lib.hid ⟨Kd.R_nil _ _ _ _ _, Below.refl _ _⟩⟩
 case round =>
  obtain ⟨k, ln, G, cap, hk, rfl, rfl, HL, HR⟩ := hrel
  have HBW := Lib.hid (HB6.out.trans (HR.out.2.mono HB6.out.size))
  by_cases hlt : k < n
  · have hlt2 : (k : Int) < (n : Int) := by omega
    have hk0 : (0 : Int) ≤ (k : Int) := by omega
    obtain ⟨ad, a0, a1, a2, a3, a4, a5, a6, rfl, hKa, p0, p1, p2, p3, p4, p5, p6⟩ := at_V HA.out HBW.out k (by rw [← HN.out]; exact hlt)
    have HCC := Lib.hid (fun W (hW : Below w.heap.size w W) => HORV.out k hlt [a0, a1, a2, a3, a4, a5, a6] _ W (k34.K_below hW hKa) (k34.K_below hW HKV.out))
    have HST : Hid (idx l v (k + 1) = if vord (rd_T34 l (k : Int)) v = 0 then idx l v k ++ [(k : Int)] else idx l v k) := Lib.hid rfl
    have hle := idx_len l v k
    generalize vord (rd_T34 l (k : Int)) v = o at *
    obtain ⟨hcv, hfv⟩ := bcells (blk_below2 HX6.out HR.out.2) (Below.refl _ _)
    clear hKa
    go_upto_region 10 with (fail)
    go_still_tail 5, (by kernel_rfl)
    change wpList _ _ _ _ _ (wr.drewN 1)
    have HBD : Hid (Below w.heap.size w (wr.drewN 1)) := Lib.hid (pw_below_drewN HBW.out _)
    have HBE : Hid (Below w6.heap.size w6 (wr.drewN 1)) := Lib.hid (pw_below_drewN HR.out.2 _)
    have HR5 : Hid (Kd.R (Kd.int .i64) 3 (wr.drewN 1) w6.heap.size (fun _ => True) (.slice G ln cap) (idx l v k)) := Lib.hid (Kd.R_below HR.out.1 (pw_below_drewN (Below.refl _ _) 1))
    generalize wr.drewN 1 = wd at HBD HBE HR5 ⊢
    by_cases ho : o = 0
    · have ho1 : (o == 0) = true := by simp [ho]
      have HS2 : Hid (idx l v (k + 1) = idx l v k ++ [(k : Int)]) := Lib.hid (by rw [HST.out, if_pos ho])
      clear ho
      go_wp2_with (first
       | (go_at_call 17; (with_reducible refine (HCC.out _ HBD.out).mono ?_); rintro e_ w9 ⟨rfl, hB9⟩; have HR9 := Lib.hid (Kd.R_below HR5.out hB9); have HB9 := Lib.hid (HBE.out.trans (hB9.mono HBE.out.size)); clear hB9)
       | (at_builtin; refine Kd.R_append (Kd.int .i64) (w0 := w6) w6.heap.size rfl _ _ 40 3 (.int .i64 0) 8 rfl Tryz.underlying40 infoI_ rfl (by decide) (by decide) (.slice G ln cap) (idx l v k) (k : Int) _ (fun _ => True) (fun _ => False) rfl rfl rfl (fun _ h => h.elim) (fun _ _ => trivial) HR9.out HB9.out HB9.out.size (by omega) ?_; intro v1 w10 hR10 hB10 hg10 hat10; obtain ⟨G10, cap10, rfl⟩ := Kd.R_slice hR10; rw [← HS2.out] at hR10; rw [← HS2.out]; have HR10 := Lib.hid hR10; have HBG := Lib.hid hB10; clear hR10 hB10 hg10 hat10))
      go_roundw
      case rel => exact ⟨k + 1, _, G10, cap10, hlt, by go_num, rfl, Lib.hid rfl, Lib.hid ⟨HR10.out, HBG.out⟩⟩
      case measure => simp [intOf]; omega
    · have ho1 : (o == 0) = false := by simp [ho]
      have HS2 : Hid (idx l v (k + 1) = idx l v k) := Lib.hid (by rw [HST.out, if_neg ho])
      clear ho
      go_wp2_with (go_at_call 17; (with_reducible refine (HCC.out _ HBD.out).mono ?_); rintro e_ w9 ⟨rfl, hB9⟩; have HR9 := Lib.hid (Kd.R_below HR5.out hB9); have HB9 := Lib.hid (HBE.out.trans (hB9.mono HBE.out.size)); clear hB9)
      go_roundw
      case rel => exact ⟨k + 1, ln, G, cap, hlt, by go_num, rfl, Lib.hid (by rw [HS2.out]; exact HL.out), Lib.hid ⟨by rw [HS2.out]; exact HR9.out, HB9.out⟩⟩
      case measure => simp [intOf]; omega
  · obtain rfl : k = n := by omega
    have hlt2 : ¬ (k : Int) < (k : Int) := by omega
    go_wp2_with fail
    go_ret2
    exact ⟨G, cap, by rw [HRES.out, ← HL.out]; rfl, by rw [HRES.out, ← HL.out]; exact Kd.R_lower HR.out.1 HB6.out.size, HBW.out⟩
set_option maxHeartbeats 1000000 in
theorem sameInts_any (l : List Int) (A B : Option Addr) (c d : Nat) (w : World) (hA : Kd.C (Kd.int .i64) w A l.length l) (hB : Kd.C (Kd.int .i64) w B l.length l) :
 Calls Tryz.prog 27 #[.slice A l.length c, .slice B l.length d] w fun e w' => e = .returned (.bool true) ∧ Below w.heap.size w w' := by
 have HA := Lib.hid hA
 have HB := Lib.hid hB
 have hm := hA.2.1
 obtain ⟨n, hn⟩ : ∃ n, n = l.length := ⟨_, rfl⟩
 have HN := Lib.hid hn
 rw [← hn]
 rw [← hn] at hm
 clear hA hB hn
 go_enter Tryz.func27, Tryz.ntmps27
 go_wp2
 go_loopw [5] (fun vi wr => ∃ k : Nat, k ≤ n ∧ vi = .int .i64 k ∧ Hid (Below w.heap.size w wr)) (fun vi _ => n - (intOf vi).toNat)
 case atStart => exact ⟨0, Nat.zero_le _, rfl, Lib.hid (Below.refl _ _)⟩
 case round =>
  obtain ⟨k, hk, rfl, HBR⟩ := hrel
  by_cases hlt : k < n
  · have hlt2 : (k : Int) < (n : Int) := by omega
    have hk0 : (0 : Int) ≤ (k : Int) := by omega
    obtain ⟨ad, rfl, hx⟩ := at_dig (Kd.C_below HA.out HBR.out) k (by rw [← HN.out]; exact hlt)
    obtain ⟨be, rfl, hy⟩ := at_dig (Kd.C_below HB.out HBR.out) k (by rw [← HN.out]; exact hlt)
    have hw : wrap64 ((k : Int) + 1) = ((k + 1 : Nat) : Int) := by unfold wrap64; omega
    go_wp2
    go_quiet (fail)
    go_wp2
    go_roundw
    case rel => exact ⟨k + 1, by omega, by go_num, Lib.hid (pw_below_drewN HBR.out _)⟩
    case measure => simp [intOf]; omega
  · obtain rfl : k = n := by omega
    have hlt2 : ¬ (k : Int) < (k : Int) := by omega
    go_wp2
    go_ret
    exact ⟨rfl, HBR.out⟩
structure OutMid (w w1 wr : World) (S : List PEl) (v : Value) (k : Nat) : Prop where
 ex : ∃ rows : List (List Value), rows.length = k ∧ Kd.R (Kd.raw 7) 34 wr w1.heap.size (fun _ => True) v rows ∧ ∀ (j : Nat) (e : PEl) (r : List Value), S[j]? = some e → rows[j]? = some r → k34.K w e.val r
 below : Below w1.heap.size w1 wr
theorem OutMid.reads {w w1 wr : World} {S : List PEl} {G : Option Addr} {cap k : Nat} (h : OutMid w w1 wr S (.slice G k cap) k) (hS : S.length = k) (hb : Below w.heap.size w w1) : k ≤ cap ∧ k34.C wr G (S.map PEl.val).length (S.map PEl.val) := by
 obtain ⟨rows, h1, h2, h3⟩ := h.ex
 obtain ⟨A, c, e1, e2, e3⟩ := Kd.R_reads h2
 injection e1 with e4 e5 e6
 subst e4 e6
 refine ⟨by rw [h1] at e2; exact e2, raw_reads (w0 := w) e3 (by rw [List.length_map, h1, hS]) (hb.trans (h.below.mono hb.size)) fun j x c hx hc => ?_⟩
 rw [List.getElem?_map] at hx
 obtain ⟨e, he, rfl⟩ := Option.map_eq_some_iff.1 hx
 exact h3 j e c he hc
def SortDone (l ks : List V) (w : World) (e : Ending) (w' : World) : Prop := ((lask l ks ≠ 0 ∧ e = .returned (.tuple #[.slice none 0 0, .int .i64 (lask l ks)])) ∨ (lask l ks = 0 ∧ ∃ v ys, e = .returned (.tuple #[v, .int .i64 0]) ∧ Sorted ks l ys ∧ k34.R 34 w' w.heap.size (fun _ => True) v ys)) ∧ Below w.heap.size w w'
set_option maxHeartbeats 4000000 in
theorem sortBy_any (l ks : List V) (A B : Option Addr) (c d : Nat) (w : World) (hLD : LaidW w) (hA : k34.C w A l.length l) (hB : k34.C w B ks.length ks) (hO : ∀ x ∈ l, OkV x) (hO2 : ∀ x ∈ ks, OkV x) (h1 : ks.length ≤ 1048576) :
 Calls Tryz.prog 22 #[.slice A l.length c, .slice B ks.length d] w (SortDone l ks w) := by
 have HASK := Lib.hid (oask_any l ks A B c d w hLD hA hB hO hO2)
 by_cases h0 : lask l ks = 0
 · obtain ⟨hN1, hN2, hlen⟩ := lask_zero h0
   have HP : Hid (∀ W, Below w.heap.size w W → Calls Tryz.prog 49 #[.slice B ks.length d, .slice A l.length c] W fun e w' => ∃ v, e = .returned v ∧ PairMid W w' ks l v ks.length) := Lib.hid (fun W hW => pairs_any ks l B A d c W (Kd.C_below hB hW) (Kd.C_below hA hW) hlen h1)
   have HSC : Hid (∀ w1 W v, PairMid w1 W ks l v ks.length → Calls Tryz.prog 48 #[v, .func (.func 40) #[] #[]] W fun e w' => ∃ A cap S, e = .returned (.slice A ks.length cap) ∧ SortRow w1 w' ks l ks.length A S ∧ Below w1.heap.size w1 w') := Lib.hid (fun w1 W v h => sorted_call h rfl h1 hO2 hN2)
   have HVAL : Hid (∀ w1 w' A S, SortRow w1 w' ks l ks.length A S → ∀ x ∈ S.map PEl.val, OkV x) := Lib.hid (fun w1 w' A S h x hx => by
    obtain ⟨e, he, rfl⟩ := List.mem_map.1 hx
    exact hO _ (h.val (by omega) e he))
   have HDONE : Hid (∀ w1 w2 A S v w', SortRow w1 w2 ks l ks.length A S → k34.R 34 w' w.heap.size (fun _ => True) v (S.map PEl.val) → Below w.heap.size w w' → SortDone l ks w (.returned (.tuple #[v, .int .i64 0])) w') := Lib.hid (fun w1 w2 A S v w' h hr hb => ⟨.inr ⟨h0, v, _, rfl, h.said, hr⟩, hb⟩)
   rw [h0] at HASK
   obtain ⟨n, hn⟩ : ∃ n, n = ks.length := ⟨_, rfl⟩
   rw [← hn] at HP HSC HVAL HDONE h1
   rw [← hn]
   rw [← hn] at HASK
   clear hA hB hO hO2 hN1 hN2 hlen hLD h0 hn
   go_enter Tryz.func22, Tryz.ntmps22
   go_wp2_with (first
    | (go_at_call 46; (with_reducible refine (HASK.out).mono ?_); rintro e w1 ⟨rfl, hB1⟩; have HB1 := Lib.hid hB1; clear hB1)
    | (go_at_call 49; (with_reducible refine (HP.out _ HB1.out).mono ?_); rintro e w2 ⟨v2, rfl, hM2⟩; have HM2 := Lib.hid hM2; clear hM2)
    | (go_at_call 48; (with_reducible refine (HSC.out _ _ _ HM2.out).mono ?_); rintro e w3 ⟨A3, cap3, S, rfl, hS3, hB3⟩; have HS3 := Lib.hid hS3; have HB3 := Lib.hid hB3; clear hS3 hB3))
   have H0 : Hid (OutMid w1 w3 w3 S (.slice none 0 0) 0) := Lib.hid ⟨⟨[], rfl, Kd.R_nil _ _ _ _ _, fun j e r _ h => by simp at h⟩, Below.refl _ _⟩
   go_loopw [7, 21] (fun vo vi wr => ∃ (k : Nat) (G : Option Addr) (cap : Nat), k ≤ n ∧ vi = .int .i64 k ∧ vo = .slice G k cap ∧ Hid (OutMid w1 w3 wr S (.slice G k cap) k)) (fun vo vi _ => n - (intOf vi).toNat)
   case atStart => exact ⟨0, none, 0, Nat.zero_le _, rfl, rfl, H0⟩
   case round =>
    obtain ⟨k, G, cap, hk, rfl, rfl, HM⟩ := hrel
    by_cases hlt : k < n
    · have hlt2 : (k : Int) < (n : Int) := by omega
      obtain ⟨e, ad, A2, c2, A5, c5, A6, c6, B2, d2, B5, d5, B6, d6, hSk, rfl, hKv, hKk, p0, p1, p2, p3, p4, p5, p6, p7, p8, p9, p10, p11, p12, p13⟩ := at_P HS3.out HM.out.below k hlt
      have HKV := Lib.hid hKv
      have HONE : Hid (∀ u ∈ ([.int .i64 e.val.f0, .bool e.val.f1.f0, .slice B2 e.val.f1.f1.length d2, .int .i64 e.val.f1.f2, .string e.val.f2, .slice B5 e.val.f3.length d5, .slice B6 e.val.f4.length d6] : List Value), u.oneCell' = true) := Lib.hid (k34.K_one hKv)
      have HSK := Lib.hid hSk
      obtain ⟨W5, hW5⟩ : ∃ W5, W5 = wr.alloc (.cells #[.int .i64 e.key.f0, .bool e.key.f1.f0, .slice A2 e.key.f1.f1.length c2, .int .i64 e.key.f1.f2, .string e.key.f2, .slice A5 e.key.f3.length c5, .slice A6 e.key.f4.length c6, .int .i64 e.val.f0, .bool e.val.f1.f0, .slice B2 e.val.f1.f1.length d2, .int .i64 e.val.f1.f2, .string e.val.f2, .slice B5 e.val.f3.length d5, .slice B6 e.val.f4.length d6] 81) := ⟨_, rfl⟩
      have hbx : W5.heap[wr.heap.size]? = some (.cells #[.int .i64 e.key.f0, .bool e.key.f1.f0, .slice A2 e.key.f1.f1.length c2, .int .i64 e.key.f1.f2, .string e.key.f2, .slice A5 e.key.f3.length c5, .slice A6 e.key.f4.length c6, .int .i64 e.val.f0, .bool e.val.f1.f0, .slice B2 e.val.f1.f1.length d2, .int .i64 e.val.f1.f2, .string e.val.f2, .slice B5 e.val.f3.length d5, .slice B6 e.val.f4.length d6] 81 (0, 0)) := by rw [hW5]; exact blk_new _ _
      have hb5 : Below wr.heap.size wr W5 := by rw [hW5]; exact (Below.refl _ _).alloc (Nat.le_refl _) _
      obtain ⟨rows, hrl, hR, hrk⟩ := HM.out.ex
      have HR5 := Lib.hid (Kd.R_below hR hb5)
      have HRL := Lib.hid hrl
      have HRK := Lib.hid hrk
      have HBW := Lib.hid (HM.out.below.trans (hb5.mono HM.out.below.size))
      have HSZ : Hid (w3.heap.size ≤ W5.heap.size) := Lib.hid (HBW.out.size)
      have HW5 := Lib.hid hW5
      obtain ⟨hc5, hf5⟩ := bcells hbx (Below.refl _ _)
      obtain ⟨hc0, hf0⟩ := bcells (blk_new wr (.cells #[.int .i64 0, .bool false, .slice none 0 0, .int .i64 0, .string ⟨#[]⟩, .slice none 0 0, .slice none 0 0, .int .i64 0, .bool false, .slice none 0 0, .int .i64 0, .string ⟨#[]⟩, .slice none 0 0, .slice none 0 0] 81)) (Below.refl _ _)
      clear hKv hKk hSk hW5 hbx hb5 hrl hR hrk HP HSC HVAL HDONE HM2 HASK
      go_upto_region 8 with (fail)
      rw [← HW5.out]
      clear hc0 hf0 p0 p1 p2 p3 p4 p5 p6 p7 p8 p9 p10 p11 p12 p13
      go_wp2_with (at_builtin; refine Kd.R_append (Kd.raw 7) (w0 := w3) w3.heap.size rfl (.tmp 25) (.tmp 28) 22 34 (.agg #[.int .i64 0, .bool false, .slice none 0 0, .int .i64 0, .string ⟨#[]⟩, .slice none 0 0, .slice none 0 0]) 112 rfl Tryz.underlying22 infoV_ rfl (by decide) (by decide) (.slice G k cap) rows _ _ (fun _ => True) (fun _ => False) rfl rfl ⟨rfl, rfl, HONE.out⟩ (fun _ h => h.elim) (fun _ _ => trivial) HR5.out HBW.out HSZ.out (by rw [HRL.out]; omega) ?_; intro v1 w7 hR7 hB7 hg7 hat7; obtain ⟨G7, cap7, rfl⟩ := Kd.R_slice hR7)
      have hl7 : (rows ++ [[.int .i64 e.val.f0, .bool e.val.f1.f0, .slice B2 e.val.f1.f1.length d2, .int .i64 e.val.f1.f2, .string e.val.f2, .slice B5 e.val.f3.length d5, .slice B6 e.val.f4.length d6]] : List (List Value)).length = k + 1 := by rw [List.length_append, HRL.out]; rfl
      have hM7 : OutMid w1 w3 w7 S (.slice G7 (k + 1) cap7) (k + 1) := ⟨⟨_, hl7, by rw [hl7] at hR7; exact hR7, fun j e2 r hj hr => by
       rcases Nat.lt_or_ge j k with h | h
       · rw [List.getElem?_append_left (by rw [HRL.out]; exact h)] at hr
         exact HRK.out j e2 r hj hr
       · have hjl := (List.getElem?_eq_some_iff.1 hr).1
         rw [hl7] at hjl
         obtain rfl : j = k := by omega
         rw [List.getElem?_append_right (by rw [HRL.out]; exact Nat.le_refl _), HRL.out, Nat.sub_self] at hr
         have hr2 := (Option.some.inj hr).symm
         have he2 : e = e2 := Option.some.inj (HSK.out.symm.trans hj)
         subst he2
         rw [hr2]
         exact HKV.out⟩, hB7⟩
      exact ⟨⟨k + 1, G7, cap7, hlt, rfl, by rw [HRL.out], Lib.hid hM7⟩, by show n - (k + 1) < n - k; omega⟩
    · obtain rfl : k = n := by omega
      have hlt2 : ¬ (k : Int) < (k : Int) := by omega
      have hw13 : Below w.heap.size w w3 := HB1.out.trans (HB3.out.mono HB1.out.size)
      obtain ⟨hcc, hrd⟩ := HM.out.reads HS3.out.len HB3.out
      have hln : (S.map PEl.val).length = k := by rw [List.length_map]; exact HS3.out.len
      have hbr : Below w.heap.size w wr := hw13.trans (HM.out.below.mono hw13.size)
      have hcl := Clones_any (S.map PEl.val) G cap wr (by rw [hln]; exact hcc) hrd (HVAL.out _ _ _ _ HS3.out) (by omega)
      rw [hln] at hcl
      have HCL := Lib.hid hcl
      have HBR := Lib.hid hbr
      clear hw13 hcc hrd hln hbr hcl HASK HP HSC HVAL
      go_wp2_with (go_at_call 50; (with_reducible refine (HCL.out).mono ?_); rintro e w5 ⟨v5, rfl, hR5, hB5⟩; have HR5 := Lib.hid hR5; have HB5 := Lib.hid hB5; clear hR5 hB5)
      go_ret2
      exact HDONE.out _ _ _ _ _ _ HS3.out (Kd.R_lower HR5.out HBR.out.size) (HBR.out.trans (HB5.out.mono HBR.out.size))
 · have HR := Lib.hid h0
   have hn : (lask l ks != 0) = true := by simp [h0]
   have HD : Hid (∀ w', Below w.heap.size w w' → SortDone l ks w (.returned (.tuple #[.slice none 0 0, .int .i64 (lask l ks)])) w') := Lib.hid (fun w' hb => ⟨.inl ⟨h0, rfl⟩, hb⟩)
   generalize lask l ks = r at *
   clear hA hB hO hO2 hLD h0 h1
   go_enter Tryz.func22, Tryz.ntmps22
   go_wp2_with (go_at_call 46; (with_reducible refine (HASK.out).mono ?_); rintro e w1 ⟨rfl, hB1⟩; have HB1 := Lib.hid hB1; clear hB1)
   go_ret2
   exact HD.out _ HB1.out
theorem Sort_any (l : List V) (A : Option Addr) (c : Nat) (w : World) (hLD : LaidW w) (hA : k34.C w A l.length l) (hO : ∀ x ∈ l, OkV x) (h1 : l.length ≤ 1048576) :
 Calls Tryz.prog 11 #[.slice A l.length c] w (SortDone l l w) := by
 have HS := Lib.hid (sortBy_any l l A A c c w hLD hA hA hO hO h1)
 clear hA hO hLD
 go_enter Tryz.func11, Tryz.ntmps11
 go_wp2_with (go_at_call 22; (with_reducible refine (HS.out).mono ?_); rintro e w1 ⟨(⟨h0, rfl⟩ | ⟨h0, v, ys, rfl, hs, hr⟩), hB⟩)
 · go_ret2
   exact ⟨.inl ⟨h0, rfl⟩, hB⟩
 · go_ret2
   exact ⟨.inr ⟨h0, v, ys, rfl, hs, hr⟩, hB⟩
def bestTo (p : V → V → Bool) (ks : List V) : Nat → Nat
 | 0 => 0
 | k + 1 => if p (rd_T34 ks (k : Int)) (rd_T34 ks (bestTo p ks k : Nat)) = true then k else bestTo p ks k
theorem bestTo_le (p : V → V → Bool) (ks : List V) : ∀ k, bestTo p ks k ≤ k
 | 0 => Nat.le_refl _
 | k + 1 => by
  have := bestTo_le p ks k
  rw [bestTo]
  split <;> omega
theorem bestTo_lt (p : V → V → Bool) (ks : List V) : ∀ k, 0 < k → bestTo p ks k < k
 | k + 1, _ => by
  have := bestTo_le p ks k
  rw [bestTo]
  split <;> omega
def leastP (x y : V) : Bool := decide (vord x y < 0)
def mostP (x y : V) : Bool := decide (vord x y ≥ 0)
def lbest (p : V → V → Bool) (l ks : List V) : Int × Int := if lask l ks ≠ 0 then (0, lask l ks) else if l.length = 0 then (0, 71) else (((bestTo p ks ks.length : Nat) : Int), 0)
end Go.Proofs.YtmfpakolfpoamaaGreatDoor.P

/- Texts of this claim, one behind the other. -/
import Derived.Test.YtdgebcgcabhjoaaDoorMd
import Derived.WalkLawsBesides
import Derived.Deep.RegionLaw
import Derived.Test.YtdgebcgcabhjoaaDoorMa
import Derived.Test.YtdgebcgcabhjoaaDoorRows
import Derived.ChangeArms
import Derived.ChangeSlices
import Derived.DataReads
import Derived.DataElems
/- bolterref05.Own, bolterplain.Copies by value. -/
namespace Go.Proofs.YtdgebcgcabhjoaaDoor.P
set_option linter.unusedVariables false
set_option linter.unusedSimpArgs false
open Go.RowKit Go.Proofs.YtdgebcgcabhjoaaDoorW.PrintWords Go.Proofs.YtdgebcgcabhjoaaDoorW.PrintMore Go.Proofs.YtdgebcgcabhjoaaDoorW.PrintLast
/-- What bolterref05.Own has behind k parts. -/
structure OwnMid (w wc : World) (x : V) (A2 : Option Addr) (c2 : Nat) (A5 : Option Addr) (c5 : Nat) (A6 : Option Addr) (c6 : Nat) (B2 : Option Addr) (d2 : Nat) (B6 : Option Addr) (d6 : Nat) (B5 : Option Addr) (d5 : Nat) (k : Nat) : Prop where
  box : wc.heap[w.heap.size]? = some (.cells #[.int .i64 x.f0, .bool x.f1.f0, .slice A2 x.f1.f1.length c2, .int .i64 x.f1.f2, .string x.f2, .slice A5 x.f3.length c5, .slice A6 x.f4.length c6] 34 (0, 0))
  res : wc.heap[w.heap.size + 1]? = some (.cells #[.int .i64 0, .bool false, .slice none 0 0, .int .i64 0, .string ⟨#[]⟩, .slice none 0 0, .slice none 0 0] 34 (0, 0))
  out : wc.heap[w.heap.size + 2]? = some (.cells #[.int .i64 x.f0, .bool x.f1.f0, .slice B2 x.f1.f1.length d2, .int .i64 x.f1.f2, .string x.f2, .slice B5 k d5, .slice B6 x.f4.length d6] 34 (0, 0))
  r2 : (Kd.int .u32).R 63 wc (w.heap.size + 3) (fun _ => True) (.slice B2 x.f1.f1.length d2) x.f1.f1
  r5 : k34.R 34 wc (w.heap.size + 3) (fun _ => True) (.slice B5 k d5) (x.f3.take k)
  r6 : Kd.string.R 9 wc (w.heap.size + 3) (fun _ => True) (.slice B6 x.f4.length d6) x.f4
  below : Below w.heap.size w wc
theorem own_step {w wr Wd w5 w7 : World} {x : V} {A2 A5 A6 B2 B5 B6 : Option Addr} {c2 c5 c6 d2 d5 d6 k : Nat} {v1 : Value} (hM : OwnMid w wr x A2 c2 A5 c5 A6 c6 B2 d2 B6 d6 B5 d5 k) (hlt : k < x.f3.length)
    (hWd : Below wr.heap.size wr Wd) (hB5 : Below Wd.heap.size Wd w5) (hR : k34.R 34 w7 (w.heap.size + 3) (fun _ => True) v1 (x.f3.take k ++ [rd_T34 x.f3 (k : Int)])) (hB7 : Below (w.heap.size + 3) w5 w7) (hg : w5.grownBy w7 (Value.slice B5 k d5).ownBlock) :
    ∃ B d, v1 = .slice B (k + 1) d ∧ OwnMid w (w7.setCell ⟨w.heap.size + 2, 5, none⟩ v1) x A2 c2 A5 c5 A6 c6 B2 d2 B6 d6 B d (k + 1) := by
  obtain ⟨B, d, rfl⟩ := Kd.R_slice hR
  have hk : (x.f3.take k ++ [rd_T34 x.f3 (k : Int)]) = x.f3.take (k + 1) := by
    rw [List.take_succ_eq_append_getElem hlt]
    unfold rd_T34
    simp [hlt]
  have hl : (x.f3.take k ++ [rd_T34 x.f3 (k : Int)]).length = k + 1 := by simp; omega
  rw [hl] at hR ⊢
  rw [hk] at hR
  have h5 : Below wr.heap.size wr w5 := hWd.trans (hB5.mono hWd.size)
  have sz := blk_lt hM.out
  have h5s := h5.size
  have old : ∀ {g o}, g < w.heap.size + 3 → wr.heap[g]? = some o → w7.heap[g]? = some o := fun hg' h => (hB7.block _ hg').trans (blk_below3 h h5)
  have mv : ∀ {α : Type} {D : Kd α} {e : Nat} {v : Value} {xs : List α}, D.R e w7 (w.heap.size + 3) (fun _ => True) v xs → D.R e (w7.setCell ⟨w.heap.size + 2, 5, none⟩ (.slice B (k + 1) d)) (w.heap.size + 3) (fun _ => True) v xs := fun h =>
    Kd.R_mono (Kd.R_move (Kd.R_bound h) (fun j hj => Below.heap_setCell _ _ _ _ (by simp; omega))) (fun _ _ => trivial)
  have hty := Kd.R_typed (Kd.R_below hM.r5 h5)
  refine ⟨B, d, rfl, ?_, ?_, ?_, ?_, ?_, ?_, ?_⟩
  · exact blk_far (old (by omega) hM.box) (by simp) _
  · exact blk_far (old (by omega) hM.res) (by simp) _
  · have h1 := blk_set (old (by omega) hM.out) 5 (.slice B (k + 1) d)
    rw [h1]
    rfl
  · exact mv (Kd.R_over' (Kd.R_below hM.r2 h5) hty (by decide) hg)
  · exact mv hR
  · exact mv (Kd.R_over' (Kd.R_below hM.r6 h5) hty (by decide) hg)
  · exact ((below_go hM.below h5).trans (hB7.mono (by omega))).setCell (p := ⟨w.heap.size + 2, 5, none⟩) (by simp) _
theorem own_first {w W3 w1 w6 : World} {x : V} {A2 A5 A6 B2 B6 : Option Addr} {c2 c5 c6 d2 d6 : Nat} (hA : Below w.heap.size w W3) (hz : W3.heap.size = w.heap.size + 3)
    (hx : W3.heap[w.heap.size]? = some (.cells #[.int .i64 x.f0, .bool x.f1.f0, .slice A2 x.f1.f1.length c2, .int .i64 x.f1.f2, .string x.f2, .slice A5 x.f3.length c5, .slice A6 x.f4.length c6] 34 (0, 0))) (hy : W3.heap[w.heap.size + 1]? = some (.cells #[.int .i64 0, .bool false, .slice none 0 0, .int .i64 0, .string ⟨#[]⟩, .slice none 0 0, .slice none 0 0] 34 (0, 0))) (ho : W3.heap[w.heap.size + 2]? = some (.cells #[.int .i64 x.f0, .bool x.f1.f0, .slice none 0 0, .int .i64 x.f1.f2, .string x.f2, .slice none 0 0, .slice none 0 0] 34 (0, 0)))
    (hR2 : (Kd.int .u32).R 63 w1 (w.heap.size + 3) (fun _ => True) (.slice B2 x.f1.f1.length d2) x.f1.f1) (hB1 : Below (w.heap.size + 3) W3 w1)
    (hR6 : Kd.string.R 9 w6 (w.heap.size + 3) (fun _ => True) (.slice B6 x.f4.length d6) x.f4) (hB6 : Below (w.heap.size + 3) (w1.setCell ⟨w.heap.size + 2, 2, none⟩ (.slice B2 x.f1.f1.length d2)) w6)
    (hg6 : (w1.setCell ⟨w.heap.size + 2, 2, none⟩ (.slice B2 x.f1.f1.length d2)).grownBy w6 none) :
    OwnMid w (w6.setCell ⟨w.heap.size + 2, 6, none⟩ (.slice B6 x.f4.length d6)) x A2 c2 A5 c5 A6 c6 B2 d2 B6 d6 none 0 0 := by
  have hs1 := hB1.size
  have old : ∀ {g o}, g < w.heap.size + 3 → W3.heap[g]? = some o → w1.heap[g]? = some o := fun hg' h => (hB1.block _ hg').trans h
  have old6 : ∀ {g o}, g < w.heap.size + 3 → (w1.setCell ⟨w.heap.size + 2, 2, none⟩ (.slice B2 x.f1.f1.length d2)).heap[g]? = some o → w6.heap[g]? = some o := fun hg' h => (hB6.block _ hg').trans h
  have mv : ∀ {W : World} {α : Type} {D : Kd α} {e : Nat} {v : Value} {xs : List α} (i : Nat) (u : Value), D.R e W (w.heap.size + 3) (fun _ => True) v xs → D.R e (W.setCell ⟨w.heap.size + 2, i, none⟩ u) (w.heap.size + 3) (fun _ => True) v xs := fun i u h =>
    Kd.R_mono (Kd.R_move (Kd.R_bound h) (fun j hj => Below.heap_setCell _ _ _ _ (by simp; omega))) (fun _ _ => trivial)
  refine ⟨?_, ?_, ?_, ?_, ?_, ?_, ?_⟩
  · exact blk_far (old6 (by omega) (blk_far (old (by omega) hx) (by simp) _)) (by simp) _
  · exact blk_far (old6 (by omega) (blk_far (old (by omega) hy) (by simp) _)) (by simp) _
  · have h1 := blk_set (old6 (by omega) (blk_set (old (by omega) ho) 2 (.slice B2 x.f1.f1.length d2))) 6 (.slice B6 x.f4.length d6)
    rw [h1]
    rfl
  · exact mv _ _ (Kd.R_mono (Kd.R_grown (Kd.R_bound (mv 2 _ hR2)) hg6 (fun k _ => by simp)) (fun _ _ => trivial))
  · rw [List.take_zero]
    exact Kd.R_nil _ _ _ _ _
  · exact mv _ _ hR6
  · have hw : Below w.heap.size w (w1.setCell ⟨w.heap.size + 2, 2, none⟩ (.slice B2 x.f1.f1.length d2)) := (hA.trans (hB1.mono (by omega))).setCell (p := ⟨w.heap.size + 2, 2, none⟩) (by simp) _
    exact (hw.trans (hB6.mono (by omega))).setCell (p := ⟨w.heap.size + 2, 6, none⟩) (by simp) _
theorem own_end {w wr : World} {x : V} {A2 A5 A6 B2 B5 B6 : Option Addr} {c2 c5 c6 d2 d5 d6 : Nat} (hM : OwnMid w wr x A2 c2 A5 c5 A6 c6 B2 d2 B6 d6 B5 d5 x.f3.length) :
    k34.M (wr.setCells (w.heap.size + 1) 0 [.int .i64 x.f0, .bool x.f1.f0, .slice B2 x.f1.f1.length d2, .int .i64 x.f1.f2, .string x.f2, .slice B5 x.f3.length d5, .slice B6 x.f4.length d6]) w.heap.size (fun _ => True) x [.int .i64 x.f0, .bool x.f1.f0, .slice B2 x.f1.f1.length d2, .int .i64 x.f1.f2, .string x.f2, .slice B5 x.f3.length d5, .slice B6 x.f4.length d6] ∧ Below w.heap.size w (wr.setCells (w.heap.size + 1) 0 [.int .i64 x.f0, .bool x.f1.f0, .slice B2 x.f1.f1.length d2, .int .i64 x.f1.f2, .string x.f2, .slice B5 x.f3.length d5, .slice B6 x.f4.length d6]) ∧ (wr.setCells (w.heap.size + 1) 0 [.int .i64 x.f0, .bool x.f1.f0, .slice B2 x.f1.f1.length d2, .int .i64 x.f1.f2, .string x.f2, .slice B5 x.f3.length d5, .slice B6 x.f4.length d6]).heap[w.heap.size + 1]? = some (.cells #[.int .i64 x.f0, .bool x.f1.f0, .slice B2 x.f1.f1.length d2, .int .i64 x.f1.f2, .string x.f2, .slice B5 x.f3.length d5, .slice B6 x.f4.length d6] 34 (0, 0)) := by
  have far : ∀ j, j ≠ w.heap.size + 1 → (wr.setCells (w.heap.size + 1) 0 [.int .i64 x.f0, .bool x.f1.f0, .slice B2 x.f1.f1.length d2, .int .i64 x.f1.f2, .string x.f2, .slice B5 x.f3.length d5, .slice B6 x.f4.length d6]).heap[j]? = wr.heap[j]? := fun j hj => setCells_far _ _ j hj
  have mv : ∀ {α : Type} {d : Kd α} {e : Nat} {v : Value} {xs : List α}, d.R e wr (w.heap.size + 3) (fun _ => True) v xs → d.R e (wr.setCells (w.heap.size + 1) 0 [.int .i64 x.f0, .bool x.f1.f0, .slice B2 x.f1.f1.length d2, .int .i64 x.f1.f2, .string x.f2, .slice B5 x.f3.length d5, .slice B6 x.f4.length d6]) w.heap.size (fun _ => True) v xs := fun h =>
    Kd.R_lower (Kd.R_mono (Kd.R_move (Kd.R_bound h) (fun j hj => far j (by omega))) (fun _ _ => trivial)) (by omega)
  have hk := setCells_same (w.heap.size + 1) [.int .i64 x.f0, .bool x.f1.f0, .slice B2 x.f1.f1.length d2, .int .i64 x.f1.f2, .string x.f2, .slice B5 x.f3.length d5, .slice B6 x.f4.length d6] 0 wr
  have h5 := hM.r5
  rw [List.take_length] at h5
  refine ⟨k34_mkM _ _ _ x (mv hM.r2) (mv h5) (mv hM.r6), ?_, ?_⟩
  · exact hM.below.trans ⟨hk.1, hk.2.1, hk.2.2.1, Nat.le_of_eq hk.2.2.2.symm, fun j hj => far j (by omega)⟩
  · obtain ⟨cur, h1, h2, h3⟩ := setCells_row [.int .i64 x.f0, .bool x.f1.f0, .slice B2 x.f1.f1.length d2, .int .i64 x.f1.f2, .string x.f2, .slice B5 x.f3.length d5, .slice B6 x.f4.length d6] 0 wr _ hM.res (by simp)
    rw [h1]
    have : cur = #[.int .i64 x.f0, .bool x.f1.f0, .slice B2 x.f1.f1.length d2, .int .i64 x.f1.f2, .string x.f2, .slice B5 x.f3.length d5, .slice B6 x.f4.length d6] := by rw [← Array.toList_inj, h3]; simp
    rw [this]
theorem M_for {α β : Type} {d : Kd α} {d' : Kd β} {e base : Nat} {ok' : Nat → Prop} {W w5 : World} {v : Value} {xs : List β} {x : α} {cs : List Value} (hu : d'.R e W base ok' v xs) (h : d.M w5 W.heap.size (fun _ => True) x cs) (hb : base ≤ W.heap.size) : d.M w5 base (fun j => True ∧ some j ≠ v.ownBlock) x cs := by
  obtain ⟨inner, ho⟩ := Kd.R_own hu
  exact d.M_lower hb (Kd.M_new h ho)
set_option maxHeartbeats 4000000 in
set_option maxRecDepth 100000 in
theorem Own_any : ∀ (x : V) (cs : List Value) (w : World), k34.K w x cs → OkV x →
    Calls Tryd.prog 12 #[.agg cs.toArray] w fun e w' => ∃ cs', e = .returned (.agg cs'.toArray) ∧ k34.M w' w.heap.size (fun _ => True) x cs' ∧ Below w.heap.size w w' := by
  refine V.ind fun x ih => ?_
  intro cs w hK hO
  obtain ⟨A2, c2, A5, c5, A6, c6, rfl, l2, g2, l5, g5, l6, g6⟩ := k34_open hK
  have HO := Lib.hid hO
  have n1 := hO.len1
  have n3 := hO.len3
  have n4 := hO.len4
  have IH := Lib.hid ih
  obtain ⟨W3, hW3⟩ : ∃ W3, W3 = ((w.alloc (.cells #[.int .i64 x.f0, .bool x.f1.f0, .slice A2 x.f1.f1.length c2, .int .i64 x.f1.f2, .string x.f2, .slice A5 x.f3.length c5, .slice A6 x.f4.length c6] 34)).alloc (.cells #[.int .i64 0, .bool false, .slice none 0 0, .int .i64 0, .string ⟨#[]⟩, .slice none 0 0, .slice none 0 0] 34)).alloc (.cells #[.int .i64 x.f0, .bool x.f1.f0, .slice none 0 0, .int .i64 x.f1.f2, .string x.f2, .slice none 0 0, .slice none 0 0] 34) := ⟨_, rfl⟩
  have hz : W3.heap.size = w.heap.size + 3 := by rw [hW3]; simp
  have hA : Below w.heap.size w W3 := by rw [hW3]; exact (((Below.refl _ _).alloc (Nat.le_refl _) _).alloc (by simp) _).alloc (by simp; omega) _
  have hx : W3.heap[w.heap.size]? = some (.cells #[.int .i64 x.f0, .bool x.f1.f0, .slice A2 x.f1.f1.length c2, .int .i64 x.f1.f2, .string x.f2, .slice A5 x.f3.length c5, .slice A6 x.f4.length c6] 34 (0, 0)) := by rw [hW3]; exact blk_alloc (blk_alloc (blk_new _ _) _) _
  have hy : W3.heap[w.heap.size + 1]? = some (.cells #[.int .i64 0, .bool false, .slice none 0 0, .int .i64 0, .string ⟨#[]⟩, .slice none 0 0, .slice none 0 0] 34 (0, 0)) := by rw [hW3]; have := blk_new (w.alloc (.cells #[.int .i64 x.f0, .bool x.f1.f0, .slice A2 x.f1.f1.length c2, .int .i64 x.f1.f2, .string x.f2, .slice A5 x.f3.length c5, .slice A6 x.f4.length c6] 34)) (.cells #[.int .i64 0, .bool false, .slice none 0 0, .int .i64 0, .string ⟨#[]⟩, .slice none 0 0, .slice none 0 0] 34); rw [World.size_alloc] at this; exact blk_alloc this _
  have ho : W3.heap[w.heap.size + 2]? = some (.cells #[.int .i64 x.f0, .bool x.f1.f0, .slice none 0 0, .int .i64 x.f1.f2, .string x.f2, .slice none 0 0, .slice none 0 0] 34 (0, 0)) := by rw [hW3]; have := blk_new ((w.alloc (.cells #[.int .i64 x.f0, .bool x.f1.f0, .slice A2 x.f1.f1.length c2, .int .i64 x.f1.f2, .string x.f2, .slice A5 x.f3.length c5, .slice A6 x.f4.length c6] 34)).alloc (.cells #[.int .i64 0, .bool false, .slice none 0 0, .int .i64 0, .string ⟨#[]⟩, .slice none 0 0, .slice none 0 0] 34)) (.cells #[.int .i64 x.f0, .bool x.f1.f0, .slice none 0 0, .int .i64 x.f1.f2, .string x.f2, .slice none 0 0, .slice none 0 0] 34); rw [World.size_alloc, World.size_alloc] at this; exact this
  have HA := Lib.hid hA
  have HX := Lib.hid hx
  have HY := Lib.hid hy
  have HE := Lib.hid ho
  have HZ := Lib.hid hz
  have HC2 := Lib.hid (Kd.C_below g2 hA)
  have HX5 := Lib.hid g5
  have HX6 := Lib.hid g6
  have HW3 := Lib.hid hW3
  clear ih hK hO g2 g5 g6 hA hx hy ho hz hW3
  rw [HW3.out] at HA HX HY HE HZ HC2
  go_enter Tryd.func12, Tryd.ntmps12
  go_wp2_with (first
    | (at_builtin; refine Kd.R_append_row (Value.int .u32) (0 : Int) (w.heap.size + 3) rfl (.tmp 12) (.tmp 15) 29 63 (.int .u32 0) 4 rfl Tryd.underlying29 infoU_ rfl (by decide) _ [] _ _ _ _ (fun _ => True) rfl rfl (fun _ _ => trivial) (Kd.R_nil _ _ _ _ _) HC2.out (Below.refl _ _) (by simp) (by simp; omega) ?_; intro v1 w1 hR1 hB1 hg1 hat1; obtain ⟨B2, d2, rfl⟩ := Kd.R_slice hR1; rw [List.nil_append] at hR1 ⊢; obtain ⟨hc0, hf0⟩ := bcells HX.out (hB1.mono (by rw [HZ.out]; omega)); obtain ⟨hc2, hf2⟩ := bcells HE.out (hB1.mono (by rw [HZ.out]; omega)))
    | (at_builtin; have hs1 := hB1.size; rw [HZ.out] at hs1; have hW4 : Below w.heap.size w (w1.setCell ⟨w.heap.size + 1 + 1, 2, none⟩ (.slice B2 x.f1.f1.length d2)) := (HA.out.trans (hB1.mono (by omega))).setCell (p := ⟨w.heap.size + 1 + 1, 2, none⟩) (by show w.heap.size ≤ w.heap.size + 1 + 1; omega) _; have ho4 := blk_set (blk_below2 HE.out (hB1.mono (by rw [HZ.out]; exact Nat.le_refl _))) 2 (.slice B2 x.f1.f1.length d2); refine Kd.R_append_row (Value.string) (⟨#[]⟩ : ByteArray) (w.heap.size + 3) rfl (.tmp 20) (.tmp 22) 32 9 (.string ⟨#[]⟩) 16 rfl Tryd.underlying32 infoS_ rfl (by decide) _ [] _ _ _ _ (fun _ => True) rfl rfl (fun _ _ => trivial) (Kd.R_nil _ _ _ _ _) (Kd.C_below HX6.out hW4) (Below.refl _ _) (by rw [World.size_setCell]; exact hs1) (by simp; omega) ?_; intro v6 w6 hR6 hB6 hg6 hat6; obtain ⟨B6, d6, rfl⟩ := Kd.R_slice hR6; rw [List.nil_append] at hR6 ⊢; have ho6 := (hB6.block _ (by omega)).trans ho4; obtain ⟨hc6, hf6⟩ := bcells ho6 (Below.refl _ _); have hm := own_first HA.out HZ.out HX.out HY.out HE.out hR1 hB1 hR6 hB6 hg6))
  have HM := Lib.hid hm
  clear hR1 hB1 hg1 hc0 hf0 hc2 hf2 hR6 hB6 hg6 hc6 hf6 hat1 hat6 hm hW4 ho4 ho6 hs1 HC2
  go_loopw [4] (fun vi wr => ∃ (k : Nat) (B5 : Option Addr) (d5 : Nat), k ≤ x.f3.length ∧ vi = .int .i64 k ∧ Hid (OwnMid w wr x A2 c2 A5 c5 A6 c6 B2 d2 B6 d6 B5 d5 k)) (fun vi _ => x.f3.length - (intOf vi).toNat)
  case atStart => exact ⟨0, none, 0, Nat.zero_le _, rfl, HM⟩
  case round =>
    clear HM
    obtain ⟨k, B5, d5, hk, rfl, hM⟩ := hrel
    have hbx := blk_cell hM.out.box
    have hbf := blk_frozen hM.out.box
    have hox := blk_cell hM.out.out
    have hof := blk_frozen hM.out.out
    by_cases hlt : k < x.f3.length
    · obtain ⟨ad, a0, a1, a2, a3, a4, a5, a6, rfl, hKa, p0, p1, p2, p3, p4, p5, p6⟩ := at_V HX5.out hM.out.below k hlt
      have hmem : rd_T34 x.f3 (k : Int) ∈ x.f3 := by unfold rd_T34; simp [hlt]
      have HKA := Lib.hid hKa
      have HC := Lib.hid (IH.out _ hmem)
      have HOk := Lib.hid (HO.out.kids _ hmem)
      have hw : wrap64 ((k : Int) + 1) = ((k + 1 : Nat) : Int) := by unfold wrap64; omega
      have hlt1 : (k : Int) < (x.f3.length : Int) := by omega
      clear hKa hmem
      go_upto_region 8 with (fail)
      have HWD : Hid (Below wr.heap.size wr wr.drew) := Lib.hid (below_drew (Below.refl _ _))
      have HOD := Lib.hid (blk_below2 hM.out.out HWD.out)
      have hszd := blk_lt HOD.out
      have HRD := Lib.hid (Kd.R_below hM.out.r5 HWD.out)
      go_region_law (first
        | (refine Kd.R_append_step k34 (w0 := w5) (w.heap.size + 3) (by simp [Region.wanted]) (.tmp 33) (.tmp 40) 22 34 (.agg #[.int .i64 0, .bool false, .slice none 0 0, .int .i64 0, .string ⟨#[]⟩, .slice none 0 0, .slice none 0 0]) 112 rfl Tryd.underlying22 infoV_ rfl (by decide) (by omega) (.slice B5 k d5) (x.f3.take k) (rd_T34 x.f3 (k : Int)) [.int .i64 (rd_T34 x.f3 (k : Int)).f0, .bool (rd_T34 x.f3 (k : Int)).f1.f0, .slice E2 (rd_T34 x.f3 (k : Int)).f1.f1.length s2, .int .i64 (rd_T34 x.f3 (k : Int)).f1.f2, .string (rd_T34 x.f3 (k : Int)).f2, .slice E5 (rd_T34 x.f3 (k : Int)).f3.length s5, .slice E6 (rd_T34 x.f3 (k : Int)).f4.length s6] (fun _ => True) (fun j => True ∧ some j ≠ (Value.slice B5 k d5).ownBlock) rfl rfl hMF (fun _ hk => hk) (fun _ _ => trivial) (Kd.R_below HRD.out hB5) (Below.refl _ _) hsz5 (by rw [List.length_take]; omega) ?_; intro v1 w7 hR7 hB7 hg7 hat7; obtain ⟨B7, d7, rfl, hm7⟩ := own_step hM.out hlt HWD.out hB5 hR7 hB7 hg7; obtain ⟨ho7, hfo7⟩ := bcells ((hB7.block _ (by omega)).trans (blk_below2 HOD.out hB5)) (Below.refl _ _))
        | (go_simp; go_at_call 12; refine (HC.out [a0, a1, a2, a3, a4, a5, a6] _ (k34.K_below (below_drew hM.out.below) HKA.out) HOk.out).mono ?_; rintro e w5 ⟨cs5, rfl, hM5, hB5⟩; have hsz5 : w.heap.size + 3 ≤ w5.heap.size := by { have := hB5.size; omega }; have hMF := M_for HRD.out hM5 (by omega); obtain ⟨v2, v5, v6, rfl, r2, r5, r6⟩ := k34_openM hM5; obtain ⟨E2, s2, rfl⟩ := Kd.R_slice r2; obtain ⟨E5, s5, rfl⟩ := Kd.R_slice r5; obtain ⟨E6, s6, rfl⟩ := Kd.R_slice r6; obtain ⟨ho5, hfo5⟩ := bcells HOD.out hB5; have hoa := fun (o : Obj) => (bcells (blk_alloc (blk_below2 HOD.out hB5) o) (Below.refl _ _)).1))
      all_goals
        replace hm7 : OwnMid w (w7.setCell ⟨w.heap.size + 1 + 1, 5, none⟩ (.slice B7 (k + 1) d7)) x A2 c2 (some ad) c5 A6 c6 B2 d2 B6 d6 B7 d7 (k + 1) := hm7
        generalize w7.setCell ⟨w.heap.size + 1 + 1, 5, none⟩ (.slice B7 (k + 1) d7) = W8 at hm7 ⊢
        have HM8 := Lib.hid hm7
        clear hm7 ho7 hfo7 hoa ho5 hfo5 hMF hM5 hB5 r2 r5 r6 hR7 hB7 hg7 hat7 HRD HOD HWD hszd hsz5 p0 p1 p2 p3 p4 p5 p6 hbx hbf hox hof hM HKA HC HOk IH HO HX5 HX6 l2 l5 l6
        rename_i qa ka aa qb kb ab
        refine ab _ _ ?_
        go_wp2_with fail
        exact ⟨⟨k + 1, B7, d7, hlt, rfl, HM8⟩, by show x.f3.length - (k + 1) < x.f3.length - k; clear hw; omega⟩
    · obtain rfl : k = x.f3.length := by omega
      have hrx := blk_cell hM.out.res
      have hrf := blk_frozen hM.out.res
      have hfin := own_end hM.out
      clear IH HO HX5 HX6 l2 l5 l6
      go_wp2
      rw [setCells7] at hfin
      obtain ⟨W7, hW7⟩ : ∃ W7, W7 = (((((((wr.setCell ⟨w.heap.size + 1, 0, none⟩ (.int .i64 x.f0)).setCell ⟨w.heap.size + 1, 1, none⟩ (.bool x.f1.f0)).setCell ⟨w.heap.size + 1, 2, none⟩ (.slice B2 x.f1.f1.length d2)).setCell ⟨w.heap.size + 1, 3, none⟩ (.int .i64 x.f1.f2)).setCell ⟨w.heap.size + 1, 4, none⟩ (.string x.f2)).setCell ⟨w.heap.size + 1, 5, none⟩ (.slice B5 x.f3.length d5)).setCell ⟨w.heap.size + 1, 6, none⟩ (.slice B6 x.f4.length d6)) := ⟨_, rfl⟩
      rw [← hW7]
      have hf2 : k34.M W7 w.heap.size (fun _ => True) x [.int .i64 x.f0, .bool x.f1.f0, .slice B2 x.f1.f1.length d2, .int .i64 x.f1.f2, .string x.f2, .slice B5 x.f3.length d5, .slice B6 x.f4.length d6] ∧ Below w.heap.size w W7 ∧ W7.heap[w.heap.size + 1]? = some (.cells #[.int .i64 x.f0, .bool x.f1.f0, .slice B2 x.f1.f1.length d2, .int .i64 x.f1.f2, .string x.f2, .slice B5 x.f3.length d5, .slice B6 x.f4.length d6] 34 (0, 0)) := by rw [hW7]; exact hfin
      clear hfin hW7 hbx hbf hrx hrf hM hox hof
      obtain ⟨hm, hbw, hre⟩ := hf2
      have hrc := blk_cell hre
      refine bodyPost_ret (v := .agg #[.int .i64 x.f0, .bool x.f1.f0, .slice B2 x.f1.f1.length d2, .int .i64 x.f1.f2, .string x.f2, .slice B5 x.f3.length d5, .slice B6 x.f4.length d6]) ?_ rfl ⟨_, rfl, hm, hbw⟩
      simp [results, Tryd.f12, go_sem, hrc]
end Go.Proofs.YtdgebcgcabhjoaaDoor.P
/- bolterplain.Copies, SameInts, SameLists by value. -/
namespace Go.Proofs.YtdgebcgcabhjoaaDoor.P
set_option linter.unusedVariables false
set_option linter.unusedSimpArgs false
open Go.RowKit Go.Proofs.YtdgebcgcabhjoaaDoorW.PrintWords Go.Proofs.YtdgebcgcabhjoaaDoorW.PrintMore Go.Proofs.YtdgebcgcabhjoaaDoorW.PrintLast
set_option maxHeartbeats 2000000 in
set_option maxRecDepth 100000 in
theorem Copies_any (l : List V) (A : Option Addr) (c : Nat) (w : World) (hA : k34.C w A l.length l) (hO : ∀ x ∈ l, OkV x) (hn : l.length ≤ 1073741824) :
    Calls Tryd.prog 5 #[.slice A l.length c] w fun e w' => ∃ v, e = .returned v ∧ k34.R 34 w' w.heap.size (fun _ => True) v l ∧ Below w.heap.size w w' := by
  have HA := Lib.hid hA
  have HO := Lib.hid hO
  clear hA hO
  go_enter Tryd.func5, Tryd.ntmps5
  go_wp2
  go_loopw [3, 4] (fun vo vi wr => ∃ k : Nat, k ≤ l.length ∧ vi = .int .i64 k ∧ Hid (k34.R 34 wr w.heap.size (fun _ => True) vo (l.take k)) ∧ Below w.heap.size w wr) (fun _ vi _ => l.length - (intOf vi).toNat)
  case atStart => exact ⟨0, Nat.zero_le _, rfl, Lib.hid (by rw [List.take_zero]; exact Kd.R_nil _ _ _ _ _), Below.refl _ _⟩
  case round =>
    obtain ⟨k, hk, rfl, HR, hB⟩ := hrel
    have HB := Lib.hid hB
    have hsz := hB.size
    clear hB
    by_cases hlt : k < l.length
    · obtain ⟨ad, a0, a1, a2, a3, a4, a5, a6, rfl, hKa, p0, p1, p2, p3, p4, p5, p6⟩ := at_V HA.out HB.out k hlt
      have hmem : rd_T34 l (k : Int) ∈ l := by unfold rd_T34; simp [hlt]
      have HC := Lib.hid (Own_any _ [a0, a1, a2, a3, a4, a5, a6] wr (k34.K_below HB.out hKa) (HO.out _ hmem))
      have hw : wrap64 ((k : Int) + 1) = ((k + 1 : Nat) : Int) := by unfold wrap64; omega
      have hk1 : (l.take k ++ [rd_T34 l (k : Int)]) = l.take (k + 1) := by
        rw [List.take_succ_eq_append_getElem hlt]
        unfold rd_T34
        simp [hlt]
      have HK1 := Lib.hid hk1
      clear hKa hmem hk1
      go_wp2_with (first
        | (go_at_call 12; refine HC.out.mono ?_; rintro e w5 ⟨cs5, rfl, hM5, hB5⟩; have hMF := M_for HR.out hM5 hsz; have hR5 := Kd.R_below HR.out hB5; have hsz5 : w.heap.size ≤ w5.heap.size := Nat.le_trans hsz hB5.size; obtain ⟨v2, v5, v6, rfl, r2, r5, r6⟩ := k34_openM hM5; obtain ⟨E2, s2, rfl⟩ := Kd.R_slice r2; obtain ⟨E5, s5, rfl⟩ := Kd.R_slice r5; obtain ⟨E6, s6, rfl⟩ := Kd.R_slice r6)
        | (at_builtin; refine Kd.R_append k34 (w0 := w5) w.heap.size rfl (.tmp 11) (.tmp 17) 22 34 (.agg #[.int .i64 0, .bool false, .slice none 0 0, .int .i64 0, .string ⟨#[]⟩, .slice none 0 0, .slice none 0 0]) 112 rfl Tryd.underlying22 infoV_ rfl (by decide) (by omega) _ _ _ _ (fun _ => True) _ rfl rfl hMF (fun _ hk => hk) (fun _ _ => trivial) hR5 (Below.refl _ _) hsz5 (by rw [List.length_take]; omega) ?_; intro v1 w7 hR7 hB7 hg7 hat7; rw [HK1.out] at hR7; have HR7 := Lib.hid hR7; have HB8 := Lib.hid (HB.out.trans ((hB5.mono hsz).trans hB7)); clear hR7 hB7 hg7 hat7 hMF hM5 hB5 r2 r5 r6 hR5 hsz5))
      go_roundw
      case rel => exact ⟨k + 1, hlt, by go_num, HR7, HB8.out⟩
      case measure => simp [intOf]; omega
    · obtain rfl : k = l.length := by omega
      have hr := HR.out
      rw [List.take_length] at hr
      clear HR
      go_wp2
      go_ret
      exact ⟨_, rfl, hr, HB.out⟩
end Go.Proofs.YtdgebcgcabhjoaaDoor.P
/- bolterplain.SpoilLimbs, SpoilValue: only blocks of a set are written over. -/
namespace Go.Proofs.YtdgebcgcabhjoaaDoor.P
set_option linter.unusedVariables false
set_option linter.unusedSimpArgs false
open Go.RowKit Go.Proofs.YtdgebcgcabhjoaaDoorW.PrintWords Go.Proofs.YtdgebcgcabhjoaaDoorW.PrintMore Go.Proofs.YtdgebcgcabhjoaaDoorW.PrintLast
/-- A slice that leads into a set of rows (block, type, how many). -/
def GoodS (S : Nat → Nat → Nat → Prop) (t : Nat) (v : Value) : Prop := ∃ A m c, v = .slice A m c ∧ m ≤ 9223372036854775807 ∧ (0 < m → ∃ g n, A = some ⟨g, 0, none⟩ ∧ S g t n ∧ m ≤ n)
/-- A value's cells, its rows in the set. -/
def GoodV (S : Nat → Nat → Nat → Prop) (cs : List Value) : Prop := ∃ a0 a1 v2 a3 a4 v5 v6, cs = [.int .i64 a0, .bool a1, v2, .int .i64 a3, .string a4, v5, v6] ∧ GoodS S 63 v2 ∧ GoodS S 34 v5 ∧ GoodS S 9 v6
/-- A set of rows that lead into it. -/
structure Good (S : Nat → Nat → Nat → Prop) (w : World) : Prop where
  blk : ∀ b t n, S b t n → (∃ cs, w.heap[b]? = some (.cells cs t (0, 0))) ∧ (t = 63 ∨ t = 34 ∨ t = 9)
  num : ∀ b n, S b 63 n → ∀ j, j < n → ∃ x, w.cell? ⟨b, j, none⟩ = some (.int .u32 x)
  str : ∀ b n, S b 9 n → ∀ j, j < n → ∃ s, w.cell? ⟨b, j, none⟩ = some (.string s)
  val : ∀ b n, S b 34 n → ∀ j, j < n → ∃ cs, GoodV S cs ∧ ∀ i u, cs[i]? = some u → w.cell? ⟨b, j * 7 + i, none⟩ = some u
/-- Only rows of the set are written over. -/
structure Only (S : Nat → Nat → Nat → Prop) (w w' : World) : Prop where
  os : w'.os = w.os
  tape : w'.tape = w.tape
  output : w'.output = w.output
  size : w.heap.size ≤ w'.heap.size
  block : ∀ b, b < w.heap.size → (∀ t n, ¬ S b t n) → w'.heap[b]? = w.heap[b]?
theorem Only.refl (S : Nat → Nat → Nat → Prop) (w : World) : Only S w w := ⟨rfl, rfl, rfl, Nat.le_refl _, fun _ _ _ => rfl⟩
theorem Only.trans {S : Nat → Nat → Nat → Prop} {a b c : World} (h : Only S a b) (k : Only S b c) : Only S a c :=
  ⟨k.os.trans h.os, k.tape.trans h.tape, k.output.trans h.output, Nat.le_trans h.size k.size, fun g hg hn => (k.block g (by have := h.size; omega) hn).trans (h.block g hg hn)⟩
theorem Only.alloc {S : Nat → Nat → Nat → Prop} {w w' : World} (h : Only S w w') (o : Obj) : Only S w (w'.alloc o) := by
  have hb := (Below.refl w'.heap.size w').alloc (Nat.le_refl _) o
  exact h.trans ⟨hb.os, hb.tape, hb.output, hb.size, fun g hg _ => hb.block g hg⟩
theorem Only.drewN {S : Nat → Nat → Nat → Prop} {w w' : World} (h : Only S w w') (m : Nat) : Only S w (w'.drewN m) := by
  have hb := pw_below_drewN (Below.refl w'.heap.size w') m
  exact h.trans ⟨hb.os, hb.tape, hb.output, hb.size, fun g hg _ => hb.block g hg⟩
theorem Good.below {S : Nat → Nat → Nat → Prop} {w w' : World} (h : Good S w) (hb : Below w.heap.size w w') : Good S w' := by
  have lt : ∀ {b t n}, S b t n → b < w.heap.size := fun hs => by
    obtain ⟨⟨cs, hc⟩, _⟩ := h.blk _ _ _ hs
    exact blk_lt hc
  refine ⟨fun b t n hs => ?_, fun b n hs j hj => ?_, fun b n hs j hj => ?_, fun b n hs j hj => ?_⟩
  · obtain ⟨⟨cs, hc⟩, ht⟩ := h.blk _ _ _ hs
    exact ⟨⟨cs, (hb.block _ (lt hs)).trans hc⟩, ht⟩
  · obtain ⟨x, hx⟩ := h.num b n hs j hj
    exact ⟨x, pw_cell_below hb hx⟩
  · obtain ⟨x, hx⟩ := h.str b n hs j hj
    exact ⟨x, pw_cell_below hb hx⟩
  · obtain ⟨cs, hg, hx⟩ := h.val b n hs j hj
    exact ⟨cs, hg, fun i u hu => pw_cell_below hb (hx i u hu)⟩
theorem Good.type {S : Nat → Nat → Nat → Prop} {w : World} (h : Good S w) {b t n t' n' : Nat} (h1 : S b t n) (h2 : S b t' n') : t = t' := by
  obtain ⟨⟨cs, hc⟩, _⟩ := h.blk _ _ _ h1
  obtain ⟨⟨cs', hc'⟩, _⟩ := h.blk _ _ _ h2
  have := hc.symm.trans hc'
  injection this with this
  injection this
theorem Good.lt {S : Nat → Nat → Nat → Prop} {w : World} (h : Good S w) {b t n : Nat} (h1 : S b t n) : b < w.heap.size := by
  obtain ⟨⟨cs, hc⟩, _⟩ := h.blk _ _ _ h1
  exact blk_lt hc
theorem blk_setCell {w : World} {b t : Nat} {cs : Array Value} (h : w.heap[b]? = some (.cells cs t (0, 0))) (g j : Nat) (x : Value) : ∃ cs', (w.setCell ⟨g, j, none⟩ x).heap[b]? = some (.cells cs' t (0, 0)) := by
  by_cases hbg : b = g
  · subst hbg; exact ⟨_, blk_set h j x⟩
  · exact ⟨cs, blk_far h hbg x⟩
theorem cell_set {w : World} {q p : Addr} {u x : Value} (h : w.cell? q = some u) : (q = p ∧ (w.setCell p x).cell? q = some x) ∨ (q ≠ p ∧ (w.setCell p x).cell? q = some u) := by
  by_cases hq : q = p
  · subst hq; exact .inl ⟨rfl, by first | exact World.cell?_setCell_same _ _ _ h | exact World.cell?_setCell_same _ h | exact World.cell?_setCell_same _ _ h⟩
  · exact .inr ⟨hq, by first | exact (World.cell?_setCell_other _ _ _ _ (Ne.symm hq)).trans h | exact (World.cell?_setCell_other _ (Ne.symm hq)).trans h | exact (World.cell?_setCell_other _ _ _ (Ne.symm hq)).trans h | exact (World.cell?_setCell_other _ _ (Ne.symm hq)).trans h⟩
theorem Good.setNum {S : Nat → Nat → Nat → Prop} {w : World} (h : Good S w) {g n : Nat} (hs : S g 63 n) (j : Nat) (z : Int) : Good S (w.setCell ⟨g, j, none⟩ (.int .u32 z)) := by
  refine ⟨fun b t m hb => ?_, fun b m hb i hi => ?_, fun b m hb i hi => ?_, fun b m hb i hi => ?_⟩
  · obtain ⟨⟨cs, hc⟩, ht⟩ := h.blk _ _ _ hb
    exact ⟨blk_setCell hc _ _ _, ht⟩
  · obtain ⟨x, hx⟩ := h.num b m hb i hi
    rcases cell_set (p := ⟨g, j, none⟩) (x := .int .u32 z) hx with ⟨_, h1⟩ | ⟨_, h1⟩
    · exact ⟨z, h1⟩
    · exact ⟨x, h1⟩
  · obtain ⟨x, hx⟩ := h.str b m hb i hi
    rcases cell_set (p := ⟨g, j, none⟩) (x := .int .u32 z) hx with ⟨e, _⟩ | ⟨_, h1⟩
    · injection e with e1 _ _
      subst e1
      exact absurd (h.type hs hb) (by decide)
    · exact ⟨x, h1⟩
  · obtain ⟨cs, hg, hx⟩ := h.val b m hb i hi
    refine ⟨cs, hg, fun k u hu => ?_⟩
    rcases cell_set (p := ⟨g, j, none⟩) (x := .int .u32 z) (hx k u hu) with ⟨e, _⟩ | ⟨_, h1⟩
    · injection e with e1 _ _
      subst e1
      exact absurd (h.type hs hb) (by decide)
    · exact h1
theorem Good.setStr {S : Nat → Nat → Nat → Prop} {w : World} (h : Good S w) {g n : Nat} (hs : S g 9 n) (j : Nat) (z : ByteArray) : Good S (w.setCell ⟨g, j, none⟩ (.string z)) := by
  refine ⟨fun b t m hb => ?_, fun b m hb i hi => ?_, fun b m hb i hi => ?_, fun b m hb i hi => ?_⟩
  · obtain ⟨⟨cs, hc⟩, ht⟩ := h.blk _ _ _ hb
    exact ⟨blk_setCell hc _ _ _, ht⟩
  · obtain ⟨x, hx⟩ := h.num b m hb i hi
    rcases cell_set (p := ⟨g, j, none⟩) (x := .string z) hx with ⟨e, _⟩ | ⟨_, h1⟩
    · injection e with e1 _ _
      subst e1
      exact absurd (h.type hs hb) (by decide)
    · exact ⟨x, h1⟩
  · obtain ⟨x, hx⟩ := h.str b m hb i hi
    rcases cell_set (p := ⟨g, j, none⟩) (x := .string z) hx with ⟨_, h1⟩ | ⟨_, h1⟩
    · exact ⟨z, h1⟩
    · exact ⟨x, h1⟩
  · obtain ⟨cs, hg, hx⟩ := h.val b m hb i hi
    refine ⟨cs, hg, fun k u hu => ?_⟩
    rcases cell_set (p := ⟨g, j, none⟩) (x := .string z) (hx k u hu) with ⟨e, _⟩ | ⟨_, h1⟩
    · injection e with e1 _ _
      subst e1
      exact absurd (h.type hs hb) (by decide)
    · exact h1
theorem Good.setVal {S : Nat → Nat → Nat → Prop} {w : World} (h : Good S w) {g n k : Nat} (hs : S g 34 n) (hk : k < n) {cs' : List Value} (hV : GoodV S cs') : Good S (w.setCells g (k * 7) cs') := by
  have hl' : cs'.length = 7 := by obtain ⟨_, _, _, _, _, _, _, rfl, _⟩ := hV; rfl
  have hso : ∀ j, j < cs'.length → (w.cell? ⟨g, k * 7 + j, none⟩).isSome = true := fun j hj => by
    obtain ⟨cs, hg, hx⟩ := h.val g n hs k hk
    have hl : cs.length = 7 := by obtain ⟨_, _, _, _, _, _, _, rfl, _⟩ := hg; rfl
    rw [hx j cs[j] (List.getElem?_eq_getElem (by omega))]
    rfl
  have keep : ∀ {b i : Nat} {u : Value}, w.cell? ⟨b, i, none⟩ = some u → b ≠ g → (w.setCells g (k * 7) cs').cell? ⟨b, i, none⟩ = some u := fun hu hb => by
    rw [World.cell?_setCells_out g cs' (k * 7) w _ (fun e _ => absurd e hb)]; exact hu
  refine ⟨fun b t m hb => ?_, fun b m hb i hi => ?_, fun b m hb i hi => ?_, fun b m hb i hi => ?_⟩
  · obtain ⟨⟨cs, hc⟩, ht⟩ := h.blk _ _ _ hb
    refine ⟨?_, ht⟩
    by_cases hbg : b = g
    · subst hbg
      obtain ⟨cur, h1, h2, h3⟩ := setCells_row cs' (k * 7) w _ hc (by
        rw [hl']
        have := hso 6 (by omega)
        rw [blk_cell hc] at this
        have := (Array.getElem?_eq_some_iff.1 (Option.isSome_iff_exists.1 this).choose_spec).1
        omega)
      exact ⟨cur, h1⟩
    · exact ⟨cs, (setCells_far cs' _ b hbg).trans hc⟩
  · obtain ⟨x, hx⟩ := h.num b m hb i hi
    exact ⟨x, keep hx (by rintro rfl; exact absurd (h.type hs hb) (by decide))⟩
  · obtain ⟨x, hx⟩ := h.str b m hb i hi
    exact ⟨x, keep hx (by rintro rfl; exact absurd (h.type hs hb) (by decide))⟩
  · obtain ⟨cs, hg, hx⟩ := h.val b m hb i hi
    have hl : cs.length = 7 := by obtain ⟨_, _, _, _, _, _, _, rfl, _⟩ := hg; rfl
    by_cases hbg : b = g
    · subst hbg
      by_cases hik : i = k
      · subst hik
        refine ⟨cs', hV, fun q u hu => ?_⟩
        obtain ⟨hq, rfl⟩ := List.getElem?_eq_some_iff.1 hu
        exact World.cell?_setCells_in b cs' (i * 7) w hso q hq
      · refine ⟨cs, hg, fun q u hu => ?_⟩
        obtain ⟨hq, _⟩ := List.getElem?_eq_some_iff.1 hu
        rw [World.cell?_setCells_out b cs' (k * 7) w _ (fun _ _ => by show i * 7 + q < k * 7 ∨ k * 7 + cs'.length ≤ i * 7 + q; omega)]
        exact hx q u hu
    · exact ⟨cs, hg, fun q u hu => keep (hx q u hu) hbg⟩
theorem Only.setCell {S : Nat → Nat → Nat → Prop} {w w' : World} (h : Only S w w') {g t n : Nat} (hs : S g t n) (j : Nat) (x : Value) : Only S w (w'.setCell ⟨g, j, none⟩ x) := by
  have hb := Below.refl 0 w'
  refine h.trans ⟨rfl, rfl, rfl, by simp, fun b hb hn => ?_⟩
  exact Below.heap_setCell _ _ _ _ (by rintro rfl; exact hn t n hs)
theorem Only.setCells {S : Nat → Nat → Nat → Prop} {w w' : World} (h : Only S w w') {g t n : Nat} (hs : S g t n) (j : Nat) (cs : List Value) : Only S w (w'.setCells g j cs) := by
  have hk := setCells_same g cs j w'
  refine h.trans ⟨hk.1, hk.2.1, hk.2.2.1, Nat.le_of_eq hk.2.2.2.symm, fun b hb hn => setCells_far cs _ b (by rintro rfl; exact hn t n hs)⟩
end Go.Proofs.YtdgebcgcabhjoaaDoor.P
/- bolterplain.SpoilLimbs, SpoilValue: only blocks of a set are written over. -/
namespace Go.Proofs.YtdgebcgcabhjoaaDoor.P
set_option linter.unusedVariables false
set_option linter.unusedSimpArgs false
open Go.RowKit Go.Proofs.YtdgebcgcabhjoaaDoorW.PrintWords Go.Proofs.YtdgebcgcabhjoaaDoorW.PrintMore Go.Proofs.YtdgebcgcabhjoaaDoorW.PrintLast
set_option maxHeartbeats 2000000 in
set_option maxRecDepth 100000 in
theorem SpoilLimbs_in (S : Nat → Nat → Nat → Prop) (v : Value) (w : World) (hG : Good S w) (hv : GoodS S 63 v) :
    Calls Tryd.prog 18 #[v] w fun e w' => (∃ r, e = .returned r) ∧ Good S w' ∧ Only S w w' := by
  obtain ⟨A, m, c, rfl, hm, hp⟩ := hv
  have HP := Lib.hid hp
  have HG := Lib.hid hG
  clear hp hG
  go_enter Tryd.func18, Tryd.ntmps18
  go_wp2
  go_loopw [2] (fun vi wr => ∃ k : Nat, k ≤ m ∧ vi = .int .i64 k ∧ Good S wr ∧ Only S w wr) (fun vi _ => m - (intOf vi).toNat)
  case atStart => exact ⟨0, Nat.zero_le _, rfl, HG.out, Only.refl _ _⟩
  case round =>
    obtain ⟨k, hk, rfl, hG, hO⟩ := hrel
    by_cases hlt : k < m
    · obtain ⟨g, n, rfl, hs, hmn⟩ := HP.out (by omega)
      obtain ⟨x0, hx0⟩ := hG.num g n hs k (by omega)
      obtain ⟨⟨cs, hc⟩, _⟩ := hG.blk _ _ _ hs
      have hfz := blk_frozen hc k
      have hG2 := Lib.hid (hG.setNum hs k 7)
      have hO2 := Lib.hid (hO.setCell hs k (.int .u32 7))
      have hw : wrap64 ((k : Int) + 1) = ((k + 1 : Nat) : Int) := by unfold wrap64; omega
      clear hG hO hc hs
      go_wp2
      go_roundw
      case rel => exact ⟨k + 1, hlt, by go_num, hG2.out, hO2.out⟩
      case measure => simp [intOf]; omega
    · obtain rfl : k = m := by omega
      go_wp2
      exact bodyPost_end (v := .tuple #[]) (by simp [results, Tryd.f18, go_sem]) rfl ⟨⟨_, rfl⟩, hG, hO⟩
set_option maxHeartbeats 2000000 in
set_option maxRecDepth 100000 in
theorem SpoilValue_in (S : Nat → Nat → Nat → Prop) : ∀ (left : Nat) (cs : List Value) (w : World), left ≤ 1000 → Good S w → GoodV S cs →
    Calls Tryd.prog 7 #[.agg cs.toArray, .int .i64 left] w fun e w' => (∃ r, e = .returned r) ∧ Good S w' ∧ Only S w w' := by
  intro left
  induction left using Nat.strongRecOn with
  | _ left ih =>
    intro cs w hl hG hV
    obtain ⟨a0, a1, v2, a3, a4, v5, v6, rfl, h2, h5, h6⟩ := hV
    have H2 := Lib.hid h2
    have H5 := Lib.hid h5
    have H6 := Lib.hid h6
    obtain ⟨A2, m2, c2, rfl, hm2, hp2⟩ := h2
    obtain ⟨A5, m5, c5, rfl, hm5, hp5⟩ := h5
    obtain ⟨A6, m6, c6, rfl, hm6, hp6⟩ := h6
    have HP5 := Lib.hid hp5
    have HP6 := Lib.hid hp6
    have IH := Lib.hid ih
    obtain ⟨W1, hW1⟩ : ∃ W1, W1 = w.alloc (.cells #[.int .i64 a0, .bool a1, .slice A2 m2 c2, .int .i64 a3, .string a4, .slice A5 m5 c5, .slice A6 m6 c6] 34) := ⟨_, rfl⟩
    have hb1 : Below w.heap.size w W1 := by rw [hW1]; exact (Below.refl _ _).alloc (Nat.le_refl _) _
    have hx1 : W1.heap[w.heap.size]? = some (.cells #[.int .i64 a0, .bool a1, .slice A2 m2 c2, .int .i64 a3, .string a4, .slice A5 m5 c5, .slice A6 m6 c6] 34 (0, 0)) := by rw [hW1]; exact blk_new _ _
    have hG1 := hG.below hb1
    have hns : ∀ t n, ¬ S w.heap.size t n := fun t n hs => Nat.lt_irrefl _ (hG.lt hs)
    have HC := Lib.hid (SpoilLimbs_in S _ W1 hG1 H2.out)
    have HO1 : Hid (Only S w W1) := Lib.hid (by rw [hW1]; exact (Only.refl S w).alloc _)
    have HX := Lib.hid hx1
    have HW1 := Lib.hid hW1
    have HN := Lib.hid hns
    have hsz1 := blk_lt hx1
    rw [hW1] at HC HX HO1 hsz1
    clear hp2 hp5 hp6 ih hG hG1 hb1 hx1 hns hW1
    go_enter Tryd.func7, Tryd.ntmps7
    go_wp2_with (first | (go_at_call 18; refine HC.out.mono ?_; rintro e w2 ⟨⟨r, rfl⟩, hG2, hO2⟩; have hx2 := (hO2.block _ hsz1 HN.out).trans HX.out; have hO3 := HO1.out.trans hO2))
    clear HO1 HC HX H2 hm2 hsz1
    have HX2 := Lib.hid hx2
    have HGG := Lib.hid hG2
    have HOO := Lib.hid hO3
    have HS2 := Lib.hid (blk_lt hx2)
    clear hx2 hG2 hO3 hO2
    go_loopw [4] (fun vi wr => ∃ k : Nat, k ≤ m6 ∧ vi = .int .i64 k ∧ Good S wr ∧ Only S w2 wr) (fun vi _ => m6 - (intOf vi).toNat)
    case atStart => exact ⟨0, Nat.zero_le _, rfl, HGG.out, Only.refl _ _⟩
    case round =>
      obtain ⟨k, hk, rfl, hG, hO⟩ := hrel
      have hx := (hO.block _ HS2.out HN.out).trans HX2.out
      have hbx := blk_cell hx
      have hbf := blk_frozen hx
      by_cases hlt : k < m6
      · obtain ⟨g, n, rfl, hs, hmn⟩ := HP6.out (by omega)
        obtain ⟨x0, hx0⟩ := hG.str g n hs k (by omega)
        obtain ⟨⟨cs, hc⟩, _⟩ := hG.blk _ _ _ hs
        have hfz := blk_frozen hc k
        have hG2 := fun z => hG.setStr hs k z
        have hO2 := fun z => hO.setCell hs k (.string z)
        have hw : wrap64 ((k : Int) + 1) = ((k + 1 : Nat) : Int) := by unfold wrap64; omega
        have hki : (k : Int) < (m6 : Int) := by omega
        clear hG hO hc hs hx
        go_wp2
        go_roundw
        case rel => exact ⟨k + 1, hlt, by go_num, hG2 _, hO2 _⟩
        case measure => simp [intOf]; omega
      · obtain rfl : k = m6 := by omega
        go_wp2
        have HX3 := Lib.hid hx
        have HG3 := Lib.hid hG
        have HO3 := Lib.hid (HOO.out.trans hO)
        have HS3 := Lib.hid (blk_lt hx)
        clear hG hO hx hbx hbf
        go_loopw [5] (fun vi wr3 => ∃ k : Nat, k ≤ m5 ∧ vi = .int .i64 k ∧ Good S wr3 ∧ Only S wr wr3) (fun vi _ => m5 - (intOf vi).toNat)
        case atStart => exact ⟨0, Nat.zero_le _, rfl, HG3.out, Only.refl _ _⟩
        case round =>
          obtain ⟨k, hk, rfl, hG, hO⟩ := hrel
          have hx := (hO.block _ HS3.out HN.out).trans HX3.out
          have hbx := blk_cell hx
          have hbf := blk_frozen hx
          by_cases hlt : k < m5
          · have hki : (k : Int) < (m5 : Int) := by omega
            by_cases hp : 0 < left
            · obtain ⟨g, n, rfl, hs, hmn⟩ := HP5.out (by omega)
              obtain ⟨cs, hV, hcc⟩ := hG.val g n hs k (by omega)
              have hV' := Lib.hid hV
              obtain ⟨b0, b1, u2, b3, b4, u5, u6, rfl, h2, h5, h6⟩ := hV
              obtain ⟨l1, hl1⟩ : ∃ l1 : Nat, l1 + 1 = left := ⟨left - 1, by omega⟩
              have hw1 : wrap64 ((left : Int) - 1) = (l1 : Int) := by unfold wrap64; omega
              have hw2 : IntKind.i64.wrap ((left : Int) - 1) = (l1 : Int) := by rw [wrap_in _ (by omega)]; omega
              have hpi : (0 : Int) < (left : Int) := by omega
              have q0 := hcc 0 _ rfl
              have q1 := hcc 1 _ rfl
              have q2 := hcc 2 _ rfl
              have q3 := hcc 3 _ rfl
              have q4 := hcc 4 _ rfl
              have q5 := hcc 5 _ rfl
              have q6 := hcc 6 _ rfl
              rw [Nat.add_zero] at q0
              have hw : wrap64 ((k : Int) + 1) = ((k + 1 : Nat) : Int) := by unfold wrap64; omega
              obtain ⟨⟨gc, hgc⟩, _⟩ := hG.blk _ _ _ hs
              have HC := Lib.hid (IH.out l1 (by omega) _ wr (by omega) hG hV'.out)
              have HOP := Lib.hid hO
              have HSS := Lib.hid hs
              clear hO hcc h2 h5 h6
              go_wp2_with (first | (go_at_call 7; refine HC.out.mono ?_; rintro e w5 ⟨⟨r5, rfl⟩, hG5, hO5⟩; obtain ⟨cs5, hV5, hcc5⟩ := hG5.val g n HSS.out k (by omega); obtain ⟨⟨gc5, hgc5⟩, _⟩ := hG5.blk _ _ _ HSS.out; have hfz5 := blk_frozen hgc5; obtain ⟨e0, e1, e2, e3, e4, e5, e6, rfl, _⟩ := hV5; have t0 := hcc5 0 _ rfl; have t1 := hcc5 1 _ rfl; have t2 := hcc5 2 _ rfl; have t3 := hcc5 3 _ rfl; have t4 := hcc5 4 _ rfl; have t5 := hcc5 5 _ rfl; have t6 := hcc5 6 _ rfl; rw [Nat.add_zero] at t0; have hx5 := (hO5.block _ (Nat.lt_of_lt_of_le HS3.out HOP.out.size) HN.out).trans hx; have hbx5 := blk_cell hx5; have hbf5 := blk_frozen hx5))
              have hz : GoodV S [.int .i64 77, .bool false, .slice none 0 0, .int .i64 0, .string ⟨#[]⟩, .slice none 0 0, .slice none 0 0] := ⟨_, _, _, _, _, _, _, rfl, ⟨none, 0, 0, rfl, by omega, fun h => absurd h (by omega)⟩, ⟨none, 0, 0, rfl, by omega, fun h => absurd h (by omega)⟩, ⟨none, 0, 0, rfl, by omega, fun h => absurd h (by omega)⟩⟩
              have hfin := hG5.setVal HSS.out (by omega : k < n) hz
              have hon := (HOP.out.trans hO5).setCells HSS.out (k * 7) [.int .i64 77, .bool false, .slice none 0 0, .int .i64 0, .string ⟨#[]⟩, .slice none 0 0, .slice none 0 0]
              rw [setCells7] at hfin hon
              go_roundw
              case rel => exact ⟨k + 1, hlt, by go_num, hfin, hon⟩
              case measure => simp [intOf]; omega
            · obtain rfl : left = 0 := by omega
              go_wp2
              exact bodyPost_end (v := .tuple #[]) (by simp [results, Tryd.f7, go_sem]) rfl ⟨⟨_, rfl⟩, hG, HO3.out.trans hO⟩
          · obtain rfl : k = m5 := by omega
            go_wp2
            exact bodyPost_end (v := .tuple #[]) (by simp [results, Tryd.f7, go_sem]) rfl ⟨⟨_, rfl⟩, hG, HO3.out.trans hO⟩
end Go.Proofs.YtdgebcgcabhjoaaDoor.P
/- The rows of values that were made are a set that SpoilValue keeps. -/
namespace Go.Proofs.YtdgebcgcabhjoaaDoor.P
set_option linter.unusedVariables false
set_option linter.unusedSimpArgs false
open Go.RowKit Go.Proofs.YtdgebcgcabhjoaaDoorW.PrintWords Go.Proofs.YtdgebcgcabhjoaaDoorW.PrintMore Go.Proofs.YtdgebcgcabhjoaaDoorW.PrintLast
/-- The rows that were made in W from base on. -/
def Made (W : World) (base : Nat) (b t n : Nat) : Prop :=
  base ≤ b ∧ 0 < n ∧ ((t = 63 ∧ ∃ c xs, xs.length = n ∧ (Kd.int .u32).R 63 W base (fun _ => True) (.slice (some ⟨b, 0, none⟩) n c) xs) ∨
    (t = 9 ∧ ∃ c xs, xs.length = n ∧ Kd.string.R 9 W base (fun _ => True) (.slice (some ⟨b, 0, none⟩) n c) xs) ∨
    (t = 34 ∧ ∃ c xs, xs.length = n ∧ k34.R 34 W base (fun _ => True) (.slice (some ⟨b, 0, none⟩) n c) xs))
theorem R_blk {α : Type} {d : Kd α} {e b n c : Nat} {W : World} {base : Nat} {ok : Nat → Prop} {xs : List α} (h : d.R e W base ok (.slice (some ⟨b, 0, none⟩) n c) xs) (hl : xs.length = n) (hn : 0 < n) : ∃ cs, W.heap[b]? = some (.cells cs e (0, 0)) := by
  obtain ⟨g, cap, he, hb, hlt, cells, hc⟩ := Kd.R_form h (by omega)
  injection he with e1 _ _
  injection e1 with e1
  injection e1 with e1 _ _
  subst e1
  exact ⟨cells, hc⟩
theorem goodS_of_R {α : Type} {d : Kd α} {t : Nat} {W : World} {base : Nat} {v : Value} {xs : List α} (h : d.R t W base (fun _ => True) v xs)
    (hS : ∀ g c, d.R t W base (fun _ => True) (.slice (some ⟨g, 0, none⟩) xs.length c) xs → base ≤ g → 0 < xs.length → Made W base g t xs.length) : GoodS (Made W base) t v := by
  obtain ⟨A, c, rfl⟩ := Kd.R_slice h
  have hl : xs.length ≤ 9223372036854775807 := (Kd.R_reads' h).2.2.2.1
  refine ⟨A, xs.length, c, rfl, hl, fun hp => ?_⟩
  obtain ⟨g, cap, he, hb, hlt, _⟩ := Kd.R_form h hp
  injection he with e1 _ _
  subst e1
  exact ⟨g, xs.length, rfl, hS g c h hb hp, Nat.le_refl _⟩
theorem goodV_of_M {W : World} {base : Nat} {x : V} {cs : List Value} (h : k34.M W base (fun _ => True) x cs) : GoodV (Made W base) cs := by
  obtain ⟨v2, v5, v6, rfl, r2, r5, r6⟩ := k34_openM h
  exact ⟨_, _, _, _, _, _, _, rfl, goodS_of_R r2 (fun g c hr hb hp => ⟨hb, hp, .inl ⟨rfl, c, _, rfl, hr⟩⟩), goodS_of_R r5 (fun g c hr hb hp => ⟨hb, hp, .inr (.inr ⟨rfl, c, _, rfl, hr⟩)⟩), goodS_of_R r6 (fun g c hr hb hp => ⟨hb, hp, .inr (.inl ⟨rfl, c, _, rfl, hr⟩)⟩)⟩
theorem R_at {W : World} {base b n c : Nat} {xs : List V} (h : k34.R 34 W base (fun _ => True) (.slice (some ⟨b, 0, none⟩) n c) xs) (j : Nat) (hj : j < xs.length) :
    ∃ cs, k34.M W base (fun _ => True) (rd_T34 xs (j : Int)) cs ∧ ∀ i u, cs[i]? = some u → W.cell? ⟨b, j * 7 + i, none⟩ = some u := by
  obtain ⟨A, c', he, hl, hr⟩ := OwnRow.reads h.2
  injection he with e1 _ _
  subst e1
  obtain ⟨ad, cs, ha, hlen, hm, hc⟩ := ReadsRow.get_ hr z34 (j : Int) (by omega) (by omega)
  injection ha with ha
  subst ha
  refine ⟨cs, k34.M_mono (fun _ _ => trivial) hm, fun i u hu => ?_⟩
  have := hc i u hu
  rw [Int.toNat_natCast, add_plain] at this
  exact this
theorem rows_good (W : World) (base : Nat) : Good (Made W base) W := by
  refine ⟨fun b t n hs => ?_, fun b n hs j hj => ?_, fun b n hs j hj => ?_, fun b n hs j hj => ?_⟩
  · obtain ⟨hb, hn, ⟨rfl, c, xs, hl, hr⟩ | ⟨rfl, c, xs, hl, hr⟩ | ⟨rfl, c, xs, hl, hr⟩⟩ := hs
    · exact ⟨R_blk hr hl hn, .inl rfl⟩
    · exact ⟨R_blk hr hl hn, .inr (.inr rfl)⟩
    · exact ⟨R_blk hr hl hn, .inr (.inl rfl)⟩
  · obtain ⟨hb, hn, ⟨_, c, xs, hl, hr⟩ | ⟨h, _⟩ | ⟨h, _⟩⟩ := hs
    · obtain ⟨_, _, hC⟩ := Kd.R_reads' hr
      obtain ⟨ad, ha, hx⟩ := Kd.at_int hC (j : Int) (by omega) (by omega)
      injection ha with ha
      subst ha
      rw [Int.toNat_natCast, add_plain] at hx
      exact ⟨_, hx⟩
    · exact absurd h (by decide)
    · exact absurd h (by decide)
  · obtain ⟨hb, hn, ⟨h, _⟩ | ⟨_, c, xs, hl, hr⟩ | ⟨h, _⟩⟩ := hs
    · exact absurd h (by decide)
    · obtain ⟨_, _, hC⟩ := Kd.R_reads' hr
      obtain ⟨ad, ha, hx⟩ := Kd.at_string hC (j : Int) (by omega) (by omega)
      injection ha with ha
      subst ha
      rw [Int.toNat_natCast, add_plain] at hx
      exact ⟨_, hx⟩
    · exact absurd h (by decide)
  · obtain ⟨hb, hn, ⟨h, _⟩ | ⟨h, _⟩ | ⟨_, c, xs, hl, hr⟩⟩ := hs
    · exact absurd h (by decide)
    · exact absurd h (by decide)
    · obtain ⟨cs, hm, hc⟩ := R_at hr j (by omega)
      exact ⟨cs, goodV_of_M hm, hc⟩
theorem Only.below {W w w' : World} {base : Nat} (h : Only (Made W base) w w') (hw : base ≤ w.heap.size) : Below base w w' :=
  ⟨h.os, h.tape, h.output, h.size, fun b hb => h.block b (by omega) (fun t n hs => by have := hs.1; omega)⟩
/-- What was made behind W stays as it is. -/
theorem Only.later {α : Type} {d : Kd α} {W w w' : World} {base e b : Nat} {v : Value} {xs : List α} (h : Only (Made W base) w w') (hW : W.heap.size ≤ b) (hr : d.R e w b (fun _ => True) v xs) : d.R e w' b (fun _ => True) v xs :=
  Kd.R_mono (Kd.R_move (Kd.R_bound hr) (fun k hk => h.block k (by have := hk.2.2.1; exact this) (fun t n hs => by
    have := (rows_good W base).lt hs
    have := hk.2.1
    omega))) (fun _ _ => trivial)
end Go.Proofs.YtdgebcgcabhjoaaDoor.P
/- put at api.Value: the value is laid in a box first. -/
namespace Go.Proofs.YtdgebcgcabhjoaaDoor
open Go.RowKit Go.Conc Go.Proofs.YtdgebcgcabhjoaaDoorW.PrintWords Go.Proofs.YtdgebcgcabhjoaaDoorW.PrintMore Go.Proofs.YtdgebcgcabhjoaaDoorW.PrintLast
set_option linter.unusedVariables false
set_option linter.unusedSimpArgs false
set_option maxRecDepth 100000 in
set_option maxHeartbeats 1000000 in
theorem put_val_ok (b c cap : Nat) (buf : Array Value) (c0 c1 c2 c3 c4 c5 c6 : Value) (w : World) (hq : w.cell? ⟨b, 0, none⟩ = some (.chan (some c))) (hC : QC w c cap buf) (hroom : buf.size < cap) :
    Calls Tryd.prog 24 #[.pointer (some ⟨b, 0, none⟩), .agg #[c0, c1, c2, c3, c4, c5, c6]] w fun e w' => e = .returned (.bool true) ∧ QW (w.alloc (.cells #[c0, c1, c2, c3, c4, c5, c6] 34 (0, 0))) c cap (buf.push (.agg #[c0, c1, c2, c3, c4, c5, c6])) w' := by
  obtain ⟨s, r, hc0⟩ := hC
  have hb0 := blk_new w (.cells #[c0, c1, c2, c3, c4, c5, c6] 34 (0, 0))
  have hq2 : (w.alloc (.cells #[c0, c1, c2, c3, c4, c5, c6] 34 (0, 0))).cell? ⟨b, 0, none⟩ = some (.chan (some c)) := by exact pw_cell_below ((Below.refl _ _).alloc (Nat.le_refl _) _) hq
  have hc : (w.alloc (.cells #[c0, c1, c2, c3, c4, c5, c6] 34 (0, 0))).heap[c]? = some (.chan cap buf false s r false) := by exact blk_alloc hc0 _
  have x0 := blk_cell hb0 0
  have x1 := blk_cell hb0 1
  have x2 := blk_cell hb0 2
  have x3 := blk_cell hb0 3
  have x4 := blk_cell hb0 4
  have x5 := blk_cell hb0 5
  have x6 := blk_cell hb0 6
  simp only [List.getElem?_toArray, List.getElem?_cons_succ, List.getElem?_cons_zero] at x0 x1 x2 x3 x4 x5 x6
  refine calls_of_loneTo fun cs => ?_
  have e : Frame.enter Tryd.prog 24 #[.pointer (some ⟨b, 0, none⟩), .agg #[c0, c1, c2, c3, c4, c5, c6]] .normal = (base 24).at ⟨#[.pointer (some ⟨b, 0, none⟩), .agg #[c0, c1, c2, c3, c4, c5, c6], undef, undef, undef, undef, undef, undef, undef, undef, undef, undef, undef], []⟩ [.code (Tryd.f24.body.getD .skip)] := by
    simp [Frame.enter, Frame.at, Tryd.func24, base, Tryd.f24]
  rw [e]
  refine LoneTo.goes (n := 40) ?_
  simp only [Tryd.f24, Option.getD_some]
  s_c stepG_seq
  s_reg
  s_op
  s_op
  s_c stepG_region_end
  s_c stepG_seq
  s_c stepG_seq
  s_reg
  s_op
  s_op
  s_op
  s_op
  s_c stepG_region_end
  s_reg
  s_op
  s_c stepG_region_end
  s_c stepG_seq
  s_reg
  s_stop
  refine LoneTo.step (step_lone_select_send_room (c := c) (v := .agg #[c0, c1, c2, c3, c4, c5, c6]) (z' := .agg #[.int .i64 0, .bool false, .slice none 0 0, .int .i64 0, .string ⟨#[]⟩, .slice none 0 0, .slice none 0 0]) (cap := cap) (buf := buf) (s := s) (r := r) (tm := false)
    (stepG_comm (cases := #[scase c (.agg #[c0, c1, c2, c3, c4, c5, c6]) (.agg #[.int .i64 0, .bool false, .slice none 0 0, .int .i64 0, .string ⟨#[]⟩, .slice none 0 0, .slice none 0 0])]) (blocking := false) (shape := .select) (w' := w.alloc (.cells #[c0, c1, c2, c3, c4, c5, c6] 34 (0, 0))) rfl rfl (by decide) (by simp [go_sem, execOp, scase, Act.eval])) hc hroom) ?_
  rw [Frame.finish_at]
  walk_nrm
  refine LoneTo.goes (n := 40) ?_
  s_op
  s_op
  s_c stepG_region_end
  s_c stepG_block
  s_cond true
  s_c stepG_seq
  s_reg
  s_op
  s_c stepG_region_end
  s_c stepG_ret'
  s_stop
  refine LoneTo.done ⟨.returned (.bool true), _, rfl, ⟨rfl, ⟨_, _, rfl⟩⟩, rfl, rfl, rfl, rfl, _, Tryd.func24, by simp [results, Tryd.f24, Frame.at]⟩
set_option maxRecDepth 100000 in
set_option maxHeartbeats 1000000 in
theorem put_val_full (b c cap : Nat) (buf : Array Value) (c0 c1 c2 c3 c4 c5 c6 : Value) (w : World) (hq : w.cell? ⟨b, 0, none⟩ = some (.chan (some c))) (hC : QC w c cap buf) (hroom : cap ≤ buf.size) :
    Calls Tryd.prog 24 #[.pointer (some ⟨b, 0, none⟩), .agg #[c0, c1, c2, c3, c4, c5, c6]] w fun e w' => e = .returned (.bool false) ∧ w.alloc (.cells #[c0, c1, c2, c3, c4, c5, c6] 34 (0, 0)) = w' := by
  obtain ⟨s, r, hc0⟩ := hC
  have hb0 := blk_new w (.cells #[c0, c1, c2, c3, c4, c5, c6] 34 (0, 0))
  have hq2 : (w.alloc (.cells #[c0, c1, c2, c3, c4, c5, c6] 34 (0, 0))).cell? ⟨b, 0, none⟩ = some (.chan (some c)) := by exact pw_cell_below ((Below.refl _ _).alloc (Nat.le_refl _) _) hq
  have hc : (w.alloc (.cells #[c0, c1, c2, c3, c4, c5, c6] 34 (0, 0))).heap[c]? = some (.chan cap buf false s r false) := by exact blk_alloc hc0 _
  have x0 := blk_cell hb0 0
  have x1 := blk_cell hb0 1
  have x2 := blk_cell hb0 2
  have x3 := blk_cell hb0 3
  have x4 := blk_cell hb0 4
  have x5 := blk_cell hb0 5
  have x6 := blk_cell hb0 6
  simp only [List.getElem?_toArray, List.getElem?_cons_succ, List.getElem?_cons_zero] at x0 x1 x2 x3 x4 x5 x6
  refine calls_of_loneTo fun cs => ?_
  have e : Frame.enter Tryd.prog 24 #[.pointer (some ⟨b, 0, none⟩), .agg #[c0, c1, c2, c3, c4, c5, c6]] .normal = (base 24).at ⟨#[.pointer (some ⟨b, 0, none⟩), .agg #[c0, c1, c2, c3, c4, c5, c6], undef, undef, undef, undef, undef, undef, undef, undef, undef, undef, undef], []⟩ [.code (Tryd.f24.body.getD .skip)] := by
    simp [Frame.enter, Frame.at, Tryd.func24, base, Tryd.f24]
  rw [e]
  refine LoneTo.goes (n := 40) ?_
  simp only [Tryd.f24, Option.getD_some]
  s_c stepG_seq
  s_reg
  s_op
  s_op
  s_c stepG_region_end
  s_c stepG_seq
  s_c stepG_seq
  s_reg
  s_op
  s_op
  s_op
  s_op
  s_c stepG_region_end
  s_reg
  s_op
  s_c stepG_region_end
  s_c stepG_seq
  s_reg
  s_stop
  refine LoneTo.step (step_lone_select_send_full (c := c) (v := .agg #[c0, c1, c2, c3, c4, c5, c6]) (z' := .agg #[.int .i64 0, .bool false, .slice none 0 0, .int .i64 0, .string ⟨#[]⟩, .slice none 0 0, .slice none 0 0]) (cap := cap) (buf := buf) (s := s) (r := r) (tm := false)
    (stepG_comm (cases := #[scase c (.agg #[c0, c1, c2, c3, c4, c5, c6]) (.agg #[.int .i64 0, .bool false, .slice none 0 0, .int .i64 0, .string ⟨#[]⟩, .slice none 0 0, .slice none 0 0])]) (blocking := false) (shape := .select) (w' := w.alloc (.cells #[c0, c1, c2, c3, c4, c5, c6] 34 (0, 0))) rfl rfl (by decide) (by simp [go_sem, execOp, scase, Act.eval])) hc hroom) ?_
  rw [Frame.finish_at]
  walk_nrm
  refine LoneTo.goes (n := 40) ?_
  s_op
  s_op
  s_c stepG_region_end
  s_c stepG_block
  s_cond false
  s_c stepG_seq
  s_reg
  s_op
  s_c stepG_region_end
  s_c stepG_ret'
  s_stop
  refine LoneTo.done ⟨.returned (.bool false), _, rfl, ⟨rfl, rfl⟩, rfl, rfl, rfl, rfl, _, Tryd.func24, by simp [results, Tryd.f24, Frame.at]⟩
end Go.Proofs.YtdgebcgcabhjoaaDoor
/- Take at api.Value: the result is a box. -/
namespace Go.Proofs.YtdgebcgcabhjoaaDoor
open Go.RowKit Go.Conc Go.Proofs.YtdgebcgcabhjoaaDoorW.PrintWords Go.Proofs.YtdgebcgcabhjoaaDoorW.PrintMore Go.Proofs.YtdgebcgcabhjoaaDoorW.PrintLast
set_option linter.unusedVariables false
set_option linter.unusedSimpArgs false
/-- But for channel c, what was there stays. -/
structure KeepQ (w : World) (c : Nat) (w' : World) : Prop where
  os : w'.os = w.os
  tape : w'.tape = w.tape
  output : w'.output = w.output
  size : w.heap.size ≤ w'.heap.size
  block : ∀ b, b < w.heap.size → b ≠ c → w'.heap[b]? = w.heap[b]?
theorem KeepQ.refl (w : World) (c : Nat) : KeepQ w c w := ⟨rfl, rfl, rfl, Nat.le_refl _, fun _ _ _ => rfl⟩
theorem KeepQ.trans {w a b : World} {c : Nat} (h : KeepQ w c a) (k : KeepQ a c b) : KeepQ w c b := ⟨k.os.trans h.os, k.tape.trans h.tape, k.output.trans h.output, Nat.le_trans h.size k.size, fun g hg hn => (k.block g (by have := h.size; omega) hn).trans (h.block g hg hn)⟩
theorem KeepQ.of_below {w w' : World} {c : Nat} (h : Below w.heap.size w w') : KeepQ w c w' := ⟨h.os, h.tape, h.output, h.size, fun g hg _ => h.block g hg⟩
theorem KeepQ.alloc {w w' : World} {c : Nat} (h : KeepQ w c w') (o : Obj) : KeepQ w c (w'.alloc o) := h.trans (.of_below ((Below.refl _ _).alloc (Nat.le_refl _) o))
theorem KeepQ.setCell {w w' : World} {c : Nat} (h : KeepQ w c w') {p : Addr} (hp : w.heap.size ≤ p.block) (v : Value) : KeepQ w c (w'.setCell p v) :=
  ⟨h.os, h.tape, h.output, by simpa using h.size, fun g hg hn => (Below.heap_setCell _ _ _ _ (by omega)).trans (h.block g hg hn)⟩
theorem KeepQ.setChan {w w' : World} {c : Nat} (h : KeepQ w c w') (cap : Nat) (buf : Array Value) (cl : Bool) (s r : Nat) (tm : Bool) : KeepQ w c (w'.setChan c cap buf cl s r tm) :=
  ⟨h.os, h.tape, h.output, by rw [size_setChan]; exact h.size, fun g hg hn => by
    rw [← h.block g hg hn]
    simp [World.setChan, Array.getElem?_setIfInBounds_ne (Ne.symm hn)]⟩
theorem QC.setCell {w : World} {c cap : Nat} {buf : Array Value} (h : QC w c cap buf) {p : Addr} (hp : p.block ≠ c) (v : Value) : QC (w.setCell p v) c cap buf := by
  obtain ⟨s, r, h⟩ := h
  exact ⟨s, r, (Below.heap_setCell _ _ _ _ (Ne.symm hp)).trans h⟩
set_option maxRecDepth 100000 in
set_option maxHeartbeats 4000000 in
theorem take_val_some (b c cap : Nat) (rest : List Value) (n0 : Int) (b1 : Bool) (A2 : Option Addr) (m2 k2 : Nat) (n3 : Int) (s4 : ByteArray) (A5 : Option Addr) (m5 k5 : Nat) (A6 : Option Addr) (m6 k6 : Nat) (w : World) (hq : w.cell? ⟨b, 0, none⟩ = some (.chan (some c))) (hC : QC w c cap (.agg #[.int .i64 n0, .bool b1, .slice A2 m2 k2, .int .i64 n3, .string s4, .slice A5 m5 k5, .slice A6 m6 k6] :: rest).toArray) :
    Calls Tryd.prog 25 #[.pointer (some ⟨b, 0, none⟩)] w fun e w' => e = .returned (.tuple #[.agg #[.int .i64 n0, .bool b1, .slice A2 m2 k2, .int .i64 n3, .string s4, .slice A5 m5 k5, .slice A6 m6 k6], .bool true]) ∧ QC w' c cap rest.toArray ∧ KeepQ w c w' := by
  have hlt := QC.lt hC
  obtain ⟨s, r, hc0⟩ := hC
  have hb0 := blk_new w (.cells #[.int .i64 0, .bool false, .slice none 0 0, .int .i64 0, .string ⟨#[]⟩, .slice none 0 0, .slice none 0 0] 34 (0, 0))
  have hq2 : (w.alloc (.cells #[.int .i64 0, .bool false, .slice none 0 0, .int .i64 0, .string ⟨#[]⟩, .slice none 0 0, .slice none 0 0] 34 (0, 0))).cell? ⟨b, 0, none⟩ = some (.chan (some c)) := pw_cell_below ((Below.refl _ _).alloc (Nat.le_refl _) _) hq
  have hc : (w.alloc (.cells #[.int .i64 0, .bool false, .slice none 0 0, .int .i64 0, .string ⟨#[]⟩, .slice none 0 0, .slice none 0 0] 34 (0, 0))).heap[c]? = some (.chan cap (.agg #[.int .i64 n0, .bool b1, .slice A2 m2 k2, .int .i64 n3, .string s4, .slice A5 m5 k5, .slice A6 m6 k6] :: rest).toArray false s r false) := blk_alloc hc0 _
  have hne : w.heap.size ≠ c := by omega
  refine calls_of_loneTo fun cs => ?_
  have e : Frame.enter Tryd.prog 25 #[.pointer (some ⟨b, 0, none⟩)] .normal = (base 25).at ⟨#[.pointer (some ⟨b, 0, none⟩), undef, undef, undef, undef, undef, undef, undef, undef, undef, undef, undef, undef, undef, undef, undef, undef, undef, undef, undef, undef, undef, undef, undef], []⟩ [.code (Tryd.f25.body.getD .skip)] := by
    simp [Frame.enter, Frame.at, Tryd.func25, base, Tryd.f25]
  rw [e]
  refine LoneTo.goes (n := 80) ?_
  simp only [Tryd.f25, Option.getD_some]
  s_c stepG_seq
  s_reg
  s_op
  s_op
  s_c stepG_region_end
  s_c stepG_seq
  s_c stepG_seq
  s_reg
  s_op
  s_op
  s_op
  s_op
  s_op
  s_op
  s_op
  s_op
  s_op
  s_c stepG_region_end
  s_cond false
  s_in
  rw [stepG_skip]
  simp only [goes_go]
  refine ⟨trivial, ?_⟩
  s_c stepG_seq
  s_reg
  s_op
  s_op
  s_op
  s_op
  s_c stepG_region_end
  s_c stepG_seq
  s_reg
  s_stop
  refine LoneTo.step (step_lone_select_recv_buf (c := c) (z := .agg #[.int .i64 0, .bool false, .slice none 0 0, .int .i64 0, .string ⟨#[]⟩, .slice none 0 0, .slice none 0 0]) (cap := cap) (buf := (.agg #[.int .i64 n0, .bool b1, .slice A2 m2 k2, .int .i64 n3, .string s4, .slice A5 m5 k5, .slice A6 m6 k6] :: rest).toArray) (closed := false) (s := s) (r := r) (tm := false)
    (stepG_comm (cases := #[rcase c (.agg #[.int .i64 0, .bool false, .slice none 0 0, .int .i64 0, .string ⟨#[]⟩, .slice none 0 0, .slice none 0 0])]) (blocking := false) (shape := .select) (w' := w.alloc (.cells #[.int .i64 0, .bool false, .slice none 0 0, .int .i64 0, .string ⟨#[]⟩, .slice none 0 0, .slice none 0 0] 34 (0, 0))) rfl rfl (by decide) (by simp [go_sem, execOp, rcase, Act.eval])) hc (by simp)) ?_
  rw [Frame.finish_at]
  walk_nrm
  have q3 : QC ((w.alloc (.cells #[.int .i64 0, .bool false, .slice none 0 0, .int .i64 0, .string ⟨#[]⟩, .slice none 0 0, .slice none 0 0] 34 (0, 0))).setChan c cap ((.agg #[.int .i64 n0, .bool b1, .slice A2 m2 k2, .int .i64 n3, .string s4, .slice A5 m5 k5, .slice A6 m6 k6] :: rest).toArray.extract 1 (rest.length + 1)) false s (r + 1) false) c cap rest.toArray := by
    refine ⟨s, r + 1, ?_⟩
    rw [heap_setChan _ _ _ _ _ _ _ _ (by simp; omega)]
    simp
  have k3 : KeepQ w c ((w.alloc (.cells #[.int .i64 0, .bool false, .slice none 0 0, .int .i64 0, .string ⟨#[]⟩, .slice none 0 0, .slice none 0 0] 34 (0, 0))).setChan c cap ((.agg #[.int .i64 n0, .bool b1, .slice A2 m2 k2, .int .i64 n3, .string s4, .slice A5 m5 k5, .slice A6 m6 k6] :: rest).toArray.extract 1 (rest.length + 1)) false s (r + 1) false) := ((KeepQ.refl w c).alloc _).setChan _ _ _ _ _ _
  have hb3 : ((w.alloc (.cells #[.int .i64 0, .bool false, .slice none 0 0, .int .i64 0, .string ⟨#[]⟩, .slice none 0 0, .slice none 0 0] 34 (0, 0))).setChan c cap ((.agg #[.int .i64 n0, .bool b1, .slice A2 m2 k2, .int .i64 n3, .string s4, .slice A5 m5 k5, .slice A6 m6 k6] :: rest).toArray.extract 1 (rest.length + 1)) false s (r + 1) false).heap[w.heap.size]? = some (.cells #[.int .i64 0, .bool false, .slice none 0 0, .int .i64 0, .string ⟨#[]⟩, .slice none 0 0, .slice none 0 0] 34 (0, 0)) := by
    rw [← hb0]
    unfold World.setChan
    exact Array.getElem?_setIfInBounds_ne (Ne.symm hne)
  generalize (w.alloc (.cells #[.int .i64 0, .bool false, .slice none 0 0, .int .i64 0, .string ⟨#[]⟩, .slice none 0 0, .slice none 0 0] 34 (0, 0))).setChan c cap ((.agg #[.int .i64 n0, .bool b1, .slice A2 m2 k2, .int .i64 n3, .string s4, .slice A5 m5 k5, .slice A6 m6 k6] :: rest).toArray.extract 1 (rest.length + 1)) false s (r + 1) false = W3 at q3 k3 hb3 ⊢
  clear hq2 hc hb0 hq hc0
  have hbW3 := hb3
  have qW3 := q3
  have kW3 := k3
  have x0 := blk_cell hbW3 0
  have x1 := blk_cell hbW3 1
  have x2 := blk_cell hbW3 2
  have x3 := blk_cell hbW3 3
  have x4 := blk_cell hbW3 4
  have x5 := blk_cell hbW3 5
  have x6 := blk_cell hbW3 6
  have xf := blk_frozen hbW3
  refine LoneTo.goes (n := 40) ?_
  s_op
  s_op
  s_c stepG_region_end
  s_c stepG_block
  s_cond true
  s_c stepG_seq
  s_reg
  s_op
  s_op
  have hW4 : (((((((W3.setCell ⟨w.heap.size, 0, none⟩ (.int .i64 n0)).setCell ⟨w.heap.size, 1, none⟩ (.bool b1)).setCell ⟨w.heap.size, 2, none⟩ (.slice A2 m2 k2)).setCell ⟨w.heap.size, 3, none⟩ (.int .i64 n3)).setCell ⟨w.heap.size, 4, none⟩ (.string s4)).setCell ⟨w.heap.size, 5, none⟩ (.slice A5 m5 k5)).setCell ⟨w.heap.size, 6, none⟩ (.slice A6 m6 k6)).heap[w.heap.size]? = some (.cells #[.int .i64 n0, .bool b1, .slice A2 m2 k2, .int .i64 n3, .string s4, .slice A5 m5 k5, .slice A6 m6 k6] 34 (0, 0)) := by
    have h1 := blk_set (blk_set (blk_set (blk_set (blk_set (blk_set (blk_set hbW3 0 (.int .i64 n0)) 1 (.bool b1)) 2 (.slice A2 m2 k2)) 3 (.int .i64 n3)) 4 (.string s4)) 5 (.slice A5 m5 k5)) 6 (.slice A6 m6 k6)
    rw [h1]
    rfl
  have qW4 : QC (((((((W3.setCell ⟨w.heap.size, 0, none⟩ (.int .i64 n0)).setCell ⟨w.heap.size, 1, none⟩ (.bool b1)).setCell ⟨w.heap.size, 2, none⟩ (.slice A2 m2 k2)).setCell ⟨w.heap.size, 3, none⟩ (.int .i64 n3)).setCell ⟨w.heap.size, 4, none⟩ (.string s4)).setCell ⟨w.heap.size, 5, none⟩ (.slice A5 m5 k5)).setCell ⟨w.heap.size, 6, none⟩ (.slice A6 m6 k6)) c cap rest.toArray := ((((((qW3.setCell hne _).setCell hne _).setCell hne _).setCell hne _).setCell hne _).setCell hne _).setCell hne _
  have kW4 : KeepQ w c (((((((W3.setCell ⟨w.heap.size, 0, none⟩ (.int .i64 n0)).setCell ⟨w.heap.size, 1, none⟩ (.bool b1)).setCell ⟨w.heap.size, 2, none⟩ (.slice A2 m2 k2)).setCell ⟨w.heap.size, 3, none⟩ (.int .i64 n3)).setCell ⟨w.heap.size, 4, none⟩ (.string s4)).setCell ⟨w.heap.size, 5, none⟩ (.slice A5 m5 k5)).setCell ⟨w.heap.size, 6, none⟩ (.slice A6 m6 k6)) := ((((((kW3.setCell (Nat.le_refl _) _).setCell (Nat.le_refl _) _).setCell (Nat.le_refl _) _).setCell (Nat.le_refl _) _).setCell (Nat.le_refl _) _).setCell (Nat.le_refl _) _).setCell (Nat.le_refl _) _
  generalize (((((((W3.setCell ⟨w.heap.size, 0, none⟩ (.int .i64 n0)).setCell ⟨w.heap.size, 1, none⟩ (.bool b1)).setCell ⟨w.heap.size, 2, none⟩ (.slice A2 m2 k2)).setCell ⟨w.heap.size, 3, none⟩ (.int .i64 n3)).setCell ⟨w.heap.size, 4, none⟩ (.string s4)).setCell ⟨w.heap.size, 5, none⟩ (.slice A5 m5 k5)).setCell ⟨w.heap.size, 6, none⟩ (.slice A6 m6 k6)) = W4 at hW4 qW4 kW4 ⊢
  have hbW4 := hW4
  clear x0 x1 x2 x3 x4 x5 x6 xf
  have y0 := blk_cell hbW4 0
  have y1 := blk_cell hbW4 1
  have y2 := blk_cell hbW4 2
  have y3 := blk_cell hbW4 3
  have y4 := blk_cell hbW4 4
  have y5 := blk_cell hbW4 5
  have y6 := blk_cell hbW4 6
  have yf := blk_frozen hbW4
  s_c stepG_region_end
  s_c stepG_seq
  s_reg
  s_op
  s_op
  have hW5 : (((((((W4.setCell ⟨w.heap.size, 0, none⟩ (.int .i64 n0)).setCell ⟨w.heap.size, 1, none⟩ (.bool b1)).setCell ⟨w.heap.size, 2, none⟩ (.slice A2 m2 k2)).setCell ⟨w.heap.size, 3, none⟩ (.int .i64 n3)).setCell ⟨w.heap.size, 4, none⟩ (.string s4)).setCell ⟨w.heap.size, 5, none⟩ (.slice A5 m5 k5)).setCell ⟨w.heap.size, 6, none⟩ (.slice A6 m6 k6)).heap[w.heap.size]? = some (.cells #[.int .i64 n0, .bool b1, .slice A2 m2 k2, .int .i64 n3, .string s4, .slice A5 m5 k5, .slice A6 m6 k6] 34 (0, 0)) := by
    have h1 := blk_set (blk_set (blk_set (blk_set (blk_set (blk_set (blk_set hbW4 0 (.int .i64 n0)) 1 (.bool b1)) 2 (.slice A2 m2 k2)) 3 (.int .i64 n3)) 4 (.string s4)) 5 (.slice A5 m5 k5)) 6 (.slice A6 m6 k6)
    rw [h1]
    rfl
  have qW5 : QC (((((((W4.setCell ⟨w.heap.size, 0, none⟩ (.int .i64 n0)).setCell ⟨w.heap.size, 1, none⟩ (.bool b1)).setCell ⟨w.heap.size, 2, none⟩ (.slice A2 m2 k2)).setCell ⟨w.heap.size, 3, none⟩ (.int .i64 n3)).setCell ⟨w.heap.size, 4, none⟩ (.string s4)).setCell ⟨w.heap.size, 5, none⟩ (.slice A5 m5 k5)).setCell ⟨w.heap.size, 6, none⟩ (.slice A6 m6 k6)) c cap rest.toArray := ((((((qW4.setCell hne _).setCell hne _).setCell hne _).setCell hne _).setCell hne _).setCell hne _).setCell hne _
  have kW5 : KeepQ w c (((((((W4.setCell ⟨w.heap.size, 0, none⟩ (.int .i64 n0)).setCell ⟨w.heap.size, 1, none⟩ (.bool b1)).setCell ⟨w.heap.size, 2, none⟩ (.slice A2 m2 k2)).setCell ⟨w.heap.size, 3, none⟩ (.int .i64 n3)).setCell ⟨w.heap.size, 4, none⟩ (.string s4)).setCell ⟨w.heap.size, 5, none⟩ (.slice A5 m5 k5)).setCell ⟨w.heap.size, 6, none⟩ (.slice A6 m6 k6)) := ((((((kW4.setCell (Nat.le_refl _) _).setCell (Nat.le_refl _) _).setCell (Nat.le_refl _) _).setCell (Nat.le_refl _) _).setCell (Nat.le_refl _) _).setCell (Nat.le_refl _) _).setCell (Nat.le_refl _) _
  generalize (((((((W4.setCell ⟨w.heap.size, 0, none⟩ (.int .i64 n0)).setCell ⟨w.heap.size, 1, none⟩ (.bool b1)).setCell ⟨w.heap.size, 2, none⟩ (.slice A2 m2 k2)).setCell ⟨w.heap.size, 3, none⟩ (.int .i64 n3)).setCell ⟨w.heap.size, 4, none⟩ (.string s4)).setCell ⟨w.heap.size, 5, none⟩ (.slice A5 m5 k5)).setCell ⟨w.heap.size, 6, none⟩ (.slice A6 m6 k6)) = W5 at hW5 qW5 kW5 ⊢
  have hbW5 := hW5
  clear y0 y1 y2 y3 y4 y5 y6 yf
  have z0 := blk_cell hbW5 0
  have z1 := blk_cell hbW5 1
  have z2 := blk_cell hbW5 2
  have z3 := blk_cell hbW5 3
  have z4 := blk_cell hbW5 4
  have z5 := blk_cell hbW5 5
  have z6 := blk_cell hbW5 6
  have zf := blk_frozen hbW5
  s_op
  s_c stepG_region_end
  s_c stepG_ret'
  s_stop
  refine LoneTo.done ⟨.returned (.tuple #[.agg #[.int .i64 n0, .bool b1, .slice A2 m2 k2, .int .i64 n3, .string s4, .slice A5 m5 k5, .slice A6 m6 k6], .bool true]), _, rfl, ⟨rfl, qW5, kW5⟩, rfl, rfl, rfl, rfl, _, Tryd.func25, by simp [results, Tryd.f25, Frame.at, go_sem, z0, z1, z2, z3, z4, z5, z6]⟩
set_option maxRecDepth 100000 in
set_option maxHeartbeats 4000000 in
theorem take_val_none (b c cap : Nat) (w : World) (hq : w.cell? ⟨b, 0, none⟩ = some (.chan (some c))) (hC : QC w c cap #[]) :
    Calls Tryd.prog 25 #[.pointer (some ⟨b, 0, none⟩)] w fun e w' => e = .returned (.tuple #[.agg #[.int .i64 0, .bool false, .slice none 0 0, .int .i64 0, .string ⟨#[]⟩, .slice none 0 0, .slice none 0 0], .bool false]) ∧ QC w' c cap #[] ∧ KeepQ w c w' := by
  have hlt := QC.lt hC
  obtain ⟨s, r, hc0⟩ := hC
  have hb0 := blk_new w (.cells #[.int .i64 0, .bool false, .slice none 0 0, .int .i64 0, .string ⟨#[]⟩, .slice none 0 0, .slice none 0 0] 34 (0, 0))
  have hq2 : (w.alloc (.cells #[.int .i64 0, .bool false, .slice none 0 0, .int .i64 0, .string ⟨#[]⟩, .slice none 0 0, .slice none 0 0] 34 (0, 0))).cell? ⟨b, 0, none⟩ = some (.chan (some c)) := pw_cell_below ((Below.refl _ _).alloc (Nat.le_refl _) _) hq
  have hc : (w.alloc (.cells #[.int .i64 0, .bool false, .slice none 0 0, .int .i64 0, .string ⟨#[]⟩, .slice none 0 0, .slice none 0 0] 34 (0, 0))).heap[c]? = some (.chan cap #[] false s r false) := blk_alloc hc0 _
  have hne : w.heap.size ≠ c := by omega
  refine calls_of_loneTo fun cs => ?_
  have e : Frame.enter Tryd.prog 25 #[.pointer (some ⟨b, 0, none⟩)] .normal = (base 25).at ⟨#[.pointer (some ⟨b, 0, none⟩), undef, undef, undef, undef, undef, undef, undef, undef, undef, undef, undef, undef, undef, undef, undef, undef, undef, undef, undef, undef, undef, undef, undef], []⟩ [.code (Tryd.f25.body.getD .skip)] := by
    simp [Frame.enter, Frame.at, Tryd.func25, base, Tryd.f25]
  rw [e]
  refine LoneTo.goes (n := 80) ?_
  simp only [Tryd.f25, Option.getD_some]
  s_c stepG_seq
  s_reg
  s_op
  s_op
  s_c stepG_region_end
  s_c stepG_seq
  s_c stepG_seq
  s_reg
  s_op
  s_op
  s_op
  s_op
  s_op
  s_op
  s_op
  s_op
  s_op
  s_c stepG_region_end
  s_cond false
  s_in
  rw [stepG_skip]
  simp only [goes_go]
  refine ⟨trivial, ?_⟩
  s_c stepG_seq
  s_reg
  s_op
  s_op
  s_op
  s_op
  s_c stepG_region_end
  s_c stepG_seq
  s_reg
  s_stop
  refine LoneTo.step (step_lone_select_default (c := c) (z := .agg #[.int .i64 0, .bool false, .slice none 0 0, .int .i64 0, .string ⟨#[]⟩, .slice none 0 0, .slice none 0 0]) (cap := cap) (s := s) (r := r) (tm := false)
    (stepG_comm (cases := #[rcase c (.agg #[.int .i64 0, .bool false, .slice none 0 0, .int .i64 0, .string ⟨#[]⟩, .slice none 0 0, .slice none 0 0])]) (blocking := false) (shape := .select) (w' := w.alloc (.cells #[.int .i64 0, .bool false, .slice none 0 0, .int .i64 0, .string ⟨#[]⟩, .slice none 0 0, .slice none 0 0] 34 (0, 0))) rfl rfl (by decide) (by simp [go_sem, execOp, rcase, Act.eval])) hc) ?_
  rw [Frame.finish_at]
  walk_nrm
  have qW3 : QC (w.alloc (.cells #[.int .i64 0, .bool false, .slice none 0 0, .int .i64 0, .string ⟨#[]⟩, .slice none 0 0, .slice none 0 0] 34 (0, 0))) c cap #[] := ⟨s, r, hc⟩
  have kW3 : KeepQ w c (w.alloc (.cells #[.int .i64 0, .bool false, .slice none 0 0, .int .i64 0, .string ⟨#[]⟩, .slice none 0 0, .slice none 0 0] 34 (0, 0))) := (KeepQ.refl w c).alloc _
  generalize w.alloc (.cells #[.int .i64 0, .bool false, .slice none 0 0, .int .i64 0, .string ⟨#[]⟩, .slice none 0 0, .slice none 0 0] 34 (0, 0)) = W3 at qW3 kW3 hb0 hq2 hc ⊢
  clear hq2 hc hq hc0
  have hbW3 := hb0
  have x0 := blk_cell hbW3 0
  have x1 := blk_cell hbW3 1
  have x2 := blk_cell hbW3 2
  have x3 := blk_cell hbW3 3
  have x4 := blk_cell hbW3 4
  have x5 := blk_cell hbW3 5
  have x6 := blk_cell hbW3 6
  have xf := blk_frozen hbW3
  refine LoneTo.goes (n := 40) ?_
  s_op
  s_op
  s_c stepG_region_end
  s_c stepG_block
  s_cond false
  s_c stepG_seq
  s_reg
  s_op
  s_op
  have hW4 : (((((((W3.setCell ⟨w.heap.size, 0, none⟩ (.int .i64 0)).setCell ⟨w.heap.size, 1, none⟩ (.bool false)).setCell ⟨w.heap.size, 2, none⟩ (.slice none 0 0)).setCell ⟨w.heap.size, 3, none⟩ (.int .i64 0)).setCell ⟨w.heap.size, 4, none⟩ (.string ⟨#[]⟩)).setCell ⟨w.heap.size, 5, none⟩ (.slice none 0 0)).setCell ⟨w.heap.size, 6, none⟩ (.slice none 0 0)).heap[w.heap.size]? = some (.cells #[.int .i64 0, .bool false, .slice none 0 0, .int .i64 0, .string ⟨#[]⟩, .slice none 0 0, .slice none 0 0] 34 (0, 0)) := by
    have h1 := blk_set (blk_set (blk_set (blk_set (blk_set (blk_set (blk_set hbW3 0 (.int .i64 0)) 1 (.bool false)) 2 (.slice none 0 0)) 3 (.int .i64 0)) 4 (.string ⟨#[]⟩)) 5 (.slice none 0 0)) 6 (.slice none 0 0)
    rw [h1]
    rfl
  have qW4 : QC (((((((W3.setCell ⟨w.heap.size, 0, none⟩ (.int .i64 0)).setCell ⟨w.heap.size, 1, none⟩ (.bool false)).setCell ⟨w.heap.size, 2, none⟩ (.slice none 0 0)).setCell ⟨w.heap.size, 3, none⟩ (.int .i64 0)).setCell ⟨w.heap.size, 4, none⟩ (.string ⟨#[]⟩)).setCell ⟨w.heap.size, 5, none⟩ (.slice none 0 0)).setCell ⟨w.heap.size, 6, none⟩ (.slice none 0 0)) c cap #[] := ((((((qW3.setCell hne _).setCell hne _).setCell hne _).setCell hne _).setCell hne _).setCell hne _).setCell hne _
  have kW4 : KeepQ w c (((((((W3.setCell ⟨w.heap.size, 0, none⟩ (.int .i64 0)).setCell ⟨w.heap.size, 1, none⟩ (.bool false)).setCell ⟨w.heap.size, 2, none⟩ (.slice none 0 0)).setCell ⟨w.heap.size, 3, none⟩ (.int .i64 0)).setCell ⟨w.heap.size, 4, none⟩ (.string ⟨#[]⟩)).setCell ⟨w.heap.size, 5, none⟩ (.slice none 0 0)).setCell ⟨w.heap.size, 6, none⟩ (.slice none 0 0)) := ((((((kW3.setCell (Nat.le_refl _) _).setCell (Nat.le_refl _) _).setCell (Nat.le_refl _) _).setCell (Nat.le_refl _) _).setCell (Nat.le_refl _) _).setCell (Nat.le_refl _) _).setCell (Nat.le_refl _) _
  generalize (((((((W3.setCell ⟨w.heap.size, 0, none⟩ (.int .i64 0)).setCell ⟨w.heap.size, 1, none⟩ (.bool false)).setCell ⟨w.heap.size, 2, none⟩ (.slice none 0 0)).setCell ⟨w.heap.size, 3, none⟩ (.int .i64 0)).setCell ⟨w.heap.size, 4, none⟩ (.string ⟨#[]⟩)).setCell ⟨w.heap.size, 5, none⟩ (.slice none 0 0)).setCell ⟨w.heap.size, 6, none⟩ (.slice none 0 0)) = W4 at hW4 qW4 kW4 ⊢
  have hbW4 := hW4
  clear x0 x1 x2 x3 x4 x5 x6 xf
  have y0 := blk_cell hbW4 0
  have y1 := blk_cell hbW4 1
  have y2 := blk_cell hbW4 2
  have y3 := blk_cell hbW4 3
  have y4 := blk_cell hbW4 4
  have y5 := blk_cell hbW4 5
  have y6 := blk_cell hbW4 6
  have yf := blk_frozen hbW4
  s_op
  s_c stepG_region_end
  s_c stepG_ret'
  s_stop
  refine LoneTo.done ⟨.returned (.tuple #[.agg #[.int .i64 0, .bool false, .slice none 0 0, .int .i64 0, .string ⟨#[]⟩, .slice none 0 0, .slice none 0 0], .bool false]), _, rfl, ⟨rfl, qW4, kW4⟩, rfl, rfl, rfl, rfl, _, Tryd.func25, by simp [results, Tryd.f25, Frame.at, go_sem, y0, y1, y2, y3, y4, y5, y6]⟩
end Go.Proofs.YtdgebcgcabhjoaaDoor
/- Put and drain at api.Value. -/
namespace Go.Proofs.YtdgebcgcabhjoaaDoor
set_option linter.unusedVariables false
set_option linter.unusedSimpArgs false
open Go.RowKit Go.Conc Go.Proofs.YtdgebcgcabhjoaaDoorW.PrintWords Go.Proofs.YtdgebcgcabhjoaaDoorW.PrintMore Go.Proofs.YtdgebcgcabhjoaaDoorW.PrintLast Go.Proofs.YtdgebcgcabhjoaaDoor.P
theorem KeepQ.cell {w : World} {c : Nat} {w' : World} (h : KeepQ w c w') {b o : Nat} (hb : b ≠ c) {v : Value} (hv : w.cell? ⟨b, o, none⟩ = some v) : w'.cell? ⟨b, o, none⟩ = some v :=
  (World.cell?_of_block (w := w) (a := ⟨b, o, none⟩) (h.block b (World.block_lt_of_cell? w _ hv) hb)).trans hv
theorem KeepQ.blk {w : World} {c : Nat} {w' : World} (h : KeepQ w c w') {b : Nat} (hb : b ≠ c) {o : Obj} (hv : w.heap[b]? = some o) : w'.heap[b]? = some o := (h.block b (blk_lt hv) hb).trans hv
theorem KeepQ.below {w0 w : World} {c : Nat} {w' : World} {B : Nat} (h : KeepQ w c w') (hw : Below B w0 w) (hc : B ≤ c) (hB : B ≤ w.heap.size) : Below B w0 w' :=
  hw.trans ⟨h.os, h.tape, h.output, h.size, fun b hb => h.block b (by omega) (by omega)⟩
theorem KeepQ.then {w a b : World} {c : Nat} (h : KeepQ w c a) {B : Nat} (hb : Below B a b) (hB : w.heap.size ≤ B) : KeepQ w c b :=
  ⟨hb.os.trans h.os, hb.tape.trans h.tape, hb.output.trans h.output, Nat.le_trans h.size hb.size, fun g hg hn => (hb.block g (by omega)).trans (h.block g hg hn)⟩
theorem QC.then {a b : World} {c cap : Nat} {buf : Array Value} (h : QC a c cap buf) {B : Nat} (hb : Below B a b) (hB : c < B) : QC b c cap buf := by
  obtain ⟨s, r, h⟩ := h
  exact ⟨s, r, (hb.block c hB).trans h⟩
theorem QW.keep {w a : World} {c cap : Nat} {buf : Array Value} (h : QW w c cap buf a) : KeepQ w c a := by
  obtain ⟨s, r, rfl⟩ := h
  exact (KeepQ.refl w c).setChan _ _ _ _ _ _
theorem QC.far {a b : World} {c cap : Nat} {buf : Array Value} (h : QC a c cap buf) (hb : b.heap[c]? = a.heap[c]?) : QC b c cap buf := by
  obtain ⟨s, r, h⟩ := h
  exact ⟨s, r, hb.trans h⟩
theorem KeepQ.setCells {w a : World} {c g : Nat} (h : KeepQ w c a) (hg : w.heap.size ≤ g) (cs : List Value) (o : Nat) : KeepQ w c (a.setCells g o cs) := by
  have hk := setCells_same g cs o a
  exact h.then (B := w.heap.size) ⟨hk.1, hk.2.1, hk.2.2.1, Nat.le_of_eq hk.2.2.2.symm, fun j hj => setCells_far cs o j (by omega)⟩ (Nat.le_refl _)
end Go.Proofs.YtdgebcgcabhjoaaDoor
namespace Go.Proofs.YtdgebcgcabhjoaaDoor.P
set_option linter.unusedVariables false
set_option linter.unusedSimpArgs false
open Go.RowKit Go.Conc Go.Proofs.YtdgebcgcabhjoaaDoorW.PrintWords Go.Proofs.YtdgebcgcabhjoaaDoorW.PrintMore Go.Proofs.YtdgebcgcabhjoaaDoorW.PrintLast
def bufOf (rows : List (List Value)) : Array Value := (rows.map fun c => Value.agg c.toArray).toArray
theorem bufOf_push (r : List (List Value)) (c : List Value) : (bufOf r).push (.agg c.toArray) = bufOf (r ++ [c]) := by
  unfold bufOf; simp
theorem bufOf_size (r : List (List Value)) : (bufOf r).size = r.length := by unfold bufOf; simp
/-- A value's seven cells. -/
def Typed (r : List Value) : Prop := ∃ n0 b1 A2 m2 k2 n3 s4 A5 m5 k5 A6 m6 k6, r = [.int .i64 n0, .bool b1, .slice A2 m2 k2, .int .i64 n3, .string s4, .slice A5 m5 k5, .slice A6 m6 k6]
theorem Typed.len {r : List Value} (h : Typed r) : r.length = 7 := by obtain ⟨_, _, _, _, _, _, _, _, _, _, _, _, _, rfl⟩ := h; rfl
theorem Typed.one {r : List Value} (h : Typed r) : ∀ u ∈ r, u.oneCell' = true := by
  obtain ⟨_, _, _, _, _, _, _, _, _, _, _, _, _, rfl⟩ := h
  intro u hu
  simp only [List.mem_cons, List.not_mem_nil, or_false] at hu
  rcases hu with rfl | rfl | rfl | rfl | rfl | rfl | rfl <;> rfl
theorem at_raw {w0 w : World} {A : Option Addr} {n : Nat} {rows : List (List Value)} (h : (Kd.raw 7).C w0 A n rows) (hT : ∀ r ∈ rows, Typed r) (hb : Below w0.heap.size w0 w) (k : Nat) (hk : k < rows.length) : ∃ ad n0 b1 A2 m2 k2 n3 s4 A5 m5 k5 A6 m6 k6, A = some ad ∧ rows.take (k + 1) = rows.take k ++ [[.int .i64 n0, .bool b1, .slice A2 m2 k2, .int .i64 n3, .string s4, .slice A5 m5 k5, .slice A6 m6 k6]] ∧
    w.cell? (ad.add (k * 7)) = some (.int .i64 n0) ∧ w.cell? ⟨(ad.add (k * 7)).block, (ad.add (k * 7)).off + 1, none⟩ = some (.bool b1) ∧ w.cell? ⟨(ad.add (k * 7)).block, (ad.add (k * 7)).off + 2, none⟩ = some (.slice A2 m2 k2) ∧ w.cell? ⟨(ad.add (k * 7)).block, (ad.add (k * 7)).off + 3, none⟩ = some (.int .i64 n3) ∧ w.cell? ⟨(ad.add (k * 7)).block, (ad.add (k * 7)).off + 4, none⟩ = some (.string s4) ∧ w.cell? ⟨(ad.add (k * 7)).block, (ad.add (k * 7)).off + 5, none⟩ = some (.slice A5 m5 k5) ∧ w.cell? ⟨(ad.add (k * 7)).block, (ad.add (k * 7)).off + 6, none⟩ = some (.slice A6 m6 k6) := by
  have hn := h.1
  obtain ⟨ad, c, e, _, hK, hc0⟩ := Kd.C_get h ([] : List Value) (k : Int) (by omega) (by omega)
  have hc : ∀ j u, c[j]? = some u → w0.cell? (ad.add (k * 7 + j)) = some u := by
    have := hc0
    rw [Int.toNat_natCast] at this
    exact this
  obtain ⟨rfl, h2, h3⟩ := hK
  obtain ⟨n0, b1, A2, m2, k2, n3, s4, A5, m5, k5, A6, m6, k6, he2⟩ := hT _ (List.getElem_mem hk)
  have he : rows.getD ((k : Int).toNat) [] = [.int .i64 n0, .bool b1, .slice A2 m2 k2, .int .i64 n3, .string s4, .slice A5 m5 k5, .slice A6 m6 k6] := by
    rw [← he2, Int.toNat_natCast]
    simp [List.getD_eq_getElem?_getD, hk]
  rw [he] at hc
  refine ⟨ad, n0, b1, A2, m2, k2, n3, s4, A5, m5, k5, A6, m6, k6, e, by rw [List.take_succ_eq_append_getElem hk, he2], pw_cell_below hb (hc 0 _ rfl), ?_, ?_, ?_, ?_, ?_, ?_⟩
  · exact pw_cell_below hb (by rw [← add_field _ _ 1 (by omega)]; exact hc 1 _ rfl)
  · exact pw_cell_below hb (by rw [← add_field _ _ 2 (by omega)]; exact hc 2 _ rfl)
  · exact pw_cell_below hb (by rw [← add_field _ _ 3 (by omega)]; exact hc 3 _ rfl)
  · exact pw_cell_below hb (by rw [← add_field _ _ 4 (by omega)]; exact hc 4 _ rfl)
  · exact pw_cell_below hb (by rw [← add_field _ _ 5 (by omega)]; exact hc 5 _ rfl)
  · exact pw_cell_below hb (by rw [← add_field _ _ 6 (by omega)]; exact hc 6 _ rfl)
/-- How many find a place. -/
def putk (cap m n : Nat) : Nat := min (cap - m) n
set_option maxRecDepth 100000 in
set_option maxHeartbeats 4000000 in
theorem Put_val_open (b c cap : Nat) (buf rows : List (List Value)) (A : Option Addr) (n cp : Nat) (w0 w : World) (hn : n = rows.length) (hm : n ≤ 9223372036854775807) (hbuf : buf.length ≤ cap) (hq : w.cell? ⟨b, 0, none⟩ = some (.chan (some c))) (hcl : w.cell? ⟨b, 1, none⟩ = some (.bool false)) (hC : QC w c cap (bufOf buf))
    (hbc : b ≠ c) (hW : Below w0.heap.size w0 w) (hc : w0.heap.size ≤ c) (hrows : (Kd.raw 7).C w0 A n rows) (hT : ∀ r ∈ rows, Typed r) :
    Calls Tryd.prog 15 #[.pointer (some ⟨b, 0, none⟩), .slice A n cp] w fun e w' => e = .returned (.int .i64 (putk cap buf.length n)) ∧ QC w' c cap (bufOf (buf ++ rows.take (putk cap buf.length n))) ∧ KeepQ w c w' := by
  have HN := Lib.hid hn
  have HC := Lib.hid hC
  have HB := Lib.hid hbc
  have HW := Lib.hid hW
  have HCE := Lib.hid hrows
  have HTY := Lib.hid hT
  clear hT
  have hcw := hC.lt
  clear hn hC hbc hrows hW
  go_enter Tryd.func15, Tryd.ntmps15
  go_wp2_with (go_at_call 23; refine (open_val_any _ _ false _ hq hcl).mono ?_; rintro e w' ⟨rfl, rfl⟩)
  go_loopw [12] (fun i wr => ∃ k : Nat, k ≤ n ∧ i = .int .i64 k ∧ buf.length + k ≤ cap ∧ Hid (QC wr c cap (bufOf (buf ++ rows.take k))) ∧ KeepQ w c wr) (fun i _ => n - (intOf i).toNat)
  case atStart => exact ⟨0, Nat.zero_le _, rfl, by omega, Lib.hid (by simpa using HC.out), KeepQ.refl _ _⟩
  case round =>
    obtain ⟨k, hk, rfl, hroom, HQ, hK⟩ := hrel
    have HK := Lib.hid hK
    have hsz := hK.size
    clear hK
    by_cases hlt : k < n
    · have hBr := Lib.hid (HK.out.below HW.out hc HW.out.size)
      obtain ⟨ad, n0, b1, A2, m2, k2, n3, s4, A5, m5, k5, A6, m6, k6, rfl, htk, q0, q1, q2, q3, q4, q5, q6⟩ := at_raw HCE.out HTY.out hBr.out k (by have := HN.out; omega)
      have HT := Lib.hid htk
      clear htk
      have hq1 := pw_cell_below ((Below.refl _ _).alloc (Nat.le_refl _) (.cells #[.int .i64 n0, .bool b1, .slice A2 m2 k2, .int .i64 n3, .string s4, .slice A5 m5 k5, .slice A6 m6 k6] 34 (0, 0))) (HK.out.cell HB.out hq)
      have HQ1 : Hid (QC (wr.alloc (.cells #[.int .i64 n0, .bool b1, .slice A2 m2 k2, .int .i64 n3, .string s4, .slice A5 m5 k5, .slice A6 m6 k6] 34 (0, 0))) c cap (bufOf (buf ++ rows.take k))) := Lib.hid (HQ.out.then ((Below.refl _ _).alloc (Nat.le_refl _) _) (by omega))
      have hw : wrap64 ((k : Int) + 1) = ((k + 1 : Nat) : Int) := by unfold wrap64; omega
      have hsize : Hid ((bufOf (buf ++ rows.take k)).size = buf.length + k) := Lib.hid (by rw [bufOf_size, List.length_append, List.length_take]; have := HN.out; omega)
      by_cases hfull : buf.length + k < cap
      · go_wp2_with (go_at_call 24; refine (put_val_ok _ _ _ _ _ _ _ _ _ _ _ _ hq1 HQ1.out (by rw [hsize.out]; exact hfull)).mono ?_; rintro e w' ⟨rfl, hw'⟩; have HW' := Lib.hid hw'; clear hw')
        go_roundw
        case rel => 
          have h2 := HW'.out
          have e2 : (bufOf (buf ++ rows.take k)).push (.agg #[.int .i64 n0, .bool b1, .slice A2 m2 k2, .int .i64 n3, .string s4, .slice A5 m5 k5, .slice A6 m6 k6]) = bufOf (buf ++ rows.take (k + 1)) := by
            rw [HT.out, ← List.append_assoc, ← bufOf_push]
          rw [e2] at h2
          exact ⟨k + 1, by omega, by go_num, by omega, Lib.hid (h2.chan (by simp; omega)), ((HK.out.alloc _).alloc _).trans h2.keep⟩
        case measure => simp [intOf]; omega
      · have e : k = putk cap buf.length n := by unfold putk; omega
        have E := Lib.hid e
        clear e
        go_wp2_with (go_at_call 24; refine (put_val_full _ _ _ _ _ _ _ _ _ _ _ _ hq1 HQ1.out (by rw [hsize.out]; omega)).mono ?_; rintro e w' ⟨rfl, rfl⟩)
        go_ret
        rw [← E.out]
        exact ⟨rfl, HQ1.out.then ((Below.refl _ _).alloc (Nat.le_refl _) _) (by simp; omega), (HK.out.alloc _).alloc _⟩
    · have e : k = putk cap buf.length n := by unfold putk; omega
      have e2 : k = n := by omega
      have E := Lib.hid e
      have E2 := Lib.hid e2
      clear e e2
      go_wp2
      go_ret
      rw [← E.out, ← E2.out]
      exact ⟨rfl, HQ.out, HK.out⟩
theorem take_val (b c cap : Nat) (rs : List (List Value)) (hT : ∀ r ∈ rs, Typed r) (w : World) (hq : w.cell? ⟨b, 0, none⟩ = some (.chan (some c))) (hC : QC w c cap (bufOf rs)) :
    Calls Tryd.prog 25 #[.pointer (some ⟨b, 0, none⟩)] w fun e w' => ∃ n0 b1 A2 m2 k2 n3 s4 A5 m5 k5 A6 m6 k6, e = .returned (.tuple #[.agg #[.int .i64 n0, .bool b1, .slice A2 m2 k2, .int .i64 n3, .string s4, .slice A5 m5 k5, .slice A6 m6 k6], .bool (decide (0 < rs.length))]) ∧ (∀ r, rs[0]? = some r → r = [.int .i64 n0, .bool b1, .slice A2 m2 k2, .int .i64 n3, .string s4, .slice A5 m5 k5, .slice A6 m6 k6]) ∧ QC w' c cap (bufOf rs.tail) ∧ KeepQ w c w' := by
  cases rs with
  | nil =>
    refine (take_val_none b c cap w hq hC).mono ?_
    rintro e w' ⟨rfl, h1, h2⟩
    exact ⟨_, _, _, _, _, _, _, _, _, _, _, _, _, rfl, fun r hr => by simp at hr, h1, h2⟩
  | cons r rs =>
    obtain ⟨n0, b1, A2, m2, k2, n3, s4, A5, m5, k5, A6, m6, k6, rfl⟩ := hT r List.mem_cons_self
    have e : bufOf ([.int .i64 n0, .bool b1, .slice A2 m2 k2, .int .i64 n3, .string s4, .slice A5 m5 k5, .slice A6 m6 k6] :: rs) = (.agg #[.int .i64 n0, .bool b1, .slice A2 m2 k2, .int .i64 n3, .string s4, .slice A5 m5 k5, .slice A6 m6 k6] :: rs.map fun c => Value.agg c.toArray).toArray := rfl
    rw [e] at hC
    refine (take_val_some b c cap _ n0 b1 A2 m2 k2 n3 s4 A5 m5 k5 A6 m6 k6 w hq hC).mono ?_
    rintro e w' ⟨rfl, h1, h2⟩
    refine ⟨_, _, _, _, _, _, _, _, _, _, _, _, _, by rw [decide_eq_true (by simp)], fun r hr => by simp at hr; exact hr.symm, h1, h2⟩
/-- drain's world ahead of a round. -/
structure DrainAt (w wr : World) (c cap : Nat) (rows : List (List Value)) (k g : Nat) (vo : Value) : Prop where
  row : (Kd.raw 7).R 34 wr w.heap.size (fun j => j ≠ g) vo (rows.take k)
  chan : QC wr c cap (bufOf (rows.drop (k + 1)))
  keep : KeepQ w c wr
  box : ∃ cs, wr.heap[g]? = some (.cells cs.toArray 34 (0, 0)) ∧ Typed cs ∧ (∀ r, rows[k]? = some r → r = cs)
  base : w.heap.size ≤ g
theorem setCells_box {w : World} {g : Nat} {b0 b1 b2 b3 b4 b5 b6 a0 a1 a2 a3 a4 a5 a6 : Value} {t : Nat} (h : w.heap[g]? = some (.cells #[b0, b1, b2, b3, b4, b5, b6] t (0, 0))) :
    (w.setCells g 0 [a0, a1, a2, a3, a4, a5, a6]).heap[g]? = some (.cells #[a0, a1, a2, a3, a4, a5, a6] t (0, 0)) := by
  have h1 := blk_set (blk_set (blk_set (blk_set (blk_set (blk_set (blk_set h 0 a0) 1 a1) 2 a2) 3 a3) 4 a4) 5 a5) 6 a6
  have e : w.setCells g 0 [a0, a1, a2, a3, a4, a5, a6] = (((((((w.setCell ⟨g, 0, none⟩ (a0)).setCell ⟨g, 1, none⟩ (a1)).setCell ⟨g, 2, none⟩ (a2)).setCell ⟨g, 3, none⟩ (a3)).setCell ⟨g, 4, none⟩ (a4)).setCell ⟨g, 5, none⟩ (a5)).setCell ⟨g, 6, none⟩ (a6)) := rfl
  rw [e, h1]
  rfl
theorem drain_first {w w1 : World} {c cap : Nat} {rows : List (List Value)} {a0 a1 a2 a3 a4 a5 a6 : Value} (hc : c < w.heap.size) (hty : Typed [a0, a1, a2, a3, a4, a5, a6]) (hr : ∀ r, rows[0]? = some r → r = [a0, a1, a2, a3, a4, a5, a6]) (hC : QC w1 c cap (bufOf rows.tail)) (hK : KeepQ w c w1) :
    DrainAt w (w1.alloc (.cells #[a0, a1, a2, a3, a4, a5, a6] 34 (0, 0))) c cap rows 0 w1.heap.size (.slice none 0 0) := by
  refine ⟨by rw [List.take_zero]; exact Kd.R_nil _ _ _ _ _, ?_, hK.alloc _, ⟨_, blk_new _ _, hty, hr⟩, hK.size⟩
  rw [show rows.drop (0 + 1) = rows.tail by simp]
  exact hC.then ((Below.refl _ _).alloc (Nat.le_refl _) _) (by have := hK.size; omega)
theorem drain_step {w wr w1 w2 : World} {c cap : Nat} {rows : List (List Value)} {k g : Nat} {vo v1 : Value} {a0 a1 a2 a3 a4 a5 a6 b0 b1 b2 b3 b4 b5 b6 : Value} (hc : c < w.heap.size) (hty : Typed [a0, a1, a2, a3, a4, a5, a6]) (hD : DrainAt w wr c cap rows k g vo)
    (hB1 : Below w.heap.size wr w1) (hR1 : (Kd.raw 7).R 34 w1 w.heap.size (fun j => j ≠ g) v1 (rows.take (k + 1)))
    (hr : ∀ r, (rows.drop (k + 1))[0]? = some r → r = [a0, a1, a2, a3, a4, a5, a6]) (hC2 : QC w2 c cap (bufOf (rows.drop (k + 1)).tail)) (hK2 : KeepQ (w1.alloc (.cells #[b0, b1, b2, b3, b4, b5, b6] 34 (0, 0))) c w2) :
    DrainAt w (w2.setCells w1.heap.size 0 [a0, a1, a2, a3, a4, a5, a6]) c cap rows (k + 1) w1.heap.size v1 := by
  have hK1 : KeepQ w c w1 := hD.keep.then hB1 (Nat.le_refl _)
  have hs1 := hK1.size
  have hK3 : KeepQ w1 c w2 := ((KeepQ.refl w1 c).alloc _).trans hK2
  refine ⟨?_, ?_, (hK1.trans hK3).setCells hs1 _ _, ⟨_, setCells_box (hK2.blk (by omega) (blk_new _ _)), hty, fun r h => hr r (by rw [List.getElem?_drop]; exact h)⟩, hs1⟩
  · exact Kd.R_mono (Kd.R_move (Kd.R_bound hR1) (fun j hj => by
      have := hj.2.1
      have := hj.2.2.1
      rw [setCells_far _ _ _ (by omega)]
      exact hK3.block j (by omega) (by omega))) (fun j hj => by have := hj.2.2.1; omega)
  · rw [show rows.drop (k + 1 + 1) = (rows.drop (k + 1)).tail by simp]
    exact hC2.far (setCells_far _ _ _ (by omega))
def lenOfV : Value → Nat
  | .slice _ n _ => n
  | _ => 0
set_option maxRecDepth 100000 in
set_option maxHeartbeats 4000000 in
theorem drain_any (b c cap : Nat) (rows : List (List Value)) (hT : ∀ r ∈ rows, Typed r) (hn : rows.length ≤ 1048576) (w : World) (hq : w.cell? ⟨b, 0, none⟩ = some (.chan (some c))) (hC : QC w c cap (bufOf rows)) (hbc : b ≠ c) :
    Calls Tryd.prog 16 #[.pointer (some ⟨b, 0, none⟩)] w fun e w' => ∃ v, e = .returned v ∧ (Kd.raw 7).R 34 w' w.heap.size (fun _ => True) v rows ∧ QC w' c cap #[] ∧ KeepQ w c w' := by
  have hcw := hC.lt
  have HT := Lib.hid hT
  have HB := Lib.hid hbc
  have HC := Lib.hid hC
  clear hT hbc hC
  go_enter Tryd.func16, Tryd.ntmps16
  go_wp2_with (go_at_call 25; refine (take_val b c cap rows HT.out w hq HC.out).mono ?_; rintro e w1 ⟨n0, b1, A2, m2, k2, n3, s4, A5, m5, k5, A6, m6, k6, rfl, hr, hC1, hK1⟩; have HF := Lib.hid (drain_first hcw ⟨_, _, _, _, _, _, _, _, _, _, _, _, _, rfl⟩ hr hC1 hK1); clear hr hC1 hK1)
  go_loopw [3, 4, 5] (fun vo vp vi wr => ∃ k g : Nat, k ≤ rows.length ∧ vp = .pointer (some ⟨g, 0, none⟩) ∧ vi = .bool (decide (k < rows.length)) ∧ DrainAt w wr c cap rows k g vo) (fun vo _ _ _ => rows.length - lenOfV vo)
  case atStart => exact ⟨0, _, Nat.zero_le _, rfl, rfl, HF.out⟩
  case round =>
    obtain ⟨k, g, hk, rfl, rfl, hD⟩ := hrel
    have HD := Lib.hid hD
    have hsz := hD.keep.size
    clear hD
    by_cases hlt : k < rows.length
    · rw [decide_eq_true hlt]
      obtain ⟨cs, hbox, h7, hcs⟩ := HD.out.box
      have hgl := blk_lt hbox
      have hgb := HD.out.base
      obtain ⟨n0, b1, A2, m2, k2, n3, s4, A5, m5, k5, A6, m6, k6, rfl⟩ := h7
      have hrk : rows[k] = [.int .i64 n0, .bool b1, .slice A2 m2 k2, .int .i64 n3, .string s4, .slice A5 m5 k5, .slice A6 m6 k6] := hcs _ (List.getElem?_eq_getElem hlt)
      have hone := (HT.out _ (List.getElem_mem hlt)).one
      rw [hrk] at hone
      have htk : Hid (rows.take (k + 1) = rows.take k ++ [[.int .i64 n0, .bool b1, .slice A2 m2 k2, .int .i64 n3, .string s4, .slice A5 m5 k5, .slice A6 m6 k6]]) := Lib.hid (by rw [List.take_succ_eq_append_getElem hlt, hrk])
      have HO := Lib.hid hone
      have hnext : decide (0 < (rows.drop (k + 1)).length) = decide (k + 1 < rows.length) := by rw [List.length_drop]; exact decide_eq_decide.2 (by omega)
      have HNX := Lib.hid hnext
      have HBX := Lib.hid hbox
      obtain ⟨e0, hb0⟩ := bcells hbox (Below.refl _ _)
      have e1 := e0 1
      have e2 := e0 2
      have e3 := e0 3
      have e4 := e0 4
      have e5 := e0 5
      have e6 := e0 6
      have e0 := e0 0
      simp only [List.getElem?_toArray, List.getElem?_cons_succ, List.getElem?_cons_zero] at e0 e1 e2 e3 e4 e5 e6
      have hm : (rows.take k).length = k := by rw [List.length_take]; omega
      clear hcs hrk hone hnext hbox
      go_wp2_with (first
        | (at_builtin; go_loud (refine Kd.R_append (Kd.raw 7) (w0 := wr) w.heap.size rfl (.tmp 17) (.tmp 19) 22 34 (.agg #[.int .i64 0, .bool false, .slice none 0 0, .int .i64 0, .string ⟨#[]⟩, .slice none 0 0, .slice none 0 0]) 112 rfl Tryd.underlying22 infoV_ rfl (by decide) (by omega) _ (rows.take k) [.int .i64 n0, .bool b1, .slice A2 m2 k2, .int .i64 n3, .string s4, .slice A5 m5 k5, .slice A6 m6 k6] [.int .i64 n0, .bool b1, .slice A2 m2 k2, .int .i64 n3, .string s4, .slice A5 m5 k5, .slice A6 m6 k6] (fun j => j ≠ g) (fun _ => False) rfl rfl ⟨rfl, rfl, HO.out⟩ (fun _ h => h.elim) (fun j hj => by omega) HD.out.row (Below.refl _ _) hsz (by rw [hm]; omega) ?_); intro v1 w1 hR1 hB1 hg1 hat1; rw [← htk.out] at hR1; have HR1 := Lib.hid hR1; have HB1 := Lib.hid hB1; have hbx1 := (hg1.block g hgl (fun h => HD.out.row.1 g h.symm rfl)).trans HBX.out; obtain ⟨c0, hc0⟩ := bcells hbx1 (Below.refl _ _); have c1 := c0 1; have c2 := c0 2; have c3 := c0 3; have c4 := c0 4; have c5 := c0 5; have c6 := c0 6; have c0 := c0 0; simp only [List.getElem?_toArray, List.getElem?_cons_succ, List.getElem?_cons_zero] at c0 c1 c2 c3 c4 c5 c6; have hk1 := Lib.hid (HD.out.keep.then hB1 (Nat.le_refl _)); have hq1 := (hk1.out.alloc (.cells #[.int .i64 n0, .bool b1, .slice A2 m2 k2, .int .i64 n3, .string s4, .slice A5 m5 k5, .slice A6 m6 k6] 34 (0, 0))).cell HB.out hq; have hC1 := Lib.hid ((HD.out.chan.then hB1 hcw).then ((Below.refl _ _).alloc (Nat.le_refl _) (.cells #[.int .i64 n0, .bool b1, .slice A2 m2 k2, .int .i64 n3, .string s4, .slice A5 m5 k5, .slice A6 m6 k6] 34 (0, 0))) (by have := hk1.out.size; omega)); clear hR1 hB1 hg1 hat1)
        | (go_at_call 25; refine (take_val b c cap (rows.drop (k + 1)) (fun r hr => HT.out r (List.mem_of_mem_drop hr)) _ hq1 hC1.out).mono ?_; rintro e w2 ⟨n0_, b1_, A2_, m2_, k2_, n3_, s4_, A5_, m5_, k5_, A6_, m6_, k6_, rfl, hr, hC2, hK2⟩; have HS := Lib.hid (drain_step hcw ⟨_, _, _, _, _, _, _, _, _, _, _, _, _, rfl⟩ HD.out HB1.out HR1.out hr hC2 hK2); obtain ⟨x0, xf⟩ := bcells (hK2.blk (by have := hk1.out.size; omega) (blk_new _ _)) (Below.refl _ _); have x1 := x0 1; have x2 := x0 2; have x3 := x0 3; have x4 := x0 4; have x5 := x0 5; have x6 := x0 6; have x0 := x0 0; simp only [List.getElem?_toArray, List.getElem?_cons_succ, List.getElem?_cons_zero] at x0 x1 x2 x3 x4 x5 x6; clear hr hC2 hK2))
      go_roundw
      case rel => exact ⟨k + 1, _, hlt, rfl, congrArg Value.bool (decide_eq_decide.2 (by omega)), HS.out⟩
      case measure =>
        obtain ⟨A, cp, rfl⟩ := Kd.R_slice HD.out.row
        obtain ⟨A1, cp1, rfl⟩ := Kd.R_slice HR1.out
        simp only [lenOfV, List.length_take]
        omega
    · rw [decide_eq_false hlt]
      obtain rfl : k = rows.length := by omega
      have hr := Kd.R_mono HD.out.row (ok' := fun _ => True) (fun _ _ => trivial)
      rw [List.take_length] at hr
      have hch := HD.out.chan
      rw [List.drop_eq_nil_of_le (by omega)] at hch
      have HK := Lib.hid HD.out.keep
      have HR := Lib.hid hr
      have HCH := Lib.hid hch
      clear hr hch
      go_wp2
      go_ret
      exact ⟨_, rfl, HR.out, HCH.out, HK.out⟩
end Go.Proofs.YtdgebcgcabhjoaaDoor.P
/- feed.Values by value: values through a queue. -/
namespace Go.Proofs.YtdgebcgcabhjoaaDoor.P
set_option linter.unusedVariables false
set_option linter.unusedSimpArgs false
open Go.RowKit Go.Conc Go.Proofs.YtdgebcgcabhjoaaDoorW.PrintWords Go.Proofs.YtdgebcgcabhjoaaDoorW.PrintMore Go.Proofs.YtdgebcgcabhjoaaDoorW.PrintLast
/-- How often a queue is filled. -/
def Times (size n t : Nat) : Prop := n ≤ t * size ∧ ∀ s, s < t → s * size < n
theorem Times.one {size n t u : Nat} (h : Times size n t) (k : Times size n u) : t = u := by
  rcases Nat.lt_trichotomy t u with hlt | rfl | hlt
  · have := k.2 t hlt; have := h.1; omega
  · rfl
  · have := h.2 u hlt; have := k.1; omega
theorem row_typed {w : World} {x : V} {cs : List Value} (h : k34.K w x cs) : Typed cs := by
  obtain ⟨A2, c2, A5, c5, A6, c6, rfl, _⟩ := k34_open h
  exact ⟨_, _, _, _, _, _, _, _, _, _, _, _, _, rfl⟩
theorem raw_reads {w0 W : World} {A : Option Addr} {n : Nat} {rows : List (List Value)} {l : List V} (h : (Kd.raw 7).C W A n rows) (hl : rows.length = l.length) (hb : Below w0.heap.size w0 W)
    (hk : ∀ (j : Nat) (x : V) (c : List Value), l[j]? = some x → rows[j]? = some c → k34.K w0 x c) : k34.C W A l.length l := by
  have h1 := h.1
  refine ⟨rfl, by have := h.2.1; omega, fun hp => ?_⟩
  obtain ⟨ad, e, hc⟩ := h.2.2 (by omega)
  refine ⟨ad, e, fun j x hx => ?_⟩
  have hj : j < rows.length := by rw [hl]; exact (List.getElem?_eq_some_iff.1 hx).1
  obtain ⟨cs, h2, ⟨rfl, _, _⟩, h3⟩ := hc j _ (List.getElem?_eq_getElem hj)
  exact ⟨_, h2, k34.K_below hb (hk j x _ hx (List.getElem?_eq_getElem hj)), h3⟩
/-- Values' world ahead of a round. -/
structure ThroughAt (w W0 wr : World) (size : Nat) (rows : List (List Value)) (n k t : Nat) (vo vl : Value) : Prop where
  row : (Kd.raw 7).R 34 wr W0.heap.size (fun _ => True) vo (rows.take k)
  chan : QC wr w.heap.size size (bufOf [])
  keep : KeepQ W0 w.heap.size wr
  left : ∃ A c, vl = .slice A (rows.drop k).length c ∧ (rows.drop k).length ≤ c ∧ (Kd.raw 7).C w A (rows.drop k).length (rows.drop k)
  at_ : k = min (t * size) n
  more : ∀ s, s < t → s * size < n
theorem wrap64_succ (t : Nat) (h : t ≤ 4611686018427387904) : wrap64 ((t : Int) + 1) = ((t + 1 : Nat) : Int) := by unfold wrap64; omega
theorem info_V : ∃ i, Tryd.prog.info? 34 = some i ∧ i.size = 7 := by
  have h : (Tryd.prog.info? 34).map (·.size) = some 7 := by kernel_rfl
  obtain ⟨i, hi, hb⟩ := Option.map_eq_some_iff.1 h
  exact ⟨i, hi, hb⟩
set_option maxRecDepth 100000 in
set_option maxHeartbeats 4000000 in
theorem Values_any (size : Nat) (h1 : 1 ≤ size) (h2 : size ≤ 4096) (l : List V) (A : Option Addr) (c : Nat) (w : World) (hLD : LaidW w) (hl : l.length ≤ c) (hA : k34.C w A l.length l) (hO : ∀ x ∈ l, OkV x) (hn : l.length ≤ 1048576) :
    Calls Tryd.prog 6 #[.int .i64 size, .slice A l.length c] w fun e w' => ∃ (v : Value) (t : Nat), e = .returned (.tuple #[v, .int .i64 t, .int .i64 (vchks l)]) ∧ (if vchks l = 0 then Times size l.length t else t = 0) ∧ k34.R 34 w' w.heap.size (fun _ => True) v (if vchks l = 0 then l else []) ∧ Below w.heap.size w w' := by
  have hbw := mkW_val_below size w
  have hnew := new_val_yes size w h1 h2
  have hch := mkW_val_chan size w
  have hc0 := mkW_val_cell0 size w
  have hc1 := mkW_val_cell1 size w
  have hsz := mkW_val_size size w
  have hchk := Checks_any l A c (mkW_val size w) (hLD.below hbw) (Kd.C_below hA hbw) hO
  generalize mkW_val size w = W at *
  obtain ⟨rows, hrl, hrC, hrk⟩ := Kd.reads_raw (sz := 7) hA (fun y c hk => ⟨k34.K_len hk, k34.K_one hk⟩)
  have hty : ∀ r ∈ rows, Typed r := fun r hr => by
    obtain ⟨j, hj, rfl⟩ := List.mem_iff_getElem.1 hr
    exact row_typed (hrk j _ _ (List.getElem?_eq_getElem (by omega)) (List.getElem?_eq_getElem hj))
  have HNEW := Lib.hid hnew
  have HCHK := Lib.hid hchk
  have HA := Lib.hid hA
  have HO := Lib.hid hO
  have HB := Lib.hid hbw
  have HRC := Lib.hid hrC
  have HRK := Lib.hid hrk
  have HTY := Lib.hid hty
  have HCH := Lib.hid hch
  have HLD := Lib.hid hLD
  clear hbw hnew hch hchk hA hO hrC hrk hty hLD
  obtain ⟨iV, hiV, hsV⟩ := info_V
  by_cases hz : vchks l = 0
  · simp only [hz, if_true]
    rw [hz] at HCHK
    go_enter Tryd.func6, Tryd.ntmps6
    go_wp2_with (first
      | (go_at_call 13; refine HNEW.out.mono ?_; rintro e w1 ⟨rfl, rfl⟩)
      | (go_at_call 14; refine HCHK.out.mono ?_; rintro e W0 ⟨rfl, hB0⟩; have HB0 := Lib.hid hB0; have hs0 := hB0.size; clear hB0))
    go_loopw [10, 11, 12] (fun vo vt vl wr => ∃ k t : Nat, k ≤ l.length ∧ vt = .int .i64 t ∧ t ≤ k ∧ Hid (ThroughAt w W0 wr size rows l.length k t vo vl)) (fun _ _ vl _ => lenOfV vl)
    case atStart =>
      refine ⟨0, 0, Nat.zero_le _, rfl, Nat.le_refl _, Lib.hid ⟨by rw [List.take_zero]; exact Kd.R_nil _ _ _ _ _, HCH.out.then HB0.out (by omega), KeepQ.refl _ _, ⟨A, c, by rw [List.drop_zero, hrl], by rw [List.drop_zero, hrl]; exact hl, by rw [List.drop_zero, hrl]; exact HRC.out⟩, by omega, fun s hs => absurd hs (by omega)⟩⟩
    case round =>
      obtain ⟨k, t, hk, rfl, htk, HT⟩ := hrel
      obtain ⟨A', c', rfl, hl', hC'⟩ := HT.out.left
      have hdl : (rows.drop k).length = l.length - k := by rw [List.length_drop, hrl]
      have hks := HT.out.keep.size
      rw [hdl] at hl' hC' ⊢
      have HC' := Lib.hid hC'
      have HDL := Lib.hid hdl
      clear hC' hdl
      by_cases hlt : k < l.length
      · have hg : decide (0 < l.length - k) = true := decide_eq_true (by omega)
        have hp : Hid (putk size 0 (l.length - k) = min size (l.length - k)) := Lib.hid rfl
        have HBW := Lib.hid (HT.out.keep.below (HB.out.trans (HB0.out.mono (by omega))) (Nat.le_refl _) (by omega))
        obtain ⟨p, hpe⟩ : ∃ p, p = putk size 0 (l.length - k) := ⟨_, rfl⟩
        have hp1 : 1 ≤ p := by rw [hpe, hp.out]; omega
        have hp2 : p ≤ l.length - k := by rw [hpe, hp.out]; omega
        have hp3 : p ≤ size := by rw [hpe, hp.out]; omega
        have hpn : Hid (p = size ∨ p = l.length - k) := Lib.hid (by rw [hpe, hp.out]; omega)
        have hq0 := HT.out.keep.cell (b := w.heap.size + 1) (by omega) (pw_cell_below HB0.out hc0)
        have hq1 := HT.out.keep.cell (b := w.heap.size + 1) (by omega) (pw_cell_below HB0.out hc1)
        have HPUT := Lib.hid (Put_val_open (w.heap.size + 1) w.heap.size size [] (rows.drop k) A' (l.length - k) c' w wr HDL.out.symm (by omega) (Nat.zero_le _) hq0 hq1 HT.out.chan (by omega) HBW.out (Nat.le_refl _) HC'.out (fun r hr => HTY.out r (List.mem_of_mem_drop hr)))
        rw [List.length_nil, ← hpe, List.nil_append] at HPUT
        have hcut := cut_from 22 34 .i64 Tryd.underlying22 hiV 7 hsV A' (l.length - k) c' (p : Int) (by omega) (by omega)
        rw [Int.toNat_natCast] at hcut
        clear hpe
        have hD : Hid (rows.drop (k + p) = (rows.drop k).drop p) := Lib.hid (by rw [List.drop_drop])
        have hTk : Hid (rows.take (k + p) = rows.take k ++ (rows.drop k).take p) := Lib.hid (by rw [List.take_add])
        have htl : ((rows.drop k).take p).length = p := by rw [List.length_take, HDL.out]; omega
        have htl2 : (rows.take k).length = k := by rw [List.length_take, hrl]; omega
        have HN1 : Hid (k + p ≤ l.length) := Lib.hid (by omega)
        have HN2 : Hid (t + 1 ≤ k + p) := Lib.hid (by omega)
        have HN3 : Hid (w.heap.size < W0.heap.size) := Lib.hid (by omega)
        have HLE : Hid (∃ A1 c1, Value.slice (if c' = p then A' else Option.map (fun x => x.add (p * 7)) A') (l.length - k - p) (c' - p) = .slice A1 (rows.drop (k + p)).length c1 ∧ (rows.drop (k + p)).length ≤ c1 ∧ (Kd.raw 7).C w A1 (rows.drop (k + p)).length (rows.drop (k + p))) := Lib.hid (by
          have e1 : (rows.drop (k + p)).length = l.length - k - p := by rw [List.length_drop, hrl]; omega
          refine ⟨_, _, by rw [e1], by rw [e1]; omega, ?_⟩
          have := Kd.C_drop (m := p) (c := c') (k := Kd.raw 7) (xs := rows.drop k) (by rw [HDL.out]; exact HC'.out) (by rw [HDL.out]; exact hp2) (by rw [HDL.out]; exact hl')
          rw [← hD.out] at this
          exact this)
        have HAT : Hid (k + p = min ((t + 1) * size) l.length) := Lib.hid (by
          have h3 := HT.out.at_
          have h4 := hpn.out
          rw [Nat.add_mul, Nat.one_mul]
          omega)
        have HMO : Hid (∀ s, s < t + 1 → s * size < l.length) := Lib.hid (fun s hs => by
          have h3 := HT.out.at_
          rcases Nat.lt_or_ge s t with h | h
          · exact HT.out.more s h
          · obtain rfl : s = t := by omega
            omega)
        have HTL := Lib.hid htl
        have HTL2 := Lib.hid htl2
        clear htl htl2
        have hw := wrap64_succ t (Nat.le_trans htk (Nat.le_trans hk (Nat.le_trans hn (by decide))))
        go_wp2_with (first
          | (go_at_call 15; refine HPUT.out.mono ?_; rintro e w2 ⟨rfl, hC2, hK2⟩; have HC2 := Lib.hid hC2; have HK2 := Lib.hid hK2; have hq2 := HK2.out.cell (b := w.heap.size + 1) (by omega) hq0; clear hC2 hK2)
          | (go_at_call 16; refine (drain_any (w.heap.size + 1) w.heap.size size ((rows.drop k).take p) (fun r hr => HTY.out r (List.mem_of_mem_drop (List.mem_of_mem_take hr))) (by rw [HTL.out]; omega) _ hq2 HC2.out (by omega)).mono ?_; rintro e w3 ⟨v3, rfl, hR3, hC3, hK3⟩; obtain ⟨A3, c3, rfl⟩ := Kd.R_slice hR3; have HR3 : Hid ((Kd.raw 7).C w3 A3 p ((rows.drop k).take p)) := Lib.hid (by have h := (Kd.R_reads' hR3).2.2; rw [HTL.out] at h; exact h); have HC3 := Lib.hid hC3; have HK3 := Lib.hid (HT.out.keep.trans (HK2.out.trans hK3)); have HR3o := Lib.hid (Kd.R_mono (Kd.R_move (Kd.R_bound HT.out.row) (fun j hj => (HK2.out.trans hK3).block j (by have := hj.2.2.1; omega) (by have := hj.2.1; omega))) (ok' := fun _ => True) (fun _ _ => trivial)); clear hR3 hC3 hK3)
          | (at_builtin; go_loud (refine Kd.R_append_rows (Kd.raw 7) (Rr := (Kd.raw 7).K w3) (w0 := w3) W0.heap.size rfl (.tmp 37) (.tmp 39) 22 34 (.agg #[.int .i64 0, .bool false, .slice none 0 0, .int .i64 0, .string ⟨#[]⟩, .slice none 0 0, .slice none 0 0]) 112 rfl Tryd.underlying22 infoV_ rfl (by decide) (by decide) _ (rows.take k) ((rows.drop k).take p) A3 _ c3 (fun _ => True) (fun _ => False) rfl rfl HR3o.out HR3.out (fun _ _ hk => hk) (fun _ hk => hk.elim) (fun _ _ => trivial) (Below.refl _ _) HK3.out.size (by rw [HTL2.out]; omega) ?_); intro v4 w4 hR4 hB4 hg4 hat4; rw [← hTk.out] at hR4; have HR4 := Lib.hid hR4; have HB4 := Lib.hid hB4; clear hR4 hB4 hg4 hat4))
        go_roundw
        case rel => exact ⟨k + p, t + 1, HN1.out, by first | rfl | exact congrArg (Value.int .i64) hw, HN2.out, Lib.hid ⟨HR4.out, HC3.out.then HB4.out HN3.out, HK3.out.then HB4.out (Nat.le_refl _), HLE.out, HAT.out, HMO.out⟩⟩
        case measure => clear hw; simp only [lenOfV]; omega
      · obtain rfl : k = l.length := by omega
        have HROW := Lib.hid HT.out.row
        rw [show rows.take l.length = rows by rw [← hrl, List.take_length]] at HROW
        obtain ⟨AO, cO, rfl⟩ := Kd.R_slice HROW.out
        have HBW := Lib.hid (HT.out.keep.below (HB.out.trans (HB0.out.mono (by omega))) (Nat.le_refl _) (by omega))
        have hCV := raw_reads (Kd.R_reads' HROW.out).2.2 hrl HBW.out HRK.out
        have hrc : l.length ≤ cO := by have := (Kd.R_reads' HROW.out).2.1; omega
        have HCL := Lib.hid (Clones_any l AO cO wr hrc hCV HO.out (by omega))
        rw [hrl]
        have HTI : Hid (Times size l.length t) := Lib.hid ⟨by have := HT.out.at_; omega, HT.out.more⟩
        have HSZ : Hid (w.heap.size ≤ wr.heap.size) := Lib.hid (by omega)
        clear hCV hrc
        go_wp2_with (first | (go_at_call 17; refine HCL.out.mono ?_; rintro e w5 ⟨v5, rfl, hR5, hB5⟩))
        go_ret3
        exact ⟨_, _, rfl, HTI.out, Kd.R_lower hR5 HSZ.out, HBW.out.trans (hB5.mono HSZ.out)⟩
  · simp only [hz, if_false]
    have hzb : (vchks l != 0) = true := by simpa using hz
    generalize vchks l = vc at *
    go_enter Tryd.func6, Tryd.ntmps6
    go_wp2_with (first
      | (go_at_call 13; refine HNEW.out.mono ?_; rintro e w1 ⟨rfl, rfl⟩)
      | (go_at_call 14; refine HCHK.out.mono ?_; rintro e W0 ⟨rfl, hB0⟩; have HB0 := Lib.hid hB0; have hs0 := hB0.size; clear hB0))
    go_ret3
    exact ⟨_, 0, rfl, rfl, Kd.R_nil _ _ _ _ _, HB.out.trans (HB0.out.mono (by omega))⟩
end Go.Proofs.YtdgebcgcabhjoaaDoor.P
/- The contract of Put: as many as there are places. -/
namespace Go.Proofs.YtdgebcgcabhjoaaDoor
open Go.RowKit Go.Conc

/-- A slice's cells, none of them in block c. -/
def CellsAt (w : World) (c : Nat) (a : Option Addr) (vs : List Value) : Prop := vs = [] ∨ ∃ b off, a = some ⟨b, off, none⟩ ∧ b ≠ c ∧ ∀ k, k < vs.length → w.cell? ⟨b, off + k, none⟩ = some (vs.getD k undef)

theorem QW.cells {w w1 : World} {c cap : Nat} {b1 : Array Value} (h1 : QW w c cap b1 w1) {b : Nat} (h : b ≠ c) {o : Nat} {v : Value} (hv : w.cell? ⟨b, o, none⟩ = some v) : w1.cell? ⟨b, o, none⟩ = some v := by
  rw [h1.cell h]; exact hv
/-- What Put puts. -/
def putn (cap : Nat) (buf : Array Value) (vs : List Value) : Nat := min (cap - buf.size) vs.length
theorem take_push (buf : Array Value) (vs : List Value) (k : Nat) (h : k < vs.length) : (buf ++ (vs.take k).toArray).push (vs.getD k undef) = buf ++ (vs.take (k + 1)).toArray := by
  apply Array.toList_inj.1
  have e : vs.getD k undef = vs[k] := by rw [List.getD_eq_getElem?_getD, List.getElem?_eq_getElem h]; rfl
  rw [List.take_succ_eq_append_getElem h, e]
  simp
theorem size_take (buf : Array Value) (vs : List Value) (k : Nat) (h : k ≤ vs.length) : (buf ++ (vs.take k).toArray).size = buf.size + k := by
  simp; omega

/-! ### int -/
set_option maxHeartbeats 400000 in
theorem Put_int_nil (l : Value) (w : World) : Calls Tryd.prog 10 #[.pointer none, l] w fun e w' => e = .returned (.int .i64 0) ∧ w = w' := by
  go_enter Tryd.func10, Tryd.ntmps10
  go_wp2_with (go_at_call 20; refine (open_int_nil _).mono ?_; rintro e w' ⟨rfl, rfl⟩)
  go_ret
  exact ⟨rfl, rfl⟩
set_option maxHeartbeats 400000 in
theorem Put_int_zero (b : Nat) (l : Value) (w : World) (hq : w.cell? ⟨b, 0, none⟩ = some (.chan none)) : Calls Tryd.prog 10 #[.pointer (some ⟨b, 0, none⟩), l] w fun e w' => e = .returned (.int .i64 0) ∧ w = w' := by
  go_enter Tryd.func10, Tryd.ntmps10
  go_wp2_with (go_at_call 20; refine (open_int_zero _ _ hq).mono ?_; rintro e w' ⟨rfl, rfl⟩)
  go_ret
  exact ⟨rfl, rfl⟩
set_option maxHeartbeats 400000 in
theorem Put_int_closed (b c : Nat) (l : Value) (w : World) (hq : w.cell? ⟨b, 0, none⟩ = some (.chan (some c))) (hcl : w.cell? ⟨b, 1, none⟩ = some (.bool true)) : Calls Tryd.prog 10 #[.pointer (some ⟨b, 0, none⟩), l] w fun e w' => e = .returned (.int .i64 0) ∧ w = w' := by
  go_enter Tryd.func10, Tryd.ntmps10
  go_wp2_with (go_at_call 20; refine (open_int_any _ _ true _ hq hcl).mono ?_; rintro e w' ⟨rfl, rfl⟩)
  go_ret
  exact ⟨rfl, rfl⟩

set_option maxHeartbeats 1000000 in
theorem Put_int_open (b c cap : Nat) (buf : Array Value) (al : Option Addr) (n cp : Nat) (vs : List Value) (w : World) (hn : n = vs.length) (hm : n ≤ 9223372036854775807) (hbuf : buf.size ≤ cap) (hq : w.cell? ⟨b, 0, none⟩ = some (.chan (some c))) (hcl : w.cell? ⟨b, 1, none⟩ = some (.bool false)) (hC : QC w c cap buf)
    (hbc : b ≠ c) (hcells : CellsAt w c al vs) :
    Calls Tryd.prog 10 #[.pointer (some ⟨b, 0, none⟩), .slice al n cp] w fun e w' => e = .returned (.int .i64 (putn cap buf vs)) ∧ QW w c cap (buf ++ (vs.take (putn cap buf vs)).toArray) w' := by
  have HN := Lib.hid hn
  have HC := Lib.hid hC
  have HB := Lib.hid hbc
  have HCE := Lib.hid hcells
  clear hn hC hbc hcells
  go_enter Tryd.func10, Tryd.ntmps10
  go_wp2_with (go_at_call 20; refine (open_int_any _ _ false _ hq hcl).mono ?_; rintro e w' ⟨rfl, rfl⟩)
  go_loopw [12] (fun i wr => ∃ k : Nat, k ≤ n ∧ i = .int .i64 k ∧ buf.size + k ≤ cap ∧ QW w c cap (buf ++ (vs.take k).toArray) wr) (fun i _ => n - (intOf i).toNat)
  case atStart => exact ⟨0, Nat.zero_le _, rfl, by omega, by simpa using QW.refl HC.out⟩
  case round =>
    obtain ⟨k, hk, rfl, hroom, hQ⟩ := hrel
    have HQ := Lib.hid hQ
    clear hQ
    by_cases hlt : k < n
    · obtain h0 | ⟨bl, off, rfl, hblc, hc⟩ := HCE.out
      · exact absurd hlt (by have := HN.out; rw [h0] at this; simp at this; omega)
      have hcell := HQ.out.cells hblc (hc k (by have := HN.out; omega))
      clear hblc hc
      have hq1 := HQ.out.cells HB.out hq
      by_cases hfull : buf.size + k < cap
      · go_wp2_with (go_at_call 21; refine (put_int_ok _ _ _ _ _ _ hq1 (HQ.out.chan HC.out.lt) (by rw [size_take _ _ _ (by have := HN.out; omega)]; exact hfull)).mono ?_; rintro e w' ⟨rfl, hw'⟩; have HW := Lib.hid hw'; clear hw')
        go_roundw
        case rel => exact ⟨k + 1, by omega, by go_num, by omega, by rw [← take_push _ _ _ (by have := HN.out; omega)]; exact HQ.out.trans HW.out⟩
        case measure => simp [intOf]; omega
      · have e : k = putn cap buf vs := by have := HN.out; unfold putn; omega
        have E := Lib.hid e
        clear e
        go_wp2_with (go_at_call 21; refine (put_int_full _ _ _ _ _ _ hq1 (HQ.out.chan HC.out.lt) (by rw [size_take _ _ _ (by have := HN.out; omega)]; omega)).mono ?_; rintro e w' ⟨rfl, rfl⟩)
        go_ret
        rw [← E.out]
        exact ⟨rfl, HQ.out⟩
    · have e : k = putn cap buf vs := by have := HN.out; unfold putn; omega
      have e2 : k = n := by omega
      have E := Lib.hid e
      have E2 := Lib.hid e2
      clear e e2
      go_wp2
      go_ret
      rw [← E.out, ← E2.out]
      exact ⟨rfl, HQ.out⟩

theorem QC.alloc {w : World} {c cap : Nat} {b : Array Value} (h : QC w c cap b) (o : Obj) : QC (w.alloc o) c cap b := by
  have hl := h.lt
  obtain ⟨s, r, h⟩ := h
  exact ⟨s, r, by rw [Below.heap_alloc _ _ _ hl]; exact h⟩
theorem later {w : World} {a : Addr} {v : Value} {o : Obj} (h : w.cell? a = some v) : (w.alloc o).cell? a = some v :=
  cell_later ((Below.refl _ _).alloc (Nat.le_refl _) _) h
set_option maxHeartbeats 400000 in
theorem alive_any (w : World) : Calls Tryd.prog 4 #[] w fun e w' => e = .returned (.bool true) ∧ Below w.heap.size w w' := by
  have hC := mkW_int_chan 1 w
  have hz := mkW_int_size 1 w
  have hb := mkW_int_below 1 w
  have h0 := mkW_int_cell0 1 w
  have h1 := mkW_int_cell1 1 w
  obtain ⟨W, hW⟩ : ∃ W, W = mkW_int 1 w := ⟨_, rfl⟩
  rw [← hW] at hC hz hb h0 h1
  have HC := Lib.hid hC
  have HZ := Lib.hid hz
  have HW := Lib.hid hW
  have HB := Lib.hid hb
  clear hC hz hW hb
  go_enter Tryd.func4, Tryd.ntmps4
  go_wp2_with fail
  refine (new_int_yes 1 _ (by omega) (by omega)).mono ?_
  rintro e w' ⟨rfl, rfl⟩
  rw [← HW.out]
  go_wp2_with fail
  refine (Put_int_open (w.heap.size + 1) w.heap.size 1 #[] (some ⟨W.heap.size, 0, none⟩) 2 2 [.int .i64 7, .int .i64 8] _ rfl (by omega) (by simp) (later h0) (later h1) (HC.out.alloc _) (by omega) (.inr ⟨_, _, rfl, by have := HZ.out; omega, ?_⟩)).mono ?_
  · intro k hk
    rcases k with _ | _ | k
    · go_simp
    · go_simp
    · simp at hk; omega
  · rintro e w' ⟨rfl, hQ⟩
    have hp : (putn 1 #[] [Value.int .i64 7, Value.int .i64 8]) = 1 := rfl
    rw [hp] at hQ ⊢
    have hq1 := hQ.cells (b := w.heap.size + 1) (o := 0) (v := .chan (some w.heap.size)) (by omega) (later h0)
    have HQ := Lib.hid hQ
    clear hQ hp
    go_wp2_with (go_at_call 11; refine (len_int_any _ _ _ _ _ hq1 (HQ.out.chan (by have := HZ.out; simp; omega))).mono ?_; rintro e w' ⟨rfl, rfl⟩)
    go_ret
    refine ⟨rfl, ?_⟩
    exact HQ.out.below (HB.out.alloc (by have := HZ.out; omega) _) (Nat.le_refl _)


end Go.Proofs.YtdgebcgcabhjoaaDoor
/- FeedOwn's walk. -/
namespace Go.Proofs.YtdgebcgcabhjoaaDoor.P
set_option linter.unusedVariables false
set_option linter.unusedSimpArgs false
open Go.RowKit Go.Conc Go.Proofs.YtdgebcgcabhjoaaDoorW.PrintWords Go.Proofs.YtdgebcgcabhjoaaDoorW.PrintMore Go.Proofs.YtdgebcgcabhjoaaDoorW.PrintLast
theorem feed_size (a0 : Int) : ∃ n : Nat, 1 ≤ n ∧ n ≤ 50 ∧ wrap64 ((wrap64 (a0.tmod 50 + 50)).tmod 50 + 1) = (n : Int) := by
  have h1 : -50 < a0.tmod 50 ∧ a0.tmod 50 < 50 := by
    constructor
    · have := Int.lt_tmod_of_pos a0 (by omega : (0 : Int) < 50); omega
    · exact Int.tmod_lt_of_pos a0 (by omega)
  have h2 : wrap64 (a0.tmod 50 + 50) = a0.tmod 50 + 50 := by unfold wrap64; omega
  have h3 : (a0.tmod 50 + 50).tmod 50 = (a0.tmod 50 + 50) % 50 := Int.tmod_eq_emod_of_nonneg (by omega)
  refine ⟨((a0.tmod 50 + 50) % 50 + 1).toNat, by omega, by omega, ?_⟩
  rw [h2, h3]
  unfold wrap64
  omega
/-- A row whose cells lead into the set: an element's cells. -/
theorem good_row {S : Nat → Nat → Nat → Prop} {w : World} {A : Option Addr} {m c : Nat} (hG : Good S w) (h : GoodS S 34 (.slice A m c)) (k : Nat) (hk : k < m) :
    ∃ g a0 a1 v2 a3 a4 v5 v6, A = some ⟨g, 0, none⟩ ∧ GoodV S [.int .i64 a0, .bool a1, v2, .int .i64 a3, .string a4, v5, v6] ∧ w.cell? ⟨g, k * 7, none⟩ = some (.int .i64 a0) ∧ w.cell? ⟨g, k * 7 + 1, none⟩ = some (.bool a1) ∧ w.cell? ⟨g, k * 7 + 2, none⟩ = some v2 ∧ w.cell? ⟨g, k * 7 + 3, none⟩ = some (.int .i64 a3) ∧ w.cell? ⟨g, k * 7 + 4, none⟩ = some (.string a4) ∧ w.cell? ⟨g, k * 7 + 5, none⟩ = some v5 ∧ w.cell? ⟨g, k * 7 + 6, none⟩ = some v6 := by
  obtain ⟨A', m', c', e, _, hp⟩ := h
  injection e with e1 e2 e3
  subst e1 e2 e3
  obtain ⟨g, n, rfl, hs, hmn⟩ := hp (by omega)
  obtain ⟨cs, hV, hc⟩ := hG.val g n hs k (by omega)
  have hV2 := hV
  obtain ⟨a0, a1, v2, a3, a4, v5, v6, rfl, _⟩ := hV2
  exact ⟨g, a0, a1, v2, a3, a4, v5, v6, rfl, hV, hc 0 _ rfl, hc 1 _ rfl, hc 2 _ rfl, hc 3 _ rfl, hc 4 _ rfl, hc 5 _ rfl, hc 6 _ rfl⟩
theorem goodS_vals {W : World} {base : Nat} {v : Value} {xs : List V} (h : k34.R 34 W base (fun _ => True) v xs) : GoodS (Made W base) 34 v :=
  goodS_of_R h (fun g c hr hb hp => ⟨hb, hp, .inr (.inr ⟨rfl, c, _, rfl, hr⟩)⟩)
/-- What comes out. -/
def through (l : List V) : List V := if vchks l = 0 then l else []
theorem times_one {size n t u : Nat} {p : Prop} [Decidable p] (h : if p then Times size n t else t = 0) (k : if p then Times size n u else u = 0) : u = t := by
  by_cases hp : p
  · rw [if_pos hp] at h k
    exact Times.one k h
  · rw [if_neg hp] at h k
    omega
set_option maxRecDepth 100000 in
set_option maxHeartbeats 4000000 in
theorem own_walk (a0 : Int) (l : List V) (A : Option Addr) (c : Nat) (w : World) (hLD : LaidW w) (hl : l.length ≤ c) (hA : k34.C w A l.length l) (hO : ∀ x ∈ l, OkV x) (hn : l.length ≤ 1048576) :
    Calls Tryd.prog 3 #[.int .i64 a0, .slice A l.length c] w fun e w' => e = .returned (.bool true) ∧ Below w.heap.size w w' := by
  obtain ⟨n, h1, h2, hsize⟩ := feed_size a0
  have h24 : n ≤ 4096 := Nat.le_trans h2 (by decide)
  have HA := Lib.hid hA
  have HO := Lib.hid hO
  have HL := Lib.hid hLD
  have HN := Lib.hid hn
  clear hA hO hLD hn
  go_enter Tryd.func3, Tryd.ntmps3
  go_wp2_with (first
    | (go_at_call 4; refine (alive_any _).mono ?_; rintro e w0 ⟨rfl, hB0⟩; have HB0 := Lib.hid hB0; have hs0 := hB0.size; clear hB0)
    | (go_at_call 5; refine (Copies_any l A c w0 (Kd.C_below HA.out HB0.out) HO.out (Nat.le_trans HN.out (by decide))).mono ?_; rintro e w1 ⟨v1, rfl, hR1, hB1⟩; obtain ⟨A1, c1, rfl⟩ := Kd.R_slice hR1; have HR1 := Lib.hid hR1; have HB1 := Lib.hid (HB0.out.trans (hB1.mono hs0)); have hs1 := hB1.size; clear hR1 hB1)
    | (go_at_call 6; go_loud (refine (Values_any n h1 h24 l A1 c1 w1 (HL.out.below HB1.out) (Kd.R_reads' HR1.out).2.1 (Kd.R_reads' HR1.out).2.2 HO.out HN.out).mono ?_); rintro e w2 ⟨v2, t2, rfl, hT2, hR2, hB2⟩; replace hR2 : k34.R 34 w2 w1.heap.size (fun _ => True) v2 (through l) := hR2; have HR2 := Lib.hid hR2; have HT2 := Lib.hid hT2; have HB2 := Lib.hid hB2; have hs2 := hB2.size; clear hR2 hB2 hT2))
  clear hsize
  have HG : Hid (Good (Made w1 w0.heap.size) w2) := Lib.hid ((rows_good w1 w0.heap.size).below HB2.out)
  have HGS : Hid (GoodS (Made w1 w0.heap.size) 34 (.slice A1 l.length c1)) := Lib.hid (goodS_vals HR1.out)
  go_loopw [9] (fun vi wr => ∃ k : Nat, k ≤ l.length ∧ vi = .int .i64 k ∧ Good (Made w1 w0.heap.size) wr ∧ Only (Made w1 w0.heap.size) w2 wr) (fun vi _ => l.length - (intOf vi).toNat)
  case atStart => exact ⟨0, Nat.zero_le _, rfl, HG.out, Only.refl _ _⟩
  case round =>
    obtain ⟨k, hk, rfl, hG, hO⟩ := hrel
    by_cases hlt : k < l.length
    · obtain ⟨g, x0, x1, x2, x3, x4, x5, x6, rfl, hV, q0, q1, q2, q3, q4, q5, q6⟩ := good_row hG HGS.out k hlt
      have hV2 := hV
      obtain ⟨_, _, _, _, _, _, _, e, ⟨_, _, _, rfl, _⟩, ⟨_, _, _, rfl, _⟩, ⟨_, _, _, rfl, _⟩⟩ := hV2
      simp only [List.cons.injEq, Value.int.injEq, Value.bool.injEq, Value.string.injEq, true_and, and_true] at e
      obtain ⟨rfl, rfl, rfl, rfl, rfl, rfl, rfl⟩ := e
      have HS := Lib.hid (SpoilValue_in (Made w1 w0.heap.size) 9 _ wr (by decide) hG hV)
      have HOO := Lib.hid hO
      have hw := wrap64_succ k (Nat.le_trans hk (Nat.le_trans HN.out (by decide)))
      clear hG hV hO
      go_wp2_with (first | (go_at_call 7; refine HS.out.mono ?_; rintro e w4 ⟨⟨r4, rfl⟩, hG4, hO4⟩; have HG4 := Lib.hid hG4; have HO4 := Lib.hid (HOO.out.trans hO4); clear hG4 hO4))
      go_roundw
      case rel => exact ⟨k + 1, hlt, by first | exact congrArg (Value.int .i64) hw | rfl, HG4.out, HO4.out⟩
      case measure => rw [hw]; show l.length - (k + 1) < l.length - k; clear hw; omega
    · obtain rfl : k = l.length := by omega
      have HOO := Lib.hid hO
      have hs3 := hO.size
      have HR2b := Lib.hid (HOO.out.later (Nat.le_refl _) HR2.out)
      have HB3 := Lib.hid ((HB1.out.trans (HB2.out.mono (by omega))).trans ((HOO.out.below (by omega)).mono hs0))
      obtain ⟨A2, c2, rfl⟩ := Kd.R_slice HR2b.out
      clear hG hO
      go_wp2_with (first
        | (go_at_call 6; go_loud (refine (Values_any n h1 h24 l A c wr (HL.out.below HB3.out) hl (Kd.C_below HA.out HB3.out) HO.out HN.out).mono ?_); rintro e w5 ⟨v5, t5, rfl, hT5, hR5, hB5⟩; replace hR5 : k34.R 34 w5 wr.heap.size (fun _ => True) v5 (through l) := hR5; obtain rfl := times_one HT2.out hT5; obtain ⟨A5, c5, rfl⟩ := Kd.R_slice hR5; have hs5 := hB5.size; have HB5 := Lib.hid (HB3.out.trans (hB5.mono (by omega))); have HSA := Lib.hid (SameAll_any _ _ A2 c2 A5 c5 w5 (Kd.R_reads' HR2b.out).2.1 (Kd.C_below (Kd.R_reads' HR2b.out).2.2 hB5) (Kd.R_reads' hR5).2.1 (Kd.R_reads' hR5).2.2))
        | (go_at_call 8; refine HSA.out.mono ?_; rw [same_refl]; rintro e w6 ⟨rfl, hB6⟩))
      go_ret
      exact ⟨rfl, HB5.out.trans (hB6.mono (by omega))⟩
end Go.Proofs.YtdgebcgcabhjoaaDoor.P
/- What a statement reads of values that came in: they lie as the walk reads them (K, C). -/
namespace Go.Proofs.YtdgebcgcabhjoaaDoor.P
set_option linter.unusedVariables false
set_option linter.unusedSimpArgs false
open Go.RowKit Go.Proofs.YtdgebcgcabhjoaaDoorW.PrintWords Go.Proofs.YtdgebcgcabhjoaaDoorW.PrintMore
section
open _root_.Go.Proofs.YtdgebcgcabhjoaaDoor.Rows
theorem one_le_bulk {H : Type} (d : DataW H) : 1 ≤ uptoBulk d := by
  cases d with
  | lit l => cases l <;> simp [uptoBulk]
  | nil => simp [uptoBulk]
  | ptr d => simp [uptoBulk]
  | slice elems spare => simp [uptoBulk]
  | agg parts => simp [uptoBulk]
  | iface t d => simp [uptoBulk]
  | map entries => simp [uptoBulk]
  | held h => simp [uptoBulk]
theorem length_le_bulk {H : Type} (l : List (DataW H)) : l.length ≤ uptoBulkAll l := by
  induction l with
  | nil => simp [uptoBulkAll]
  | cons x r ih => have := one_le_bulk x; simp only [uptoBulkAll, List.length_cons]; omega
theorem mem_le_bulk {H : Type} {l : List (DataW H)} {d : DataW H} (h : d ∈ l) : uptoBulk d ≤ uptoBulkAll l := by
  induction l with
  | nil => simp at h
  | cons x r ih =>
    simp only [uptoBulkAll]
    rcases List.mem_cons.1 h with rfl | h
    · omega
    · have := ih h; omega
end
section
variable {H : Type} {enc : TypeId × Value → H} {P : Program} {w : World} {base : Nat} {spare : Nat → Bool} {held : Bool}
/-- A slice that came in, its elements read by d. -/
theorem open_row {α : Type} {d : Kd α} {okv : α → Prop} {t e : TypeId} {fuel : Nat} {cs : List Value} {x : DataW H × List MemPlace} (ht : P.underlying t = some (.slice e)) (hsz : d.sz = P.cellsOf e)
    (ih : ∀ n cs x, n < fuel → DataW.trod enc P w base spare held n e cs = some x → Rows.uptoBulk x.1 ≤ 1048576 → ∃ y : α, d.K w y cs ∧ okv y) (hbulk : Rows.uptoBulk x.1 ≤ 1048576) (h : DataW.trod enc P w base spare held fuel t cs = some x) :
    ∃ (A : Option Addr) (c : Nat) (ys : List α), cs = [.slice A ys.length c] ∧ ys.length ≤ c ∧ ys.length ≤ 1048576 ∧ d.C w A ys.length ys ∧ ∀ y ∈ ys, okv y := by
  rcases DataW.trod_slice ht h with ⟨rfl, _⟩ | ⟨a, len, cap, elems, rest, n, rfl, rfl, rfl, hb, hl, hm, hel0, hel, _, _⟩
  · exact ⟨none, 0, [], rfl, Nat.le_refl _, Nat.zero_le _, Kd.C_nil d w, fun y hy => by simp at hy⟩
  · have each : ∀ i, i < len → ∃ (cs : List Value) (y : α), w.cells? base (a.add (i * P.cellsOf e)) (P.cellsOf e) = some cs ∧ d.K w y cs ∧ okv y := fun i hi => by
      have h1 := hel i hi
      obtain ⟨z, hz⟩ : ∃ z, elems[i]? = some z := ⟨elems[i], List.getElem?_eq_getElem (by omega)⟩
      rw [hz, Option.bind_eq_some_iff] at h1
      obtain ⟨cs, h2, h3⟩ := h1
      obtain ⟨y, hy, hk⟩ := ih n cs z (Nat.lt_succ_self _) h3 (by
        have hm : z.1 ∈ elems.map (·.1) := List.mem_map_of_mem (List.mem_of_getElem? hz)
        have := mem_le_bulk hm
        replace hbulk : Rows.uptoBulk (DataW.slice (elems.map (·.1)) (rest.map (·.1))) ≤ 1048576 := hbulk
        rw [Rows.uptoBulk] at hbulk
        omega)
      exact ⟨cs, y, h2, hy, hk⟩
    have pick : ∀ m, m ≤ len → ∃ ys : List α, ys.length = m ∧ ∀ i y, ys[i]? = some y → (∃ cs, w.cells? base (a.add (i * P.cellsOf e)) (P.cellsOf e) = some cs ∧ d.K w y cs) ∧ okv y := by
      intro m
      induction m with
      | zero => exact fun _ => ⟨[], rfl, fun i y hy => by simp at hy⟩
      | succ m ihm =>
        intro hm
        obtain ⟨ys, hy1, hy2⟩ := ihm (by omega)
        obtain ⟨cs, y, h1, h2, h3⟩ := each m (by omega)
        refine ⟨ys ++ [y], by simp [hy1], fun i z hz => ?_⟩
        rcases Nat.lt_or_ge i m with hi | hi
        · rw [List.getElem?_append_left (by omega)] at hz
          exact hy2 i z hz
        · rw [List.getElem?_append_right (by omega), hy1] at hz
          have : i = m := by
            rcases Nat.lt_or_ge m i with h | h
            · rw [List.getElem?_eq_none (by simp; omega)] at hz; simp at hz
            · omega
          subst this
          simp at hz
          subst hz
          exact ⟨⟨cs, h1, h2⟩, h3⟩
    obtain ⟨ys, hy1, hy2⟩ := pick len (Nat.le_refl _)
    have hll : len ≤ 1048576 := by
      have := length_le_bulk (elems.map (·.1))
      rw [List.length_map, hel0] at this
      replace hbulk : Rows.uptoBulk (DataW.slice (elems.map (·.1)) (rest.map (·.1))) ≤ 1048576 := hbulk
      rw [Rows.uptoBulk] at hbulk
      omega
    refine ⟨some a, cap, ys, by rw [hy1], by omega, by omega, ⟨rfl, by unfold maxLen at hm; omega, fun _ => ⟨a, rfl, fun j p hj => ?_⟩⟩, fun y hy => ?_⟩
    · obtain ⟨⟨cs, h1, h2⟩, _⟩ := hy2 j p hj
      obtain ⟨_, h4, h5⟩ := World.cells?_some h1
      refine ⟨cs, by rw [hsz]; exact h4, h2, fun i u hu => ?_⟩
      have hi : i < P.cellsOf e := by have := (List.getElem?_eq_some_iff.1 hu).1; omega
      have := h5 i hi
      rw [hu] at this
      rw [← this, hsz, Addr.add_add]
    · obtain ⟨i, hi⟩ := List.getElem?_of_mem hy
      exact (hy2 i y hi).2
end
theorem field_at {H : Type} {enc : TypeId × Value → H} {P : Program} {w : World} {base : Nat} {spare : Nat → Bool} {held : Bool} {n : Nat} {cs : List Value} {xs : List (DataW H × List MemPlace)} {fs : Array Field}
    (hf : ∀ (i : Nat) (f : Field), fs[i]? = some f → DataW.trod enc P w base spare held n f.type ((cs.drop f.offset).take (P.cellsOf f.type)) = xs[i]?) (i t off k : Nat) (h : (fs[i]?).map (fun f => (f.type, f.offset)) = some (t, off)) (hk : P.cellsOf t = k) :
    DataW.trod enc P w base spare held n t ((cs.drop off).take k) = xs[i]? := by
  obtain ⟨f, h1, h2⟩ := Option.map_eq_some_iff.1 h
  simp only [Prod.mk.injEq] at h2
  obtain ⟨rfl, rfl⟩ := h2
  subst hk
  exact hf i f h1
section
variable {H : Type} {enc : TypeId × Value → H} {w : World} {base : Nat} {spare : Nat → Bool} {held : Bool}
theorem open_val : ∀ (fuel : Nat) (cs : List Value) (x : DataW H × List MemPlace), DataW.trod enc Tryd.prog w base spare held fuel 34 cs = some x → Rows.uptoBulk x.1 ≤ 1048576 → ∃ y : S34, k34.K w y cs ∧ OkV y := by
  intro fuel
  induction fuel using Nat.strongRecOn with
  | _ fuel ih =>
    intro cs x h hbulk
    obtain ⟨xs, n, rfl, rfl, hlen, hxl, hf⟩ := DataW.trod_struct Tryd.underlying34 h
    replace hbulk : Rows.uptoBulk (DataW.agg (xs.map (·.1))) ≤ 1048576 := hbulk
    rw [Rows.uptoBulk] at hbulk
    have part : ∀ (i : Nat) y, xs[i]? = some y → Rows.uptoBulk y.1 ≤ 1048576 := fun i y hy => by
      have := mem_le_bulk (List.mem_map_of_mem (f := (·.1)) (List.mem_of_getElem? hy))
      omega
    have hsz : Tryd.prog.cellsOf 34 = 7 := by kernel_rfl
    rw [hsz] at hlen
    obtain ⟨c0, c1, c2, c3, c4, c5, c6, rfl⟩ := list7 hlen
    have e3 : Tryd.prog.cellsOf 3 = 1 := by kernel_rfl
    have e24 : Tryd.prog.cellsOf 31 = 3 := by kernel_rfl
    have e9 : Tryd.prog.cellsOf 9 = 1 := by kernel_rfl
    have e25 : Tryd.prog.cellsOf 22 = 1 := by kernel_rfl
    have e26 : Tryd.prog.cellsOf 32 = 1 := by kernel_rfl
    have q0 : DataW.trod enc Tryd.prog w base spare held n 3 [c0] = xs[0]? := field_at hf 0 3 0 1 rfl e3
    have q1 : DataW.trod enc Tryd.prog w base spare held n 31 [c1, c2, c3] = xs[1]? := field_at hf 1 31 1 3 rfl e24
    have q2 : DataW.trod enc Tryd.prog w base spare held n 9 [c4] = xs[2]? := field_at hf 2 9 4 1 rfl e9
    have q3 : DataW.trod enc Tryd.prog w base spare held n 22 [c5] = xs[3]? := field_at hf 3 22 5 1 rfl e25
    have q4 : DataW.trod enc Tryd.prog w base spare held n 32 [c6] = xs[4]? := field_at hf 4 32 6 1 rfl e26
    obtain ⟨y0, g0⟩ : ∃ y, xs[0]? = some y := ⟨xs[0]'(by rw [hxl]; decide), List.getElem?_eq_getElem _⟩
    obtain ⟨y1, g1⟩ : ∃ y, xs[1]? = some y := ⟨xs[1]'(by rw [hxl]; decide), List.getElem?_eq_getElem _⟩
    obtain ⟨y2, g2⟩ : ∃ y, xs[2]? = some y := ⟨xs[2]'(by rw [hxl]; decide), List.getElem?_eq_getElem _⟩
    obtain ⟨y3, g3⟩ : ∃ y, xs[3]? = some y := ⟨xs[3]'(by rw [hxl]; decide), List.getElem?_eq_getElem _⟩
    obtain ⟨y4, g4⟩ : ∃ y, xs[4]? = some y := ⟨xs[4]'(by rw [hxl]; decide), List.getElem?_eq_getElem _⟩
    rw [g0] at q0
    rw [g1] at q1
    rw [g2] at q2
    rw [g3] at q3
    rw [g4] at q4
    obtain ⟨n0, p0, _, w0⟩ := DataW.trod_int Tryd.underlying3 q0
    obtain ⟨s, p2, hy2, _⟩ := DataW.trod_string Tryd.underlying9 q2
    have w2 : s.size ≤ 1073741824 := by
      have := part _ _ g2
      rw [hy2] at this
      replace this : Rows.uptoBulk (DataW.lit (.string s.data.toList) : DataW H) ≤ 1048576 := this
      rw [Rows.uptoBulk, Array.length_toList] at this
      have : s.size = s.data.size := rfl
      omega
    -- the number
    obtain ⟨zs, m, rfl, hy1, _, hzl, hz⟩ := DataW.trod_struct Tryd.underlying31 q1
    have e4 : Tryd.prog.cellsOf 4 = 1 := by kernel_rfl
    have e22 : Tryd.prog.cellsOf 29 = 1 := by kernel_rfl
    have r0 : DataW.trod enc Tryd.prog w base spare held m 4 [c1] = zs[0]? := field_at hz 0 4 0 1 rfl e4
    have r1 : DataW.trod enc Tryd.prog w base spare held m 29 [c2] = zs[1]? := field_at hz 1 29 1 1 rfl e22
    have r2 : DataW.trod enc Tryd.prog w base spare held m 3 [c3] = zs[2]? := field_at hz 2 3 2 1 rfl e3
    obtain ⟨z0, t0⟩ : ∃ y, zs[0]? = some y := ⟨zs[0]'(by rw [hzl]; decide), List.getElem?_eq_getElem _⟩
    obtain ⟨z1, t1⟩ : ∃ y, zs[1]? = some y := ⟨zs[1]'(by rw [hzl]; decide), List.getElem?_eq_getElem _⟩
    obtain ⟨z2, t2⟩ : ∃ y, zs[2]? = some y := ⟨zs[2]'(by rw [hzl]; decide), List.getElem?_eq_getElem _⟩
    rw [t0] at r0
    rw [t1] at r1
    rw [t2] at r2
    have hb1 := part _ _ g1
    rw [hy1] at hb1
    replace hb1 : Rows.uptoBulk (DataW.agg (zs.map (·.1))) ≤ 1048576 := hb1
    rw [Rows.uptoBulk] at hb1
    have hbz : Rows.uptoBulk z1.1 ≤ 1048576 := by
      have := mem_le_bulk (List.mem_map_of_mem (f := (·.1)) (List.mem_of_getElem? t1))
      omega
    obtain ⟨b, b0, _⟩ := DataW.trod_bool Tryd.underlying4 r0
    obtain ⟨ex, b2, _, w3⟩ := DataW.trod_int Tryd.underlying3 r2
    obtain ⟨A1, k1, co, b1, l1, m1, C1, ok1⟩ := open_row (d := Kd.int .u32) (okv := fun n => (Lit.int .u32 n).wf = true) Tryd.underlying29 (by kernel_rfl) (fun n cs x _ hx _ => by
      obtain ⟨v, rfl, _, hv⟩ := DataW.trod_int Tryd.underlying63 hx
      exact ⟨v, rfl, hv⟩) hbz r1
    obtain ⟨A3, k3, li, b3, l3, m3, C3, ok3⟩ := open_row (d := k34) (okv := OkV) Tryd.underlying22 (by rw [hsz]; rfl) (fun n cs x hn hx hb => ih n (by omega) cs x hx hb) (part _ _ g3) q3
    obtain ⟨A4, k4, ke, b4, l4, m4, C4, ok4⟩ := open_row (d := Kd.string) (okv := fun s => s.size ≤ 1073741824) Tryd.underlying32 (by kernel_rfl) (fun n cs x _ hx hb => by
      obtain ⟨v, rfl, rfl, hv⟩ := DataW.trod_string Tryd.underlying9 hx
      replace hb : Rows.uptoBulk (DataW.lit (.string v.data.toList) : DataW H) ≤ 1048576 := hb
      rw [Rows.uptoBulk, Array.length_toList] at hb
      exact ⟨v, rfl, by have : v.size = v.data.size := rfl; omega⟩) (part _ _ g4) q4
    simp only [List.cons.injEq, and_true] at p0 p2 b0 b1 b2 b3 b4
    subst p0 p2 b0 b1 b2 b3 b4
    exact ⟨⟨n0, ⟨b, co, ex⟩, s, li, ke⟩, k34_mk w ⟨n0, ⟨b, co, ex⟩, s, li, ke⟩ l1 C1 l3 C3 l4 C4, OkV.mk _ w0 ok1 w3 w2 ok4 (by simp only; omega) (by simp only; omega) (by simp only; omega) ok3⟩
end
end Go.Proofs.YtdgebcgcabhjoaaDoor.P

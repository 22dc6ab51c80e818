import Derived.Test.YthigbklhngihkaaGreatDoorMOrderOwni
import Derived.Deep.RegionWith
set_option linter.unusedVariables false
set_option linter.unusedSimpArgs false
set_option maxRecDepth 100000
namespace Go.Proofs.YthigbklhngihkaaGreatDoor.P
open Go.RowKit Go.Proofs.YthigbklhngihkaaGreatDoorW.PrintWords Go.Proofs.YthigbklhngihkaaGreatDoorW.PrintMore Go.Proofs.YthigbklhngihkaaGreatDoorW.PrintLast
def half (w0 : World) : Kd (V × Bool) where
 sz := 7
 E := k28.E
 K := fun w x cs => (x.2 = true ∧ k28.K w x.1 cs) ∨ (x.2 = false ∧ k28.K w0 x.1 cs)
 M := fun w base ok x cs => (x.2 = true ∧ k28.M w base ok x.1 cs) ∨ (x.2 = false ∧ k28.K w0 x.1 cs)
 K_len := by rintro w x cs (⟨_, h⟩ | ⟨_, h⟩) <;> exact k28.K_len h
 K_one := by rintro w x cs (⟨_, h⟩ | ⟨_, h⟩) <;> exact k28.K_one h
 K_below := by rintro w w1 x cs hb (⟨e, h⟩ | h); exact .inl ⟨e, k28.K_below hb h⟩; exact .inr h
 K_of_M := by rintro w base ok x cs (⟨e, h⟩ | h); exact .inl ⟨e, k28.K_of_M h⟩; exact .inr h
 M_mono := by rintro w base ok ok' x cs hk (⟨e, h⟩ | h); exact .inl ⟨e, k28.M_mono hk h⟩; exact .inr h
 M_bound := by rintro w base ok x cs (⟨e, h⟩ | h); exact .inl ⟨e, k28.M_bound h⟩; exact .inr h
 M_move := by rintro w w1 base ok x cs hk (⟨e, h⟩ | h); exact .inl ⟨e, k28.M_move hk h⟩; exact .inr h
 M_lower := by rintro w base base' ok x cs hb (⟨e, h⟩ | h); exact .inl ⟨e, k28.M_lower hb h⟩; exact .inr h
theorem half_of_raw {w0 w : World} {base : Nat} {ok : Nat → Prop} {v : Value} {l : List V} {rows : List (List Value)} (hl : rows.length = l.length) (h : Kd.R (Kd.raw 7) 28 w base ok v rows)
 (hk : ∀ (j : Nat) (x : V) (c : List Value), l[j]? = some x → rows[j]? = some c → k28.K w0 x c) : Kd.R (half w0) 28 w base ok v (l.map fun x => (x, false)) := by
 obtain ⟨h0, inner, ho, hr⟩ := h
 refine ⟨h0, inner, by rw [List.length_map, ← hl]; exact ho, by rw [List.length_map, ← hl]; exact hr.1, fun j p hj => ?_⟩
 rw [List.getElem?_map, Option.map_eq_some_iff] at hj
 obtain ⟨x, hx, rfl⟩ := hj
 have hlt : j < rows.length := by rw [hl]; exact (List.getElem?_eq_some_iff.1 hx).1
 have hc : rows[j]? = some rows[j] := List.getElem?_eq_getElem hlt
 have h2 := hr.2 j _ hc
 refine .inr ⟨rfl, ?_⟩
 rw [show ((half w0).sz) = (Kd.raw 7).sz from rfl, h2.1]
 exact hk j x _ hx hc
theorem below_go {w W W' : World} (h : Below w.heap.size w W) (h2 : Below W.heap.size W W') : Below w.heap.size w W' := h.trans (h2.mono h.size)
theorem blk_below3 {W w1 : World} {g : Nat} {o : Obj} (hg : W.heap[g]? = some o) (hb : Below W.heap.size W w1) : w1.heap[g]? = some o := (hb.block g (blk_lt hg)).trans hg
theorem setCells7 (W : World) (g o : Nat) (a0 a1 a2 a3 a4 a5 a6 : Value) : W.setCells g o [a0, a1, a2, a3, a4, a5, a6] = (((((((W.setCell ⟨g, o, none⟩ (a0)).setCell ⟨g, o + 1, none⟩ (a1)).setCell ⟨g, o + 2, none⟩ (a2)).setCell ⟨g, o + 3, none⟩ (a3)).setCell ⟨g, o + 4, none⟩ (a4)).setCell ⟨g, o + 5, none⟩ (a5)).setCell ⟨g, o + 6, none⟩ (a6)) := rfl
structure CloneMid (w wc : World) (x : V) (B2 : Option Addr) (d2 : Nat) (B5 : Option Addr) (d5 : Nat) (B6 : Option Addr) (d6 : Nat) (xs : List (V × Bool)) : Prop where
 box : wc.heap[w.heap.size]? = some (.cells #[.int .i64 x.f0, .bool x.f1.f0, .slice B2 x.f1.f1.length d2, .int .i64 x.f1.f2, .string x.f2, .slice B5 x.f3.length d5, .slice B6 x.f4.length d6] 28 (0, 0))
 res : wc.heap[w.heap.size + 1]? = some (.cells #[.int .i64 0, .bool false, .slice none 0 0, .int .i64 0, .string ⟨#[]⟩, .slice none 0 0, .slice none 0 0] 28 (0, 0))
 r2 : (Kd.int .u32).R 131 wc (w.heap.size + 2) (fun _ => True) (.slice B2 x.f1.f1.length d2) x.f1.f1
 r5 : (half w).R 28 wc (w.heap.size + 2) (fun _ => True) (.slice B5 x.f3.length d5) xs
 r6 : Kd.string.R 9 wc (w.heap.size + 2) (fun _ => True) (.slice B6 x.f4.length d6) x.f4
 below : Below w.heap.size w wc
def mixL (l : List V) (k : Nat) : List (V × Bool) := (l.take k).map (fun x => (x, true)) ++ (l.drop k).map (fun x => (x, false))
theorem mixL_len (l : List V) (k : Nat) : (mixL l k).length = l.length := by unfold mixL; simp; omega
theorem mixL_zero (l : List V) : mixL l 0 = l.map fun x => (x, false) := by simp [mixL]
theorem mixL_all (l : List V) : mixL l l.length = l.map fun x => (x, true) := by simp [mixL]
theorem mixL_get (l : List V) (k : Nat) (h : k < l.length) (z : V × Bool) : (mixL l k).getD k z = (rd_T28 l (k : Int), false) := by
 unfold mixL rd_T28
 rw [List.getD_eq_getElem?_getD, List.getElem?_append_right (by simp; omega)]
 simp [h, Nat.min_eq_left (Nat.le_of_lt h)]
theorem mixL_set (l : List V) (k : Nat) (h : k < l.length) : (mixL l k).set k (rd_T28 l (k : Int), true) = mixL l (k + 1) := by
 unfold mixL rd_T28
 have e : ((l.take k).map fun x => (x, true)).length = k := by simp; omega
 rw [List.set_append_right _ _ (by omega), e, Nat.sub_self, List.take_succ_eq_append_getElem h, List.drop_eq_getElem_cons h, List.map_append, List.append_assoc, List.map_cons, List.set_cons_zero]
 simp only [List.map_cons, List.map_nil, List.singleton_append, Int.toNat_natCast, List.getD_eq_getElem?_getD, List.getElem?_eq_getElem h, Option.getD_some]
theorem half_done {w0 w : World} {base : Nat} {ok : Nat → Prop} {v : Value} {l : List V} (h : (half w0).R 28 w base ok v (l.map fun x => (x, true))) : k28.R 28 w base ok v l := by
 obtain ⟨h0, inner, ho, hr⟩ := h
 rw [List.length_map] at ho
 refine ⟨h0, inner, ho, by have := hr.1; rw [List.length_map] at this; exact this, fun j p hj => ?_⟩
 have := hr.2 j (p, true) (by rw [List.getElem?_map, hj]; rfl)
 rcases this with ⟨_, h⟩ | ⟨h, _⟩
 · exact h
 · cases h
theorem mid_step {w wr Wb w5 : World} {x : V} {B2 : Option Addr} {d2 g d5 : Nat} {B6 : Option Addr} {d6 k : Nat} {c cs5 : List Value} {cur : Array Value} (hM : CloneMid w wr x B2 d2 (some ⟨g, 0, none⟩) d5 B6 d6 (mixL x.f3 k)) (hlt : k < x.f3.length)
 (hbg : w.heap.size + 2 ≤ g) (hcur : wr.heap[g]? = some (.cells cur 28 (0, 0))) (hbb : Below wr.heap.size wr Wb) (hB5 : Below Wb.heap.size Wb w5) (hM5 : k28.M w5 Wb.heap.size (fun _ => True) (rd_T28 x.f3 (k : Int)) cs5)
 (hcl : c.length = 7) (hcc : ∀ j u, c[j]? = some u → wr.cell? ⟨g, k * 7 + j, none⟩ = some u) : CloneMid w (w5.setCells g (k * 7) cs5) x B2 d2 (some ⟨g, 0, none⟩) d5 B6 d6 (mixL x.f3 (k + 1)) := by
 have hb5 : Below wr.heap.size wr w5 := hbb.trans (hB5.mono hbb.size)
 have hgw := blk_lt hcur
 have far : ∀ j, j ≠ g → (w5.setCells g (k * 7) cs5).heap[j]? = w5.heap[j]? := fun j hj => setCells_far cs5 _ j hj
 have hl5 : cs5.length = 7 := k28.K_len (k28.K_of_M hM5)
 have hM6 : (half w).M w5 (w.heap.size + 2) (fun j => Wb.heap.size ≤ j) (rd_T28 x.f3 (k : Int), true) (c.take 0 ++ cs5 ++ c.drop (0 + cs5.length)) := by
  rw [hl5, List.take_zero, List.nil_append, List.drop_eq_nil_of_le (by omega), List.append_nil]
  exact .inl ⟨rfl, k28.M_lower (by have := hbb.size; omega) (k28.M_mono (fun j hj => hj.2.1) (k28.M_bound hM5))⟩
 have hR5 := Kd.R_below hM.r5 hb5
 have hseg := Kd.R_seg hR5 (k : Int) (by omega) (by omega) (c := c) (seg := cs5) (j := 0) hcl (fun j u hj => by
  rw [Int.toNat_natCast]
  exact pw_cell_below hb5 (hcc j u hj)) (by rw [hl5]; exact Nat.le_refl _) hM6 (fun j hj => ⟨trivial, by have := hbb.size; omega⟩)
 rw [Int.toNat_natCast] at hseg
 obtain ⟨h5, hgr⟩ := hseg
 have e0 : k * (half w).sz + 0 = k * 7 := rfl
 rw [e0] at h5 hgr
 refine ⟨?_, ?_, ?_, ?_, ?_, ?_⟩
 · rw [far _ (by omega)]; exact blk_below3 hM.box hb5
 · rw [far _ (by omega)]; exact blk_below3 hM.res hb5
 · exact Kd.R_mono (Kd.R_step (Kd.R_below (Kd.R_types hM.r2 hcur (by decide)) hb5) (fun j hj _ => far j hj.2)) (fun _ _ => trivial)
 · rw [← mixL_set _ _ hlt]; exact h5
 · exact Kd.R_mono (Kd.R_step (Kd.R_below (Kd.R_types hM.r6 hcur (by decide)) hb5) (fun j hj _ => far j hj.2)) (fun _ _ => trivial)
 · exact pw_below_grown (below_go hM.below hb5) (some g) (below_go hM.below hb5).size hgr (fun j hj => by cases hj; omega)
theorem mid_end {w wr : World} {x : V} {B2 : Option Addr} {d2 : Nat} {B5 : Option Addr} {d5 : Nat} {B6 : Option Addr} {d6 : Nat} (hM : CloneMid w wr x B2 d2 B5 d5 B6 d6 (x.f3.map fun y => (y, true))) :
 k28.M (wr.setCells (w.heap.size + 1) 0 [.int .i64 x.f0, .bool x.f1.f0, .slice B2 x.f1.f1.length d2, .int .i64 x.f1.f2, .string x.f2, .slice B5 x.f3.length d5, .slice B6 x.f4.length d6]) w.heap.size (fun _ => True) x [.int .i64 x.f0, .bool x.f1.f0, .slice B2 x.f1.f1.length d2, .int .i64 x.f1.f2, .string x.f2, .slice B5 x.f3.length d5, .slice B6 x.f4.length d6] ∧ Below w.heap.size w (wr.setCells (w.heap.size + 1) 0 [.int .i64 x.f0, .bool x.f1.f0, .slice B2 x.f1.f1.length d2, .int .i64 x.f1.f2, .string x.f2, .slice B5 x.f3.length d5, .slice B6 x.f4.length d6]) ∧ (wr.setCells (w.heap.size + 1) 0 [.int .i64 x.f0, .bool x.f1.f0, .slice B2 x.f1.f1.length d2, .int .i64 x.f1.f2, .string x.f2, .slice B5 x.f3.length d5, .slice B6 x.f4.length d6]).heap[w.heap.size + 1]? = some (.cells #[.int .i64 x.f0, .bool x.f1.f0, .slice B2 x.f1.f1.length d2, .int .i64 x.f1.f2, .string x.f2, .slice B5 x.f3.length d5, .slice B6 x.f4.length d6] 28 (0, 0)) := by
 have far : ∀ j, j ≠ w.heap.size + 1 → (wr.setCells (w.heap.size + 1) 0 [.int .i64 x.f0, .bool x.f1.f0, .slice B2 x.f1.f1.length d2, .int .i64 x.f1.f2, .string x.f2, .slice B5 x.f3.length d5, .slice B6 x.f4.length d6]).heap[j]? = wr.heap[j]? := fun j hj => setCells_far _ _ j hj
 have mv : ∀ {α : Type} {d : Kd α} {e : Nat} {v : Value} {xs : List α}, d.R e wr (w.heap.size + 2) (fun _ => True) v xs → d.R e (wr.setCells (w.heap.size + 1) 0 [.int .i64 x.f0, .bool x.f1.f0, .slice B2 x.f1.f1.length d2, .int .i64 x.f1.f2, .string x.f2, .slice B5 x.f3.length d5, .slice B6 x.f4.length d6]) w.heap.size (fun _ => True) v xs := fun h =>
  Kd.R_lower (Kd.R_mono (Kd.R_move (Kd.R_bound h) (fun j hj => far j (by omega))) (fun _ _ => trivial)) (by omega)
 have hk := setCells_same (w.heap.size + 1) [.int .i64 x.f0, .bool x.f1.f0, .slice B2 x.f1.f1.length d2, .int .i64 x.f1.f2, .string x.f2, .slice B5 x.f3.length d5, .slice B6 x.f4.length d6] 0 wr
 refine ⟨k28_mkM _ _ _ x (mv hM.r2) (mv (half_done hM.r5)) (mv hM.r6), ?_, ?_⟩
 · exact hM.below.trans ⟨hk.1, hk.2.1, hk.2.2.1, Nat.le_of_eq hk.2.2.2.symm, fun j hj => far j (by omega)⟩
 · obtain ⟨cur, h1, h2, h3⟩ := setCells_row [.int .i64 x.f0, .bool x.f1.f0, .slice B2 x.f1.f1.length d2, .int .i64 x.f1.f2, .string x.f2, .slice B5 x.f3.length d5, .slice B6 x.f4.length d6] 0 wr _ hM.res (by simp)
   rw [h1]
   have : cur = #[.int .i64 x.f0, .bool x.f1.f0, .slice B2 x.f1.f1.length d2, .int .i64 x.f1.f2, .string x.f2, .slice B5 x.f3.length d5, .slice B6 x.f4.length d6] := by rw [← Array.toList_inj, h3]; simp
   rw [this]
theorem mid_first {w Wd w2 w6 w5 : World} {x : V} {A2 A5 A6 B2 B5 B6 : Option Addr} {c2 c5 c6 d2 d5 d6 : Nat} {rows : List (List Value)} (hA : Below w.heap.size w Wd) (hx : Wd.heap[w.heap.size]? = some (.cells #[.int .i64 x.f0, .bool x.f1.f0, .slice A2 x.f1.f1.length c2, .int .i64 x.f1.f2, .string x.f2, .slice A5 x.f3.length c5, .slice A6 x.f4.length c6] 28 (0, 0))) (hy : Wd.heap[w.heap.size + 1]? = some (.cells #[.int .i64 0, .bool false, .slice none 0 0, .int .i64 0, .string ⟨#[]⟩, .slice none 0 0, .slice none 0 0] 28 (0, 0))) (hz : Wd.heap.size = w.heap.size + 2)
 (hR2 : (Kd.int .u32).R 131 w2 Wd.heap.size (fun _ => True) (.slice B2 x.f1.f1.length d2) x.f1.f1) (hB2 : Below Wd.heap.size Wd w2) (hR6 : Kd.string.R 9 w6 w2.heap.size (fun _ => True) (.slice B6 x.f4.length d6) x.f4) (hB6 : Below w2.heap.size w2 w6)
 (hrl : rows.length = x.f3.length) (hR5 : (Kd.raw 7).R 28 w5 w6.heap.size (fun _ => True) (.slice B5 rows.length d5) rows) (hrk : ∀ (j : Nat) (y : V) (c : List Value), x.f3[j]? = some y → rows[j]? = some c → k28.K w y c) (hB5 : Below w6.heap.size w6 w5) :
 CloneMid w (((w5.setCell ⟨w.heap.size, 2, none⟩ (.slice B2 x.f1.f1.length d2)).setCell ⟨w.heap.size, 6, none⟩ (.slice B6 x.f4.length d6)).setCell ⟨w.heap.size, 5, none⟩ (.slice B5 rows.length d5)) x B2 d2 B5 d5 B6 d6 (mixL x.f3 0) := by
 have h26 : Below w2.heap.size w2 w5 := hB6.trans (hB5.mono hB6.size)
 have hd5 : Below Wd.heap.size Wd w5 := hB2.trans (h26.mono hB2.size)
 have s2 := hB2.size
 have s6 := hB6.size
 have mv : ∀ {α : Type} {d : Kd α} {e b : Nat} {v : Value} {xs : List α}, w.heap.size + 2 ≤ b → d.R e w5 b (fun _ => True) v xs → d.R e (((w5.setCell ⟨w.heap.size, 2, none⟩ (.slice B2 x.f1.f1.length d2)).setCell ⟨w.heap.size, 6, none⟩ (.slice B6 x.f4.length d6)).setCell ⟨w.heap.size, 5, none⟩ (.slice B5 rows.length d5)) (w.heap.size + 2) (fun _ => True) v xs := fun hb h =>
  Kd.R_lower (Kd.R_mono (Kd.R_move (Kd.R_bound h) (fun j hj => by
   rw [Below.heap_setCell _ _ _ _ (by simp; omega), Below.heap_setCell _ _ _ _ (by simp; omega), Below.heap_setCell _ _ _ _ (by simp; omega)])) (fun _ _ => trivial)) hb
 refine ⟨?_, ?_, mv (by omega) (Kd.R_below hR2 h26), ?_, mv (by omega) (Kd.R_below hR6 hB5), ?_⟩
 · have h1 := blk_set (blk_set (blk_set (blk_below3 hx hd5) 2 (.slice B2 x.f1.f1.length d2)) 6 (.slice B6 x.f4.length d6)) 5 (.slice B5 rows.length d5)
   rw [h1, hrl]
   rfl
 · exact blk_far (blk_far (blk_far (blk_below3 hy hd5) (by simp) _) (by simp) _) (by simp) _
 · rw [mixL_zero]
   have := mv (by omega) (half_of_raw hrl hR5 hrk)
   rw [hrl] at this ⊢
   exact this
 · exact (((hA.trans (hd5.mono hA.size)).setCell (p := ⟨w.heap.size, 2, none⟩) (Nat.le_refl _) _).setCell (p := ⟨w.heap.size, 6, none⟩) (Nat.le_refl _) _).setCell (p := ⟨w.heap.size, 5, none⟩) (Nat.le_refl _) _
set_option maxHeartbeats 16000000 in
theorem Clone_any : ∀ (x : V) (cs : List Value) (w : World), k28.K w x cs → OkV x →
 Calls Tryz.prog 66 #[.agg cs.toArray] w fun e w' => ∃ cs', e = .returned (.agg cs'.toArray) ∧ k28.M w' w.heap.size (fun _ => True) x cs' ∧ Below w.heap.size w w' := by
 refine V.ind fun x ih => ?_
 intro cs w hK hO
 obtain ⟨A2, c2, A5, c5, A6, c6, rfl, l2, g2, l5, g5, l6, g6⟩ := k28_open hK
 have n2 := hO.len1
 have n5 := hO.len3
 have n6 := hO.len4
 have G2 := Lib.hid g2
 have G5 := Lib.hid g5
 have G6 := Lib.hid g6
 have HO := Lib.hid hO
 have IH := Lib.hid ih
 obtain ⟨W1, hW1⟩ : ∃ W1, W1 = (w.alloc (.cells #[.int .i64 x.f0, .bool x.f1.f0, .slice A2 x.f1.f1.length c2, .int .i64 x.f1.f2, .string x.f2, .slice A5 x.f3.length c5, .slice A6 x.f4.length c6] 28)).alloc (.cells #[.int .i64 0, .bool false, .slice none 0 0, .int .i64 0, .string ⟨#[]⟩, .slice none 0 0, .slice none 0 0] 28) := ⟨_, rfl⟩
 have hA : Below w.heap.size w W1.drew := by rw [hW1]; exact below_drew (((Below.refl _ _).alloc (Nat.le_refl _) _).alloc (by simp) _)
 have hx1 : W1.drew.heap[w.heap.size]? = some (.cells #[.int .i64 x.f0, .bool x.f1.f0, .slice A2 x.f1.f1.length c2, .int .i64 x.f1.f2, .string x.f2, .slice A5 x.f3.length c5, .slice A6 x.f4.length c6] 28 (0, 0)) := by rw [hW1]; exact blk_drew (blk_alloc (blk_new _ _) _)
 have hy1 : W1.drew.heap[w.heap.size + 1]? = some (.cells #[.int .i64 0, .bool false, .slice none 0 0, .int .i64 0, .string ⟨#[]⟩, .slice none 0 0, .slice none 0 0] 28 (0, 0)) := by rw [hW1]; have := blk_new (w.alloc (.cells #[.int .i64 x.f0, .bool x.f1.f0, .slice A2 x.f1.f1.length c2, .int .i64 x.f1.f2, .string x.f2, .slice A5 x.f3.length c5, .slice A6 x.f4.length c6] 28)) (.cells #[.int .i64 0, .bool false, .slice none 0 0, .int .i64 0, .string ⟨#[]⟩, .slice none 0 0, .slice none 0 0] 28); rw [World.size_alloc] at this; exact blk_drew this
 have hz1 : W1.drew.heap.size = w.heap.size + 2 := by rw [hW1, World.size_drew]; simp
 have HZ := Lib.hid hz1
 have HW1 := Lib.hid hW1
 rw [hW1] at hA hx1 hy1
 clear hz1 hW1 g2 g5 g6 hO ih hK
 go_enter Tryz.func66, Tryz.ntmps66
 go_upto_region 1 with (fail)
 go_cut [] from 5 to 18 (fun wc => Hid (∃ B2 d2 B5 d5 B6 d6, CloneMid w wc x B2 d2 B5 d5 B6 d6 (mixL x.f3 0)))
 case first =>
  have HA := Lib.hid hA
  have HX1 := Lib.hid hx1
  have HY1 := Lib.hid hy1
  have L2 := Lib.hid l2
  have L5 := Lib.hid l5
  have L6 := Lib.hid l6
  have N2 := Lib.hid n2
  have N5 := Lib.hid n5
  have N6 := Lib.hid n6
  have hxc := blk_cell hx1
  clear hA hx1 hy1 l2 l5 l6 n2 n5 n6 IH HO
  go_region_with (first
   | (go_at_call 106; refine (clone_u32 _ _ x.f1.f1 _ (Kd.C_below G2.out HA.out) L2.out N2.out).mono ?_; rintro e w2 ⟨v2, rfl, hR2, hB2⟩; obtain ⟨B2, d2, rfl⟩ := Kd.R_slice hR2; have hA2 := below_go HA.out hB2; have hx2 := blk_below3 HX1.out hB2; obtain ⟨hc2, hf2⟩ := bcells hx2 (Below.refl _ _))
   | (go_at_call 107; refine (clone_str _ _ x.f4 _ (Kd.C_below G6.out hA2) L6.out N6.out).mono ?_; rintro e w6 ⟨v6, rfl, hR6, hB6⟩; obtain ⟨B6, d6, rfl⟩ := Kd.R_slice hR6; have hA6 := below_go hA2 hB6; have hx6 := blk_below3 hx2 hB6; obtain ⟨hc6, hf6⟩ := bcells hx6 (Below.refl _ _))
   | (go_at_call 108; refine (clone_val _ _ x.f3 w _ G5.out hA6 L5.out N5.out).mono ?_; rintro e w5 ⟨v5, rfl, hS5, hB5⟩; obtain ⟨rows, hrl, hR5, hrk⟩ := hS5; obtain ⟨B5, d5, rfl⟩ := Kd.R_slice hR5; have hx5 := blk_below3 hx6 hB5; obtain ⟨hc5, hf5⟩ := bcells hx5 (Below.refl _ _)))
  all_goals
   have hm := mid_first HA.out HX1.out HY1.out (by rw [← HW1.out]; exact HZ.out) hR2 hB2 hR6 hB6 hrl hR5 hrk hB5
   clear hc2 hf2 hc6 hf6 hc5 hf5 hx2 hx6 hx5 hA2 hA6 hR2 hB2 hR6 hB6 hR5 hrk hB5 hxc
   go_wp2_with fail
   go_meet
   exact Lib.hid ⟨_, _, _, _, _, _, by rw [hrl] at hm; exact hm⟩
 case rest =>
 obtain ⟨B2, d2, B5, d5, B6, d6, hM⟩ := hcut.out
 have HM := Lib.hid hM
 have hbx := blk_cell hM.box
 clear hcut hM hA hx1 hy1
 go_wp2
 go_loopw [22] (fun vi wr => ∃ k : Nat, k ≤ x.f3.length ∧ vi = .int .i64 k ∧ Hid (CloneMid w wr x B2 d2 B5 d5 B6 d6 (mixL x.f3 k))) (fun vi _ => x.f3.length - (intOf vi).toNat)
 case atStart => exact ⟨0, Nat.zero_le _, rfl, HM⟩
 case round =>
  clear hbx HM
  obtain ⟨k, hk, rfl, hM⟩ := hrel
  by_cases hlt : k < x.f3.length
  · obtain ⟨g, cap, hv, hbg, hgw, cur, hcur⟩ := Kd.R_form hM.out.r5 (by rw [mixL_len]; omega)
    rw [mixL_len] at hv
    injection hv with hv1 hv2 hv3
    subst hv1 hv3
    have hC := (Kd.R_reads' hM.out.r5).2.2
    obtain ⟨ad, c, he, hcl, hkc, hcc⟩ := Kd.C_get hC (x, false) (k : Int) (by omega) (by rw [mixL_len]; omega)
    obtain rfl := Option.some.inj he
    rw [Int.toNat_natCast, mixL_get _ _ hlt] at hkc
    rw [Int.toNat_natCast] at hcc
    rcases hkc with ⟨h0, _⟩ | ⟨h0, hkc⟩
    · cases h0
    clear h0
    obtain ⟨D2, e2, D5, e5, D6, e6, rfl, hrest⟩ := k28_open hkc
    clear hrest
    have q0 := hcc 0 _ rfl
    have q1 := hcc 1 _ rfl
    have q2 := hcc 2 _ rfl
    have q3 := hcc 3 _ rfl
    have q4 := hcc 4 _ rfl
    have q5 := hcc 5 _ rfl
    have q6 := hcc 6 _ rfl
    simp only [add_plain] at q0 q1 q2 q3 q4 q5 q6
    change wr.cell? ⟨g, k * 7 + 0, none⟩ = _ at q0
    change wr.cell? ⟨g, k * 7 + 1, none⟩ = _ at q1
    change wr.cell? ⟨g, k * 7 + 2, none⟩ = _ at q2
    change wr.cell? ⟨g, k * 7 + 3, none⟩ = _ at q3
    change wr.cell? ⟨g, k * 7 + 4, none⟩ = _ at q4
    change wr.cell? ⟨g, k * 7 + 5, none⟩ = _ at q5
    change wr.cell? ⟨g, k * 7 + 6, none⟩ = _ at q6
    rw [Nat.add_zero] at q0
    have hmem := Lib.hid (show rd_T28 x.f3 (k : Int) ∈ x.f3 by unfold rd_T28; simp [hlt])
    have hbx := blk_cell hM.out.box
    have hw : wrap64 ((k : Int) + 1) = ((k + 1 : Nat) : Int) := by unfold wrap64; omega
    have HCUR := Lib.hid hcur
    have HKC := Lib.hid hkc
    have HCC : Hid (∀ j u, ([.int .i64 (rd_T28 x.f3 (k : Int)).f0, .bool (rd_T28 x.f3 (k : Int)).f1.f0, .slice D2 (rd_T28 x.f3 (k : Int)).f1.f1.length e2, .int .i64 (rd_T28 x.f3 (k : Int)).f1.f2, .string (rd_T28 x.f3 (k : Int)).f2, .slice D5 (rd_T28 x.f3 (k : Int)).f3.length e5, .slice D6 (rd_T28 x.f3 (k : Int)).f4.length e6] : List Value)[j]? = some u → wr.cell? ⟨g, k * 7 + j, none⟩ = some u) := Lib.hid (fun j u hj => by have := hcc j u hj; rw [add_plain] at this; exact this)
    obtain ⟨Wb, hWb⟩ : ∃ Wb, Wb = (wr.alloc (.cells #[.int .i64 (rd_T28 x.f3 (k : Int)).f0, .bool (rd_T28 x.f3 (k : Int)).f1.f0, .slice D2 (rd_T28 x.f3 (k : Int)).f1.f1.length e2, .int .i64 (rd_T28 x.f3 (k : Int)).f1.f2, .string (rd_T28 x.f3 (k : Int)).f2, .slice D5 (rd_T28 x.f3 (k : Int)).f3.length e5, .slice D6 (rd_T28 x.f3 (k : Int)).f4.length e6] 28)).drew := ⟨_, rfl⟩
    have hbb : Below wr.heap.size wr Wb := by rw [hWb]; exact below_drew ((Below.refl _ _).alloc (Nat.le_refl _) _)
    have hA : Below w.heap.size w Wb := below_go hM.out.below hbb
    have hx := blk_below3 hM.out.box hbb
    have hg := blk_below3 hcur hbb
    have hKb := Lib.hid (k28.K_below hA hkc)
    have hcall := Lib.hid (IH.out _ hmem.out _ _ hKb.out (HO.out.rd hlt))
    have p0 := pw_cell_below hbb q0
    have p1 := pw_cell_below hbb q1
    have p2 := pw_cell_below hbb q2
    have p3 := pw_cell_below hbb q3
    have p4 := pw_cell_below hbb q4
    have p5 := pw_cell_below hbb q5
    have p6 := pw_cell_below hbb q6
    have HWB := Lib.hid hWb
    have HBB := Lib.hid hbb
    have HA := Lib.hid hA
    rw [hWb] at hcall hx hg p0 p1 p2 p3 p4 p5 p6
    clear hcc hC hcl hkc hcur hbb hA hWb hv2 he
    have hsz1 : w.heap.size < wr.heap.size := by omega
    have hbx2 := blk_cell hx
    go_upto_region 5 with (fail)
    go_region_with (first
     | (go_at_call 66; refine hcall.out.mono ?_; rintro e w5 ⟨cs5, rfl, hM5, hB5⟩; obtain ⟨v2, v5, v6, rfl, r2, r5, r6⟩ := k28_openM hM5; obtain ⟨E2, s2, rfl⟩ := Kd.R_slice r2; obtain ⟨E5, s5, rfl⟩ := Kd.R_slice r5; obtain ⟨E6, s6, rfl⟩ := Kd.R_slice r6; obtain ⟨hc5, hf5⟩ := bcells hx hB5; obtain ⟨hc6, hf6⟩ := bcells hg hB5; have p0' := pw_cell_below hB5 p0; have p1' := pw_cell_below hB5 p1; have p2' := pw_cell_below hB5 p2; have p3' := pw_cell_below hB5 p3; have p4' := pw_cell_below hB5 p4; have p5' := pw_cell_below hB5 p5; have p6' := pw_cell_below hB5 p6; clear hc6))
    all_goals
     have hM2 := mid_step hM.out hlt hbg HCUR.out HBB.out (by rw [HWB.out]; exact hB5) (by rw [HWB.out]; exact hM5) rfl HCC.out
     obtain ⟨W6, hW6⟩ : ∃ W6, W6 = (((((((w5.setCell ⟨g, k * 7, none⟩ (.int .i64 (rd_T28 x.f3 (k : Int)).f0)).setCell ⟨g, k * 7 + 1, none⟩ (.bool (rd_T28 x.f3 (k : Int)).f1.f0)).setCell ⟨g, k * 7 + 2, none⟩ (.slice E2 (rd_T28 x.f3 (k : Int)).f1.f1.length s2)).setCell ⟨g, k * 7 + 3, none⟩ (.int .i64 (rd_T28 x.f3 (k : Int)).f1.f2)).setCell ⟨g, k * 7 + 4, none⟩ (.string (rd_T28 x.f3 (k : Int)).f2)).setCell ⟨g, k * 7 + 5, none⟩ (.slice E5 (rd_T28 x.f3 (k : Int)).f3.length s5)).setCell ⟨g, k * 7 + 6, none⟩ (.slice E6 (rd_T28 x.f3 (k : Int)).f4.length s6)) := ⟨_, rfl⟩
     have HM2 : Hid (CloneMid w W6 x B2 d2 (some ⟨g, 0, none⟩) d5 B6 d6 (mixL x.f3 (k + 1))) := Lib.hid (by rw [hW6, ← setCells7]; exact hM2)
     rw [← hW6]
     clear hM2 hW6 hc5 hf5 hf6 p0 p1 p2 p3 p4 p5 p6 p0' p1' p2' p3' p4' p5' p6' r2 r5 r6 hM5 hB5 hx hg q0 q1 q2 q3 q4 q5 q6 hbx hbx2 hcall HKC HCC HCUR HA HBB HWB hKb hM
     clear IH HO G2 G5 G6 HZ HW1 l2 l5 l6 n2 n5 n6 hbg hgw hsz1
     rename_i qa ka aa qb kb ab
     refine ab _ _ ?_
     go_wp2_with fail
     rw [hw]
     exact ⟨⟨k + 1, hlt, rfl, HM2⟩, by show x.f3.length - (k + 1) < x.f3.length - k; clear hw; omega⟩
  · obtain rfl : k = x.f3.length := by omega
    rw [mixL_all] at hM
    have hbx := blk_cell hM.out.box
    have hbf := blk_frozen hM.out.box
    have hrx := blk_cell hM.out.res
    have hrf := blk_frozen hM.out.res
    have hfin := mid_end hM.out
    clear IH HO G2 G5 G6 HZ HW1 l2 l5 l6 n2 n5 n6
    go_wp2
    rw [setCells7] at hfin
    obtain ⟨W7, hW7⟩ : ∃ W7, W7 = (((((((wr.setCell ⟨w.heap.size + 1, 0, none⟩ (.int .i64 x.f0)).setCell ⟨w.heap.size + 1, 1, none⟩ (.bool x.f1.f0)).setCell ⟨w.heap.size + 1, 2, none⟩ (.slice B2 x.f1.f1.length d2)).setCell ⟨w.heap.size + 1, 3, none⟩ (.int .i64 x.f1.f2)).setCell ⟨w.heap.size + 1, 4, none⟩ (.string x.f2)).setCell ⟨w.heap.size + 1, 5, none⟩ (.slice B5 x.f3.length d5)).setCell ⟨w.heap.size + 1, 6, none⟩ (.slice B6 x.f4.length d6)) := ⟨_, rfl⟩
    rw [← hW7]
    have hf2 : k28.M W7 w.heap.size (fun _ => True) x [.int .i64 x.f0, .bool x.f1.f0, .slice B2 x.f1.f1.length d2, .int .i64 x.f1.f2, .string x.f2, .slice B5 x.f3.length d5, .slice B6 x.f4.length d6] ∧ Below w.heap.size w W7 ∧ W7.heap[w.heap.size + 1]? = some (.cells #[.int .i64 x.f0, .bool x.f1.f0, .slice B2 x.f1.f1.length d2, .int .i64 x.f1.f2, .string x.f2, .slice B5 x.f3.length d5, .slice B6 x.f4.length d6] 28 (0, 0)) := by rw [hW7]; exact hfin
    clear hfin hW7 hbx hbf hrx hrf hM
    obtain ⟨hm, hbw, hre⟩ := hf2
    have hrc := blk_cell hre
    refine bodyPost_ret (v := .agg #[.int .i64 x.f0, .bool x.f1.f0, .slice B2 x.f1.f1.length d2, .int .i64 x.f1.f2, .string x.f2, .slice B5 x.f3.length d5, .slice B6 x.f4.length d6]) ?_ rfl ⟨_, rfl, hm, hbw⟩
    simp [results, Tryz.f66, go_sem, hrc]
set_option maxHeartbeats 1000000 in
theorem ask1_any (d : D) (A : Option Addr) (c : Nat) (w : World) (hl : d.f1.length ≤ c) (hC : Kd.C (Kd.int .u32) w A d.f1.length d.f1) (hO : OkD d) :
 Calls Tryz.prog 174 #[.agg #[.bool d.f0, .slice A d.f1.length c, .int .i64 d.f2]] w fun e w' => e = .returned (.bool (dchk d != 0)) ∧ Below w.heap.size w w' := by
 have HDC : Hid (∀ W, Below w.heap.size w W → Calls Tryz.prog 172 #[.agg #[.bool d.f0, .slice A d.f1.length c, .int .i64 d.f2]] W fun e w' => e = .returned (.int .i64 (dchk d)) ∧ Below W.heap.size W w') := Lib.hid (fun W hW => decCheck_any d A c W hl (Kd.C_below hC hW) hO)
 clear hC hO
 go_enter Tryz.func174, Tryz.ntmps174
 go_wp2_with (first | (go_at_call 172; (with_reducible refine (HDC.out _ ?hb).mono ?_); (case hb => first | exact Below.refl _ _ | exact (Below.refl _ _).alloc (Nat.le_refl _) _); rintro e w1 ⟨rfl, hB1⟩))
 go_ret
 exact ⟨rfl, by first | exact hB1 | exact below_box (Below.refl _ _) (Nat.le_refl _) hB1⟩
def dsOk (l : List D) : Bool := l.all fun d => dchk d == 0
set_option maxHeartbeats 1000000 in
theorem index_dec (A : Option Addr) (c : Nat) (l : List D) (w : World) (hC : k24.C w A l.length l) (hO : ∀ d ∈ l, OkD d) (hz : l.length ≤ 4611686018427387904) :
 Calls Tryz.prog 221 #[.slice A l.length c, .func (.func 174) #[] #[]] w fun e w' => ∃ r : Int, e = .returned (.int .i64 r) ∧ (0 ≤ r ↔ dsOk l = false) ∧ Below w.heap.size w w' := by
 have HC := Lib.hid hC
 have HO := Lib.hid hO
 clear hC hO
 go_enter Tryz.func221, Tryz.ntmps221
 go_wp2
 go_loopw [8] (fun vi wr => ∃ k : Nat, k ≤ l.length ∧ vi = .int .i64 k ∧ Hid (dsOk (l.take k) = true) ∧ Below w.heap.size w wr) (fun vi _ => l.length - (intOf vi).toNat)
 case atStart => exact ⟨0, Nat.zero_le _, rfl, Lib.hid rfl, Below.refl _ _⟩
 case round =>
  obtain ⟨k, hk, rfl, hd, hB⟩ := hrel
  have HB := Lib.hid hB
  have hsz := hB.size
  clear hB
  by_cases hlt : k < l.length
  · obtain ⟨ad, A1, c1, rfl, q0, q1, q2, m1, G1⟩ := at_T24 (Kd.C_below HC.out HB.out) (k : Int) (by omega) (by omega)
    rw [Int.toNat_natCast] at q0 q1 q2
    have hx : rd_T24 l (k : Int) = l[k] := by unfold rd_T24; simp [hlt]
    have HCK := Lib.hid (ask1_any (rd_T24 l (k : Int)) A1 c1 wr m1 G1 (HO.out _ (by rw [hx]; exact List.getElem_mem _)))
    have ht : Hid (dsOk (l.take (k + 1)) = (dchk (rd_T24 l (k : Int)) == 0)) := Lib.hid (by
     have := hd.out
     rw [List.take_succ_eq_append_getElem hlt, hx]
     unfold dsOk at this ⊢
     rw [List.all_append, this]
     simp)
    have hw : wrap64 ((k : Int) + 1) = ((k + 1 : Nat) : Int) := by unfold wrap64; omega
    clear G1 hx
    cases hc : (dchk (rd_T24 l (k : Int)) != 0) with
    | true =>
     have hbad : Hid (dsOk l = false) := Lib.hid (by
      have h1 := ht.out
      have e : l = l.take (k + 1) ++ l.drop (k + 1) := (List.take_append_drop _ _).symm
      rw [e]
      unfold dsOk at h1 ⊢
      rw [List.all_append, h1]
      simp only [bne, Bool.not_eq_true'] at hc
      rw [hc]
      rfl)
     clear ht hd
     go_wp2_with (first | (go_at_call 174; refine HCK.out.mono ?_; rw [hc]; rintro e w' ⟨rfl, hB2⟩; have HB2 := Lib.hid (HB.out.trans (hB2.mono hsz))))
     go_ret
     exact ⟨_, rfl, by rw [hbad.out]; simp, HB2.out⟩
    | false =>
     have hgood : Hid (dsOk (l.take (k + 1)) = true) := Lib.hid (by
      rw [ht.out]
      simp only [bne, Bool.not_eq_false'] at hc
      exact hc)
     clear ht hd
     go_wp2_with (first | (go_at_call 174; refine HCK.out.mono ?_; rw [hc]; rintro e w' ⟨rfl, hB2⟩; have HB2 := Lib.hid (HB.out.trans (hB2.mono hsz))))
     go_roundw
     case rel => exact ⟨k + 1, hlt, by go_num, hgood, HB2.out⟩
     case measure => simp [intOf]; omega
  · obtain rfl : k = l.length := by omega
    have hall : dsOk l = true := by have := hd.out; rwa [List.take_length] at this
    clear hd
    go_wp2
    go_ret
    exact ⟨_, rfl, by rw [hall]; simp, HB.out⟩
set_option maxHeartbeats 1000000 in
theorem ask_any (A : Option Addr) (c : Nat) (l : List D) (w : World) (hC : k24.C w A l.length l) (hO : ∀ d ∈ l, OkD d) (hz : l.length ≤ 4611686018427387904) :
 Calls Tryz.prog 143 #[.slice A l.length c] w fun e w' => e = .returned (.int .i64 (if dsOk l then 0 else 9)) ∧ Below w.heap.size w w' := by
 have HI := Lib.hid (index_dec A c l w hC hO hz)
 have hC2 : Calls Tryz.prog 173 #[.slice A l.length c, .func (.func 174) #[] #[]] w fun e w' => e = .returned (.bool (!dsOk l)) ∧ Below w.heap.size w w' := by
  go_enter Tryz.func173, Tryz.ntmps173
  go_wp2_with (first | (go_at_call 221; refine HI.out.mono ?_; rintro e w' ⟨r, rfl, hr, hB⟩))
  go_ret
  refine ⟨?_, hB⟩
  cases hd : dsOk l with
  | true => simp [hd] at hr ⊢ <;> omega
  | false => simp [hd] at hr ⊢ <;> omega
 have HC2 := Lib.hid hC2
 clear hC2 hC hO
 cases hd : dsOk l with
 | true =>
  rw [hd] at HC2
  go_enter Tryz.func143, Tryz.ntmps143
  go_wp2_with (first | (go_at_call 173; refine HC2.out.mono ?_; rintro e w' ⟨rfl, hB⟩))
  go_ret
  exact ⟨rfl, hB⟩
 | false =>
  rw [hd] at HC2
  go_enter Tryz.func143, Tryz.ntmps143
  go_wp2_with (first | (go_at_call 173; refine HC2.out.mono ?_; rintro e w' ⟨rfl, hB⟩))
  go_ret
  exact ⟨rfl, hB⟩
end Go.Proofs.YthigbklhngihkaaGreatDoor.P
namespace Go.Proofs.YthigbklhngihkaaGreatDoor.P
open Go.RowKit Go.Proofs.YthigbklhngihkaaGreatDoorW.PrintWords Go.Proofs.YthigbklhngihkaaGreatDoorW.PrintLast Go.Proofs.YthigbklhngihkaaGreatDoorW.PrintMore
attribute [local go_sem] max2_int min2_int max_two min_two max_three min_three max_four min_four   -- for this text's walks alone
def nat_Compare.f (k : Nat) (l0 : List Int) (l1 : List Int) : Option (Int × Int) := (nat_Check.f l0).bind fun t288 => ((nat_Check.f l1).bind fun t289 => ((api_Errno.f k (([t288, t289] : List Int))).bind fun t293 => (if t293 = 0 then ((nat_num_compare.f l0 l1).bind fun t294 => (some (t294, 0))) else (some (0, t293)))))
theorem nat_Compare.mono : ∀ a0 a1 k, LeO (nat_Compare.f k a0 a1) (nat_Compare.f (k + 1) a0 a1) := by
 intro a0 a1 k
 unfold nat_Compare.f
 repeat' first
  | (with_reducible exact api_Errno.mono _ _)
  | (with_reducible exact LeO.refl _)
  | (with_reducible exact LeO.none _)
  | (with_reducible refine LeO.ite ?_ ?_)
  | (with_reducible refine LeO.bind ?_ (fun _ => ?_))
  | exact api_Errno.mono _ _
  | exact LeO.none _
  | refine LeO.ite ?_ ?_
  | refine LeO.bind ?_ (fun _ => ?_)
set_option maxHeartbeats 8000000 in
theorem nat_Compare.calls (k : Nat) (A0 : Option Addr) (c0 : Nat) (l0 : List Int) (A1 : Option Addr) (c1 : Nat) (l1 : List Int) (r1 : Int) (r2 : Int) (w : World) (hr0 : Kd.C (Kd.int .u32) w A0 l0.length l0) (hc0 : l0.length ≤ c0) (hr1 : Kd.C (Kd.int .u32) w A1 l1.length l1) (hc1 : l1.length ≤ c1) (h : nat_Compare.f k l0 l1 = some (r1, r2)) :
 Calls Tryz.prog 178 #[.slice A0 l0.length c0, .slice A1 l1.length c1] w fun e w' => e = .returned (.tuple #[.int .i64 r1, .int .i64 r2]) ∧ Below w.heap.size w w' := by
 have HR0 := Aside0.mk hr0
 have HC0 := Aside0.mk hc0
 clear hr0 hc0
 have HR1 := Aside0.mk hr1
 have HC1 := Aside0.mk hc1
 clear hr1 hc1
 have HB := Aside0.mk (Below.refl w.heap.size w)
 have H : ((nat_Check.f l0).bind fun t288 => ((nat_Check.f l1).bind fun t289 => ((api_Errno.f k (([t288, t289] : List Int))).bind fun t293 => (if t293 = 0 then ((nat_num_compare.f l0 l1).bind fun t294 => (some (t294, 0))) else (some (0, t293)))))) = some (r1, r2) := h
 clear h
 replace H := Option.bind_eq_some_iff.mp H
 obtain ⟨t288, A30, H⟩ := H
 replace H : ((nat_Check.f l1).bind fun t289 => ((api_Errno.f k (([t288, t289] : List Int))).bind fun t293 => (if t293 = 0 then ((nat_num_compare.f l0 l1).bind fun t294 => (some (t294, 0))) else (some (0, t293))))) = some (r1, r2) := H
 have A3 := Aside0.mk A30
 clear A30
 replace H := Option.bind_eq_some_iff.mp H
 obtain ⟨t289, A40, H⟩ := H
 replace H : ((api_Errno.f k (([t288, t289] : List Int))).bind fun t293 => (if t293 = 0 then ((nat_num_compare.f l0 l1).bind fun t294 => (some (t294, 0))) else (some (0, t293)))) = some (r1, r2) := H
 have A4 := Aside0.mk A40
 clear A40
 obtain ⟨y290, hy290⟩ : ∃ y_ : List Int, y_ = (([t288, t289] : List Int)) := ⟨_, rfl⟩
 replace H : ((api_Errno.f k y290).bind fun t293 => (if t293 = 0 then ((nat_num_compare.f l0 l1).bind fun t294 => (some (t294, 0))) else (some (0, t293)))) = some (r1, r2) := by first | (rw [hy290]; with_reducible exact H) | (have H2_ := (Option.bind_some _ _).symm.trans H; rw [hy290]; with_reducible exact H2_) | (have H2_ := (Option.bind_some _ _).symm.trans H; with_reducible exact H2_) | with_reducible exact H | (rw [hy290]; exact H) | exact H
 have Ny290 := Aside0.mk hy290
 clear hy290
 replace H := Option.bind_eq_some_iff.mp H
 obtain ⟨t293, A50, H⟩ := H
 replace H : (if t293 = 0 then ((nat_num_compare.f l0 l1).bind fun t294 => (some (t294, 0))) else (some (0, t293))) = some (r1, r2) := H
 have A5 := Aside0.mk A50
 clear A50
 by_cases c6 : t293 = 0
 · rw [if_pos c6] at H
   have c6b0 : (t293 == 0) = true := beq_iff_eq.mpr c6
   have c6b1 : (t293 != 0) = false := bne_eq_false_iff_eq.mpr c6
   clear c6
   replace H := Option.bind_eq_some_iff.mp H
   obtain ⟨t294, A70, H⟩ := H
   replace H : (some (t294, 0)) = some (r1, r2) := H
   have A7 := Aside0.mk A70
   clear A70
   simp only [Option.some.injEq, Prod.mk.injEq] at H
   obtain ⟨rfl, rfl⟩ := H
   go_enter Tryz.func178, Tryz.ntmps178
   go_wp2_with (first | ((with_reducible refine gate_callee (f := 219) rfl ?_); refine goesL_ (some 8) rfl rfl Tryz.func219 (by kernel_rfl) rfl #[.slice A0 l0.length c0] rfl (by (try simp only [List.map_toArray, List.map_cons, List.map_nil]); first | done | rfl | (simp only [List.length_drop, List.length_take]; rfl)) ?_; (with_reducible refine (nat_Check.calls _ _ l0 t288 _ ?side1 ?side2 A3.out).mono ?_); (case side1 => repeat (first | exact HR0.out | (with_reducible refine Kd.C_alloc ?_ _) | (with_reducible refine Kd.C_drewN ?_ _) | (with_reducible refine Kd.C_drew ?_))); (case side2 => exact HC0.out); rintro e w' ⟨rfl, ⟨nd, rfl⟩⟩; refine ⟨_, rfl, ?_⟩) | ((with_reducible refine gate_callee (f := 219) rfl ?_); refine goesL_ (some 10) rfl rfl Tryz.func219 (by kernel_rfl) rfl #[.slice A1 l1.length c1] rfl (by (try simp only [List.map_toArray, List.map_cons, List.map_nil]); first | done | rfl | (simp only [List.length_drop, List.length_take]; rfl)) ?_; (with_reducible refine (nat_Check.calls _ _ l1 t289 _ ?side1 ?side2 A4.out).mono ?_); (case side1 => repeat (first | exact HR1.out | (with_reducible refine Kd.C_alloc ?_ _) | (with_reducible refine Kd.C_drewN ?_ _) | (with_reducible refine Kd.C_drew ?_))); (case side2 => exact HC1.out); rintro e w' ⟨rfl, ⟨nd, rfl⟩⟩; refine ⟨_, rfl, ?_⟩) | ((with_reducible refine gate_dst (N := 11) rfl ?_); refine Kd.R_lit (Kd.int .i64) _ 30 ?hg (N := 11) ?hd (xs := ([t288, t289] : List Int)) (inner := [.int .i64 t288, .int .i64 t289]) (ok := fun _ => True) (okp := fun _ => True) ?hr ?hp (fun _ hk => hk) trivial (Below.refl _ _) (Nat.le_refl _) (by simp) ?_; (case hd => rfl); (case hg => rfl); (case hr => first | (go_simp; done) | (go_simp; rfl)); (case hp => exact (Reps.one (show Kd.M (Kd.int .i64) _ _ _ t288 [.int .i64 t288] from rfl) (Reps.one (show Kd.M (Kd.int .i64) _ _ _ t289 [.int .i64 t289] from rfl) (Reps.none _ _)))); intro v291 w8 ho9 hb hg_ hnew_; clear hg_ hnew_; (first | rw [← Ny290.out] at ho9 | (simp only [Int.reduceToNat] at ho9; rw [← Ny290.out] at ho9)); have n0_ := Aside0.mk (Kd.R_lower ho9 (below_size (by repeat (first | (with_reducible first | exact HB.out | apply below_alloc | apply pw_below_drewN | apply below_drew1) | exact HB.out)))); have n1_ := Aside0.mk (below_step (by repeat (first | (with_reducible first | exact HB.out | apply below_alloc | apply pw_below_drewN | apply below_drew1) | exact HB.out)) hb); clear HB; have HO292 := n0_; have HB := n1_; clear n0_ n1_; clear hb ho9; obtain ⟨Ao10, co10, eo10⟩ := Kd.R_slice HO292.out; subst eo10) | ((with_reducible refine gate_callee (f := 61) rfl ?_); refine goesL_ (some 12) rfl rfl Tryz.func61 (by kernel_rfl) rfl #[.slice Ao10 y290.length co10] rfl (by (try simp only [List.map_toArray, List.map_cons, List.map_nil]); first | done | rfl | (simp only [List.length_drop, List.length_take]; rfl)) ?_; (with_reducible refine (api_Errno.calls k _ _ y290 t293 _ ?side1 ?side2 A5.out).mono ?_); (case side1 => repeat (first | exact (Kd.R_reads' HO292.out).2.2 | (with_reducible refine Kd.C_alloc ?_ _) | (with_reducible refine Kd.C_drewN ?_ _) | (with_reducible refine Kd.C_drew ?_))); (case side2 => exact (Kd.R_reads' HO292.out).2.1); rintro e w' ⟨rfl, ⟨nd, rfl⟩⟩; refine ⟨_, rfl, ?_⟩) | ((with_reducible refine gate_callee (f := 227) rfl ?_); refine goesL_ (some 18) rfl rfl Tryz.func227 (by kernel_rfl) rfl #[.slice A0 l0.length c0, .slice A1 l1.length c1] rfl (by (try simp only [List.map_toArray, List.map_cons, List.map_nil]); first | done | rfl | (simp only [List.length_drop, List.length_take]; rfl)) ?_; (with_reducible refine (nat_num_compare.calls _ _ l0 _ _ l1 t294 _ ?side1 ?side2 ?side3 ?side4 A7.out).mono ?_); (case side1 => repeat (first | exact (Kd.C_below HR0.out (by repeat (first | (with_reducible first | exact HB.out | apply below_alloc | apply pw_below_drewN | apply below_drew1) | exact HB.out))) | (with_reducible refine Kd.C_alloc ?_ _) | (with_reducible refine Kd.C_drewN ?_ _) | (with_reducible refine Kd.C_drew ?_))); (case side2 => exact HC0.out); (case side3 => repeat (first | exact (Kd.C_below HR1.out (by repeat (first | (with_reducible first | exact HB.out | apply below_alloc | apply pw_below_drewN | apply below_drew1) | exact HB.out))) | (with_reducible refine Kd.C_alloc ?_ _) | (with_reducible refine Kd.C_drewN ?_ _) | (with_reducible refine Kd.C_drew ?_))); (case side4 => exact HC1.out); rintro e w11 ⟨rfl, hb⟩; refine ⟨_, rfl, ?_⟩; have n0_ := Aside0.mk (Kd.R_below (by (with_reducible repeat (first | apply Kd.R_alloc | apply Kd.R_drewN | apply Kd.R_drew)); exact HO292.out) hb); have n1_ := Aside0.mk (below_step (by repeat (first | (with_reducible first | exact HB.out | apply below_alloc | apply pw_below_drewN | apply below_drew1) | exact HB.out)) hb); clear HO292; clear HB; have HO292 := n0_; have HB := n1_; clear n0_ n1_; (try clear hb); (try clear hb2); (try clear hk); (try clear hi)))
   go_ret2
   exact ⟨by first | rfl | (simp [errW_none, errW_some] <;> rfl) | (simp [*, errW_none, errW_some] <;> rfl), by repeat (first | (with_reducible first | exact HB.out | apply below_alloc | apply pw_below_drewN | apply below_drew1) | exact HB.out)⟩
 · rw [if_neg c6] at H
   have c6b0 : (t293 == 0) = false := beq_eq_false_iff_ne.mpr c6
   have c6b1 : (t293 != 0) = true := bne_iff_ne.mpr c6
   simp only [Option.some.injEq, Prod.mk.injEq] at H
   obtain ⟨rfl, rfl⟩ := H
   go_enter Tryz.func178, Tryz.ntmps178
   go_wp2_with (first | ((with_reducible refine gate_callee (f := 219) rfl ?_); refine goesL_ (some 8) rfl rfl Tryz.func219 (by kernel_rfl) rfl #[.slice A0 l0.length c0] rfl (by (try simp only [List.map_toArray, List.map_cons, List.map_nil]); first | done | rfl | (simp only [List.length_drop, List.length_take]; rfl)) ?_; (with_reducible refine (nat_Check.calls _ _ l0 t288 _ ?side1 ?side2 A3.out).mono ?_); (case side1 => repeat (first | exact HR0.out | (with_reducible refine Kd.C_alloc ?_ _) | (with_reducible refine Kd.C_drewN ?_ _) | (with_reducible refine Kd.C_drew ?_))); (case side2 => exact HC0.out); rintro e w' ⟨rfl, ⟨nd, rfl⟩⟩; refine ⟨_, rfl, ?_⟩) | ((with_reducible refine gate_callee (f := 219) rfl ?_); refine goesL_ (some 10) rfl rfl Tryz.func219 (by kernel_rfl) rfl #[.slice A1 l1.length c1] rfl (by (try simp only [List.map_toArray, List.map_cons, List.map_nil]); first | done | rfl | (simp only [List.length_drop, List.length_take]; rfl)) ?_; (with_reducible refine (nat_Check.calls _ _ l1 t289 _ ?side1 ?side2 A4.out).mono ?_); (case side1 => repeat (first | exact HR1.out | (with_reducible refine Kd.C_alloc ?_ _) | (with_reducible refine Kd.C_drewN ?_ _) | (with_reducible refine Kd.C_drew ?_))); (case side2 => exact HC1.out); rintro e w' ⟨rfl, ⟨nd, rfl⟩⟩; refine ⟨_, rfl, ?_⟩) | ((with_reducible refine gate_dst (N := 11) rfl ?_); refine Kd.R_lit (Kd.int .i64) _ 30 ?hg (N := 11) ?hd (xs := ([t288, t289] : List Int)) (inner := [.int .i64 t288, .int .i64 t289]) (ok := fun _ => True) (okp := fun _ => True) ?hr ?hp (fun _ hk => hk) trivial (Below.refl _ _) (Nat.le_refl _) (by simp) ?_; (case hd => rfl); (case hg => rfl); (case hr => first | (go_simp; done) | (go_simp; rfl)); (case hp => exact (Reps.one (show Kd.M (Kd.int .i64) _ _ _ t288 [.int .i64 t288] from rfl) (Reps.one (show Kd.M (Kd.int .i64) _ _ _ t289 [.int .i64 t289] from rfl) (Reps.none _ _)))); intro v291 w12 ho13 hb hg_ hnew_; clear hg_ hnew_; (first | rw [← Ny290.out] at ho13 | (simp only [Int.reduceToNat] at ho13; rw [← Ny290.out] at ho13)); have n0_ := Aside0.mk (Kd.R_lower ho13 (below_size (by repeat (first | (with_reducible first | exact HB.out | apply below_alloc | apply pw_below_drewN | apply below_drew1) | exact HB.out)))); have n1_ := Aside0.mk (below_step (by repeat (first | (with_reducible first | exact HB.out | apply below_alloc | apply pw_below_drewN | apply below_drew1) | exact HB.out)) hb); clear HB; have HO292 := n0_; have HB := n1_; clear n0_ n1_; clear hb ho13; obtain ⟨Ao14, co14, eo14⟩ := Kd.R_slice HO292.out; subst eo14) | ((with_reducible refine gate_callee (f := 61) rfl ?_); refine goesL_ (some 12) rfl rfl Tryz.func61 (by kernel_rfl) rfl #[.slice Ao14 y290.length co14] rfl (by (try simp only [List.map_toArray, List.map_cons, List.map_nil]); first | done | rfl | (simp only [List.length_drop, List.length_take]; rfl)) ?_; (with_reducible refine (api_Errno.calls k _ _ y290 t293 _ ?side1 ?side2 A5.out).mono ?_); (case side1 => repeat (first | exact (Kd.R_reads' HO292.out).2.2 | (with_reducible refine Kd.C_alloc ?_ _) | (with_reducible refine Kd.C_drewN ?_ _) | (with_reducible refine Kd.C_drew ?_))); (case side2 => exact (Kd.R_reads' HO292.out).2.1); rintro e w' ⟨rfl, ⟨nd, rfl⟩⟩; refine ⟨_, rfl, ?_⟩))
   go_ret2
   exact ⟨by first | rfl | (simp [errW_none, errW_some] <;> rfl) | (simp [*, errW_none, errW_some] <;> rfl), by repeat (first | (with_reducible first | exact HB.out | apply below_alloc | apply pw_below_drewN | apply below_drew1) | exact HB.out)⟩
end Go.Proofs.YthigbklhngihkaaGreatDoor.P
namespace Go.Proofs.YthigbklhngihkaaGreatDoor.P
open Go.RowKit Go.Proofs.YthigbklhngihkaaGreatDoorW.PrintWords Go.Proofs.YthigbklhngihkaaGreatDoorW.PrintLast Go.Proofs.YthigbklhngihkaaGreatDoorW.PrintMore
attribute [local go_sem] max2_int min2_int max_two min_two max_three min_three max_four min_four   -- for this text's walks alone
def nat_Sub.f (k : Nat) (l0 : List Int) (l1 : List Int) : Option (List Int × Int) := (nat_two.f k l0 l1).bind fun t295 => (if t295 = 0 then ((nat_num_compare.f l0 l1).bind fun t296 => (if t296 < 0 then (some (([] : List Int), 4)) else ((nat_num_sub.f l0 l1).bind fun t297 => (some (t297, 0))))) else (some (([] : List Int), t295)))
theorem nat_Sub.mono : ∀ a0 a1 k, LeO (nat_Sub.f k a0 a1) (nat_Sub.f (k + 1) a0 a1) := by
 intro a0 a1 k
 unfold nat_Sub.f
 repeat' first
  | (with_reducible exact nat_two.mono _ _ _)
  | (with_reducible exact LeO.refl _)
  | (with_reducible exact LeO.none _)
  | (with_reducible refine LeO.ite ?_ ?_)
  | (with_reducible refine LeO.bind ?_ (fun _ => ?_))
  | exact nat_two.mono _ _ _
  | exact LeO.none _
  | refine LeO.ite ?_ ?_
  | refine LeO.bind ?_ (fun _ => ?_)
set_option maxHeartbeats 8000000 in
theorem nat_Sub.calls (k : Nat) (A0 : Option Addr) (c0 : Nat) (l0 : List Int) (A1 : Option Addr) (c1 : Nat) (l1 : List Int) (r1 : List Int) (r2 : Int) (w : World) (hr0 : Kd.C (Kd.int .u32) w A0 l0.length l0) (hc0 : l0.length ≤ c0) (hr1 : Kd.C (Kd.int .u32) w A1 l1.length l1) (hc1 : l1.length ≤ c1) (h : nat_Sub.f k l0 l1 = some (r1, r2)) :
 Calls Tryz.prog 179 #[.slice A0 l0.length c0, .slice A1 l1.length c1] w fun e w' => ∃ v0_ : Value, e = .returned (.tuple #[v0_, .int .i64 r2]) ∧ Kd.R (Kd.int .u32) 131 w' w.heap.size (fun _ => True) v0_ r1 ∧ Below w.heap.size w w' := by
 have HR0 := Aside0.mk hr0
 have HC0 := Aside0.mk hc0
 clear hr0 hc0
 have HR1 := Aside0.mk hr1
 have HC1 := Aside0.mk hc1
 clear hr1 hc1
 have HB := Aside0.mk (Below.refl w.heap.size w)
 have H : ((nat_two.f k l0 l1).bind fun t295 => (if t295 = 0 then ((nat_num_compare.f l0 l1).bind fun t296 => (if t296 < 0 then (some (([] : List Int), 4)) else ((nat_num_sub.f l0 l1).bind fun t297 => (some (t297, 0))))) else (some (([] : List Int), t295)))) = some (r1, r2) := h
 clear h
 replace H := Option.bind_eq_some_iff.mp H
 obtain ⟨t295, A30, H⟩ := H
 replace H : (if t295 = 0 then ((nat_num_compare.f l0 l1).bind fun t296 => (if t296 < 0 then (some (([] : List Int), 4)) else ((nat_num_sub.f l0 l1).bind fun t297 => (some (t297, 0))))) else (some (([] : List Int), t295))) = some (r1, r2) := H
 have A3 := Aside0.mk A30
 clear A30
 by_cases c4 : t295 = 0
 · rw [if_pos c4] at H
   have c4b0 : (t295 == 0) = true := beq_iff_eq.mpr c4
   have c4b1 : (t295 != 0) = false := bne_eq_false_iff_eq.mpr c4
   clear c4
   replace H := Option.bind_eq_some_iff.mp H
   obtain ⟨t296, A50, H⟩ := H
   replace H : (if t296 < 0 then (some (([] : List Int), 4)) else ((nat_num_sub.f l0 l1).bind fun t297 => (some (t297, 0)))) = some (r1, r2) := H
   have A5 := Aside0.mk A50
   clear A50
   by_cases c6 : t296 < 0
   · rw [if_pos c6] at H
     have c6b0 : decide (t296 < 0) = true := decide_eq_true c6
     clear c6
     simp only [Option.some.injEq, Prod.mk.injEq] at H
     obtain ⟨rfl, rfl⟩ := H
     go_enter Tryz.func179, Tryz.ntmps179
     go_wp2_with (first | ((with_reducible refine gate_callee (f := 224) rfl ?_); refine goesL_ (some 9) rfl rfl Tryz.func224 (by kernel_rfl) rfl #[.slice A0 l0.length c0, .slice A1 l1.length c1] rfl (by (try simp only [List.map_toArray, List.map_cons, List.map_nil]); first | done | rfl | (simp only [List.length_drop, List.length_take]; rfl)) ?_; (with_reducible refine (nat_two.calls k _ _ l0 _ _ l1 t295 _ ?side1 ?side2 ?side3 ?side4 A3.out).mono ?_); (case side1 => repeat (first | exact HR0.out | (with_reducible refine Kd.C_alloc ?_ _) | (with_reducible refine Kd.C_drewN ?_ _) | (with_reducible refine Kd.C_drew ?_))); (case side2 => exact HC0.out); (case side3 => repeat (first | exact HR1.out | (with_reducible refine Kd.C_alloc ?_ _) | (with_reducible refine Kd.C_drewN ?_ _) | (with_reducible refine Kd.C_drew ?_))); (case side4 => exact HC1.out); rintro e w7 ⟨rfl, hb⟩; refine ⟨_, rfl, ?_⟩; have n0_ := Aside0.mk (below_step (by repeat (first | (with_reducible first | exact HB.out | apply below_alloc | apply pw_below_drewN | apply below_drew1) | exact HB.out)) hb); clear HB; have HB := n0_; clear n0_; (try clear hb); (try clear hb2); (try clear hk); (try clear hi)) | ((with_reducible refine gate_callee (f := 227) rfl ?_); refine goesL_ (some 15) rfl rfl Tryz.func227 (by kernel_rfl) rfl #[.slice A0 l0.length c0, .slice A1 l1.length c1] rfl (by (try simp only [List.map_toArray, List.map_cons, List.map_nil]); first | done | rfl | (simp only [List.length_drop, List.length_take]; rfl)) ?_; (with_reducible refine (nat_num_compare.calls _ _ l0 _ _ l1 t296 _ ?side1 ?side2 ?side3 ?side4 A5.out).mono ?_); (case side1 => repeat (first | exact (Kd.C_below HR0.out HB.out) | (with_reducible refine Kd.C_alloc ?_ _) | (with_reducible refine Kd.C_drewN ?_ _) | (with_reducible refine Kd.C_drew ?_))); (case side2 => exact HC0.out); (case side3 => repeat (first | exact (Kd.C_below HR1.out HB.out) | (with_reducible refine Kd.C_alloc ?_ _) | (with_reducible refine Kd.C_drewN ?_ _) | (with_reducible refine Kd.C_drew ?_))); (case side4 => exact HC1.out); rintro e w8 ⟨rfl, hb⟩; refine ⟨_, rfl, ?_⟩; have n0_ := Aside0.mk (below_step (by repeat (first | (with_reducible first | exact HB.out | apply below_alloc | apply pw_below_drewN | apply below_drew1) | exact HB.out)) hb); clear HB; have HB := n0_; clear n0_; (try clear hb); (try clear hb2); (try clear hk); (try clear hi)))
     go_ret2
     exact ⟨_, by first | rfl | (simp [errW_none, errW_some] <;> rfl) | (simp [*, errW_none, errW_some] <;> rfl), by first | exact Kd.R_nil _ _ _ _ _ | exact Kd.N_nil _ _ _ _ _ | exact Kd.V_nil _ _ _ _ _ | exact Kd.Q_nil _ _ _ _ _ | exact Kd.S_nil _ _ _ _ _, by repeat (first | (with_reducible first | exact HB.out | apply below_alloc | apply pw_below_drewN | apply below_drew1) | exact HB.out)⟩
   · rw [if_neg c6] at H
     have c6b0 : decide (t296 < 0) = false := decide_eq_false c6
     clear c6
     replace H := Option.bind_eq_some_iff.mp H
     obtain ⟨t297, A90, H⟩ := H
     replace H : (some (t297, 0)) = some (r1, r2) := H
     have A9 := Aside0.mk A90
     clear A90
     simp only [Option.some.injEq, Prod.mk.injEq] at H
     obtain ⟨rfl, rfl⟩ := H
     go_enter Tryz.func179, Tryz.ntmps179
     go_wp2_with (first | ((with_reducible refine gate_callee (f := 224) rfl ?_); refine goesL_ (some 9) rfl rfl Tryz.func224 (by kernel_rfl) rfl #[.slice A0 l0.length c0, .slice A1 l1.length c1] rfl (by (try simp only [List.map_toArray, List.map_cons, List.map_nil]); first | done | rfl | (simp only [List.length_drop, List.length_take]; rfl)) ?_; (with_reducible refine (nat_two.calls k _ _ l0 _ _ l1 t295 _ ?side1 ?side2 ?side3 ?side4 A3.out).mono ?_); (case side1 => repeat (first | exact HR0.out | (with_reducible refine Kd.C_alloc ?_ _) | (with_reducible refine Kd.C_drewN ?_ _) | (with_reducible refine Kd.C_drew ?_))); (case side2 => exact HC0.out); (case side3 => repeat (first | exact HR1.out | (with_reducible refine Kd.C_alloc ?_ _) | (with_reducible refine Kd.C_drewN ?_ _) | (with_reducible refine Kd.C_drew ?_))); (case side4 => exact HC1.out); rintro e w10 ⟨rfl, hb⟩; refine ⟨_, rfl, ?_⟩; have n0_ := Aside0.mk (below_step (by repeat (first | (with_reducible first | exact HB.out | apply below_alloc | apply pw_below_drewN | apply below_drew1) | exact HB.out)) hb); clear HB; have HB := n0_; clear n0_; (try clear hb); (try clear hb2); (try clear hk); (try clear hi)) | ((with_reducible refine gate_callee (f := 227) rfl ?_); refine goesL_ (some 15) rfl rfl Tryz.func227 (by kernel_rfl) rfl #[.slice A0 l0.length c0, .slice A1 l1.length c1] rfl (by (try simp only [List.map_toArray, List.map_cons, List.map_nil]); first | done | rfl | (simp only [List.length_drop, List.length_take]; rfl)) ?_; (with_reducible refine (nat_num_compare.calls _ _ l0 _ _ l1 t296 _ ?side1 ?side2 ?side3 ?side4 A5.out).mono ?_); (case side1 => repeat (first | exact (Kd.C_below HR0.out HB.out) | (with_reducible refine Kd.C_alloc ?_ _) | (with_reducible refine Kd.C_drewN ?_ _) | (with_reducible refine Kd.C_drew ?_))); (case side2 => exact HC0.out); (case side3 => repeat (first | exact (Kd.C_below HR1.out HB.out) | (with_reducible refine Kd.C_alloc ?_ _) | (with_reducible refine Kd.C_drewN ?_ _) | (with_reducible refine Kd.C_drew ?_))); (case side4 => exact HC1.out); rintro e w11 ⟨rfl, hb⟩; refine ⟨_, rfl, ?_⟩; have n0_ := Aside0.mk (below_step (by repeat (first | (with_reducible first | exact HB.out | apply below_alloc | apply pw_below_drewN | apply below_drew1) | exact HB.out)) hb); clear HB; have HB := n0_; clear n0_; (try clear hb); (try clear hb2); (try clear hk); (try clear hi)) | ((with_reducible refine gate_callee (f := 228) rfl ?_); refine goesL_ (some 19) rfl rfl Tryz.func228 (by kernel_rfl) rfl #[.slice A0 l0.length c0, .slice A1 l1.length c1] rfl (by (try simp only [List.map_toArray, List.map_cons, List.map_nil]); first | done | rfl | (simp only [List.length_drop, List.length_take]; rfl)) ?_; (with_reducible refine (nat_num_sub.calls _ _ l0 _ _ l1 t297 _ ?side1 ?side2 ?side3 ?side4 A9.out).mono ?_); (case side1 => repeat (first | exact (Kd.C_below HR0.out HB.out) | (with_reducible refine Kd.C_alloc ?_ _) | (with_reducible refine Kd.C_drewN ?_ _) | (with_reducible refine Kd.C_drew ?_))); (case side2 => exact HC0.out); (case side3 => repeat (first | exact (Kd.C_below HR1.out HB.out) | (with_reducible refine Kd.C_alloc ?_ _) | (with_reducible refine Kd.C_drewN ?_ _) | (with_reducible refine Kd.C_drew ?_))); (case side4 => exact HC1.out); rintro e w12 ⟨v298, rfl, ho0, hb⟩; refine ⟨_, rfl, ?_⟩; have n0_ := Aside0.mk (Kd.R_lower ho0 (below_size (by repeat (first | (with_reducible first | exact HB.out | apply below_alloc | apply pw_below_drewN | apply below_drew1) | exact HB.out)))); have n1_ := Aside0.mk (below_step (by repeat (first | (with_reducible first | exact HB.out | apply below_alloc | apply pw_below_drewN | apply below_drew1) | exact HB.out)) hb); clear HB; have HO299 := n0_; have HB := n1_; clear n0_ n1_; (try clear hb); (try clear hb2); (try clear hk); (try clear hi); (try clear ho0)))
     go_ret2
     exact ⟨_, by first | rfl | (simp [errW_none, errW_some] <;> rfl) | (simp [*, errW_none, errW_some] <;> rfl), by (with_reducible repeat (first | apply Kd.R_alloc | apply Kd.R_drewN | apply Kd.R_drew)); exact HO299.out, by repeat (first | (with_reducible first | exact HB.out | apply below_alloc | apply pw_below_drewN | apply below_drew1) | exact HB.out)⟩
 · rw [if_neg c4] at H
   have c4b0 : (t295 == 0) = false := beq_eq_false_iff_ne.mpr c4
   have c4b1 : (t295 != 0) = true := bne_iff_ne.mpr c4
   simp only [Option.some.injEq, Prod.mk.injEq] at H
   obtain ⟨rfl, rfl⟩ := H
   go_enter Tryz.func179, Tryz.ntmps179
   go_wp2_with (first | ((with_reducible refine gate_callee (f := 224) rfl ?_); refine goesL_ (some 9) rfl rfl Tryz.func224 (by kernel_rfl) rfl #[.slice A0 l0.length c0, .slice A1 l1.length c1] rfl (by (try simp only [List.map_toArray, List.map_cons, List.map_nil]); first | done | rfl | (simp only [List.length_drop, List.length_take]; rfl)) ?_; (with_reducible refine (nat_two.calls k _ _ l0 _ _ l1 t295 _ ?side1 ?side2 ?side3 ?side4 A3.out).mono ?_); (case side1 => repeat (first | exact HR0.out | (with_reducible refine Kd.C_alloc ?_ _) | (with_reducible refine Kd.C_drewN ?_ _) | (with_reducible refine Kd.C_drew ?_))); (case side2 => exact HC0.out); (case side3 => repeat (first | exact HR1.out | (with_reducible refine Kd.C_alloc ?_ _) | (with_reducible refine Kd.C_drewN ?_ _) | (with_reducible refine Kd.C_drew ?_))); (case side4 => exact HC1.out); rintro e w13 ⟨rfl, hb⟩; refine ⟨_, rfl, ?_⟩; have n0_ := Aside0.mk (below_step (by repeat (first | (with_reducible first | exact HB.out | apply below_alloc | apply pw_below_drewN | apply below_drew1) | exact HB.out)) hb); clear HB; have HB := n0_; clear n0_; (try clear hb); (try clear hb2); (try clear hk); (try clear hi)))
   go_ret2
   exact ⟨_, by first | rfl | (simp [errW_none, errW_some] <;> rfl) | (simp [*, errW_none, errW_some] <;> rfl), by first | exact Kd.R_nil _ _ _ _ _ | exact Kd.N_nil _ _ _ _ _ | exact Kd.V_nil _ _ _ _ _ | exact Kd.Q_nil _ _ _ _ _ | exact Kd.S_nil _ _ _ _ _, by repeat (first | (with_reducible first | exact HB.out | apply below_alloc | apply pw_below_drewN | apply below_drew1) | exact HB.out)⟩
end Go.Proofs.YthigbklhngihkaaGreatDoor.P
namespace Go.Proofs.YthigbklhngihkaaGreatDoor.P
open Go.RowKit Go.Proofs.YthigbklhngihkaaGreatDoorW.PrintWords Go.Proofs.YthigbklhngihkaaGreatDoorW.PrintMore
def expo : Nat := 2400
def top : Nat := 10 ^ expo
theorem ten_bound : top < 4294967296 ^ 256 := by decide +kernel
theorem top_ge {m : Nat} (h : m ≤ 2400) : 10 ^ m ≤ top := by
 have h2 : m ≤ expo := h
 unfold top
 generalize expo = e at *
 exact Nat.pow_le_pow_right (Nat.succ_pos 9) h2
theorem mul_limbs {a b : Nat} (ha : a ≤ top) (hb : b ≤ top) (k : Nat) (hk : 70000 ≤ k) : nat_num_mul.f k (limbs a) (limbs b) = some (limbs (a * b)) := by
 have h1 := limbs_len (Nat.lt_of_le_of_lt ha ten_bound)
 have h2 := limbs_len (Nat.lt_of_le_of_lt hb ten_bound)
 have := mul_eq (limbs a) (limbs b) (okL_limbs a) (okL_limbs b) (by omega) (by omega) k (by have := mul_bound h1 h2; omega)
 rwa [val_limbs, val_limbs] at this
theorem power_loop : ∀ (n : Nat) (o b k : Nat), n ≤ 4096 → 1 ≤ o → 1 ≤ b → o * b ^ n ≤ top → n + 70001 ≤ k → nat_power.l0 k n (limbs o) (limbs b) = some (limbs (o * b ^ n)) := by
 intro n
 induction n using Nat.strongRecOn with
 | _ n ih =>
  intro o b k hn ho hb hle hk
  obtain ⟨k, rfl⟩ : ∃ m, k = m + 1 := ⟨k - 1, by omega⟩
  by_cases h0 : n = 0
  · subst h0
    rw [nat_power.l0.eq_2, if_neg (by omega), Nat.pow_zero, Nat.mul_one]
  · have hbn : b ≤ b ^ n := Nat.le_self_pow h0 b
    have hb1 : b ≤ top := Nat.le_trans hbn (Nat.le_trans (Nat.le_mul_of_pos_left _ ho) hle)
    have ho1 : o ≤ top := Nat.le_trans (Nat.le_mul_of_pos_right _ (Nat.pow_pos hb)) hle
    have e2 : wrap64 (Int.tdiv (n : Int) 2) = ((n / 2 : Nat) : Int) := by
     rw [Int.tdiv_eq_ediv_of_nonneg (by omega), w64 _ (by omega)]; omega
    have em : Int.tmod (n : Int) 2 = ((n % 2 : Nat) : Int) := by rw [Int.tmod_eq_emod_of_nonneg (by omega)]; omega
    rw [nat_power.l0.eq_2, if_pos (by omega), em]
    by_cases h1 : n % 2 = 1
    · rw [if_pos (by omega), mul_limbs ho1 hb1 k (by omega), Option.bind_some]
      by_cases hn1 : 1 < n
      · have ep : o * b * (b * b) ^ (n / 2) = o * b ^ n := by
         rw [← Nat.pow_two, ← Nat.pow_mul, Nat.mul_assoc, ← Nat.pow_succ']
         congr 2
         omega
        rw [if_pos (by omega), mul_limbs hb1 hb1 k (by omega), Option.bind_some, e2, ih (n / 2) (by omega) (o * b) (b * b) k (by omega) (Nat.mul_pos ho hb) (Nat.mul_pos hb hb) (by rw [ep]; exact hle) (by omega), ep]
      · obtain rfl : n = 1 := by omega
        rw [if_neg (by omega), e2, ih (1 / 2) (by omega) (o * b) b k (by omega) (Nat.mul_pos ho hb) hb (by simpa using hle) (by omega)]
        simp
    · have hn1 : 1 < n := by omega
      have ep : o * (b * b) ^ (n / 2) = o * b ^ n := by
       rw [← Nat.pow_two, ← Nat.pow_mul]
       congr 2
       omega
      rw [if_neg (by omega), if_pos (by omega), mul_limbs hb1 hb1 k (by omega), Option.bind_some, e2, ih (n / 2) (by omega) o (b * b) k (by omega) ho (Nat.mul_pos hb hb) (by rw [ep]; exact hle) (by omega), ep]
def powV (n : Int) : List Int × Int := if 0 ≤ n ∧ n ≤ 2400 then (limbs (10 ^ n.toNat), 0) else ([], 4)
theorem pow_f (n : Int) (k : Nat) (hk : 80000 ≤ k) : nat_Pow.f k n = some (powV n) := by
 unfold nat_Pow.f powV nat_power.f
 by_cases h0 : n < 0
 · rw [if_pos h0, if_neg (by omega)]
 · by_cases h1 : n > 2400
   · rw [if_neg h0, if_pos h1, if_neg (by omega)]
   · obtain ⟨m, rfl⟩ : ∃ m : Nat, n = m := ⟨n.toNat, by omega⟩
     have e1 : ([1] : List Int) = limbs 1 := by rw [limbs_pos (by omega), limbs_zero]; rfl
     have e2 : ([10] : List Int) = limbs 10 := by rw [limbs_pos (by omega), show (10 : Nat) / 4294967296 = 0 by omega, limbs_zero]; rfl
     rw [if_neg h0, if_neg h1, if_pos (by omega), e1, e2, power_loop m 1 10 k (by omega) (by omega) (by omega) (by rw [Nat.one_mul]; exact top_ge (by omega)) (by omega), Option.bind_some, Nat.one_mul, Int.toNat_natCast]
def cmpV (a b : List Int) : Int × Int := if tw a b = 0 then (cmpI (val a) (val b), 0) else (0, tw a b)
def subV (a b : List Int) : List Int × Int := if tw a b = 0 then (if val a < val b then ([], 4) else (limbs (val a - val b), 0)) else ([], tw a b)
theorem cmp_neg {m n : Nat} : cmpI m n < 0 ↔ m < n := by unfold cmpI; split <;> (try split) <;> omega
theorem cmp_f (a b : List Int) (ha : okL a) (hb : okL b) (hla : a.length ≤ 4611686018427387904) (hlb : b.length ≤ 4611686018427387904) : Ev (fun k => nat_Compare.f k a b) (cmpV a b) := by
 unfold nat_Compare.f cmpV
 rw [check_f a hla, check_f b hlb]
 simp only [Option.bind_some]
 refine Ev.bind (a := tw a b) ⟨3, fun k hk => errs_f (chk a) (chk b) k hk⟩ ?_
 by_cases h : tw a b = 0
 · simp only [if_pos h]
   obtain ⟨⟨h1, h2⟩, h3, h4⟩ := (tw_ok ha hb).1 h
   unfold nat_num_compare.f
   simp only [if_pos (show (canon a ∧ canon b) ∧ a.length ≤ 1073741824 ∧ b.length ≤ 1073741824 from ⟨⟨h2, h4⟩, by omega, by omega⟩), Option.bind_some]
   exact Ev.now _
 · simp only [if_neg h]
   exact Ev.now _
theorem canon_le_len {a b : List Int} (ha : canon a) (hb : canon b) (h : val b ≤ val a) : b.length ≤ a.length := canon_len hb (Nat.lt_of_le_of_lt h (val_lt (canon_okL ha)))
theorem sub_f (a b : List Int) (ha : okL a) (hb : okL b) (hla : a.length ≤ 4611686018427387904) (hlb : b.length ≤ 4611686018427387904) : Ev (fun k => nat_Sub.f k a b) (subV a b) := by
 unfold nat_Sub.f subV
 refine Ev.bind (a := tw a b) ⟨3, fun k hk => two_f a b hla hlb k hk⟩ ?_
 by_cases h : tw a b = 0
 · simp only [if_pos h]
   obtain ⟨⟨h1, h2⟩, h3, h4⟩ := (tw_ok ha hb).1 h
   unfold nat_num_compare.f
   simp only [if_pos (show (canon a ∧ canon b) ∧ a.length ≤ 1073741824 ∧ b.length ≤ 1073741824 from ⟨⟨h2, h4⟩, by omega, by omega⟩), Option.bind_some]
   by_cases hlt : val a < val b
   · simp only [if_pos hlt, if_pos (cmp_neg.2 hlt)]
     exact Ev.now _
   · simp only [if_neg hlt, if_neg (fun hh => hlt (cmp_neg.1 hh))]
     unfold nat_num_sub.f
     simp only [if_pos (show (okL a ∧ okL b) ∧ a.length ≤ 1073741824 ∧ b.length ≤ a.length ∧ val b ≤ val a from ⟨⟨ha, hb⟩, by omega, canon_le_len h2 h4 (by omega), by omega⟩), Option.bind_some]
     exact Ev.now _
 · simp only [if_neg h]
   exact Ev.now _
end Go.Proofs.YthigbklhngihkaaGreatDoor.P
namespace Go.Proofs.YthigbklhngihkaaGreatDoor.P
open Go.RowKit Go.Proofs.YthigbklhngihkaaGreatDoorW.PrintWords Go.Proofs.YthigbklhngihkaaGreatDoorW.PrintMore Go.Proofs.YthigbklhngihkaaGreatDoorW.PrintLast
set_option maxHeartbeats 1000000 in
theorem minus_any (d : D) (A : Option Addr) (c : Nat) (w : World) :
 Calls Tryz.prog 145 #[.agg #[.bool d.f0, .slice A d.f1.length c, .int .i64 d.f2]] w fun e w' => e = .returned (.agg #[.bool (!d.f0 && decide (d.f1.length ≠ 0)), .slice A d.f1.length c, .int .i64 d.f2]) ∧ Below w.heap.size w w' := by
 obtain ⟨f0, l, x⟩ := d
 cases f0 with
 | true =>
  go_enter Tryz.func145, Tryz.ntmps145
  go_wp2
  refine bodyPost_ret (v := .agg #[.bool false, .slice A l.length c, .int .i64 x]) ?_ rfl ⟨rfl, ?_⟩
  · simp [results, Tryz.f145, go_sem]
  · exact by repeat (first | exact Below.refl _ _ | refine Below.alloc ?_ (by simp; omega) _ | refine Below.alloc ?_ (by simp) _)
 | false =>
  cases hz : ((l.length : Int) == 0) with
  | true =>
   have h0 : l.length = 0 := by have := eq_of_beq hz; omega
   have hd : decide (l.length ≠ 0) = false := by simp [h0]
   show Calls _ _ _ _ fun e w' => e = .returned (.agg #[.bool (!false && decide (l.length ≠ 0)), .slice A l.length c, .int .i64 x]) ∧ _
   rw [hd]
   clear h0 hd
   go_enter Tryz.func145, Tryz.ntmps145
   go_wp2
   refine bodyPost_ret (v := .agg #[.bool false, .slice A l.length c, .int .i64 x]) ?_ rfl ⟨rfl, ?_⟩
   · simp [results, Tryz.f145, go_sem]
   · exact by repeat (first | exact Below.refl _ _ | refine Below.alloc ?_ (by simp; omega) _ | refine Below.alloc ?_ (by simp) _)
  | false =>
   have h0 : l.length ≠ 0 := by intro h; rw [h] at hz; simp at hz
   have hd : decide (l.length ≠ 0) = true := by simp [h0]
   show Calls _ _ _ _ fun e w' => e = .returned (.agg #[.bool (!false && decide (l.length ≠ 0)), .slice A l.length c, .int .i64 x]) ∧ _
   rw [hd]
   clear h0 hd
   go_enter Tryz.func145, Tryz.ntmps145
   go_wp2
   refine bodyPost_ret (v := .agg #[.bool true, .slice A l.length c, .int .i64 x]) ?_ rfl ⟨rfl, ?_⟩
   · simp [results, Tryz.f145, go_sem]
   · exact by repeat (first | exact Below.refl _ _ | refine Below.alloc ?_ (by simp; omega) _ | refine Below.alloc ?_ (by simp) _)
set_option maxHeartbeats 1000000 in
theorem down_same (d : D) (A : Option Addr) (c : Nat) (x : Int) (w : World) (h : d.f1.length = 0 ∨ d.f2 = x) :
 Calls Tryz.prog 175 #[.agg #[.bool d.f0, .slice A d.f1.length c, .int .i64 d.f2], .int .i64 x] w fun e w' => e = .returned (.agg #[.bool d.f0, .slice A d.f1.length c, .int .i64 x]) ∧ Below w.heap.size w w' := by
 cases hz : ((d.f1.length : Int) == 0) with
 | true =>
  go_enter Tryz.func175, Tryz.ntmps175
  go_wp2
  refine bodyPost_ret (v := .agg #[.bool d.f0, .slice A d.f1.length c, .int .i64 x]) ?_ rfl ⟨rfl, ?_⟩
  · simp [results, Tryz.f175, go_sem]
  · exact by repeat (first | exact Below.refl _ _ | refine Below.alloc ?_ (by simp; omega) _ | refine Below.alloc ?_ (by simp) _)
 | false =>
  have h0 : d.f1.length ≠ 0 := by intro h; rw [h] at hz; simp at hz
  have hx : d.f2 = x := by omega
  have hb : (d.f2 == x) = true := by simp [hx]
  clear h h0
  go_enter Tryz.func175, Tryz.ntmps175
  go_wp2
  refine bodyPost_ret (v := .agg #[.bool d.f0, .slice A d.f1.length c, .int .i64 x]) ?_ rfl ⟨rfl, ?_⟩
  · simp [results, Tryz.f175, go_sem]
  · exact by repeat (first | exact Below.refl _ _ | refine Below.alloc ?_ (by simp; omega) _ | refine Below.alloc ?_ (by simp) _)
theorem must_any (v : Value) (x : Int) (w : World) : Calls Tryz.prog 176 #[v, .int .i64 x] w fun e w' => e = .returned v ∧ w = w' := by
 go_enter Tryz.func176, Tryz.ntmps176
 go_wp2
 go_ret
 exact ⟨rfl, rfl⟩
theorem down_end {w w5 w6 X : World} {P2 : Option Addr} {m : List Int} {p2 : Nat} {x : Int} {b0 : Bool} (hX : X = (w6.setCell ⟨w.heap.size, 1, none⟩ (.slice P2 m.length p2)).setCell ⟨w.heap.size, 2, none⟩ (.int .i64 x) ∨ X = (w6.setCell ⟨w.heap.size, 2, none⟩ (.int .i64 x)).setCell ⟨w.heap.size, 1, none⟩ (.slice P2 m.length p2))
 (hs : w.heap.size + 2 ≤ w5.heap.size) (hB : Below w.heap.size w w6) (hR : (Kd.int .u32).R 131 w6 w5.heap.size (fun _ => True) (.slice P2 m.length p2) m)
 (hy : w6.heap[w.heap.size + 1]? = some (.cells #[.bool false, .slice none 0 0, .int .i64 0] 137 (0, 0))) :
 ∃ W7, W7 = ((X.setCell ⟨w.heap.size + 1, 0, none⟩ (.bool b0)).setCell ⟨w.heap.size + 1, 1, none⟩ (.slice P2 m.length p2)).setCell ⟨w.heap.size + 1, 2, none⟩ (.int .i64 x) ∧ Below w.heap.size w W7 ∧ Kd.C (Kd.int .u32) W7 P2 m.length m ∧ W7.heap[w.heap.size + 1]? = some (.cells #[.bool b0, .slice P2 m.length p2, .int .i64 x] 137 (0, 0)) := by
 have far : ∀ j, j ≠ w.heap.size → X.heap[j]? = w6.heap[j]? := fun j hj => by
  rcases hX with rfl | rfl <;> rw [Below.heap_setCell _ _ _ _ (by simpa using hj), Below.heap_setCell _ _ _ _ (by simpa using hj)]
 have hbX : Below w.heap.size w X := by
  rcases hX with rfl | rfl <;> exact (hB.setCell (p := ⟨w.heap.size, _, none⟩) (Nat.le_refl _) _).setCell (p := ⟨w.heap.size, _, none⟩) (Nat.le_refl _) _
 refine ⟨_, rfl, ((hbX.setCell (p := ⟨w.heap.size + 1, 0, none⟩) (Nat.le_succ _) _).setCell (p := ⟨w.heap.size + 1, 1, none⟩) (Nat.le_succ _) _).setCell (p := ⟨w.heap.size + 1, 2, none⟩) (Nat.le_succ _) _, ?_, box3_out ((far _ (by omega)).trans hy) _ _ _⟩
 exact (Kd.R_reads' (Kd.R_move (Kd.R_bound hR) (fun j hj => by
  have := hj.2.1
  rw [Below.heap_setCell _ _ _ _ (by simp; omega), Below.heap_setCell _ _ _ _ (by simp; omega), Below.heap_setCell _ _ _ _ (by simp; omega)]
  exact far j (by omega)))).2.2
set_option maxHeartbeats 4000000 in
theorem down_more (d : D) (A : Option Addr) (c : Nat) (n : Nat) (m : List Int) (x : Int) (w : World) (hc : d.f1.length ≤ c) (hC : Kd.C (Kd.int .u32) w A d.f1.length d.f1) (hl : okL d.f1) (h40 : d.f1.length ≤ 256) (h0 : d.f1.length ≠ 0) (hx : d.f2 - x = n) (hn0 : n ≠ 0) (hn : n ≤ 2400) (hb : -9000000 ≤ x ∧ d.f2 ≤ 9000000) (hm : mulV d.f1 (limbs (10 ^ n)) = (m, 0)) (hlen : (limbs (10 ^ n)).length ≤ 4611686018427387904) :
 Calls Tryz.prog 175 #[.agg #[.bool d.f0, .slice A d.f1.length c, .int .i64 d.f2], .int .i64 x] w fun e w' => ∃ B dd, e = .returned (.agg #[.bool d.f0, .slice B m.length dd, .int .i64 x]) ∧ m.length ≤ dd ∧ Kd.C (Kd.int .u32) w' B m.length m ∧ Below w.heap.size w w' := by
 have hz : ((d.f1.length : Int) == 0) = false := beq_eq_false_iff_ne.mpr (by omega)
 have he : (d.f2 == x) = false := beq_eq_false_iff_ne.mpr (by omega)
 have hw : IntKind.i64.wrap (d.f2 - x) = (n : Int) := by rw [wrap_in _ (by omega)]; exact hx
 have hw2 : wrap64 (d.f2 - x) = (n : Int) := by unfold wrap64; omega
 have HP : Hid (nat_Pow.f 80000 (n : Int) = some (limbs (10 ^ n), 0)) := Lib.hid (by
  rw [pow_f _ _ (Nat.le_refl _)]
  unfold powV
  rw [if_pos (by omega), Int.toNat_natCast])
 have HM : Hid (nat_Mul.f 70000 d.f1 (limbs (10 ^ n)) = some (m, 0)) := Lib.hid (by rw [mul_f _ _ hl (okL_limbs _) (by omega) hlen 70000 (Nat.le_refl _), hm])
 have HC := Lib.hid hC
 clear hC hm hx h0 hn0 hl hlen
 generalize limbs (10 ^ n) = pw at *
 have HCC := Lib.hid hc
 have hzero : ∀ W : World, Calls Tryz.prog 146 #[.agg #[.bool d.f0, .slice A d.f1.length c, .int .i64 d.f2]] W fun e w' => e = .returned (.bool false) ∧ Below W.heap.size W w' := by
  intro W
  go_enter Tryz.func146, Tryz.ntmps146
  go_wp2
  go_ret
  exact ⟨rfl, (Below.refl _ _).alloc (Nat.le_refl _) _⟩
 have HZ := Lib.hid hzero
 obtain ⟨W2, hW2⟩ : ∃ W2, W2 = (w.alloc (.cells #[.bool d.f0, .slice A d.f1.length c, .int .i64 d.f2] 137)).alloc (.cells #[.bool false, .slice none 0 0, .int .i64 0] 137) := ⟨_, rfl⟩
 have hA : Below w.heap.size w W2 := by rw [hW2]; exact ((Below.refl _ _).alloc (Nat.le_refl _) _).alloc (by simp) _
 have hs2 : W2.heap.size = w.heap.size + 2 := by rw [hW2]; simp
 have hbx : W2.heap[w.heap.size]? = some (.cells #[.bool d.f0, .slice A d.f1.length c, .int .i64 d.f2] 137 (0, 0)) := by rw [hW2]; exact blk_alloc (blk_new _ _) _
 have hby : W2.heap[w.heap.size + 1]? = some (.cells #[.bool false, .slice none 0 0, .int .i64 0] 137 (0, 0)) := by
  rw [hW2]
  have := blk_new (w.alloc (.cells #[.bool d.f0, .slice A d.f1.length c, .int .i64 d.f2] 137)) (.cells #[.bool false, .slice none 0 0, .int .i64 0] 137)
  rw [World.size_alloc] at this
  exact this
 rw [hW2] at hA hs2 hbx hby
 have HA := Lib.hid hA
 have HS2 := Lib.hid hs2
 have HX := Lib.hid hbx
 have HY := Lib.hid hby
 clear hA hs2 hbx hby hz hzero
 go_enter Tryz.func175, Tryz.ntmps175
 go_upto_region 4 with (first | (go_at_call 146; refine (HZ.out _).mono ?_; rintro e w3 ⟨rfl, hB3⟩; obtain ⟨hx3, hxf⟩ := bcells HX.out hB3))
 have hA3 := HA.out.trans (hB3.mono (by rw [HS2.out]; omega))
 have hX4 := blk_drew (blk_below3 HX.out hB3)
 have hY4 := blk_drew (blk_below3 HY.out hB3)
 have HA4 := Lib.hid (below_drew hA3)
 have HX4 := Lib.hid hX4
 have HY4 := Lib.hid hY4
 have hs4 := hB3.size
 rw [HS2.out] at hs4
 obtain ⟨hx4, hxf4⟩ := bcells hX4 (Below.refl _ _)
 clear hx3 hxf hA3 hX4 hY4 hB3
 go_region_law (first
  | (go_simp; go_at_call 223; refine (nat_Pow.calls 80000 (n : Int) _ _ _ HP.out).mono ?_; rintro e w5 ⟨v1, rfl, hR1, hB5⟩; obtain ⟨P1, p1, rfl⟩ := Kd.R_slice hR1; obtain ⟨hx5, hxf5⟩ := bcells HX4.out hB5)
  | (go_simp; go_at_call 176; refine (must_any _ _ _).mono ?_; rintro e w9 ⟨rfl, rfl⟩)
  | (go_simp; go_at_call 222; refine (nat_Mul.calls 70000 A c d.f1 P1 p1 pw m 0 w5 (Kd.C_below HC.out (HA4.out.trans (hB5.mono (by rw [World.size_drew]; omega)))) HCC.out (Kd.R_reads' hR1).2.2 (Kd.R_reads' hR1).2.1 HM.out).mono ?_; rintro e w6 ⟨v2, rfl, hR2, hB6⟩; obtain ⟨P2, p2, rfl⟩ := Kd.R_slice hR2; obtain ⟨hx6, hxf6⟩ := bcells (blk_below3 HX4.out hB5) hB6))
 all_goals
  have hs5 := hB5.size
  have hs6 := hB6.size
  rw [World.size_drew] at hs5
  have hfin := down_end (b0 := d.f0) (x := x) (by first | exact .inl rfl | exact .inr rfl) (Nat.le_trans hs4 hs5) (HA4.out.trans ((hB5.mono (by rw [World.size_drew]; omega)).trans (hB6.mono (by omega)))) hR2 (blk_below3 (blk_below3 HY4.out hB5) hB6)
  obtain ⟨hy6, hyf6⟩ := bcells (blk_below3 (blk_below3 HY4.out hB5) hB6) (Below.refl _ _)
  have HF := Lib.hid hfin
  have hpp := (Kd.R_reads' hR2).2.1
  clear hR2 hB5 hB6 hR1 hx5 hxf5 hx4 hxf4 hfin
  rename_i q_ k_ a_
  refine a_ _ _ ?_
  go_wp2_with fail
  obtain ⟨W7, hW7, hBW, hCW, hrow⟩ := HF.out
  rw [← hW7]
  obtain ⟨z0, z1, z2⟩ := cells3 hrow
  refine bodyPost_ret (v := .agg #[.bool d.f0, .slice P2 m.length p2, .int .i64 x]) ?_ rfl ⟨P2, p2, rfl, hpp, hCW, hBW⟩
  simp [results, Tryz.f175, go_sem, z0, z1, z2]
end Go.Proofs.YthigbklhngihkaaGreatDoor.P

import Derived.Test.YthigbklhngihkaaGreatDoorMValueKindsq
import Derived.Test.YthigbklhngihkaaGreatDoorRows
import Derived.ChangeArms
import Derived.ChangeSlices
import Derived.DataReads
import Derived.DataElems
set_option linter.unusedVariables false
set_option linter.unusedSimpArgs false
set_option maxRecDepth 100000
namespace Go.Proofs.YthigbklhngihkaaGreatDoor.P
open Go.RowKit Go.Proofs.YthigbklhngihkaaGreatDoorW.PrintWords Go.Proofs.YthigbklhngihkaaGreatDoorW.PrintMore Go.Proofs.YthigbklhngihkaaGreatDoorW.PrintLast
theorem asc_range (k : Nat) : ∀ x ∈ asc k, 48 ≤ x ∧ x ≤ 57 := fun x hx => by
 unfold asc at hx
 obtain ⟨y, hy, rfl⟩ := List.mem_map.1 hx
 have := okD_decs k y hy
 omega
theorem text_bytes {k : Nat} (h : k ≠ 0) : bytesOf (text k) = (asc k).reverse := by
 have h1 : (asc k).length ≠ 0 := by rw [asc_pos h]; simp
 unfold text fin
 rw [if_neg h1]
 exact bytesOf_str fun x hx => by have := asc_range k x (List.mem_reverse.1 hx); omega
theorem text_size {k : Nat} (h : k ≠ 0) : (text k).size = (decs k).length := by
 rw [← bytesOf_length, text_bytes h, List.length_reverse, asc_len]
theorem text_pos {k : Nat} (h : k ≠ 0) : 0 < (text k).size := by rw [text_size h, decs_pos h]; simp
theorem text_cut {k : Nat} (h : k ≠ 0) (h0 : k / 10 ≠ 0) : (text k).extract 0 ((text k).size - 1) = text (k / 10) := by
 refine bytesOf_inj ?_
 rw [bytesOf_cut, text_bytes h, text_bytes h0, text_size h, asc_pos h, List.reverse_cons, List.drop_zero, Nat.sub_zero]
 have : (decs k).length - 1 = (asc (k / 10)).reverse.length := by rw [List.length_reverse, asc_len, decs_pos h]; simp
 rw [this, List.take_left]
theorem text_last {k : Nat} (h : k ≠ 0) (i : Int) (hi : i = ((text k).size : Int) - 1) (W : World) : Sem.run Tryz.prog (Instr.index 9 (.string (text k)) (.int .i64 i)) W = .ok (.int .u8 (48 + ((k % 10 : Nat) : Int))) W := by
 have hp := text_pos h
 rw [run_index_string W 9 (text k) .i64 i Tryz.underlying9, dif_pos ⟨by omega, by omega⟩]
 have hb := bytesOf_getD (text k) 0 i.toNat
 rw [List.drop_zero, Nat.zero_add, text_bytes h, asc_pos h, List.reverse_cons] at hb
 have hl : i.toNat = (asc (k / 10)).reverse.length := by rw [List.length_reverse, asc_len]; rw [text_size h, decs_pos h] at hi; simp at hi; omega
 rw [hl, List.getD_eq_getElem?_getD, List.getElem?_append_right (Nat.le_refl _), Nat.sub_self] at hb
 have he : ((text k)[i.toNat]'(by omega)) = (text k).get! i.toNat := by
  simp only [ByteArray.get!, getElem!_def]
  rw [Array.getElem?_eq_getElem (by show i.toNat < (text k).size; omega)]
  rfl
 rw [he, hl, ← hb]
 rfl
def strLn : Value → Nat
 | .string s => s.size
 | _ => 0
set_option maxHeartbeats 2000000 in
theorem trimByte_any (m : Nat) (h : m ≠ 0) (hl : (decs m).length ≤ 1000000) (w : World) : Calls Tryz.prog 231 #[.string (text m), .int .u8 48] w fun e w' => e = .returned (.string (text (strip m).1)) ∧ w' = w := by
 have HL : Hid (∀ k : Nat, k ≤ m → (decs k).length ≤ 1000000) := Lib.hid (fun k hk => by
  rcases Nat.eq_zero_or_pos k with h0 | h0
  · subst h0; rw [decs_zero]; exact Nat.zero_le _
  · exact Nat.le_trans ((decs_lt_iff (by omega)).2 (Nat.lt_of_le_of_lt hk ((decs_lt_iff h).1 (Nat.le_refl _)))) hl)
 have HM := Lib.hid h
 clear hl h
 go_enter Tryz.func231, Tryz.ntmps231
 go_wp2
 go_loopw [0] (fun vs wr => ∃ k : Nat, k ≠ 0 ∧ k ≤ m ∧ vs = .string (text k) ∧ Hid ((strip k).1 = (strip m).1) ∧ wr = w) (fun vs _ => strLn vs)
 case atStart => exact ⟨m, HM.out, Nat.le_refl _, rfl, Lib.hid rfl, rfl⟩
 case round =>
  obtain ⟨k, hk, hkm, rfl, HS, rfl⟩ := hrel
  have hp := text_pos hk
  have hsz : (text k).size ≤ 1000000 := by rw [text_size hk]; exact HL.out k hkm
  have hix := text_last hk (((text k).size : Int) - 1) rfl
  by_cases h0 : k % 10 = 0
  · have hd : k / 10 ≠ 0 := by omega
    have hcut := Lib.hid (text_cut hk hd)
    have hst : Hid ((strip (k / 10)).1 = (strip m).1) := Lib.hid (by rw [← HS.out, strip_ten hk h0])
    have hms : Hid ((text (k / 10)).size < (text k).size) := Lib.hid (by rw [← hcut.out, ByteArray.size_extract]; omega)
    rw [h0] at hix
    generalize hT : text k = T at *
    have hp2 : (0 : Int) < (T.size : Int) := by omega
    have hsz2 : (T.size : Int) ≤ 1000000 := by omega
    clear hT
    go_wp2
    rw [hcut.out]
    exact ⟨⟨k / 10, hd, by omega, rfl, hst, trivial⟩, hms.out⟩
  · have hst : Hid (text k = text (strip m).1) := Lib.hid (by rw [← HS.out, strip_end h0])
    have hne : ((48 + ((k % 10 : Nat) : Int)) == 48) = false := by rw [beq_eq_false_iff_ne]; omega
    generalize hT : text k = T at *
    have hp2 : (0 : Int) < (T.size : Int) := by omega
    have hsz2 : (T.size : Int) ≤ 1000000 := by omega
    clear hT
    go_wp2
    go_ret
    exact ⟨by rw [← hst.out]; rfl, rfl⟩
set_option maxHeartbeats 2000000 in
theorem TrimRight_any (m : Nat) (h : m ≠ 0) (hl : (decs m).length ≤ 1000000) (w : World) : Calls Tryz.prog 182 #[.string (text m), .string ⟨#[48]⟩] w fun e w' => e = .returned (.string (text (strip m).1)) ∧ w' = w := by
 have HT := Lib.hid (trimByte_any m h hl)
 have hp := text_pos h
 have hs : ((text m).toList == ([] : List UInt8)) = false := by
  rw [beq_eq_false_iff_ne]
  intro e
  rw [ByteArray.toList_eq] at e
  have h2 : (text m).data.toList.length = 0 := by rw [e]; rfl
  rw [data_length] at h2
  omega
 generalize text m = T at *
 have hix : ∀ W : World, Sem.run Tryz.prog (Instr.index 9 (.string ⟨#[48]⟩) (.int .i64 0)) W = .ok (.int .u8 48) W := fun W => by kernel_rfl
 go_enter Tryz.func182, Tryz.ntmps182
 go_wp2_with (go_at_call 231; (with_reducible refine (HT.out _).mono ?_); rintro e w2 ⟨rfl, rfl⟩)
 go_ret
 exact ⟨rfl, rfl⟩
theorem dnum_asc : ∀ k : Nat, dnum (asc k).reverse = k := fun k => by
 induction k using Nat.strongRecOn with
 | _ k ih =>
  by_cases h : k = 0
  · subst h; rw [asc_zero]; rfl
  · rw [asc_pos h, List.reverse_cons, dnum_snoc, ih (k / 10) (by omega)]
    omega
theorem digB_asc (k : Nat) : digB (asc k).reverse = true := List.all_eq_true.2 fun x hx => by
 have := asc_range k x (List.mem_reverse.1 hx)
 unfold digC
 simp
 omega
theorem strip_size : ∀ m : Nat, m ≠ 0 → (decs m).length = (decs (strip m).1).length + (strip m).2 := fun m => by
 induction m using Nat.strongRecOn with
 | _ m ih =>
  intro h
  by_cases h0 : m % 10 = 0
  · rw [strip_ten h h0, decs_pos h]
    have := ih (m / 10) (by omega) (by omega)
    simp only [List.length_cons]
    omega
  · rw [strip_end h0]; rfl
theorem strip_pos {m : Nat} (h : m ≠ 0) : (strip m).1 ≠ 0 := fun e => strip_mod m h (by rw [e])
theorem parse_text {k : Nat} (h : k ≠ 0) (hl : (decs k).length ≤ 2400) : nat_Parse.f (text k) = some (limbs k, 0) := by
 have h1 := text_size h
 have h2 := text_pos h
 unfold nat_Parse.f
 rw [if_neg (by omega), if_neg (by omega), text_bytes h, if_pos (digB_asc k), dnum_asc]
theorem into_box3 {W : World} {g t base : Nat} {ok : Nat → Prop} {o0 o1 o2 b x v : Value} {l : List Int} (hR : Kd.R (Kd.int .u32) 131 W base ok v l) (hx : W.heap[g]? = some (.cells #[o0, o1, o2] t (0, 0))) (ht : t ≠ 131) {X : World}
 (hX : X = ((W.setCell ⟨g, 0, none⟩ b).setCell ⟨g, 1, none⟩ v).setCell ⟨g, 2, none⟩ x) :
 X.heap[g]? = some (.cells #[b, v, x] t (0, 0)) ∧ Kd.R (Kd.int .u32) 131 X base ok v l ∧ ∀ B, B ≤ g → Below B W X := by
 have ht2 : ∀ q, q ∈ 131 :: (Kd.int .u32).E → q ≠ t := fun q hq => by
  rcases List.mem_cons.1 hq with rfl | hq
  · exact fun e => ht e.symm
  · cases hq
 have h1 := blk_set hx 0 b
 have h2 := blk_set h1 1 v
 refine ⟨by rw [hX]; exact box3_out hx b v x, ?_, fun B hB => ?_⟩
 · rw [hX]
   exact Kd.R_set (Kd.R_set (Kd.R_set hR hx ht2 0 _) h1 ht2 1 _) h2 ht2 2 _
 · rw [hX]
   exact ((((Below.refl B W)).setCell (p := ⟨g, 0, none⟩) (by simpa using hB) _).setCell (p := ⟨g, 1, none⟩) (by simpa using hB) _).setCell (p := ⟨g, 2, none⟩) (by simpa using hB) _
set_option maxHeartbeats 4000000 in
theorem strip_any (b : Bool) (m : Nat) (x : Int) (A : Option Addr) (c : Nat) (base : Nat) (w : World) (hR : Kd.R (Kd.int .u32) 131 w base (fun _ => True) (.slice A (limbs m).length c) (limbs m)) (hbase : base ≤ w.heap.size) (hm : m ≠ 0) (hl : (limbs m).length ≤ 256) (hd : (decs m).length ≤ 2400) (hx : -1073741824 ≤ x ∧ x ≤ 1073741824) :
 Calls Tryz.prog 147 #[.agg #[.bool b, .slice A (limbs m).length c, .int .i64 x]] w fun e w' => ∃ v, e = .returned (.agg #[.bool b, v, .int .i64 (x + ((strip m).2 : Int))]) ∧ Kd.R (Kd.int .u32) 131 w' base (fun _ => True) v (limbs (strip m).1) ∧ Below w.heap.size w w' := by
 obtain ⟨-, hc, hC⟩ := Kd.R_reads' hR
 obtain ⟨W1, hW1⟩ : ∃ W1, W1 = (w.alloc (.cells #[.bool b, .slice A (limbs m).length c, .int .i64 x] 137)).alloc (.cells #[.bool false, .slice none 0 0, .int .i64 0] 137) := ⟨_, rfl⟩
 have hb1 : Below w.heap.size w W1 := by rw [hW1]; exact ((Below.refl _ _).alloc (Nat.le_refl _) _).alloc (by simp) _
 have hx1 : W1.heap[w.heap.size]? = some (.cells #[.bool b, .slice A (limbs m).length c, .int .i64 x] 137 (0, 0)) := by rw [hW1]; exact blk_alloc (blk_new _ _) _
 have hy1 : W1.heap[w.heap.size + 1]? = some (.cells #[.bool false, .slice none 0 0, .int .i64 0] 137 (0, 0)) := by
  rw [hW1]
  have := blk_new (w.alloc (.cells #[.bool b, .slice A (limbs m).length c, .int .i64 x] 137)) (.cells #[.bool false, .slice none 0 0, .int .i64 0] 137)
  rw [World.size_alloc] at this
  exact this
 have HP : Hid (Calls Tryz.prog 181 #[.slice A (limbs m).length c] W1 fun e w' => e = .returned (.tuple #[.string (text m), .int .i64 0]) ∧ Below W1.heap.size W1 w') := Lib.hid (by
  have h := Print_any (limbs m) A c W1 (Kd.C_below hC hb1) hc (canon_limbs m) hl
  rw [val_limbs] at h
  exact h)
 have HTR := Lib.hid (TrimRight_any m hm (by omega))
 have hsz := strip_size m hm
 have hp := strip_pos hm
 have HPA := Lib.hid (nat_Parse.calls (text (strip m).1) (limbs (strip m).1) 0 · (parse_text hp (by omega)))
 have ht1 := text_size hm
 have ht2 := text_size hp
 have HS := Lib.hid hsz
 have HW1 := Lib.hid hW1
 have HB1 := Lib.hid hb1
 have HX1 := Lib.hid hx1
 have HY1 := Lib.hid hy1
 have HR := Lib.hid hR
 have HBS := Lib.hid hbase
 obtain ⟨z, hz⟩ : ∃ z, z = (strip m).2 := ⟨_, rfl⟩
 rw [← hz] at hsz HS ⊢
 by_cases hz0 : z = 0
 · have hm1 : (strip m).1 = m := by
    by_cases h0 : m % 10 = 0
    · rw [strip_ten hm h0] at hz; simp only at hz; omega
    · rw [strip_end h0]
   rw [hm1] at HTR ⊢
   have hx0 : x + ((z : Nat) : Int) = x := by omega
   rw [hx0]
   generalize limbs m = l at *
   generalize text m = T at *
   clear hW1 hb1 hx1 hy1 hC hR hbase ht1 ht2 hsz hp HPA hz hz0 hm1 hx0 hm hd
   go_enter Tryz.func147, Tryz.ntmps147
   go_upto_region 1 with (fail)
   rw [← HW1.out]
   obtain ⟨hcx, hfxx⟩ := bcells HX1.out (Below.refl _ _)
   go_wp2_with (first
    | (go_at_call 181; (with_reducible refine (HP.out).mono ?_); rintro e w2 ⟨rfl, hB2⟩; have HB2 := Lib.hid hB2; obtain ⟨hc2, hf2⟩ := bcells HX1.out hB2; obtain ⟨hc3, hf3⟩ := bcells HY1.out hB2; clear hB2)
    | (go_at_call 182; (with_reducible refine (HTR.out _).mono ?_); rintro e w3 ⟨rfl, rfl⟩)
    | go_in)
   obtain ⟨X, hX⟩ : ∃ X, X = ((w3.setCell ⟨w.heap.size + 1, 0, none⟩ (.bool b)).setCell ⟨w.heap.size + 1, 1, none⟩ (.slice A l.length c)).setCell ⟨w.heap.size + 1, 2, none⟩ (.int .i64 x) := ⟨_, rfl⟩
   obtain ⟨hfx, hr, hbw⟩ := into_box3 (Kd.R_below HR.out (HB1.out.trans (HB2.out.mono HB1.out.size))) (blk_below2 HY1.out HB2.out) (by decide) hX
   rw [← hX]
   have HFB := Lib.hid ((HB1.out.trans (HB2.out.mono HB1.out.size)).trans (hbw _ (Nat.le_succ _)))
   have HFR := Lib.hid hr
   clear hX hr hbw hcx hfxx hc2 hf2 hc3 hf3
   obtain ⟨y0, y1, y2⟩ := cells3 hfx
   exact bodyPost_ret (v := .agg #[.bool b, .slice A l.length c, .int .i64 x]) (by simp [results, Tryz.f147, go_sem, y0, y1, y2]) rfl ⟨_, rfl, HFR.out, HFB.out⟩
 · have hne : (((text (strip m).1).size : Int) == ((text m).size : Int)) = false := by rw [beq_eq_false_iff_ne]; omega
   have hsub : ((text m).size : Int) - ((text (strip m).1).size : Int) = (z : Int) := by omega
   have hb : ((text m).size : Int) ≤ 2400 ∧ ((text (strip m).1).size : Int) ≤ 2400 ∧ (z : Int) ≤ 2400 := by omega
   obtain ⟨hb1', hb2', hb3'⟩ := hb
   generalize limbs m = l at *
   generalize limbs (strip m).1 = l2 at *
   generalize text (strip m).1 = T2 at *
   generalize text m = T at *
   clear hW1 hb1 hx1 hy1 hC hR hbase ht1 ht2 hsz hp hz hz0 hm hd
   go_enter Tryz.func147, Tryz.ntmps147
   go_upto_region 1 with (fail)
   rw [← HW1.out]
   obtain ⟨hcx, hfxx⟩ := bcells HX1.out (Below.refl _ _)
   go_wp2_with (first
    | (go_at_call 181; (with_reducible refine (HP.out).mono ?_); rintro e w2 ⟨rfl, hB2⟩; have HB2 := Lib.hid hB2; clear hB2)
    | (go_at_call 182; (with_reducible refine (HTR.out _).mono ?_); rintro e w3 ⟨rfl, rfl⟩)
    | (go_at_call 183; (with_reducible refine (HPA.out _).mono ?_); rintro e w4 ⟨v4, rfl, hR4, hB4⟩; obtain ⟨G4, c4, rfl⟩ := Kd.R_slice hR4; have HR4 := Lib.hid hR4; have HB4 := Lib.hid (HB2.out.trans (hB4.mono HB2.out.size)); obtain ⟨hc4, hf4⟩ := bcells HX1.out HB4.out; obtain ⟨hd4, hg4⟩ := bcells HY1.out HB4.out; clear hR4 hB4)
    | go_in)
   obtain ⟨W5, hW5⟩ : ∃ W5, W5 = (w4.setCell ⟨w.heap.size, 1, none⟩ (.slice G4 l2.length c4)).setCell ⟨w.heap.size, 2, none⟩ (.int .i64 (x + z)) := ⟨_, rfl⟩
   have hx5 := blk_below2 HX1.out HB4.out
   have hr5 : Kd.R (Kd.int .u32) 131 W5 base (fun _ => True) (.slice G4 l2.length c4) l2 := by
    rw [hW5]
    have h1 := blk_set hx5 1 (.slice G4 l2.length c4)
    exact Kd.R_set (Kd.R_set (Kd.R_lower HR4.out (by have := HBS.out; have := HB1.out.size; have := HB2.out.size; omega)) hx5 (by decide) 1 _) h1 (by decide) 2 _
   have hb5 : Below w.heap.size w4 W5 := by
    rw [hW5]
    exact ((Below.refl w.heap.size w4).setCell (p := ⟨w.heap.size, 1, none⟩) (by simp) _).setCell (p := ⟨w.heap.size, 2, none⟩) (by simp) _
   have hy5 : W5.heap[w.heap.size + 1]? = some (.cells #[.bool false, .slice none 0 0, .int .i64 0] 137 (0, 0)) := by
    rw [hW5]
    exact blk_far (blk_far (blk_below2 HY1.out HB4.out) (by simp) _) (by simp) _
   obtain ⟨X, hX⟩ : ∃ X, X = ((W5.setCell ⟨w.heap.size + 1, 0, none⟩ (.bool b)).setCell ⟨w.heap.size + 1, 1, none⟩ (.slice G4 l2.length c4)).setCell ⟨w.heap.size + 1, 2, none⟩ (.int .i64 (x + z)) := ⟨_, rfl⟩
   obtain ⟨hfx, hr, hbw⟩ := into_box3 hr5 hy5 (by decide) hX
   rw [← hW5, ← hX]
   have HFB := Lib.hid (((HB1.out.trans (HB4.out.mono HB1.out.size)).trans hb5).trans (hbw _ (Nat.le_succ _)))
   have HFR := Lib.hid hr
   clear hX hr hbw hcx hfxx hc4 hf4 hd4 hg4 hr5 hb5 hy5 hx5 hW5
   obtain ⟨y0, y1, y2⟩ := cells3 hfx
   exact bodyPost_ret (v := .agg #[.bool b, .slice G4 l2.length c4, .int .i64 (x + z)]) (by simp [results, Tryz.f147, go_sem, y0, y1, y2]) rfl ⟨_, rfl, HFR.out, HFB.out⟩
set_option maxHeartbeats 4000000 in
theorem settle_any (b : Bool) (m : Nat) (x : Int) (A : Option Addr) (c : Nat) (base : Nat) (w : World) (hR : Kd.R (Kd.int .u32) 131 w base (fun _ => True) (.slice A (limbs m).length c) (limbs m)) (hbase : base ≤ w.heap.size) (hm : m ≠ 0) (hl : (limbs m).length ≤ 256) (hd : (decs m).length ≤ 2400) (hx : -1000000 ≤ x ∧ x ≤ 1000000) :
 Calls Tryz.prog 104 #[.agg #[.bool b, .slice A (limbs m).length c, .int .i64 x]] w fun e w' => ∃ v, e = .returned (.tuple #[.agg #[.bool (madeD b m x).1.f0, v, .int .i64 (madeD b m x).1.f2], .int .i64 (madeD b m x).2]) ∧ Kd.R (Kd.int .u32) 131 w' base (fun _ => True) v (madeD b m x).1.f1 ∧ Below w.heap.size w w' := by
 have hn0 : ((limbs m).length : Int) ≠ 0 := by rw [limbs_pos hm]; simp; omega
 have hz0 : (((limbs m).length : Int) == 0) = false := by rw [beq_eq_false_iff_ne]; exact hn0
 have HZ : Hid (∀ W, Calls Tryz.prog 146 #[.agg #[.bool b, .slice A (limbs m).length c, .int .i64 x]] W fun e w' => e = .returned (.bool false) ∧ Below W.heap.size W w') := Lib.hid (fun W => by
  have h := nzero_any b A (limbs m).length c x W
  rw [hz0] at h
  exact h)
 obtain ⟨W1, hW1⟩ : ∃ W1, W1 = (w.alloc (.cells #[.bool b, .slice A (limbs m).length c, .int .i64 x] 137)).alloc (.cells #[.bool false, .slice none 0 0, .int .i64 0] 24) := ⟨_, rfl⟩
 have hb1 : Below w.heap.size w W1 := by rw [hW1]; exact ((Below.refl _ _).alloc (Nat.le_refl _) _).alloc (by simp) _
 have hx1 : W1.heap[w.heap.size]? = some (.cells #[.bool b, .slice A (limbs m).length c, .int .i64 x] 137 (0, 0)) := by rw [hW1]; exact blk_alloc (blk_new _ _) _
 have hy1 : W1.heap[w.heap.size + 1]? = some (.cells #[.bool false, .slice none 0 0, .int .i64 0] 24 (0, 0)) := by
  rw [hW1]
  have := blk_new (w.alloc (.cells #[.bool b, .slice A (limbs m).length c, .int .i64 x] 137)) (.cells #[.bool false, .slice none 0 0, .int .i64 0] 24)
  rw [World.size_alloc] at this
  exact this
 have HST : Hid (∀ W, Below w.heap.size w W → Calls Tryz.prog 147 #[.agg #[.bool b, .slice A (limbs m).length c, .int .i64 x]] W fun e w' => ∃ v, e = .returned (.agg #[.bool b, v, .int .i64 (x + ((strip m).2 : Int))]) ∧ Kd.R (Kd.int .u32) 131 w' base (fun _ => True) v (limbs (strip m).1) ∧ Below W.heap.size W w') := Lib.hid (fun W hW => strip_any b m x A c base W (Kd.R_below hR hW) (Nat.le_trans hbase hW.size) hm hl hd ⟨by omega, by omega⟩)
 have hp := strip_pos hm
 have hss := strip_size m hm
 have HDG : Hid (∀ G g W, Kd.C (Kd.int .u32) W G (limbs (strip m).1).length (limbs (strip m).1) → (limbs (strip m).1).length ≤ g → Calls Tryz.prog 148 #[.slice G (limbs (strip m).1).length g] W fun e w' => e = .returned (.int .i64 (decs (strip m).1).length) ∧ Below W.heap.size W w') := Lib.hid (fun G g W h1 h2 => by
  have hlen : (limbs (strip m).1).length ≤ 256 := by
   have h1 := val_lt (canon_okL (canon_limbs m))
   rw [val_limbs] at h1
   exact Nat.le_trans (canon_len (canon_limbs _) (by rw [val_limbs]; exact Nat.lt_of_le_of_lt (strip_le m) h1)) hl
  have h := digits_any (limbs (strip m).1) G g W h1 h2 (canon_limbs _) hlen (by rw [limbs_pos hp]; simp)
  rw [val_limbs] at h
  exact h)
 have hmd : madeD b m x = if 300 < (decs (strip m).1).length then (⟨false, [], 0⟩, 51) else if x + (strip m).2 < -1000 ∨ 1000 < x + (strip m).2 then (⟨false, [], 0⟩, 52) else (⟨b, limbs (strip m).1, x + (strip m).2⟩, 0) := by unfold madeD; rw [if_neg hm]
 have HMD := Lib.hid hmd
 have hdl : (decs (strip m).1).length ≤ 2400 ∧ ((strip m).2 : Int) ≤ 2400 := by omega
 obtain ⟨hdl, hzl⟩ := hdl
 obtain ⟨u, hu⟩ : ∃ u : Int, u = x + ((strip m).2 : Int) := ⟨_, rfl⟩
 have hub : -1100000 ≤ u ∧ u ≤ 1100000 := by omega
 rw [← hu] at HST HMD
 generalize madeD b m x = md at *
 generalize limbs (strip m).1 = l2 at *
 generalize limbs m = l at *
 generalize (decs (strip m).1).length = dl at *
 have HW1 := Lib.hid hW1
 have HB1 := Lib.hid hb1
 have HX1 := Lib.hid hx1
 have HY1 := Lib.hid hy1
 have HBS := Lib.hid hbase
 clear hW1 hb1 hx1 hy1 hbase hR hn0 hz0 hp hss hmd hu hzl hm hl hd hx
 go_enter Tryz.func104, Tryz.ntmps104
 go_upto_region 1 with (fail)
 rw [← HW1.out]
 obtain ⟨hcx, hfxx⟩ := bcells HX1.out (Below.refl _ _)
 go_upto_region 4 with (first
  | (go_at_call 146; (with_reducible refine (HZ.out _).mono ?_); rintro e w2 ⟨rfl, hB2⟩; have HQ2 := Lib.hid hB2; obtain ⟨hc2, hf2⟩ := bcells HX1.out hB2; clear hB2)
  | (go_at_call 147; (with_reducible refine (HST.out _ (HB1.out.trans (HQ2.out.mono HB1.out.size))).mono ?_); rintro e w3 ⟨v3, rfl, hR3, hB3⟩; obtain ⟨G, g, rfl⟩ := Kd.R_slice hR3; have HQ3 := Lib.hid (HQ2.out.trans (hB3.mono HQ2.out.size)); have HR3 := Lib.hid hR3; obtain ⟨hc3, hf3⟩ := bcells HX1.out HQ3.out; clear hR3 hB3))
 obtain ⟨W4, hW4⟩ : ∃ W4, W4 = ((w3.setCell ⟨w.heap.size, 0, none⟩ (.bool b)).setCell ⟨w.heap.size, 1, none⟩ (.slice G l2.length g)).setCell ⟨w.heap.size, 2, none⟩ (.int .i64 u) := ⟨_, rfl⟩
 obtain ⟨hx4, hr4, hbw4⟩ := into_box3 HR3.out (blk_below2 HX1.out HQ3.out) (by decide) hW4
 have hy4 : W4.heap[w.heap.size + 1]? = some (.cells #[.bool false, .slice none 0 0, .int .i64 0] 24 (0, 0)) := by
  rw [hW4]
  exact blk_far (blk_far (blk_far (blk_below2 HY1.out HQ3.out) (by simp) _) (by simp) _) (by simp) _
 rw [← hW4]
 have HX4 := Lib.hid hx4
 have HY4 := Lib.hid hy4
 have HR4 := Lib.hid hr4
 have HB4 := Lib.hid ((HB1.out.trans (HQ3.out.mono HB1.out.size)).trans (hbw4 _ (Nat.le_refl _)))
 clear hW4 hx4 hy4 hr4 hbw4 hcx hfxx hc2 hf2 hc3 hf3 HQ2 HQ3
 obtain ⟨hc4, hf4⟩ := bcells HX4.out (Below.refl _ _)
 by_cases h3 : 300 < dl
 · have hmd := HMD.out
   rw [if_pos h3] at hmd
   subst hmd
   have h3b : (300 : Int) < (dl : Int) := by omega
   go_wp2_with (go_at_call 148; (with_reducible refine (HDG.out G g _ (Kd.R_reads' HR4.out).2.2 (Kd.R_reads' HR4.out).2.1).mono ?_); rintro e w5 ⟨rfl, hB5⟩; have HQ5 := Lib.hid hB5; obtain ⟨hc5, hf5⟩ := bcells HX4.out hB5; obtain ⟨hd5, hg5⟩ := bcells HY4.out hB5; clear hB5)
   obtain ⟨X, hX⟩ : ∃ X, X = ((w5.setCell ⟨w.heap.size + 1, 0, none⟩ (.bool false)).setCell ⟨w.heap.size + 1, 1, none⟩ (.slice none 0 0)).setCell ⟨w.heap.size + 1, 2, none⟩ (.int .i64 0) := ⟨_, rfl⟩
   obtain ⟨hfx, hr, hbw⟩ := into_box3 (Kd.R_nil (Kd.int .u32) 131 w5 base (fun _ => True)) (blk_below2 HY4.out HQ5.out) (by decide) hX
   rw [← hX]
   have HFB := Lib.hid ((HB4.out.trans (HQ5.out.mono HB4.out.size)).trans (hbw _ (Nat.le_succ _)))
   have HFR := Lib.hid hr
   clear hX hr hbw hc4 hf4 hc5 hf5 hd5 hg5
   obtain ⟨y0, y1, y2⟩ := cells3 hfx
   exact bodyPost_ret (v := .tuple #[.agg #[.bool false, .slice none 0 0, .int .i64 0], .int .i64 51]) (by simp [results, Tryz.f104, go_sem, y0, y1, y2]) rfl ⟨_, rfl, HFR.out, HFB.out⟩
 · by_cases hr : u < -1000 ∨ 1000 < u
   · have hmd := HMD.out
     rw [if_neg h3, if_pos hr] at hmd
     subst hmd
     have h3b : ¬ (300 : Int) < (dl : Int) := by omega
     rcases hr with hr | hr
     · go_wp2_with (go_at_call 148; (with_reducible refine (HDG.out G g _ (Kd.R_reads' HR4.out).2.2 (Kd.R_reads' HR4.out).2.1).mono ?_); rintro e w5 ⟨rfl, hB5⟩; have HQ5 := Lib.hid hB5; obtain ⟨hc5, hf5⟩ := bcells HX4.out hB5; obtain ⟨hd5, hg5⟩ := bcells HY4.out hB5; clear hB5)
       obtain ⟨X, hX⟩ : ∃ X, X = ((w5.setCell ⟨w.heap.size + 1, 0, none⟩ (.bool false)).setCell ⟨w.heap.size + 1, 1, none⟩ (.slice none 0 0)).setCell ⟨w.heap.size + 1, 2, none⟩ (.int .i64 0) := ⟨_, rfl⟩
       obtain ⟨hfx, hr, hbw⟩ := into_box3 (Kd.R_nil (Kd.int .u32) 131 w5 base (fun _ => True)) (blk_below2 HY4.out HQ5.out) (by decide) hX
       rw [← hX]
       have HFB := Lib.hid ((HB4.out.trans (HQ5.out.mono HB4.out.size)).trans (hbw _ (Nat.le_succ _)))
       have HFR := Lib.hid hr
       clear hX hr hbw hc4 hf4 hc5 hf5 hd5 hg5
       obtain ⟨y0, y1, y2⟩ := cells3 hfx
       exact bodyPost_ret (v := .tuple #[.agg #[.bool false, .slice none 0 0, .int .i64 0], .int .i64 52]) (by simp [results, Tryz.f104, go_sem, y0, y1, y2]) rfl ⟨_, rfl, HFR.out, HFB.out⟩
     · have hr2 : ¬ u < -1000 := by omega
       go_wp2_with (go_at_call 148; (with_reducible refine (HDG.out G g _ (Kd.R_reads' HR4.out).2.2 (Kd.R_reads' HR4.out).2.1).mono ?_); rintro e w5 ⟨rfl, hB5⟩; have HQ5 := Lib.hid hB5; obtain ⟨hc5, hf5⟩ := bcells HX4.out hB5; obtain ⟨hd5, hg5⟩ := bcells HY4.out hB5; clear hB5)
       obtain ⟨X, hX⟩ : ∃ X, X = ((w5.setCell ⟨w.heap.size + 1, 0, none⟩ (.bool false)).setCell ⟨w.heap.size + 1, 1, none⟩ (.slice none 0 0)).setCell ⟨w.heap.size + 1, 2, none⟩ (.int .i64 0) := ⟨_, rfl⟩
       obtain ⟨hfx, hr, hbw⟩ := into_box3 (Kd.R_nil (Kd.int .u32) 131 w5 base (fun _ => True)) (blk_below2 HY4.out HQ5.out) (by decide) hX
       rw [← hX]
       have HFB := Lib.hid ((HB4.out.trans (HQ5.out.mono HB4.out.size)).trans (hbw _ (Nat.le_succ _)))
       have HFR := Lib.hid hr
       clear hX hr hbw hc4 hf4 hc5 hf5 hd5 hg5
       obtain ⟨y0, y1, y2⟩ := cells3 hfx
       exact bodyPost_ret (v := .tuple #[.agg #[.bool false, .slice none 0 0, .int .i64 0], .int .i64 52]) (by simp [results, Tryz.f104, go_sem, y0, y1, y2]) rfl ⟨_, rfl, HFR.out, HFB.out⟩
   · have hmd := HMD.out
     rw [if_neg h3, if_neg hr] at hmd
     subst hmd
     have h3b : ¬ (300 : Int) < (dl : Int) := by omega
     have hr2 : ¬ u < -1000 := by omega
     have hr3 : ¬ 1000 < u := by omega
     go_wp2_with (go_at_call 148; (with_reducible refine (HDG.out G g _ (Kd.R_reads' HR4.out).2.2 (Kd.R_reads' HR4.out).2.1).mono ?_); rintro e w5 ⟨rfl, hB5⟩; have HQ5 := Lib.hid hB5; obtain ⟨hc5, hf5⟩ := bcells HX4.out hB5; obtain ⟨hd5, hg5⟩ := bcells HY4.out hB5; clear hB5)
     obtain ⟨X, hX⟩ : ∃ X, X = ((w5.setCell ⟨w.heap.size + 1, 0, none⟩ (.bool b)).setCell ⟨w.heap.size + 1, 1, none⟩ (.slice G l2.length g)).setCell ⟨w.heap.size + 1, 2, none⟩ (.int .i64 u) := ⟨_, rfl⟩
     obtain ⟨hfx, hr, hbw⟩ := into_box3 (Kd.R_below HR4.out HQ5.out) (blk_below2 HY4.out HQ5.out) (by decide) hX
     rw [← hX]
     have HFB := Lib.hid ((HB4.out.trans (HQ5.out.mono HB4.out.size)).trans (hbw _ (Nat.le_succ _)))
     have HFR := Lib.hid hr
     clear hX hr hbw hc4 hf4 hc5 hf5 hd5 hg5
     obtain ⟨y0, y1, y2⟩ := cells3 hfx
     exact bodyPost_ret (v := .tuple #[.agg #[.bool b, .slice G l2.length g, .int .i64 u], .int .i64 0]) (by simp [results, Tryz.f104, go_sem, y0, y1, y2]) rfl ⟨_, rfl, HFR.out, HFB.out⟩
def IntPost (n : Int) (w : World) (e : Ending) (w' : World) : Prop := ∃ v : Value, e = .returned (.agg #[.bool (intZ n).f0, v, .int .i64 (intZ n).f2]) ∧ Kd.R (Kd.int .u32) 131 w' w.heap.size (fun _ => True) v (intZ n).f1 ∧ Below w.heap.size w w'
set_option maxHeartbeats 4000000 in
theorem IntP_any (n : Int) (w : World) (h : n.natAbs ≤ 9223372036854775808) : Calls Tryz.prog 65 #[.int .i64 n] w (IntPost n w) := by
 by_cases h0 : n = 0
 · subst h0
   refine (Int_zero w).mono ?_
   rintro e w' ⟨rfl, hb⟩
   exact ⟨.slice none 0 0, by rw [intZ_zero], by rw [intZ_zero]; exact Kd.R_nil _ _ _ _ _, hb⟩
 · obtain ⟨m, hm⟩ : ∃ m, m = n.natAbs := ⟨_, rfl⟩
   obtain ⟨b, hb⟩ : ∃ b, b = decide (n < 0) := ⟨_, rfl⟩
   have hm0 : m ≠ 0 := by omega
   have hmd : madeD b m 0 = (intZ n, 0) := by
    have h1 := intZ_form h0 h
    unfold intZ
    rw [hb, hm, h1]
   have hl : (limbs m).length ≤ 256 := Nat.le_trans (canon_len (k := 3) (canon_limbs m) (by rw [val_limbs]; omega)) (by decide)
   have hd : (decs m).length ≤ 2400 := Nat.le_trans (decs_len (k := 20) (by omega)) (by decide)
   have hu : ∃ s : Int, IntKind.u64.wrap n = s ∧ (n < 0 → IntKind.u64.wrap (-s) = (m : Int)) ∧ (¬ n < 0 → s = (m : Int)) := by
    unfold IntKind.wrap
    simp only [IntKind.signed, IntKind.bits]
    exact ⟨_, rfl, fun h1 => by simp; omega, fun h1 => by simp; omega⟩
   obtain ⟨s, hs1, hs2, hs3⟩ := hu
   obtain ⟨W1, hW1⟩ : ∃ W1, W1 = w.alloc (.cells #[.bool false, .slice none 0 0, .int .i64 0] 24) := ⟨_, rfl⟩
   have hb1 : Below w.heap.size w W1 := by rw [hW1]; exact (Below.refl _ _).alloc (Nat.le_refl _) _
   have hx1 : W1.heap[w.heap.size]? = some (.cells #[.bool false, .slice none 0 0, .int .i64 0] 24 (0, 0)) := by rw [hW1]; exact blk_new _ _
   have HN := Lib.hid (natFrom_any m W1 (by omega))
   have HSE : Hid (∀ G c W, Kd.R (Kd.int .u32) 131 W w.heap.size (fun _ => True) (.slice G (limbs m).length c) (limbs m) → w.heap.size ≤ W.heap.size → Calls Tryz.prog 104 #[.agg #[.bool b, .slice G (limbs m).length c, .int .i64 0]] W fun x w' => ∃ v : Value, x = .returned (.tuple #[.agg #[.bool (intZ n).f0, v, .int .i64 (intZ n).f2], .int .i64 0]) ∧ Kd.R (Kd.int .u32) 131 w' w.heap.size (fun _ => True) v (intZ n).f1 ∧ Below W.heap.size W w') := Lib.hid (fun G c W h1 h2 => by
    have h := settle_any b m 0 G c w.heap.size W h1 h2 hm0 hl hd (by omega)
    rw [hmd] at h
    exact h)
   have HPP : Hid (∀ v W, Kd.R (Kd.int .u32) 131 W w.heap.size (fun _ => True) v (intZ n).f1 → Below w.heap.size w W → IntPost n w (.returned (.agg #[.bool (intZ n).f0, v, .int .i64 (intZ n).f2])) W) := Lib.hid (fun v W h1 h2 => ⟨v, rfl, h1, h2⟩)
   generalize hPE : IntPost n w = P at *
   generalize intZ n = r at *
   generalize limbs m = l at *
   have HW1 := Lib.hid hW1
   have HB1 := Lib.hid hb1
   have HX1 := Lib.hid hx1
   clear hW1 hb1 hx1 hl hd hm hm0 hmd hPE h h0
   by_cases hneg : n < 0
   · have hbt : b = true := by rw [hb]; simp [hneg]
     subst hbt
     have hs := hs2 hneg
     clear hs2 hs3 hb
     go_enter Tryz.func65, Tryz.ntmps65
     go_upto_region 1 with (fail)
     rw [← HW1.out]
     go_wp2_with (first
      | (go_at_call 105; (with_reducible refine (HN.out).mono ?_); rintro e w2 ⟨v2, rfl, hR2, hB2⟩; obtain ⟨G2, c2, rfl⟩ := Kd.R_slice hR2; have HR2 := Lib.hid (Kd.R_lower hR2 HB1.out.size); have HB2 := Lib.hid hB2; clear hR2 hB2)
      | (go_at_call 104; (with_reducible refine (HSE.out G2 c2 _ HR2.out (Nat.le_trans HB1.out.size HB2.out.size)).mono ?_); rintro e w5 ⟨v5, rfl, hR5, hB5⟩; obtain ⟨G5, c5, rfl⟩ := Kd.R_slice hR5; have HR5 := Lib.hid hR5; have HX5 := Lib.hid (blk_below2 (blk_below2 HX1.out HB2.out) hB5); have HB5 := Lib.hid ((HB1.out.trans (HB2.out.mono HB1.out.size)).trans (hB5.mono (Nat.le_trans HB1.out.size HB2.out.size))); clear hR5 hB5; obtain ⟨hcz, hfz⟩ := bcells (blk_new w5 (.cells #[.bool false, .slice none 0 0, .int .i64 0] 24)) (Below.refl _ _); have hoa1 := fun (o : Obj) => (bcells (blk_alloc HX5.out o) (Below.refl _ _)).1; have hoa2 := fun (o : Obj) => (bcells (blk_alloc HX5.out o) (Below.refl _ _)).2))
     obtain ⟨W6, hW6⟩ : ∃ W6, W6 = w5.alloc (.cells #[.bool r.f0, .slice G5 r.f1.length c5, .int .i64 r.f2] 24) := ⟨_, rfl⟩
     obtain ⟨X, hX⟩ : ∃ X, X = ((W6.setCell ⟨w.heap.size, 0, none⟩ (.bool r.f0)).setCell ⟨w.heap.size, 1, none⟩ (.slice G5 r.f1.length c5)).setCell ⟨w.heap.size, 2, none⟩ (.int .i64 r.f2) := ⟨_, rfl⟩
     obtain ⟨hfx, hr, hbw⟩ := into_box3 (t := 24) (by rw [hW6]; exact Kd.R_alloc HR5.out _) (by rw [hW6]; exact blk_alloc HX5.out _) (by decide) hX
     have hb6 : Below w.heap.size w W6 := by rw [hW6]; exact HB5.out.alloc HB5.out.size _
     rw [hW6] at hX
     rw [← hX]
     have HFIN := Lib.hid (HPP.out _ X hr (hb6.trans (hbw _ (Nat.le_refl _))))
     clear hX hr hbw hcz hfz hoa1 hoa2 hW6 hb6
     obtain ⟨y0, y1, y2⟩ := cells3 hfx
     exact bodyPost_ret (v := .agg #[.bool r.f0, .slice G5 r.f1.length c5, .int .i64 r.f2]) (by simp [results, Tryz.f65, go_sem, y0, y1, y2]) rfl HFIN.out
   · have hbt : b = false := by rw [hb]; simp [hneg]
     subst hbt
     have hs := hs3 hneg
     subst hs
     clear hs2 hs3 hb
     go_enter Tryz.func65, Tryz.ntmps65
     go_upto_region 1 with (fail)
     rw [← HW1.out]
     go_wp2_with (first
      | (go_at_call 105; (with_reducible refine (HN.out).mono ?_); rintro e w2 ⟨v2, rfl, hR2, hB2⟩; obtain ⟨G2, c2, rfl⟩ := Kd.R_slice hR2; have HR2 := Lib.hid (Kd.R_lower hR2 HB1.out.size); have HB2 := Lib.hid hB2; clear hR2 hB2)
      | (go_at_call 104; (with_reducible refine (HSE.out G2 c2 _ HR2.out (Nat.le_trans HB1.out.size HB2.out.size)).mono ?_); rintro e w5 ⟨v5, rfl, hR5, hB5⟩; obtain ⟨G5, c5, rfl⟩ := Kd.R_slice hR5; have HR5 := Lib.hid hR5; have HX5 := Lib.hid (blk_below2 (blk_below2 HX1.out HB2.out) hB5); have HB5 := Lib.hid ((HB1.out.trans (HB2.out.mono HB1.out.size)).trans (hB5.mono (Nat.le_trans HB1.out.size HB2.out.size))); clear hR5 hB5; obtain ⟨hcz, hfz⟩ := bcells (blk_new w5 (.cells #[.bool false, .slice none 0 0, .int .i64 0] 24)) (Below.refl _ _); have hoa1 := fun (o : Obj) => (bcells (blk_alloc HX5.out o) (Below.refl _ _)).1; have hoa2 := fun (o : Obj) => (bcells (blk_alloc HX5.out o) (Below.refl _ _)).2))
     obtain ⟨W6, hW6⟩ : ∃ W6, W6 = w5.alloc (.cells #[.bool r.f0, .slice G5 r.f1.length c5, .int .i64 r.f2] 24) := ⟨_, rfl⟩
     obtain ⟨X, hX⟩ : ∃ X, X = ((W6.setCell ⟨w.heap.size, 0, none⟩ (.bool r.f0)).setCell ⟨w.heap.size, 1, none⟩ (.slice G5 r.f1.length c5)).setCell ⟨w.heap.size, 2, none⟩ (.int .i64 r.f2) := ⟨_, rfl⟩
     obtain ⟨hfx, hr, hbw⟩ := into_box3 (t := 24) (by rw [hW6]; exact Kd.R_alloc HR5.out _) (by rw [hW6]; exact blk_alloc HX5.out _) (by decide) hX
     have hb6 : Below w.heap.size w W6 := by rw [hW6]; exact HB5.out.alloc HB5.out.size _
     rw [hW6] at hX
     rw [← hX]
     have HFIN := Lib.hid (HPP.out _ X hr (hb6.trans (hbw _ (Nat.le_refl _))))
     clear hX hr hbw hcz hfz hoa1 hoa2 hW6 hb6
     obtain ⟨y0, y1, y2⟩ := cells3 hfx
     exact bodyPost_ret (v := .agg #[.bool r.f0, .slice G5 r.f1.length c5, .int .i64 r.f2]) (by simp [results, Tryz.f65, go_sem, y0, y1, y2]) rfl HFIN.out
set_option maxHeartbeats 4000000 in
theorem NumberP_any (n : Int) (w : World) (h : n.natAbs ≤ 9223372036854775808) : Calls Tryz.prog 19 #[.int .i64 n] w fun e w' => ∃ cs : List Value, e = .returned (.agg cs.toArray) ∧ k28.M w' w.heap.size (fun _ => True) (numZ n) cs ∧ Below w.heap.size w w' := by
 obtain ⟨W1, hW1⟩ : ∃ W1, W1 = w.alloc (.cells #[.int .i64 0, .bool false, .slice none 0 0, .int .i64 0, .string ⟨#[]⟩, .slice none 0 0, .slice none 0 0] 28) := ⟨_, rfl⟩
 have hb1 : Below w.heap.size w W1 := by rw [hW1]; exact (Below.refl _ _).alloc (Nat.le_refl _) _
 have hx1 : W1.heap[w.heap.size]? = some (.cells #[.int .i64 0, .bool false, .slice none 0 0, .int .i64 0, .string ⟨#[]⟩, .slice none 0 0, .slice none 0 0] 28 (0, 0)) := by rw [hW1]; exact blk_new _ _
 have HF := Lib.hid (IntP_any n W1 h)
 have hnv : numZ n = ⟨3, intZ n, ⟨#[]⟩, [], []⟩ := rfl
 rw [hnv]
 have hPost : ∀ e w', IntPost n W1 e w' → ∃ v : Value, e = .returned (.agg #[.bool (intZ n).f0, v, .int .i64 (intZ n).f2]) ∧ Kd.R (Kd.int .u32) 131 w' W1.heap.size (fun _ => True) v (intZ n).f1 ∧ Below W1.heap.size W1 w' := fun e w' hh => hh
 have HPO := Lib.hid hPost
 generalize IntPost n W1 = P at *
 generalize intZ n = r at *
 have HW1 := Lib.hid hW1
 have HB1 := Lib.hid hb1
 have HX1 := Lib.hid hx1
 clear hW1 hb1 hx1 hnv h hPost
 go_enter Tryz.func19, Tryz.ntmps19
 go_upto_region 1 with (fail)
 rw [← HW1.out]
 go_wp2_with (go_at_call 65; (with_reducible refine (HF.out).mono ?_); intro e w2 hp2; obtain ⟨v2, rfl, hR2, hB2⟩ := HPO.out e w2 hp2; obtain ⟨G2, c2, rfl⟩ := Kd.R_slice hR2; have HR2 := Lib.hid (Kd.R_lower hR2 HB1.out.size); have HB2 := Lib.hid (HB1.out.trans (hB2.mono HB1.out.size)); have HX2 := Lib.hid (blk_below2 HX1.out hB2); obtain ⟨hcz, hfz⟩ := bcells HX1.out hB2; clear hR2 hB2 hp2)
 obtain ⟨X, hX⟩ : ∃ X, X = ((((((w2.setCell ⟨w.heap.size, 0, none⟩ (.int .i64 3)).setCell ⟨w.heap.size, 1, none⟩ (.bool r.f0)).setCell ⟨w.heap.size, 2, none⟩ (.slice G2 r.f1.length c2)).setCell ⟨w.heap.size, 3, none⟩ (.int .i64 r.f2)).setCell ⟨w.heap.size, 4, none⟩ (.string ⟨#[]⟩)).setCell ⟨w.heap.size, 5, none⟩ (.slice none 0 0)).setCell ⟨w.heap.size, 6, none⟩ (.slice none 0 0) := ⟨_, rfl⟩
 obtain ⟨hfx, hm, hbw⟩ := num_end HX2.out HR2.out HB2.out hX
 rw [← hX]
 clear hX hcz hfz
 have hrc := blk_cell hfx
 refine bodyPost_ret (v := .agg #[.int .i64 3, .bool r.f0, .slice G2 r.f1.length c2, .int .i64 r.f2, .string ⟨#[]⟩, .slice none 0 0, .slice none 0 0]) ?_ rfl ⟨_, rfl, hm, hbw⟩
 simp [results, Tryz.f19, go_sem, hrc]
def listV5 (l : List V) : V := ⟨5, ⟨false, [], 0⟩, ⟨#[]⟩, l, []⟩
theorem OkV.list5 {l : List V} (h : ∀ x ∈ l, OkV x) (hl : l.length ≤ 1073741824) : OkV (listV5 l) :=
 OkV.mk _ (by show (Lit.int .i64 5).wf = true; rfl) (fun n hn => absurd hn (by unfold listV5; simp)) (by show (Lit.int .i64 0).wf = true; rfl) (by show (0 : Nat) ≤ 1073741824; decide) (fun n hn => absurd hn (by unfold listV5; simp)) (by unfold listV5; simp) hl (by unfold listV5; simp) h
theorem list5_K {l : List V} {A : Option Addr} {c : Nat} {W : World} (hl : l.length ≤ c) (hA : k28.C W A l.length l) : k28.K W (listV5 l) [.int .i64 5, .bool false, .slice none 0 0, .int .i64 0, .string ⟨#[]⟩, .slice A l.length c, .slice none 0 0] :=
 k28_mk W (listV5 l) (Nat.zero_le 0) (Kd.C_nil _ _) hl hA (Nat.zero_le 0) (Kd.C_nil _ _)
set_option maxHeartbeats 2000000 in
theorem ListP_any (l : List V) (A : Option Addr) (c : Nat) (w : World) (hl : l.length ≤ c) (hA : k28.C w A l.length l) (hO : ∀ x ∈ l, OkV x) (hn : l.length ≤ 1073741824) :
 Calls Tryz.prog 20 #[.slice A l.length c] w fun e w' => ∃ cs : List Value, e = .returned (.agg cs.toArray) ∧ k28.M w' w.heap.size (fun _ => True) (listV5 l) cs ∧ Below w.heap.size w w' := by
 obtain ⟨W1, hW1⟩ : ∃ W1, W1 = w.alloc (.cells #[.int .i64 0, .bool false, .slice none 0 0, .int .i64 0, .string ⟨#[]⟩, .slice none 0 0, .slice none 0 0] 28) := ⟨_, rfl⟩
 have hb1 : Below w.heap.size w W1 := by rw [hW1]; exact (Below.refl _ _).alloc (Nat.le_refl _) _
 have hx1 : W1.heap[w.heap.size]? = some (.cells #[.int .i64 0, .bool false, .slice none 0 0, .int .i64 0, .string ⟨#[]⟩, .slice none 0 0, .slice none 0 0] 28 (0, 0)) := by rw [hW1]; exact blk_new _ _
 have hs1 : W1.heap.size = w.heap.size + 1 := by rw [hW1]; simp
 have HC := Lib.hid (Clone_any (listV5 l) _ W1 (list5_K hl (Kd.C_below hA hb1)) (OkV.list5 hO hn))
 have HV : Hid ((listV5 l).f0 = 5 ∧ (listV5 l).f1 = ⟨false, [], 0⟩ ∧ (listV5 l).f2 = ⟨#[]⟩ ∧ (listV5 l).f3.length = l.length ∧ (listV5 l).f4 = []) := Lib.hid ⟨rfl, rfl, rfl, rfl, rfl⟩
 generalize hvv : listV5 l = vv at *
 have HW1 := Lib.hid hW1
 have HB1 := Lib.hid hb1
 have HX1 := Lib.hid hx1
 have HS1 := Lib.hid hs1
 clear hW1 hb1 hx1 hs1 hA hO hvv hl hn
 go_enter Tryz.func20, Tryz.ntmps20
 go_upto_region 1 with (fail)
 rw [← HW1.out]
 go_wp2_with (go_at_call 66; (with_reducible refine (HC.out).mono ?_); rintro e w8 ⟨cs8, rfl, hM8, hB8⟩; have HM8 := Lib.hid hM8; obtain ⟨v2, v5, v6, rfl, r2, r5, r6⟩ := k28_openM hM8; obtain ⟨E2, s2, rfl⟩ := Kd.R_slice r2; obtain ⟨E5, s5, rfl⟩ := Kd.R_slice r5; obtain ⟨E6, s6, rfl⟩ := Kd.R_slice r6; have HX8 := Lib.hid (blk_below2 HX1.out hB8); obtain ⟨hc8, hf8⟩ := bcells HX1.out hB8; have HB8 := Lib.hid (HB1.out.trans (hB8.mono HB1.out.size)); clear hM8 r2 r5 r6 hB8)
 obtain ⟨X, hX⟩ : ∃ X, X = ((((((w8.setCell ⟨w.heap.size, 0, none⟩ (.int .i64 vv.f0)).setCell ⟨w.heap.size, 1, none⟩ (.bool vv.f1.f0)).setCell ⟨w.heap.size, 2, none⟩ (.slice E2 vv.f1.f1.length s2)).setCell ⟨w.heap.size, 3, none⟩ (.int .i64 vv.f1.f2)).setCell ⟨w.heap.size, 4, none⟩ (.string vv.f2)).setCell ⟨w.heap.size, 5, none⟩ (.slice E5 vv.f3.length s5)).setCell ⟨w.heap.size, 6, none⟩ (.slice E6 vv.f4.length s6) := ⟨_, rfl⟩
 obtain ⟨hfx, hm, hbw⟩ := into_box HM8.out (by rw [HS1.out]; exact Nat.lt_succ_self _) HX8.out rfl hX
 rw [← hX]
 have HFB := Lib.hid (HB8.out.trans (hbw _ (Nat.le_refl _)))
 have HFM := Lib.hid (k28.M_lower (by rw [HS1.out]; exact Nat.le_succ _) hm)
 clear hX hm hbw hc8 hf8
 have hrc := blk_cell hfx
 refine bodyPost_ret (v := .agg #[.int .i64 vv.f0, .bool vv.f1.f0, .slice E2 vv.f1.f1.length s2, .int .i64 vv.f1.f2, .string vv.f2, .slice E5 vv.f3.length s5, .slice E6 vv.f4.length s6]) ?_ rfl ⟨_, rfl, HFM.out, HFB.out⟩
 simp [results, Tryz.f20, go_sem, hrc]
theorem txt_nil : txt ⟨#[]⟩ = 0 := by decide +kernel
theorem vown_numZ {n : Int} (h : n.natAbs ≤ 9223372036854775808) : vown (numZ n) = 0 := by
 have h1 : vtexts (numZ n) = 0 := txt_nil
 have h2 : vnumbers (numZ n) = true := by
  show (if (3 : Int) = 3 then dchk (intZ n) == 0 else _) = true
  rw [if_pos rfl]
  unfold dchk
  rw [decOk_intZ h]
  rfl
 have h3 : vused (numZ n) = true := by
  show ((3 : Int) == 4 || (⟨#[]⟩ : ByteArray).toList.isEmpty) && (decide ((5 : Int) ≤ 3) || ((([] : List V).length : Int) == 0)) && ((([] : List ByteArray).length : Int) == if (3 : Int) == 6 then ((([] : List V).length : Int)) else 0) = true
  decide +kernel
 have h4 : vrises (numZ n).f4 = true := rfl
 have h5 : max (numZ n).f3.length (numZ n).f4.length = 0 := rfl
 have h6 : (numZ n).f0 = 3 := rfl
 unfold vown
 rw [h6, h1, h2, h3, h4, h5]
 decide
theorem vchk_numZ {n : Int} (h : n.natAbs ≤ 9223372036854775808) : vchk (numZ n) = 0 := by
 have h1 : vdeep 1000 (numZ n) = 0 := by unfold vdeep; rw [if_neg]; unfold numZ; simp
 have h2 : vsize (numZ n) = 1 := by
  rw [vsize_eq]
  have : vszUp (numZ n).f3 (numZ n).f3.length = 1 := by show vsizes ([].take 0) 1 = 1; rw [List.take_nil, vsizes_nil]
  rw [this]
  rfl
 have h3 : vall (numZ n) = [numZ n] := by rw [vall_eq]; show _ :: valls [] = _; rw [valls]
 unfold vchk
 rw [h1, h2, h3, if_neg (by omega), if_neg (by omega)]
 simp only [List.map_cons, List.map_nil, vown_numZ h]
 rfl
theorem vcmp_numZ {n m : Int} (h : n.natAbs ≤ 9223372036854775808) (k : m.natAbs ≤ 9223372036854775808) : vask2 (numZ n) (numZ m) = 0 ∧ (vcmp (numZ n) (numZ m) < 0 ↔ n < m) := by
 refine ⟨vask2_mk (vchk_numZ h) (vchk_numZ k), ?_⟩
 rw [vcmp_ok (vchk_numZ h) (vchk_numZ k), vord_eq]
 have e : ¬ (cmpI (numZ n).f0 (numZ m).f0 ≠ 0 ∨ (numZ n).f0 ≠ 3) := by
  show ¬ (cmpI 3 3 ≠ 0 ∨ (3 : Int) ≠ 3)
  decide
 rw [if_neg e]
 show dcmp (intZ n) (intZ m) < 0 ↔ _
 rw [dcmp_intZ h k]
 rcases cmpI_cases n m with ⟨h1, h2⟩ | ⟨h1, h3, h2⟩ | ⟨h1, h3, h2⟩ <;> rw [h2] <;> omega
theorem vcmp_kinds {a b : V} (h : vask2 a b = 0) (hk : a.f0 ≠ b.f0) : vcmp a b < 0 ↔ a.f0 < b.f0 := by
 obtain ⟨ha, hb⟩ := vask2_zero h
 rw [vcmp_ok ha hb, vord_eq]
 rcases cmpI_cases a.f0 b.f0 with ⟨h1, h2⟩ | ⟨h1, h3, h2⟩ | ⟨h1, h3, h2⟩
 · rw [h2, if_pos (.inl (by decide))]; simp [orL]; omega
 · rw [h2, if_pos (.inl (by decide))]; simp [orL]; omega
 · omega
theorem vcmp_lists {a b : V} (h : vask2 (listV5 [a]) (listV5 [a, b]) = 0) : vcmp (listV5 [a]) (listV5 [a, b]) = -1 := by
 obtain ⟨ha, hb⟩ := vask2_zero h
 rw [vcmp_ok ha hb, vord_eq]
 have haa : vord a a = 0 := by have := vord_anti a a; omega
 have hl : lexC vord [a] [a, b] = -1 := by
  show (if vord a a = 0 then lexC vord [] [b] else vord a a) = -1
  rw [if_pos haa]
  rfl
 have hs : strC (⟨#[]⟩ : ByteArray) ⟨#[]⟩ = 0 := by decide +kernel
 show (if cmpI 5 5 ≠ 0 ∨ (5 : Int) ≠ 3 then orL [cmpI 5 5, strC ⟨#[]⟩ ⟨#[]⟩, lexC strC [] [], lexC vord [a] [a, b]] else _) = -1
 rw [if_pos (.inr (by decide)), hl, hs]
 rfl
theorem okV_numZ {n : Int} (h : n.natAbs ≤ 9223372036854775808) : OkV (numZ n) := by
 have hl : (intZ n).f1.length ≤ 256 ∧ okL (intZ n).f1 ∧ 0 ≤ (intZ n).f2 ∧ (intZ n).f2 ≤ 100 := by
  by_cases h0 : n = 0
  · subst h0; rw [intZ_zero]; exact ⟨by decide, fun x hx => by simp at hx, by decide, by decide⟩
  · unfold intZ
    rw [intZ_form h0 h]
    have h1 := strip_le n.natAbs
    have h3 : (strip n.natAbs).2 ≤ 20 := Nat.le_trans (strip_len _) (decs_len (Nat.lt_of_le_of_lt h (by decide)))
    refine ⟨Nat.le_trans (canon_len (k := 3) (canon_limbs _) (by rw [val_limbs]; omega)) (by decide), canon_okL (canon_limbs _), by show (0 : Int) ≤ ((strip n.natAbs).2 : Int); omega, by show ((strip n.natAbs).2 : Int) ≤ 100; omega⟩
 obtain ⟨h1, h2, h3, h4⟩ := hl
 refine OkV.mk _ (by show (Lit.int .i64 3).wf = true; rfl) (fun x hx => ?_) ?_ (by show (0 : Nat) ≤ 1073741824; decide) (fun k hk => absurd hk (by unfold numZ; simp)) (by show (intZ n).f1.length ≤ _; omega) (by unfold numZ; simp) (by unfold numZ; simp) (fun y hy => absurd hy (by unfold numZ; simp))
 · have := h2 x hx
   simp [Lit.wf, IntKind.min, IntKind.max, IntKind.signed, IntKind.bits]
   omega
 · show (Lit.int .i64 (intZ n).f2).wf = true
   simp [Lit.wf, IntKind.min, IntKind.max, IntKind.signed, IntKind.bits]
   omega
theorem wf_abs {n : Int} (h : (Lit.int .i64 n).wf = true) : n.natAbs ≤ 9223372036854775808 := by
 simp [Lit.wf, IntKind.min, IntKind.max, IntKind.signed, IntKind.bits] at h
 omega
theorem one_row5 {w0 W : World} {x : V} {c : List Value} {g : Nat} (hb : Below w0.heap.size w0 W) (hK : k28.K w0 x c) (hg : W.heap[g]? = some (.cells c.toArray 28 (0, 0))) : k28.C W (some ⟨g, 0, none⟩) 1 [x] := by
 have h7 := k28.K_len hK
 refine ⟨rfl, by decide, fun _ => ⟨_, rfl, fun j p hj => ?_⟩⟩
 cases j with
 | succ j => simp at hj
 | zero =>
  obtain rfl := Option.some.inj hj
  refine ⟨c, h7, k28.K_below hb hK, fun i u hu => ?_⟩
  rw [Addr.add_mid, Nat.zero_add, blk_cell hg, List.getElem?_toArray, show 0 * k28.sz + i = i by omega]
  exact hu
theorem two_row5 {w0 W : World} {x y : V} {c d : List Value} {g : Nat} (hb : Below w0.heap.size w0 W) (hK : k28.K w0 x c) (hL : k28.K w0 y d) (hg : W.heap[g]? = some (.cells (c ++ d).toArray 28 (0, 0))) : k28.C W (some ⟨g, 0, none⟩) 2 [x, y] := by
 have h7 : c.length = 7 := k28.K_len hK
 have h8 : d.length = 7 := k28.K_len hL
 refine ⟨rfl, by decide, fun _ => ⟨_, rfl, fun j p hj => ?_⟩⟩
 rcases j with _ | _ | j
 · obtain rfl := Option.some.inj hj
   refine ⟨c, h7, k28.K_below hb hK, fun i u hu => ?_⟩
   have hi : i < c.length := (List.getElem?_eq_some_iff.1 hu).1
   rw [Addr.add_mid, Nat.zero_add, blk_cell hg, List.getElem?_toArray, show 0 * k28.sz + i = i by omega, List.getElem?_append_left hi]
   exact hu
 · obtain rfl := Option.some.inj hj
   refine ⟨d, h8, k28.K_below hb hL, fun i u hu => ?_⟩
   rw [Addr.add_mid, Nat.zero_add, blk_cell hg, List.getElem?_toArray, show (0 + 1) * k28.sz + i = 7 + i from rfl, List.getElem?_append_right (by omega), h7, show 7 + i - 7 = i by omega]
   exact hu
 · simp at hj
theorem below_cat {a W w' : World} (h : Below a.heap.size a W) (k : Below W.heap.size W w') : Below a.heap.size a w' := h.trans (k.mono h.size)
theorem blk_new1 (W : World) (o : Obj) (o' : Obj) : ((W.alloc o).alloc o').heap[W.heap.size + 1]? = some o' := by
 have := blk_new (W.alloc o) o'
 rw [World.size_alloc] at this
 exact this
set_option maxHeartbeats 8000000 in
theorem kinds5_walk (x : V) (cs : List Value) (y : V) (ds : List Value) (n m : Int) (w : World) (hLD : LaidW w) (hKx : k28.K w x cs) (hOx : OkV x) (hKy : k28.K w y ds) (hOy : OkV y) (hn0 : (Lit.int .i64 n).wf = true) (hm0 : (Lit.int .i64 m).wf = true) :
 Calls Tryz.prog 4 #[.agg cs.toArray, .agg ds.toArray, .int .i64 n, .int .i64 m] w fun e w' => e = .returned (.bool true) ∧ Below w.heap.size w w' := by
 have hn := wf_abs hn0
 have hm := wf_abs hm0
 have HAL := Lib.hid (fun W (hW : Below w.heap.size w W) => alive5_any W (hLD.below hW))
 have HXY := Lib.hid (fun W (hW : Below w.heap.size w W) => VCompare_any x y cs ds W (hLD.below hW) (k28.K_below hW hKx) (k28.K_below hW hKy) hOx hOy)
 have HN1 := Lib.hid (fun W => NumberP_any n W hn)
 have HN2 := Lib.hid (fun W => NumberP_any m W hm)
 have HNC := Lib.hid (fun W (hW : Below w.heap.size w W) cs ds (h1 : k28.K W (numZ n) cs) (h2 : k28.K W (numZ m) ds) => VCompare_any (numZ n) (numZ m) cs ds W (hLD.below hW) h1 h2 (okV_numZ hn) (okV_numZ hm))
 have HL1 : Hid (∀ (W : World) (g : Nat), Below w.heap.size w W → W.heap[g]? = some (.cells cs.toArray 28 (0, 0)) → Calls Tryz.prog 20 #[.slice (some ⟨g, 0, none⟩) 1 1] W fun e w' => ∃ cs' : List Value, e = .returned (.agg cs'.toArray) ∧ k28.M w' W.heap.size (fun _ => True) (listV5 [x]) cs' ∧ Below W.heap.size W w') := Lib.hid (fun W g hW hg => ListP_any [x] (some ⟨g, 0, none⟩) 1 W (Nat.le_refl _) (one_row5 hW hKx hg) (by intro u hu; simp at hu; subst hu; exact hOx) (by simp))
 have HL2 : Hid (∀ (W : World) (g : Nat), Below w.heap.size w W → W.heap[g]? = some (.cells (cs ++ ds).toArray 28 (0, 0)) → Calls Tryz.prog 20 #[.slice (some ⟨g, 0, none⟩) 2 2] W fun e w' => ∃ cs' : List Value, e = .returned (.agg cs'.toArray) ∧ k28.M w' W.heap.size (fun _ => True) (listV5 [x, y]) cs' ∧ Below W.heap.size W w') := Lib.hid (fun W g hW hg => ListP_any [x, y] (some ⟨g, 0, none⟩) 2 W (Nat.le_refl _) (two_row5 hW hKx hKy hg) (by intro u hu; simp at hu; rcases hu with rfl | rfl; exact hOx; exact hOy) (by simp))
 have HLC := Lib.hid (fun W (hW : Below w.heap.size w W) cs ds (h1 : k28.K W (listV5 [x]) cs) (h2 : k28.K W (listV5 [x, y]) ds) => VCompare_any (listV5 [x]) (listV5 [x, y]) cs ds W (hLD.below hW) h1 h2 (OkV.list5 (by intro u hu; simp at hu; subst hu; exact hOx) (by simp)) (OkV.list5 (by intro u hu; simp at hu; rcases hu with rfl | rfl; exact hOx; exact hOy) (by simp)))
 obtain ⟨A2, c2, A5, c5, A6, c6, rfl, -⟩ := k28_open hKx
 obtain ⟨B2, d2, B5, d5, B6, d6, rfl, -⟩ := k28_open hKy
 simp only [List.cons_append, List.nil_append] at HL2
 have HBAD : Hid (vask2 x y ≠ 0 → vcmp x y = 0) := Lib.hid vcmp_bad
 have HKI : Hid (vask2 x y = 0 → x.f0 ≠ y.f0 → (vcmp x y < 0 ↔ x.f0 < y.f0)) := Lib.hid vcmp_kinds
 have HNU := Lib.hid (vcmp_numZ hn hm)
 have HLI : Hid (vask2 (listV5 [x]) (listV5 [x, y]) = 0 → vcmp (listV5 [x]) (listV5 [x, y]) = -1) := Lib.hid vcmp_lists
 generalize vask2 x y = E at *
 generalize vask2 (numZ n) (numZ m) = F at *
 generalize vask2 (listV5 [x]) (listV5 [x, y]) = H at *
 generalize vcmp x y = p at *
 generalize vcmp (numZ n) (numZ m) = q at *
 generalize vcmp (listV5 [x]) (listV5 [x, y]) = r at *
 obtain ⟨W1, hW1⟩ : ∃ W1, W1 = (w.alloc (.cells #[.int .i64 x.f0, .bool x.f1.f0, .slice A2 x.f1.f1.length c2, .int .i64 x.f1.f2, .string x.f2, .slice A5 x.f3.length c5, .slice A6 x.f4.length c6] 28)).alloc (.cells #[.int .i64 y.f0, .bool y.f1.f0, .slice B2 y.f1.f1.length d2, .int .i64 y.f1.f2, .string y.f2, .slice B5 y.f3.length d5, .slice B6 y.f4.length d6] 28) := ⟨_, rfl⟩
 have hb1 : Below w.heap.size w W1 := by rw [hW1]; exact ((Below.refl _ _).alloc (Nat.le_refl _) _).alloc (by simp) _
 have hx1 : W1.heap[w.heap.size]? = some (.cells #[.int .i64 x.f0, .bool x.f1.f0, .slice A2 x.f1.f1.length c2, .int .i64 x.f1.f2, .string x.f2, .slice A5 x.f3.length c5, .slice A6 x.f4.length c6] 28 (0, 0)) := by rw [hW1]; exact blk_alloc (blk_new _ _) _
 have hy1 : W1.heap[w.heap.size + 1]? = some (.cells #[.int .i64 y.f0, .bool y.f1.f0, .slice B2 y.f1.f1.length d2, .int .i64 y.f1.f2, .string y.f2, .slice B5 y.f3.length d5, .slice B6 y.f4.length d6] 28 (0, 0)) := by
  rw [hW1]
  have := blk_new (w.alloc (.cells #[.int .i64 x.f0, .bool x.f1.f0, .slice A2 x.f1.f1.length c2, .int .i64 x.f1.f2, .string x.f2, .slice A5 x.f3.length c5, .slice A6 x.f4.length c6] 28)) (.cells #[.int .i64 y.f0, .bool y.f1.f0, .slice B2 y.f1.f1.length d2, .int .i64 y.f1.f2, .string y.f2, .slice B5 y.f3.length d5, .slice B6 y.f4.length d6] 28)
  rw [World.size_alloc] at this
  exact this
 have HW1 := Lib.hid hW1
 have HB1 := Lib.hid hb1
 have HX1 := Lib.hid hx1
 have HY1 := Lib.hid hy1
 clear hW1 hb1 hx1 hy1 hLD hKx hKy hOx hOy hn hm hn0 hm0
 go_enter Tryz.func4, Tryz.ntmps4
 go_upto_region 1 with (fail)
 rw [← HW1.out]
 clear HW1
 go_upto_region 5 with (first
  | (go_at_call 15; (with_reducible refine (HAL.out _ HB1.out).mono ?_); rintro e w2 ⟨rfl, hB2⟩; have HQ2 := Lib.hid hB2; have HB2 := Lib.hid (HB1.out.trans (hB2.mono HB1.out.size)); clear hB2; obtain ⟨hcx, -⟩ := bcells HX1.out HQ2.out; obtain ⟨hcy, -⟩ := bcells HY1.out HQ2.out)
  | (go_at_call 16; (with_reducible refine (HXY.out _ HB2.out).mono ?_); rintro e w3 ⟨rfl, hB3⟩; have HQ3 := Lib.hid (HQ2.out.trans (hB3.mono HQ2.out.size)); have HB3 := Lib.hid (HB1.out.trans (HQ3.out.mono HB1.out.size)); clear hB3 hcx hcy)
  | (go_at_call 19; (with_reducible refine (HN1.out _).mono ?_); rintro e w4 ⟨cs4, rfl, hM4, hB4⟩; have HM4 := Lib.hid hM4; have HB4 := Lib.hid hB4; obtain ⟨v2, v5, v6, rfl, r2, r5, r6⟩ := k28_openM hM4; clear hM4 hB4 r2 r5 r6)
  | (go_at_call 19; (with_reducible refine (HN2.out _).mono ?_); rintro e w5 ⟨cs5, rfl, hM5, hB5⟩; have HM5 := Lib.hid hM5; have HB5 := Lib.hid hB5; obtain ⟨u2, u5, u6, rfl, r2, r5, r6⟩ := k28_openM hM5; clear hM5 hB5 r2 r5 r6)
  | (go_at_call 16; (with_reducible refine (HNC.out w5 (HB3.out.trans ((HB4.out.trans (HB5.out.mono HB4.out.size)).mono HB3.out.size)) _ _ (k28.K_below HB5.out (k28.K_of_M HM4.out)) (k28.K_of_M HM5.out)).mono ?_); rintro e w6 ⟨rfl, hB6⟩; have HQ6 := Lib.hid (HQ3.out.trans (((HB4.out.trans (HB5.out.mono HB4.out.size)).trans (hB6.mono (Nat.le_trans HB4.out.size HB5.out.size))).mono HQ3.out.size)); have HB6 := Lib.hid (HB1.out.trans (HQ6.out.mono HB1.out.size)); clear hB6))
 have HBQ : Hid (∀ W, Below W1.heap.size W1 W → Below w.heap.size w W) := Lib.hid (fun W h => HB1.out.trans (h.mono HB1.out.size))
 have HQd : Hid (Below W1.heap.size W1 w6.drew) := Lib.hid (below_drew HQ6.out)
 clear HQ2 HQ3 HM4 HM5 HB4 HB5 HB2 HB3 HAL HXY HN1 HN2 HNC
 obtain ⟨hcx, hfx⟩ := bcells HX1.out HQd.out
 obtain ⟨hcy, hfy⟩ := bcells HY1.out HQd.out
 have hx6 := blk_below2 HX1.out HQ6.out
 have hy6 := blk_below2 HY1.out HQ6.out
 have hoa1 := fun (o : Obj) => (bcells (blk_drew (blk_alloc hx6 o)) (Below.refl _ _)).1
 have hoa2 := fun (o : Obj) => (bcells (blk_drew (blk_alloc hy6 o)) (Below.refl _ _)).1
 have hob1 := fun (o o' : Obj) => (bcells (blk_drew (blk_alloc (blk_alloc hx6 o) o')) (Below.refl _ _)).1
 have hob2 := fun (o o' : Obj) => (bcells (blk_drew (blk_alloc (blk_alloc hy6 o) o')) (Below.refl _ _)).1
 go_region_held3 (fun w' => w'.cell? ⟨w.heap.size, 0, none⟩ = some (.int .i64 x.f0) ∧ w'.cell? ⟨w.heap.size, 1, none⟩ = some (.bool x.f1.f0) ∧ w'.cell? ⟨w.heap.size, 2, none⟩ = some (.slice A2 x.f1.f1.length c2) ∧ w'.cell? ⟨w.heap.size, 3, none⟩ = some (.int .i64 x.f1.f2) ∧ w'.cell? ⟨w.heap.size, 4, none⟩ = some (.string x.f2) ∧ w'.cell? ⟨w.heap.size, 5, none⟩ = some (.slice A5 x.f3.length c5) ∧ w'.cell? ⟨w.heap.size, 6, none⟩ = some (.slice A6 x.f4.length c6) ∧ w'.cell? ⟨w.heap.size + 1, 0, none⟩ = some (.int .i64 y.f0) ∧ w'.cell? ⟨w.heap.size + 1, 1, none⟩ = some (.bool y.f1.f0) ∧ w'.cell? ⟨w.heap.size + 1, 2, none⟩ = some (.slice B2 y.f1.f1.length d2) ∧ w'.cell? ⟨w.heap.size + 1, 3, none⟩ = some (.int .i64 y.f1.f2) ∧ w'.cell? ⟨w.heap.size + 1, 4, none⟩ = some (.string y.f2) ∧ w'.cell? ⟨w.heap.size + 1, 5, none⟩ = some (.slice B5 y.f3.length d5) ∧ w'.cell? ⟨w.heap.size + 1, 6, none⟩ = some (.slice B6 y.f4.length d6)) (go_keep) (first
  | (go_at_call 20; (with_reducible refine (HL1.out _ _ (HBQ.out _ (by first | exact below_drew (below_alloc HQ6.out _) | exact below_drew (below_alloc (below_alloc HQ6.out _) _) | exact HQ7.out | exact below_alloc HQ7.out _ | exact HQ8.out | exact below_alloc HQ8.out _)) (by first | exact blk_new _ _ | exact blk_drew (blk_new _ _) | exact blk_drew (blk_alloc (blk_new _ _) _) | exact blk_drew (blk_new1 _ _ _) | exact blk_below2 (blk_drew (blk_new _ _)) HR8.out | exact blk_below2 (blk_drew (blk_alloc (blk_new _ _) _)) HR8.out | exact blk_below2 (blk_drew (blk_new1 _ _ _)) HR8.out)).mono ?_); rintro e_ w7 ⟨cs7, rfl, hM7, hB7⟩; have HM7 := Lib.hid hM7; have HR7 := Lib.hid hB7; have HQ7 := Lib.hid (below_cat (by first | exact below_drew (below_alloc HQ6.out _) | exact below_drew (below_alloc (below_alloc HQ6.out _) _) | exact HQ7.out | exact below_alloc HQ7.out _ | exact HQ8.out | exact below_alloc HQ8.out _) hB7); obtain ⟨p72, p75, p76, rfl, r2, r5, r6⟩ := k28_openM hM7; obtain ⟨hcx7, hfx7⟩ := bcells HX1.out HQ7.out; obtain ⟨hcy7, hfy7⟩ := bcells HY1.out HQ7.out; have hoc71 := fun (o : Obj) => (bcells (blk_alloc (blk_below2 HX1.out HQ7.out) o) (Below.refl _ _)).1; have hoc72 := fun (o : Obj) => (bcells (blk_alloc (blk_below2 HY1.out HQ7.out) o) (Below.refl _ _)).1; clear hM7 hB7 r2 r5 r6)
  | (go_at_call 20; (with_reducible refine (HL2.out _ _ (HBQ.out _ (by first | exact below_drew (below_alloc HQ6.out _) | exact below_drew (below_alloc (below_alloc HQ6.out _) _) | exact HQ7.out | exact below_alloc HQ7.out _ | exact HQ8.out | exact below_alloc HQ8.out _)) (by first | exact blk_new _ _ | exact blk_drew (blk_new _ _) | exact blk_drew (blk_alloc (blk_new _ _) _) | exact blk_drew (blk_new1 _ _ _) | exact blk_below2 (blk_drew (blk_new _ _)) HR7.out | exact blk_below2 (blk_drew (blk_alloc (blk_new _ _) _)) HR7.out | exact blk_below2 (blk_drew (blk_new1 _ _ _)) HR7.out)).mono ?_); rintro e_ w8 ⟨cs8, rfl, hM8, hB8⟩; have HM8 := Lib.hid hM8; have HR8 := Lib.hid hB8; have HQ8 := Lib.hid (below_cat (by first | exact below_drew (below_alloc HQ6.out _) | exact below_drew (below_alloc (below_alloc HQ6.out _) _) | exact HQ7.out | exact below_alloc HQ7.out _ | exact HQ8.out | exact below_alloc HQ8.out _) hB8); obtain ⟨p82, p85, p86, rfl, r2, r5, r6⟩ := k28_openM hM8; obtain ⟨hcx8, hfx8⟩ := bcells HX1.out HQ8.out; obtain ⟨hcy8, hfy8⟩ := bcells HY1.out HQ8.out; have hoc81 := fun (o : Obj) => (bcells (blk_alloc (blk_below2 HX1.out HQ8.out) o) (Below.refl _ _)).1; have hoc82 := fun (o : Obj) => (bcells (blk_alloc (blk_below2 HY1.out HQ8.out) o) (Below.refl _ _)).1; clear hM8 hB8 r2 r5 r6)
  | (go_at_call 16; (with_reducible refine (HLC.out _ (HBQ.out _ (by first | exact below_drew (below_alloc HQ6.out _) | exact below_drew (below_alloc (below_alloc HQ6.out _) _) | exact HQ7.out | exact below_alloc HQ7.out _ | exact HQ8.out | exact below_alloc HQ8.out _)) _ _ (by first | exact k28.K_of_M HM7.out | exact k28.K_below HR8.out (k28.K_of_M HM7.out) | exact k28.K_below (below_cat (below_alloc (Below.refl _ _) _) HR8.out) (k28.K_of_M HM7.out)) (by first | exact k28.K_of_M HM8.out | exact k28.K_below HR7.out (k28.K_of_M HM8.out) | exact k28.K_below (below_cat (below_alloc (Below.refl _ _) _) HR7.out) (k28.K_of_M HM8.out))).mono ?_); rintro e_ w9 ⟨rfl, hB9⟩; have HQ9 := Lib.hid (below_cat (by first | exact below_drew (below_alloc HQ6.out _) | exact below_drew (below_alloc (below_alloc HQ6.out _) _) | exact HQ7.out | exact below_alloc HQ7.out _ | exact HQ8.out | exact below_alloc HQ8.out _) hB9); obtain ⟨hcx9, hfx9⟩ := bcells HX1.out HQ9.out; obtain ⟨hcy9, hfy9⟩ := bcells HY1.out HQ9.out; clear hB9))
 all_goals
  rename_i q_ k_ a_ s_
  refine a_ _ _ ?_
  clear a_ s_
  have HB9 := Lib.hid (HBQ.out _ HQ9.out)
  clear hcx hfx hcy hfy hoa1 hoa2 hob1 hob2 hoc71 hoc72 hoc81 hoc82 hcx7 hfx7 hcy7 hfy7 hcx8 hfx8 hcy8 hfy8 hx6 hy6 HM7 HM8 HR7 HR8 HQ7 HQ8 HQd HQ6 HQ9 HBQ HL1 HL2 HLC HX1 HY1 HB6 hfx9 hfy9
  by_cases hE : E = 0
  · have hEb : (E != 0) = false := by simp [hE]
    obtain ⟨hF, hq⟩ := HNU.out
    subst hF
    have HK2 := Lib.hid (HKI.out hE)
    clear HKI HBAD HNU hE
    have hr : H = 0 ∧ r = -1 ∨ ¬ H = 0 := by
     by_cases h : H = 0
     · exact .inl ⟨h, HLI.out h⟩
     · exact .inr h
    have hqq : (q < 0 ∧ n < m) ∨ (¬ q < 0 ∧ ¬ n < m) := by
     by_cases h : n < m
     · exact .inl ⟨hq.2 h, h⟩
     · exact .inr ⟨fun h2 => h (hq.1 h2), h⟩
    have hkk : (x.f0 = y.f0) ∨ (x.f0 ≠ y.f0 ∧ p < 0 ∧ x.f0 < y.f0) ∨ (x.f0 ≠ y.f0 ∧ ¬ p < 0 ∧ ¬ x.f0 < y.f0) := by
     by_cases h : x.f0 = y.f0
     · exact .inl h
     · have h2 := HK2.out h
       by_cases h3 : x.f0 < y.f0
       · exact .inr (.inl ⟨h, h2.2 h3, h3⟩)
       · exact .inr (.inr ⟨h, fun h4 => h3 (h2.1 h4), h3⟩)
    clear hq HLI HK2
    rcases hkk with hk | ⟨hk, hk2, hk3⟩ | ⟨hk, hk2, hk3⟩ <;> rcases hqq with ⟨hq1, hq2⟩ | ⟨hq1, hq2⟩ <;> rcases hr with ⟨rfl, rfl⟩ | hr
    all_goals first | have hkb : (x.f0 != y.f0) = false := by simp [hk] | have hkb : (x.f0 != y.f0) = true := by simp [hk]
    all_goals clear hk
    all_goals first | have hrb : (H != 0) = true := by simp [hr] | skip
    all_goals go_wp2_with (go_at_call 17; (with_reducible refine (num5_any _ _).mono ?_); rintro e_ w10 ⟨rfl, rfl⟩)
    all_goals go_ret
    all_goals first | exact ⟨rfl, HB9.out⟩ | (exfalso; rename_i hbad; simp at hbad; omega)
  · have hEb : (E != 0) = true := by simp [hE]
    obtain rfl := HBAD.out hE
    clear HKI HBAD HNU HLI hE
    go_wp2_with (go_at_call 17; (with_reducible refine (num5_any _ _).mono ?_); rintro e_ w10 ⟨rfl, rfl⟩)
    go_ret
    exact ⟨rfl, HB9.out⟩
end Go.Proofs.YthigbklhngihkaaGreatDoor.P
namespace Go.Proofs.YthigbklhngihkaaGreatDoor.P
open Go.RowKit Go.Proofs.YthigbklhngihkaaGreatDoorW.PrintWords Go.Proofs.YthigbklhngihkaaGreatDoorW.PrintMore
section
open _root_.Go.Proofs.YthigbklhngihkaaGreatDoor.Rows
theorem one_le_bulk {H : Type} (d : DataW H) : 1 ≤ uptoBulk d := by
 cases d with
 | lit l => cases l <;> simp [uptoBulk]
 | nil => simp [uptoBulk]
 | ptr d => simp [uptoBulk]
 | slice elems spare => simp [uptoBulk]
 | agg parts => simp [uptoBulk]
 | iface t d => simp [uptoBulk]
 | map entries => simp [uptoBulk]
 | held h => simp [uptoBulk]
theorem length_le_bulk {H : Type} (l : List (DataW H)) : l.length ≤ uptoBulkAll l := by
 induction l with
 | nil => simp [uptoBulkAll]
 | cons x r ih => have := one_le_bulk x; simp only [uptoBulkAll, List.length_cons]; omega
theorem mem_le_bulk {H : Type} {l : List (DataW H)} {d : DataW H} (h : d ∈ l) : uptoBulk d ≤ uptoBulkAll l := by
 induction l with
 | nil => simp at h
 | cons x r ih =>
  simp only [uptoBulkAll]
  rcases List.mem_cons.1 h with rfl | h
  · omega
  · have := ih h; omega
end
section
variable {H : Type} {enc : TypeId × Value → H} {P : Program} {w : World} {base : Nat} {spare : Nat → Bool} {held : Bool}
theorem open_row {α : Type} {d : Kd α} {okv : α → Prop} {t e : TypeId} {fuel : Nat} {cs : List Value} {x : DataW H × List MemPlace} (ht : P.underlying t = some (.slice e)) (hsz : d.sz = P.cellsOf e)
 (ih : ∀ n cs x, n < fuel → DataW.trod enc P w base spare held n e cs = some x → Rows.uptoBulk x.1 ≤ 1048576 → ∃ y : α, d.K w y cs ∧ okv y) (hbulk : Rows.uptoBulk x.1 ≤ 1048576) (h : DataW.trod enc P w base spare held fuel t cs = some x) :
 ∃ (A : Option Addr) (c : Nat) (ys : List α), cs = [.slice A ys.length c] ∧ ys.length ≤ c ∧ ys.length ≤ 1048576 ∧ d.C w A ys.length ys ∧ ∀ y ∈ ys, okv y := by
 rcases DataW.trod_slice ht h with ⟨rfl, _⟩ | ⟨a, len, cap, elems, rest, n, rfl, rfl, rfl, hb, hl, hm, hel0, hel, _, _⟩
 · exact ⟨none, 0, [], rfl, Nat.le_refl _, Nat.zero_le _, Kd.C_nil d w, fun y hy => by simp at hy⟩
 · have each : ∀ i, i < len → ∃ (cs : List Value) (y : α), w.cells? base (a.add (i * P.cellsOf e)) (P.cellsOf e) = some cs ∧ d.K w y cs ∧ okv y := fun i hi => by
    have h1 := hel i hi
    obtain ⟨z, hz⟩ : ∃ z, elems[i]? = some z := ⟨elems[i], List.getElem?_eq_getElem (by omega)⟩
    rw [hz, Option.bind_eq_some_iff] at h1
    obtain ⟨cs, h2, h3⟩ := h1
    obtain ⟨y, hy, hk⟩ := ih n cs z (Nat.lt_succ_self _) h3 (by
     have hm : z.1 ∈ elems.map (·.1) := List.mem_map_of_mem (List.mem_of_getElem? hz)
     have := mem_le_bulk hm
     replace hbulk : Rows.uptoBulk (DataW.slice (elems.map (·.1)) (rest.map (·.1))) ≤ 1048576 := hbulk
     rw [Rows.uptoBulk] at hbulk
     omega)
    exact ⟨cs, y, h2, hy, hk⟩
   have pick : ∀ m, m ≤ len → ∃ ys : List α, ys.length = m ∧ ∀ i y, ys[i]? = some y → (∃ cs, w.cells? base (a.add (i * P.cellsOf e)) (P.cellsOf e) = some cs ∧ d.K w y cs) ∧ okv y := by
    intro m
    induction m with
    | zero => exact fun _ => ⟨[], rfl, fun i y hy => by simp at hy⟩
    | succ m ihm =>
     intro hm
     obtain ⟨ys, hy1, hy2⟩ := ihm (by omega)
     obtain ⟨cs, y, h1, h2, h3⟩ := each m (by omega)
     refine ⟨ys ++ [y], by simp [hy1], fun i z hz => ?_⟩
     rcases Nat.lt_or_ge i m with hi | hi
     · rw [List.getElem?_append_left (by omega)] at hz
       exact hy2 i z hz
     · rw [List.getElem?_append_right (by omega), hy1] at hz
       have : i = m := by
        rcases Nat.lt_or_ge m i with h | h
        · rw [List.getElem?_eq_none (by simp; omega)] at hz; simp at hz
        · omega
       subst this
       simp at hz
       subst hz
       exact ⟨⟨cs, h1, h2⟩, h3⟩
   obtain ⟨ys, hy1, hy2⟩ := pick len (Nat.le_refl _)
   have hll : len ≤ 1048576 := by
    have := length_le_bulk (elems.map (·.1))
    rw [List.length_map, hel0] at this
    replace hbulk : Rows.uptoBulk (DataW.slice (elems.map (·.1)) (rest.map (·.1))) ≤ 1048576 := hbulk
    rw [Rows.uptoBulk] at hbulk
    omega
   refine ⟨some a, cap, ys, by rw [hy1], by omega, by omega, ⟨rfl, by unfold maxLen at hm; omega, fun _ => ⟨a, rfl, fun j p hj => ?_⟩⟩, fun y hy => ?_⟩
   · obtain ⟨⟨cs, h1, h2⟩, _⟩ := hy2 j p hj
     obtain ⟨_, h4, h5⟩ := World.cells?_some h1
     refine ⟨cs, by rw [hsz]; exact h4, h2, fun i u hu => ?_⟩
     have hi : i < P.cellsOf e := by have := (List.getElem?_eq_some_iff.1 hu).1; omega
     have := h5 i hi
     rw [hu] at this
     rw [← this, hsz, Addr.add_add]
   · obtain ⟨i, hi⟩ := List.getElem?_of_mem hy
     exact (hy2 i y hi).2
end
theorem field_at {H : Type} {enc : TypeId × Value → H} {P : Program} {w : World} {base : Nat} {spare : Nat → Bool} {held : Bool} {n : Nat} {cs : List Value} {xs : List (DataW H × List MemPlace)} {fs : Array Field}
 (hf : ∀ (i : Nat) (f : Field), fs[i]? = some f → DataW.trod enc P w base spare held n f.type ((cs.drop f.offset).take (P.cellsOf f.type)) = xs[i]?) (i t off k : Nat) (h : (fs[i]?).map (fun f => (f.type, f.offset)) = some (t, off)) (hk : P.cellsOf t = k) :
 DataW.trod enc P w base spare held n t ((cs.drop off).take k) = xs[i]? := by
 obtain ⟨f, h1, h2⟩ := Option.map_eq_some_iff.1 h
 simp only [Prod.mk.injEq] at h2
 obtain ⟨rfl, rfl⟩ := h2
 subst hk
 exact hf i f h1
section
variable {H : Type} {enc : TypeId × Value → H} {w : World} {base : Nat} {spare : Nat → Bool} {held : Bool}
theorem open_val : ∀ (fuel : Nat) (cs : List Value) (x : DataW H × List MemPlace), DataW.trod enc Tryz.prog w base spare held fuel 28 cs = some x → Rows.uptoBulk x.1 ≤ 1048576 → ∃ y : S28, k28.K w y cs ∧ OkV y := by
 intro fuel
 induction fuel using Nat.strongRecOn with
 | _ fuel ih =>
  intro cs x h hbulk
  obtain ⟨xs, n, rfl, rfl, hlen, hxl, hf⟩ := DataW.trod_struct Tryz.underlying28 h
  replace hbulk : Rows.uptoBulk (DataW.agg (xs.map (·.1))) ≤ 1048576 := hbulk
  rw [Rows.uptoBulk] at hbulk
  have part : ∀ (i : Nat) y, xs[i]? = some y → Rows.uptoBulk y.1 ≤ 1048576 := fun i y hy => by
   have := mem_le_bulk (List.mem_map_of_mem (f := (·.1)) (List.mem_of_getElem? hy))
   omega
  have hsz : Tryz.prog.cellsOf 28 = 7 := by kernel_rfl
  rw [hsz] at hlen
  obtain ⟨c0, c1, c2, c3, c4, c5, c6, rfl⟩ := list7 hlen
  have e3 : Tryz.prog.cellsOf 3 = 1 := by kernel_rfl
  have e24 : Tryz.prog.cellsOf 24 = 3 := by kernel_rfl
  have e9 : Tryz.prog.cellsOf 9 = 1 := by kernel_rfl
  have e25 : Tryz.prog.cellsOf 25 = 1 := by kernel_rfl
  have e26 : Tryz.prog.cellsOf 26 = 1 := by kernel_rfl
  have q0 : DataW.trod enc Tryz.prog w base spare held n 3 [c0] = xs[0]? := field_at hf 0 3 0 1 rfl e3
  have q1 : DataW.trod enc Tryz.prog w base spare held n 24 [c1, c2, c3] = xs[1]? := field_at hf 1 24 1 3 rfl e24
  have q2 : DataW.trod enc Tryz.prog w base spare held n 9 [c4] = xs[2]? := field_at hf 2 9 4 1 rfl e9
  have q3 : DataW.trod enc Tryz.prog w base spare held n 25 [c5] = xs[3]? := field_at hf 3 25 5 1 rfl e25
  have q4 : DataW.trod enc Tryz.prog w base spare held n 26 [c6] = xs[4]? := field_at hf 4 26 6 1 rfl e26
  obtain ⟨y0, g0⟩ : ∃ y, xs[0]? = some y := ⟨xs[0]'(by rw [hxl]; decide), List.getElem?_eq_getElem _⟩
  obtain ⟨y1, g1⟩ : ∃ y, xs[1]? = some y := ⟨xs[1]'(by rw [hxl]; decide), List.getElem?_eq_getElem _⟩
  obtain ⟨y2, g2⟩ : ∃ y, xs[2]? = some y := ⟨xs[2]'(by rw [hxl]; decide), List.getElem?_eq_getElem _⟩
  obtain ⟨y3, g3⟩ : ∃ y, xs[3]? = some y := ⟨xs[3]'(by rw [hxl]; decide), List.getElem?_eq_getElem _⟩
  obtain ⟨y4, g4⟩ : ∃ y, xs[4]? = some y := ⟨xs[4]'(by rw [hxl]; decide), List.getElem?_eq_getElem _⟩
  rw [g0] at q0
  rw [g1] at q1
  rw [g2] at q2
  rw [g3] at q3
  rw [g4] at q4
  obtain ⟨n0, p0, _, w0⟩ := DataW.trod_int Tryz.underlying3 q0
  obtain ⟨s, p2, hy2, _⟩ := DataW.trod_string Tryz.underlying9 q2
  have w2 : s.size ≤ 1073741824 := by
   have := part _ _ g2
   rw [hy2] at this
   replace this : Rows.uptoBulk (DataW.lit (.string s.data.toList) : DataW H) ≤ 1048576 := this
   rw [Rows.uptoBulk, Array.length_toList] at this
   have : s.size = s.data.size := rfl
   omega
  obtain ⟨zs, m, rfl, hy1, _, hzl, hz⟩ := DataW.trod_struct Tryz.underlying24 q1
  have e4 : Tryz.prog.cellsOf 4 = 1 := by kernel_rfl
  have e22 : Tryz.prog.cellsOf 22 = 1 := by kernel_rfl
  have r0 : DataW.trod enc Tryz.prog w base spare held m 4 [c1] = zs[0]? := field_at hz 0 4 0 1 rfl e4
  have r1 : DataW.trod enc Tryz.prog w base spare held m 22 [c2] = zs[1]? := field_at hz 1 22 1 1 rfl e22
  have r2 : DataW.trod enc Tryz.prog w base spare held m 3 [c3] = zs[2]? := field_at hz 2 3 2 1 rfl e3
  obtain ⟨z0, t0⟩ : ∃ y, zs[0]? = some y := ⟨zs[0]'(by rw [hzl]; decide), List.getElem?_eq_getElem _⟩
  obtain ⟨z1, t1⟩ : ∃ y, zs[1]? = some y := ⟨zs[1]'(by rw [hzl]; decide), List.getElem?_eq_getElem _⟩
  obtain ⟨z2, t2⟩ : ∃ y, zs[2]? = some y := ⟨zs[2]'(by rw [hzl]; decide), List.getElem?_eq_getElem _⟩
  rw [t0] at r0
  rw [t1] at r1
  rw [t2] at r2
  have hb1 := part _ _ g1
  rw [hy1] at hb1
  replace hb1 : Rows.uptoBulk (DataW.agg (zs.map (·.1))) ≤ 1048576 := hb1
  rw [Rows.uptoBulk] at hb1
  have hbz : Rows.uptoBulk z1.1 ≤ 1048576 := by
   have := mem_le_bulk (List.mem_map_of_mem (f := (·.1)) (List.mem_of_getElem? t1))
   omega
  obtain ⟨b, b0, _⟩ := DataW.trod_bool Tryz.underlying4 r0
  obtain ⟨ex, b2, _, w3⟩ := DataW.trod_int Tryz.underlying3 r2
  obtain ⟨A1, k1, co, b1, l1, m1, C1, ok1⟩ := open_row (d := Kd.int .u32) (okv := fun n => (Lit.int .u32 n).wf = true) Tryz.underlying22 (by kernel_rfl) (fun n cs x _ hx _ => by
   obtain ⟨v, rfl, _, hv⟩ := DataW.trod_int Tryz.underlying131 hx
   exact ⟨v, rfl, hv⟩) hbz r1
  obtain ⟨A3, k3, li, b3, l3, m3, C3, ok3⟩ := open_row (d := k28) (okv := OkV) Tryz.underlying25 (by rw [hsz]; rfl) (fun n cs x hn hx hb => ih n (by omega) cs x hx hb) (part _ _ g3) q3
  obtain ⟨A4, k4, ke, b4, l4, m4, C4, ok4⟩ := open_row (d := Kd.string) (okv := fun s => s.size ≤ 1073741824) Tryz.underlying26 (by kernel_rfl) (fun n cs x _ hx hb => by
   obtain ⟨v, rfl, rfl, hv⟩ := DataW.trod_string Tryz.underlying9 hx
   replace hb : Rows.uptoBulk (DataW.lit (.string v.data.toList) : DataW H) ≤ 1048576 := hb
   rw [Rows.uptoBulk, Array.length_toList] at hb
   exact ⟨v, rfl, by have : v.size = v.data.size := rfl; omega⟩) (part _ _ g4) q4
  simp only [List.cons.injEq, and_true] at p0 p2 b0 b1 b2 b3 b4
  subst p0 p2 b0 b1 b2 b3 b4
  exact ⟨⟨n0, ⟨b, co, ex⟩, s, li, ke⟩, k28_mk w ⟨n0, ⟨b, co, ex⟩, s, li, ke⟩ l1 C1 l3 C3 l4 C4, OkV.mk _ w0 ok1 w3 w2 ok4 (by simp only; omega) (by simp only; omega) (by simp only; omega) ok3⟩
end
end Go.Proofs.YthigbklhngihkaaGreatDoor.P

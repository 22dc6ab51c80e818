/- UtfTells: the law's walk, along the road on which all is as the page says. -/
import Derived.Test.YthekpajbffjfmaaDoorPx11
import Derived.Test.YthekpajbffjfmaaDoorPx7
import Derived.Test.YthekpajbffjfmaaDoorPx6
import Derived.Test.YthekpajbffjfmaaDoorPx3
import Derived.Test.YthekpajbffjfmaaDoorUd
import Derived.Lib.ConvBytes
namespace Go.Proofs.YthekpajbffjfmaaDoor.P
open Go.RowKit Go.Proofs.YthekpajbffjfmaaDoorW.PrintWords Go.Proofs.YthekpajbffjfmaaDoorW.PrintLast Go.Proofs.YthekpajbffjfmaaDoorW.PrintMore
set_option linter.unusedVariables false
set_option linter.unusedSimpArgs false
/-- All is as the page says. -/
def Tells (k : Nat) (s t : ByteArray) (u v : Int) : Prop := ∃ (p e : Int) (l : List Int) (g n i : Int) (x : ByteArray) (o : Int) (a : List Int) (q : Int) (m : ByteArray), s.size ≤ 1048576 ∧
  utf_Check.f s = some (p, e) ∧ bolterref04_Check.f k s = some (p, e) ∧ utf_Runes.f s = some (l, g) ∧ bolterref04_Runes.f k s = some (l, g) ∧ utf_Count.f s = some (n, i) ∧ bolterref04_Count.f k s = some (n, i) ∧
  utf_Slice.f k s u v = some (x, o) ∧ bolterref04_Slice.f k s u v = some (x, o) ∧ utf_Find.f k s t = some (a, q) ∧ bolterref04_Find.f k s t = some (a, q) ∧ bolterplain_SameInts.f k l l = some true ∧ bolterplain_SameInts.f k a a = some true ∧
  utf_Mend.f (bytesOf s) = some m ∧ bolterref04_Mend.f k (bytesOf s) = some m ∧ bolterlaw04_alive.f k = some true
open Classical in
noncomputable def bolterlaw04_UtfTells.f (k : Nat) (a0 a1 : ByteArray) (a2 a3 : Int) : Option Bool := if Tells k a0 a1 a2 a3 then some true else none
/-- A new row of bytes that a conversion laid is read as they are. -/
theorem conv_reads (w : World) (s : ByteArray) (hs : s.size ≤ 9223372036854775807) : Kd.C (Kd.int .u8) (Lib.bytesWorld w 5 s) (some ⟨w.heap.size, 0, none⟩) s.size (bytesOf s) := by
  refine Kd.C_of_reads (d := (0 : Int)) (h1 := fun _ => rfl) ⟨bytesOf_length s, hs, fun h => ⟨_, rfl, fun i hi => ?_⟩⟩
  have ha : (⟨w.heap.size, 0, none⟩ : Addr).add i = ⟨w.heap.size, i, none⟩ := by unfold Addr.add; split <;> simp_all
  rw [ha, Lib.bytesWorld_cell w 5 s i hi]
  unfold bytesOf
  have hi' : i < s.data.size := hi
  simp [List.getD_eq_getElem?_getD, List.getElem?_map, Array.getElem?_eq_getElem hi']
theorem conv_below (w : World) (s : ByteArray) : Below w.heap.size w (Lib.bytesWorld w 5 s) := by
  refine ⟨rfl, rfl, rfl, ?_, ?_⟩
  · rw [Lib.bytesWorld_size]; omega
  · exact fun j hj => Lib.bytesWorld_at_old w _ s j hj
theorem d0_below {w w' : World} (h : Drawn0 w w') : Below w.heap.size w w' := by
  obtain ⟨n, rfl⟩ := h
  exact pw_below_drewN (Below.refl _ _) n
set_option maxHeartbeats 8000000 in
set_option maxRecDepth 100000 in
theorem tells_walk (k : Nat) (s t : ByteArray) (u v : Int) (w : World) (hLD : LaidW w) (H : Tells k s t u v) :
    Calls Tryd.prog 8 #[.string s, .string t, .int .i64 u, .int .i64 v] w fun e w' => e = .returned (.bool true) ∧ Below w.heap.size w w' := by
  obtain ⟨p, e, l, g, n, i, x, o, a, q, m, HSZ, A1, A2, A3, A4, A5, A6, A7, A8, A9, A10, A11, A12, A13, A14, A15⟩ := H
  replace A1 := Lib.hid A1
  replace A2 := Lib.hid A2
  replace A3 := Lib.hid A3
  replace A4 := Lib.hid A4
  replace A5 := Lib.hid A5
  replace A6 := Lib.hid A6
  replace A7 := Lib.hid A7
  replace A8 := Lib.hid A8
  replace A9 := Lib.hid A9
  replace A10 := Lib.hid A10
  replace A11 := Lib.hid A11
  replace A12 := Lib.hid A12
  replace A13 := Lib.hid A13
  replace A14 := Lib.hid A14
  replace A15 := Lib.hid A15
  have HLD := Lib.hid hLD
  have HB := Lib.hid (Below.refl w.heap.size w)
  clear hLD
  go_enter Tryd.func8, Tryd.ntmps8
  go_wp2_with fail
  refine (utf_Check.calls s p e _ HLD.out A1.out).mono ?_
  rintro e0 w1 ⟨rfl, hb⟩
  replace HB := Lib.hid (below_step HB.out hb)
  clear hb
  go_wp2_with fail
  refine (bolterref04_Check.calls k s p e _ (HLD.out.below HB.out) A2.out).mono ?_
  rintro e0 w2 ⟨rfl, hb⟩
  replace HB := Lib.hid (below_step HB.out hb)
  clear hb
  go_wp2_with fail
  refine (utf_Runes.calls s l g _ (HLD.out.below HB.out) A3.out).mono ?_
  rintro e0 w3 ⟨v3, rfl, ho, hb⟩
  replace HB := Lib.hid (below_step HB.out hb)
  obtain ⟨L1, d1, rfl⟩ := Kd.R_slice ho
  have HL1 := Lib.hid ho
  clear hb ho
  go_wp2_with fail
  refine (bolterref04_Runes.calls k s l g _ (HLD.out.below HB.out) A4.out).mono ?_
  rintro e0 w4 ⟨v4, rfl, ho, hb⟩
  replace HB := Lib.hid (below_step HB.out hb)
  replace HL1 := Lib.hid (Kd.R_below HL1.out hb)
  obtain ⟨L2, d2, rfl⟩ := Kd.R_slice ho
  have HL2 := Lib.hid ho
  clear hb ho
  go_wp2_with fail
  refine (utf_Count.calls s n i _ (HLD.out.below HB.out) A5.out).mono ?_
  rintro e0 w5 ⟨rfl, hb⟩
  replace HB := Lib.hid (below_step HB.out hb)
  replace HL1 := Lib.hid (Kd.R_below HL1.out hb)
  replace HL2 := Lib.hid (Kd.R_below HL2.out hb)
  clear hb
  go_wp2_with fail
  refine (bolterref04_Count.calls k s n i _ (HLD.out.below HB.out) A6.out).mono ?_
  rintro e0 w6 ⟨rfl, hb⟩
  replace HB := Lib.hid (below_step HB.out hb)
  replace HL1 := Lib.hid (Kd.R_below HL1.out hb)
  replace HL2 := Lib.hid (Kd.R_below HL2.out hb)
  clear hb
  go_wp2_with fail
  refine (utf_Slice.calls k s u v x o _ (HLD.out.below HB.out) A7.out).mono ?_
  rintro e0 w7 ⟨rfl, hb⟩
  replace HB := Lib.hid (below_step HB.out hb)
  replace HL1 := Lib.hid (Kd.R_below HL1.out hb)
  replace HL2 := Lib.hid (Kd.R_below HL2.out hb)
  clear hb
  go_wp2_with fail
  refine (bolterref04_Slice.calls k s u v x o _ (HLD.out.below HB.out) A8.out).mono ?_
  rintro e0 w8 ⟨rfl, hb⟩
  replace HB := Lib.hid (below_step HB.out hb)
  replace HL1 := Lib.hid (Kd.R_below HL1.out hb)
  replace HL2 := Lib.hid (Kd.R_below HL2.out hb)
  clear hb
  go_wp2_with fail
  refine (utf_Find.calls k s t a q _ (HLD.out.below HB.out) A9.out).mono ?_
  rintro e0 w9 ⟨v9, rfl, ho, hb⟩
  replace HB := Lib.hid (below_step HB.out hb)
  replace HL1 := Lib.hid (Kd.R_below HL1.out hb)
  replace HL2 := Lib.hid (Kd.R_below HL2.out hb)
  obtain ⟨M1, f1, rfl⟩ := Kd.R_slice ho
  have HM1 := Lib.hid ho
  clear hb ho
  go_wp2_with fail
  refine (bolterref04_Find.calls k s t a q _ (HLD.out.below HB.out) A10.out).mono ?_
  rintro e0 w10 ⟨v10, rfl, ho, hb⟩
  replace HB := Lib.hid (below_step HB.out hb)
  replace HL1 := Lib.hid (Kd.R_below HL1.out hb)
  replace HL2 := Lib.hid (Kd.R_below HL2.out hb)
  replace HM1 := Lib.hid (Kd.R_below HM1.out hb)
  obtain ⟨M2, f2, rfl⟩ := Kd.R_slice ho
  have HM2 := Lib.hid ho
  clear hb ho
  go_wp2_with fail
  refine (bolterlaw04_num.calls e e _ (HLD.out.below HB.out) rfl).mono ?_
  rintro e0 w11 ⟨rfl, hd⟩
  have hb := d0_below hd
  clear hd
  replace HB := Lib.hid (below_step HB.out hb)
  replace HL1 := Lib.hid (Kd.R_below HL1.out hb)
  replace HL2 := Lib.hid (Kd.R_below HL2.out hb)
  replace HM1 := Lib.hid (Kd.R_below HM1.out hb)
  replace HM2 := Lib.hid (Kd.R_below HM2.out hb)
  clear hb
  go_wp2_with fail
  refine (bolterplain_SameInts.calls k _ _ l _ _ l true _ (HLD.out.below HB.out) (Kd.R_reads' HL1.out).2.2 (Kd.R_reads' HL1.out).2.1 (Kd.R_reads' HL2.out).2.2 (Kd.R_reads' HL2.out).2.1 A11.out).mono ?_
  rintro e0 w11 ⟨rfl, hd⟩
  have hb := d0_below hd
  clear hd
  replace HB := Lib.hid (below_step HB.out hb)
  replace HL1 := Lib.hid (Kd.R_below HL1.out hb)
  replace HL2 := Lib.hid (Kd.R_below HL2.out hb)
  replace HM1 := Lib.hid (Kd.R_below HM1.out hb)
  replace HM2 := Lib.hid (Kd.R_below HM2.out hb)
  clear hb
  go_wp2_with fail
  refine (bolterlaw04_num.calls g g _ (HLD.out.below HB.out) rfl).mono ?_
  rintro e0 w11 ⟨rfl, hd⟩
  have hb := d0_below hd
  clear hd
  replace HB := Lib.hid (below_step HB.out hb)
  replace HL1 := Lib.hid (Kd.R_below HL1.out hb)
  replace HL2 := Lib.hid (Kd.R_below HL2.out hb)
  replace HM1 := Lib.hid (Kd.R_below HM1.out hb)
  replace HM2 := Lib.hid (Kd.R_below HM2.out hb)
  clear hb
  go_wp2_with fail
  refine (bolterlaw04_num.calls i i _ (HLD.out.below HB.out) rfl).mono ?_
  rintro e0 w11 ⟨rfl, hd⟩
  have hb := d0_below hd
  clear hd
  replace HB := Lib.hid (below_step HB.out hb)
  replace HL1 := Lib.hid (Kd.R_below HL1.out hb)
  replace HL2 := Lib.hid (Kd.R_below HL2.out hb)
  replace HM1 := Lib.hid (Kd.R_below HM1.out hb)
  replace HM2 := Lib.hid (Kd.R_below HM2.out hb)
  clear hb
  go_wp2_with fail
  refine (bolterlaw04_num.calls o o _ (HLD.out.below HB.out) rfl).mono ?_
  rintro e0 w11 ⟨rfl, hd⟩
  have hb := d0_below hd
  clear hd
  replace HB := Lib.hid (below_step HB.out hb)
  replace HL1 := Lib.hid (Kd.R_below HL1.out hb)
  replace HL2 := Lib.hid (Kd.R_below HL2.out hb)
  replace HM1 := Lib.hid (Kd.R_below HM1.out hb)
  replace HM2 := Lib.hid (Kd.R_below HM2.out hb)
  clear hb
  go_wp2_with fail
  refine (bolterplain_SameInts.calls k _ _ a _ _ a true _ (HLD.out.below HB.out) (Kd.R_reads' HM1.out).2.2 (Kd.R_reads' HM1.out).2.1 (Kd.R_reads' HM2.out).2.2 (Kd.R_reads' HM2.out).2.1 A12.out).mono ?_
  rintro e0 w11 ⟨rfl, hd⟩
  have hb := d0_below hd
  clear hd
  replace HB := Lib.hid (below_step HB.out hb)
  replace HL1 := Lib.hid (Kd.R_below HL1.out hb)
  replace HL2 := Lib.hid (Kd.R_below HL2.out hb)
  replace HM1 := Lib.hid (Kd.R_below HM1.out hb)
  replace HM2 := Lib.hid (Kd.R_below HM2.out hb)
  clear hb
  go_wp2_with fail
  refine (bolterlaw04_num.calls q q _ (HLD.out.below HB.out) rfl).mono ?_
  rintro e0 w11 ⟨rfl, hd⟩
  have hb := d0_below hd
  clear hd
  replace HB := Lib.hid (below_step HB.out hb)
  replace HL1 := Lib.hid (Kd.R_below HL1.out hb)
  replace HL2 := Lib.hid (Kd.R_below HL2.out hb)
  replace HM1 := Lib.hid (Kd.R_below HM1.out hb)
  replace HM2 := Lib.hid (Kd.R_below HM2.out hb)
  clear hb
  go_wp2_with fail
  rw [Lib.run_convert_string_bytes w11 9 38 5 s Tryd.underlying9 Tryd.underlying38 Tryd.underlying5]
  have hb := conv_below w11 s
  have HC := Lib.hid (conv_reads w11 s (by omega))
  have hcap : s.size ≤ grownCap w11 s.size 0 5 := grownCap_ge _ _ _ _
  replace HB := Lib.hid (below_step HB.out hb)
  clear hb
  generalize Lib.bytesWorld w11 5 s = w12 at *
  generalize grownCap w11 s.size 0 5 = cap at *
  go_wp2_with fail
  have hcall := utf_Mend.calls (some ⟨w11.heap.size, 0, none⟩) cap (bytesOf s) m _ (HLD.out.below HB.out) (by rw [bytesOf_length]; exact HC.out) (by rw [bytesOf_length]; exact hcap) A13.out
  rw [bytesOf_length] at hcall
  refine hcall.mono ?_
  clear hcall HC hcap
  rintro e0 w11 ⟨rfl, hb⟩
  replace HB := Lib.hid (below_step HB.out hb)
  clear hb
  go_wp2_with fail
  rw [Lib.run_convert_string_bytes w11 9 38 5 s Tryd.underlying9 Tryd.underlying38 Tryd.underlying5]
  have hb := conv_below w11 s
  have HC := Lib.hid (conv_reads w11 s (by omega))
  have hcap : s.size ≤ grownCap w11 s.size 0 5 := grownCap_ge _ _ _ _
  replace HB := Lib.hid (below_step HB.out hb)
  clear hb
  generalize Lib.bytesWorld w11 5 s = w12 at *
  generalize grownCap w11 s.size 0 5 = cap at *
  go_wp2_with fail
  have hcall := bolterref04_Mend.calls k (some ⟨w11.heap.size, 0, none⟩) cap (bytesOf s) m _ (HLD.out.below HB.out) (by rw [bytesOf_length]; exact HC.out) (by rw [bytesOf_length]; exact hcap) A14.out
  rw [bytesOf_length] at hcall
  refine hcall.mono ?_
  clear hcall HC hcap
  rintro e0 w11 ⟨rfl, hb⟩
  replace HB := Lib.hid (below_step HB.out hb)
  clear hb
  go_wp2_with fail
  refine (bolterlaw04_alive.calls k true _ (HLD.out.below HB.out) A15.out).mono ?_
  rintro e0 w11 ⟨rfl, hb⟩
  replace HB := Lib.hid (below_step HB.out hb)
  clear hb
  go_wp2
  go_ret
  exact ⟨rfl, HB.out⟩
theorem bolterlaw04_UtfTells.calls (k : Nat) (a0 : ByteArray) (a1 : ByteArray) (a2 : Int) (a3 : Int) (r : Bool) (w : World) (hLD : LaidW w) (h : bolterlaw04_UtfTells.f k a0 a1 a2 a3 = some r) :
    Calls Tryd.prog 8 #[.string a0, .string a1, .int .i64 a2, .int .i64 a3] w fun e w' => e = .returned (.bool r) ∧ Below w.heap.size w w' := by
  unfold bolterlaw04_UtfTells.f at h
  split at h
  · obtain rfl := Option.some.inj h
    exact tells_walk k a0 a1 a2 a3 w hLD (by assumption)
  · cases h
end Go.Proofs.YthekpajbffjfmaaDoor.P

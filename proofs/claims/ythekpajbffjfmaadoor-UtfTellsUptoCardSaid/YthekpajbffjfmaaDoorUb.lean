/- utf.Runes: contract. -/
import Derived.Test.YthekpajbffjfmaaDoorUa
import Derived.Test.YthekpajbffjfmaaDoorWWords
import Derived.Test.YthekpajbffjfmaaDoorWMore
import Derived.WalkSpells
namespace Go.Proofs.YthekpajbffjfmaaDoor.P
set_option linter.unusedVariables false
set_option linter.unusedSimpArgs false
open Go.RowKit Go.Shelf Go.Proofs.YthekpajbffjfmaaDoorW.PrintWords
attribute [local go_sem] Oper.semAt_some
theorem infoI : (Tryd.prog.info? 3).map (fun i => (i.zero, i.size, i.bytes)) = some (some (.int .i64 0), 1, 8) := by kernel_rfl
def utf_Runes.f (s : ByteArray) : Option (List Int × Int) :=
  if s.size ≤ 1152921504606846976 then
    match checkL (uitems s s.size 0) with
    | some _ => some ([], 61)
    | none => if (uitems s s.size 0).length ≤ 17592186044416 then some ((uitems s s.size 0).map (·.2), 0) else none
  else none
def uvals (l : List UItem) : List Int := l.map fun x => x.1.2
theorem uvals_snoc (l : List UItem) (x : UItem) : uvals (l ++ [x]) = uvals l ++ [x.1.2] := by simp [uvals]
theorem uvals_len (l : List UItem) : (uvals l).length = l.length := by simp [uvals]

theorem runes_bad (s : ByteArray) (p : Nat) (w : World) (hLD : LaidW w) (hs : s.size ≤ 1152921504606846976) (hc : checkL (uitems s s.size 0) = some p) :
    Calls Tryd.prog 10 #[.string s] w fun e w' => e = .returned (.tuple #[.slice none 0 0, .int .i64 61]) ∧ Below w.heap.size w w' := by
  have hf : utf_Check.f s = some ((p : Int), 61) := by unfold utf_Check.f; rw [if_pos hs, hc]
  have HF := Lib.hid hf
  clear hf hc
  go_enter Tryd.func10, Tryd.ntmps10
  go_wp2_with fail
  refine (utf_Check.calls s _ _ w hLD HF.out).mono ?_
  rintro e w' ⟨rfl, hb⟩
  go_wp2
  go_ret2
  exact ⟨rfl, hb⟩

set_option maxRecDepth 100000 in
set_option maxHeartbeats 4000000 in
theorem runes_good (n : Nat) (hn : 6 ≤ n) (s : ByteArray) (w : World) (hLD : LaidW w) (hs : s.size ≤ 1152921504606846976) (hc : checkL (uitems s s.size 0) = none) (hlen : (usub s hs s.size 0).length ≤ 17592186044416) :
    CallsIn Fence.wide n Tryd.prog 10 #[.string s] w fun e W' => ∃ v, e = .returned (.tuple #[v, .int .i64 0]) ∧ W'.ownsRow w.heap.size 3 1 v (uvals (usub s hs s.size 0)).length ((uvals (usub s hs s.size 0)).map (Value.int .i64)) ∧ Below w.heap.size w W' := by
  have hf : utf_Check.f s = some ((s.size : Int), 0) := by unfold utf_Check.f; rw [if_pos hs, hc]
  have HF := Lib.hid hf
  have h1 : 1 ≤ n := by omega
  have HS := Lib.hid hs
  have HLEN := Lib.hid hlen
  clear hf hc hlen
  obtain ⟨i0, hi, hz0, hz1, hz2⟩ := info_parts infoI
  refine callsIn_of_wp_marks Tryd.func10 rfl trivial ?_ rfl
  simp only [Tryd.ntmps10, List.size_toArray, List.length_cons, List.length_nil, Nat.reduceAdd, Nat.reduceSub, Array.replicate_succ, Array.replicate_zero, List.push_toArray, List.append_toArray, List.nil_append, List.cons_append]
  gi_wp2_with fail
  refine ⟨trivial, ?_⟩
  refine (callsIn_wide.2 (utf_Check.calls s _ _ w hLD HF.out)).mono ?_
  rintro e w1 ⟨rfl, hb1⟩
  have HB1 := Lib.hid hb1
  have hsz1 := hb1.size
  clear hb1
  gi_wp2_with (refine ⟨trivial, ?_⟩; gi_at_call 31; refine (runes_in (n - 1) _ _).mono ?_; rintro e w' ⟨rfl, rfl⟩)
  have bO := Boxed.new w1 22 (.slice none 0 0)
  have bS := Boxed.new (w1.alloc (.cells #[.slice none 0 0] 22)) 9 (.string s)
  rw [World.size_alloc] at bS
  have bO' := bO.alloc (.cells #[.string s] 9)
  have hB0 : Below w1.heap.size w1 ((w1.alloc (.cells #[.slice none 0 0] 22)).alloc (.cells #[.string s] 9)) := ((Below.refl _ w1).alloc (Nat.le_refl _) _).alloc (by simp) _
  obtain ⟨W0, hW0⟩ : ∃ W0, W0 = (w1.alloc (.cells #[.slice none 0 0] 22)).alloc (.cells #[.string s] 9) := ⟨_, rfl⟩
  have hz : W0.heap.size = w1.heap.size + 2 := by rw [hW0]; simp
  rw [← hW0] at hB0 bO' bS ⊢
  have hLD0 : LaidW W0 := (hLD.below HB1.out).below hB0
  have hBw : Below w.heap.size w W0 := HB1.out.trans (hB0.mono hsz1)
  have HZ := Lib.hid hz
  have HB0 := Lib.hid hBw
  have HLD0 := Lib.hid hLD0
  have HBOX := Lib.hid bO'
  clear hz hB0 hLD0 hW0 hBw bO bO'
  refine wpIn_rangeFunc_ownG rfl h1 (gf := 39) (lb := #[.pointer (some ⟨w1.heap.size + 1, 0, none⟩)]) rfl trivial (enters_of Tryd.func39 (by kernel_rfl) rfl)
    (runes_stops (n - 1) (by omega) (w1.heap.size + 1) w.heap.size s HS.out W0 w (HB0.out.size) hLD (Nat.le_refl _) HB0.out bS.cell) kpS_t (kpS_b HB0.out.size (by have := HZ.out; omega)) (Below.refl _ _) (fun _ => rfl)
    (fun pre W => ((∃ v, Boxed W w1.heap.size 22 v ∧ W.ownsRow w.heap.size 3 1 v (uvals pre).length ((uvals pre).map (Value.int .i64)) ∧ True) ∧ Boxed W (w1.heap.size + 1) 9 (.string s)) ∧ Below w.heap.size w W)
    (fun _ _ _ => False)
    (OwnFrom.and (OwnFrom.and (Own.from (holdsRow_own w.heap.size w1.heap.size 22 3 1 (fun pre => (uvals pre).length) (fun pre => (uvals pre).map (Value.int .i64)) (fun _ _ => True)) _) (Own.from (boxed_own _ _ _) _)) (ownFrom_below (Nat.le_refl _) (by have := HZ.out; omega)))
    (fun _ _ _ _ _ hs _ _ => hs)
    ⟨⟨⟨_, HBOX.out, World.ownsRow_nil _ _ _ _, trivial⟩, bS⟩, HB0.out⟩
    (fun x => { tmps := #[.string s, undef, .slice none 0 0, .int .i64 0, .int .i64 s.size, .int .i64 0, .pointer (some ⟨w1.heap.size, 0, none⟩), undef, .int .i32 x.1.2, .tuple #[.int .i64 s.size, .int .i64 0], .string s, .tuple #[.int .i64 s.size, .int .i64 0], .int .i64 s.size, .int .i64 0, .int .i64 0, .bool false, undef, .string s, .func (.func 39) #[] #[.pointer (some ⟨w1.heap.size + 1, 0, none⟩)], .int .i64 x.1.1, .int .i32 x.1.2, undef, undef, undef, undef, undef, undef], defers := [] }) ?assign ?body ?done ?stop
  case assign =>
    intro l x W K hK
    gi_wp2
    exact hK
  case body =>
    rintro l pre x W ⟨⟨⟨v, hv, hrow, _⟩, hbs⟩, hB⟩ hlt
    have HBS := Lib.hid hbs
    clear hbs
    have hc := hv.cell
    have hpl : (uvals pre).length ≤ pre.length := Nat.le_of_eq (uvals_len pre)
    have hx1 := x.2.2.1
    have hx2 := x.2.2.2
    have hlim := HLEN.out
    have hm : (uvals pre).length + 1 ≤ maxLen := by unfold maxLen; omega
    gi_wp2_with (gi_at_builtin; refine wpListIn_append_own _ rfl _ _ 22 rfl w.heap.size 3 i0 (.int .i64 0) 1 8 Tryd.underlying22 hi hz0 hz1 hz2 rfl (by decide) _ _ _ rfl (hrow.alloc _) ⟨W.heap.size, 0, none⟩ 1 1 [.int .i64 x.1.2] rfl rfl (cell_one_new _ _ _) (by simp [Value.oneCell']) hm (by omega) (by have := hB.size; simp; omega) ?_; intro v' w2 hown' hgrow _; obtain ⟨g', cap', rfl⟩ := ownsRow_succ hown'; obtain ⟨hv1, hv2, hr2, hk2, hb2⟩ := hv.appended (by decide) hrow hB.size (by omega) hown' hgrow; have hs2 := Lib.hid (((HBS.out.alloc _).kept hgrow (HBS.out.not_row (by decide) hrow)).other (B' := w1.heap.size) (by omega) (.slice (some ⟨g', 0, none⟩) ((uvals pre).length + 1) cap')); have hc1 := hv1.cell; have hf1 := hv1.frozen)
    refine ⟨hk2.from _, ⟨hb2, hs2.out.cell.trans HBS.out.cell.symm⟩, ⟨⟨_, hv2, by rw [uvals_snoc]; simpa using hr2, trivial⟩, hs2.out⟩, hB.trans hb2⟩
  case done =>
    rintro D ys W hD rfl ⟨⟨⟨v, hv, hrow, _⟩, hbs⟩, hB⟩ hK
    have hc := hv.cell
    clear hbs
    gi_wp2
    refine ⟨by simp, .inl ⟨_, _, rfl, run_takeDeferred hK, ?_⟩⟩
    exact ⟨_, results_tmp2 rfl _ _ _, v, rfl, ownsRow_putObj hrow _ hK rfl, hB.trans (belowK_b (w := w) (Nat.le_refl _) W D _ _ (by have := HZ.out; omega) hK rfl rfl)⟩
  case stop =>
    rintro D c pre W _ _ h _
    exact h.elim

theorem utf_Runes.calls (a0 : ByteArray) (r1 : List Int) (r2 : Int) (w : World) (hLD : LaidW w) (h : utf_Runes.f a0 = some (r1, r2)) :
    Calls Tryd.prog 10 #[.string a0] w fun e w' => ∃ v0_ : Value, e = .returned (.tuple #[v0_, .int .i64 r2]) ∧ Kd.R (Kd.int .i64) 3 w' w.heap.size (fun _ => True) v0_ r1 ∧ Below w.heap.size w w' := by
  unfold utf_Runes.f at h
  by_cases hs : a0.size ≤ 1152921504606846976
  · rw [if_pos hs] at h
    cases hc : checkL (uitems a0 a0.size 0) with
    | some p =>
      rw [hc] at h
      simp only [Option.some.injEq, Prod.mk.injEq] at h
      obtain ⟨rfl, rfl⟩ := h
      exact (runes_bad a0 p w hLD hs hc).mono fun e w' ⟨he, hb⟩ => ⟨_, he, Kd.R_nil _ _ _ _ _, hb⟩
    | none =>
      rw [hc] at h
      simp only at h
      have hl : (uitems a0 a0.size 0).length = (usub a0 hs a0.size 0).length := by rw [← usub_val a0 hs, List.length_map]
      have hu : (uitems a0 a0.size 0).map (·.2) = uvals (usub a0 hs a0.size 0) := by rw [← usub_val a0 hs, List.map_map]; rfl
      by_cases hlim : (uitems a0 a0.size 0).length ≤ 17592186044416
      · rw [if_pos hlim, hu] at h
        simp only [Option.some.injEq, Prod.mk.injEq] at h
        obtain ⟨rfl, rfl⟩ := h
        exact (callsIn_wide.1 (runes_good 6 (Nat.le_refl _) a0 w hLD hs hc (by omega))).mono fun e w' ⟨v, he, hr, hb⟩ => ⟨v, he, Kd.R_of_own hr (fun _ _ => trivial), hb⟩
      · rw [if_neg hlim] at h; cases h
  · rw [if_neg hs] at h; cases h
end Go.Proofs.YthekpajbffjfmaaDoor.P

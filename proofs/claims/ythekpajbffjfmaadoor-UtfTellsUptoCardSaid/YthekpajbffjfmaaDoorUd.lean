/- utf.Mend: contract. -/
import Derived.Test.YthekpajbffjfmaaDoorUa
import Derived.Test.YthekpajbffjfmaaDoorUr
import Derived.Test.YthekpajbffjfmaaDoorWWords
import Derived.Test.YthekpajbffjfmaaDoorWMore
import Derived.WalkSpells
namespace Go.Proofs.YthekpajbffjfmaaDoor.P
set_option linter.unusedVariables false
set_option linter.unusedSimpArgs false
open Go.RowKit Go.Shelf Go.Proofs.YthekpajbffjfmaaDoorW.PrintWords
attribute [local go_sem] Oper.semAt_some
/-- A character that is none, mended. -/
def mendI (c : Int) : Int := if c < 0 then 65533 else c
def utf_Mend.f (l0 : List Int) : Option ByteArray :=
  if l0.length ≤ 35184372088000 then some (strOfNums ((uitems (strOfNums l0) (strOfNums l0).size 0).flatMap fun x => encR (mendI x.2))) else none
def mvals (l : List UItem) : List Int := l.flatMap fun x => encR (mendI x.1.2)
theorem mvals_snoc (l : List UItem) (x : UItem) : mvals (l ++ [x]) = mvals l ++ encR (mendI x.1.2) := by simp [mvals]
theorem encR_len (c : Int) : (encR c).length ≤ 4 := by unfold encR; repeat' split
                                                       all_goals simp
theorem mvals_len : ∀ (l : List UItem), (mvals l).length ≤ 4 * l.length
  | [] => by simp [mvals]
  | x :: l => by
    have h1 := mvals_len l
    have h2 := encR_len (mendI x.1.2)
    have : mvals (x :: l) = encR (mendI x.1.2) ++ mvals l := rfl
    rw [this, List.length_append, List.length_cons]; omega
theorem usub_len (s : ByteArray) (hs : s.size ≤ 1152921504606846976) : ∀ f p, (usub s hs f p).length ≤ f
  | 0, _ => by simp [usub]
  | f + 1, p => by
    unfold usub
    split
    · have := usub_len s hs f (p + un s p); simp; omega
    · simp
theorem ownsRow_slice {W : World} {base : Nat} {e : TypeId} {size : Nat} {v : Value} {k : Nat} {xs : List Value} (h : W.ownsRow base e size v k xs) : ∃ A k' c, v = .slice A k' c := by
  rcases h.2 with ⟨rfl, _⟩ | ⟨g, cap, cur, rfl, _⟩ <;> exact ⟨_, _, _, rfl⟩
theorem mend_rune (x : UItem) : rune (mendI x.1.2) := by
  have h1 := x.2.2.1
  have h2 := x.2.2.2
  unfold rune mendI
  split <;> omega

set_option maxRecDepth 100000 in
set_option maxHeartbeats 4000000 in
theorem mend_in (n : Nat) (hn : 6 ≤ n) (A0 : Option Addr) (c0 : Nat) (l0 : List Int) (w : World) (hLD : LaidW w) (hr0 : Kd.C (Kd.int .u8) w A0 l0.length l0) (s : ByteArray) (hsv : strOfNums l0 = s) (hs : s.size ≤ 1152921504606846976) (hlim : (usub s hs s.size 0).length ≤ 35184372088000) :
    CallsIn Fence.wide n Tryd.prog 19 #[.slice A0 l0.length c0] w fun e W' => e = .returned (.string (strOfNums (mvals (usub s hs s.size 0)))) ∧ Below w.heap.size w W' := by
  have h1 : 1 ≤ n := by omega
  have HS := Lib.hid hs
  have HLEN := Lib.hid hlim
  clear hlim
  have HR0 := Lib.hid hr0
  clear hr0
  obtain ⟨i0, hi, hz0, hz1, hz2⟩ := info_parts infoB
  refine callsIn_of_wp_marks Tryd.func19 rfl trivial ?_ rfl
  simp only [Tryd.ntmps19, List.size_toArray, List.length_cons, List.length_nil, Nat.reduceAdd, Nat.reduceSub, Array.replicate_succ, Array.replicate_zero, List.push_toArray, List.append_toArray, List.nil_append, List.cons_append]
  have bO := Boxed.new w 38 (.slice none 0 0)
  have hcv := Kd.C_string (P := Tryd.prog) (A := A0) (c := c0) Tryd.underlying38 Tryd.underlying5 Tryd.underlying9 (Kd.C_alloc HR0.out (.cells #[.slice none 0 0] 38))
  rw [hsv] at hcv
  gi_wp2_with (refine ⟨trivial, ?_⟩; gi_at_call 31; refine (runes_in (n - 1) _ _).mono ?_; rintro e w' ⟨rfl, rfl⟩)
  have bS := Boxed.new (w.alloc (.cells #[.slice none 0 0] 38)) 9 (.string s)
  rw [World.size_alloc] at bS
  have bO' := bO.alloc (.cells #[.string s] 9)
  have hB0 : Below w.heap.size w ((w.alloc (.cells #[.slice none 0 0] 38)).alloc (.cells #[.string s] 9)) := ((Below.refl _ w).alloc (Nat.le_refl _) _).alloc (by simp) _
  obtain ⟨W0, hW0⟩ : ∃ W0, W0 = (w.alloc (.cells #[.slice none 0 0] 38)).alloc (.cells #[.string s] 9) := ⟨_, rfl⟩
  have hz : W0.heap.size = w.heap.size + 2 := by rw [hW0]; simp
  rw [← hW0] at hB0 bO' bS ⊢
  have HZ := Lib.hid hz
  have HB0 := Lib.hid hB0
  have HBOX := Lib.hid bO'
  clear hz hB0 hW0 bO bO' hcv
  refine wpIn_rangeFunc_ownG rfl h1 (gf := 39) (lb := #[.pointer (some ⟨w.heap.size + 1, 0, none⟩)]) rfl trivial (enters_of Tryd.func39 (by kernel_rfl) rfl)
    (runes_stops (n - 1) (by omega) (w.heap.size + 1) w.heap.size s HS.out W0 w (HB0.out.size) hLD (Nat.le_refl _) HB0.out bS.cell) kpS_t (kpS_b HB0.out.size (by have := HZ.out; omega)) (Below.refl _ _) (fun _ => rfl)
    (fun pre W => ((∃ v, Boxed W w.heap.size 38 v ∧ W.ownsRow w.heap.size 5 1 v (mvals pre).length ((mvals pre).map (Value.int .u8)) ∧ True) ∧ Boxed W (w.heap.size + 1) 9 (.string s)) ∧ Below w.heap.size w W)
    (fun _ _ _ => False)
    (OwnFrom.and (OwnFrom.and (Own.from (holdsRow_own w.heap.size w.heap.size 38 5 1 (fun pre => (mvals pre).length) (fun pre => (mvals pre).map (Value.int .u8)) (fun _ _ => True)) _) (Own.from (boxed_own _ _ _) _)) (ownFrom_below (Nat.le_refl _) (by have := HZ.out; omega)))
    (fun _ _ _ _ _ hs _ _ => hs)
    ⟨⟨⟨_, HBOX.out, World.ownsRow_nil _ _ _ _, trivial⟩, bS⟩, HB0.out⟩
    (fun x => { tmps := #[.slice A0 l0.length c0, undef, .string ⟨#[]⟩, .pointer (some ⟨w.heap.size, 0, none⟩), undef, .int .i32 x.1.2, .slice A0 l0.length c0, .string s, .func (.func 39) #[] #[.pointer (some ⟨w.heap.size + 1, 0, none⟩)], .int .i64 x.1.1, .int .i32 x.1.2, undef, undef, undef, undef, undef, undef, undef], defers := [] }) ?assign ?body ?done ?stop
  case assign =>
    intro l x W K hK
    gi_wp2
    exact hK
  case body =>
    rintro l pre x W ⟨⟨⟨v, hv, hrow, _⟩, hbs⟩, hB⟩ hlt
    have HBS := Lib.hid hbs
    clear hbs
    have hc := hv.cell
    have hpl := mvals_len pre
    have hx1 := x.2.2.1
    have hlim := HLEN.out
    have hm : (mvals pre).length + 4 ≤ 140737488355328 := by omega
    have HR := Lib.hid (mend_rune x)
    by_cases hx : x.1.2 < 0
    · have hmv : mendI x.1.2 = 65533 := by unfold mendI; rw [if_pos hx]
      rw [hmv] at HR
      gi_wp2_with fail
      refine ⟨trivial, ?_⟩
      refine ⟨(fun h => by cases h), (CallsIn.inRound l (callsIn_wide.2 (app_any w.heap.size v _ _ 65533 HR.out _ hrow hm hB.size))).mono ?_⟩
      rintro e w2 ⟨v', rfl, hown', ⟨o, hgrow⟩, _⟩
      obtain ⟨A', k', c', rfl⟩ := ownsRow_slice hown'
      obtain ⟨hv1, hv2, hr2, hk2, hb2⟩ := hv.appended (by decide) hrow hB.size (Nat.le_refl _) hown' hgrow
      have hs2 := Lib.hid (((HBS.out.alloc _).kept hgrow (HBS.out.not_row (by decide) hrow)).other (B' := w.heap.size) (by omega) (.slice A' k' c'))
      have hc1 := hv1.cell
      have hf1 := hv1.frozen
      gi_wp2
      refine ⟨hk2.from _, ⟨hb2, hs2.out.cell.trans HBS.out.cell.symm⟩, ⟨⟨_, hv2, by rw [mvals_snoc, hmv, List.map_append, List.length_append]; simpa using hr2, trivial⟩, hs2.out⟩, hB.trans hb2⟩
    · have hmv : mendI x.1.2 = x.1.2 := by unfold mendI; rw [if_neg hx]
      rw [hmv] at HR
      gi_wp2_with fail
      refine ⟨trivial, ?_⟩
      refine ⟨(fun h => by cases h), (CallsIn.inRound l (callsIn_wide.2 (app_any w.heap.size v _ _ x.1.2 HR.out _ hrow hm hB.size))).mono ?_⟩
      rintro e w2 ⟨v', rfl, hown', ⟨o, hgrow⟩, _⟩
      obtain ⟨A', k', c', rfl⟩ := ownsRow_slice hown'
      obtain ⟨hv1, hv2, hr2, hk2, hb2⟩ := hv.appended (by decide) hrow hB.size (Nat.le_refl _) hown' hgrow
      have hs2 := Lib.hid (((HBS.out.alloc _).kept hgrow (HBS.out.not_row (by decide) hrow)).other (B' := w.heap.size) (by omega) (.slice A' k' c'))
      have hc1 := hv1.cell
      have hf1 := hv1.frozen
      gi_wp2
      refine ⟨hk2.from _, ⟨hb2, hs2.out.cell.trans HBS.out.cell.symm⟩, ⟨⟨_, hv2, by rw [mvals_snoc, hmv, List.map_append, List.length_append]; simpa using hr2, trivial⟩, hs2.out⟩, hB.trans hb2⟩
  case done =>
    rintro D ys W hD rfl ⟨⟨⟨v, hv, hrow, _⟩, hbs⟩, hB⟩ hK
    have hc := hv.cell
    clear hbs
    have hcv := own_string (P := Tryd.prog) (src := 38) (dst := 9) Tryd.underlying38 Tryd.underlying5 Tryd.underlying9 hrow
    gi_wp2
    refine ⟨by simp, .inl ⟨_, _, rfl, run_takeDeferred hK, ?_⟩⟩
    exact ⟨_, results_tmp rfl _ _ _, rfl, hB.trans (belowK_b (w := w) (Nat.le_refl _) W D _ _ (by have := HZ.out; omega) hK rfl rfl)⟩
  case stop =>
    rintro D c pre W _ _ h _
    exact h.elim

theorem utf_Mend.calls (A0 : Option Addr) (c0 : Nat) (l0 : List Int) (r : ByteArray) (w : World) (hLD : LaidW w) (hr0 : Kd.C (Kd.int .u8) w A0 l0.length l0) (hc0 : l0.length ≤ c0) (h : utf_Mend.f l0 = some r) :
    Calls Tryd.prog 19 #[.slice A0 l0.length c0] w fun e w' => e = .returned (.string r) ∧ Below w.heap.size w w' := by
  unfold utf_Mend.f at h
  by_cases hl : l0.length ≤ 35184372088000
  · rw [if_pos hl] at h
    simp only [Option.some.injEq] at h
    have hz : (strOfNums l0).size = l0.length := by simp [strOfNums, ByteArray.size]
    have hs : (strOfNums l0).size ≤ 1152921504606846976 := by omega
    have hlim : (usub (strOfNums l0) hs (strOfNums l0).size 0).length ≤ 35184372088000 := by
      have := usub_len (strOfNums l0) hs (strOfNums l0).size 0; omega
    refine (callsIn_wide.1 (mend_in 6 (Nat.le_refl _) A0 c0 l0 w hLD hr0 _ rfl hs hlim)).mono ?_
    rintro e w' ⟨rfl, hb⟩
    refine ⟨?_, hb⟩
    rw [← h, ← usub_val _ hs, List.flatMap_map]
    rfl
  · rw [if_neg hl] at h; cases h
end Go.Proofs.YthekpajbffjfmaaDoor.P

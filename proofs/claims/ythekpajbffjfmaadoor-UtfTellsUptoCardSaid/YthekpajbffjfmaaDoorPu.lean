/- What chapter 4's functions tell: over the plain lists. -/
import Derived.Test.YthekpajbffjfmaaDoorPl
import Derived.Test.YthekpajbffjfmaaDoorPx3
import Derived.Test.YthekpajbffjfmaaDoorPx6
import Derived.IntWalk
namespace Go.Proofs.YthekpajbffjfmaaDoor.P
set_option linter.unusedVariables false
set_option linter.unusedSimpArgs false
open Go.RowKit Go.Proofs.YthekpajbffjfmaaDoorW.PrintWords Go.Proofs.YthekpajbffjfmaaDoorW.PrintMore
theorem w64 (n : Int) (h : -9223372036854775808 ≤ n ∧ n ≤ 9223372036854775807) : wrap64 n = n := by unfold wrap64; omega
theorem drop_rd {xs : List Int} {n : Nat} (h : n < xs.length) : xs.drop n = rd xs n :: xs.drop (n + 1) := by
  unfold rd
  rw [List.drop_eq_getElem_cons h, Int.toNat_natCast, List.getD_eq_getElem?_getD, List.getElem?_eq_getElem h]
  rfl
theorem may_eq (k : Nat) (hk : 1 ≤ k) (c : Int) : utf_may.f k c = some (decide (rune c)) := by
  obtain ⟨k, rfl⟩ : ∃ j, k = j + 1 := ⟨k - 1, by omega⟩
  unfold utf_may.f
  by_cases h0 : c ≥ 0
  · rw [if_pos h0]
    by_cases h1 : c ≤ 1114111
    · rw [if_pos h1, show wrap32 c = c by unfold wrap32; omega]
      unfold utf8_ValidRune.f
      rw [if_pos h0]
      simp only [utf8_ValidRune.j0]
      by_cases h2 : c < 55296
      · rw [if_pos (decide_eq_true h2)]
        rw [decide_eq_true (show rune c from ⟨h0, h1, by omega⟩)]; rfl
      · rw [if_neg (by rw [decide_eq_true_eq]; exact h2)]
        by_cases h3 : 57343 < c
        · rw [if_pos h3, if_pos h1, decide_eq_true (show rune c from ⟨h0, h1, by omega⟩)]; rfl
        · rw [if_neg h3, decide_eq_false (show ¬ rune c from fun h => by obtain ⟨_, _, h⟩ := h; omega)]; rfl
    · rw [if_neg h1, decide_eq_false (show ¬ rune c from fun h => by obtain ⟨_, h, _⟩ := h; omega)]
  · rw [if_neg h0, decide_eq_false (show ¬ rune c from fun h => by obtain ⟨h, _, _⟩ := h; omega)]
theorem rune_wrap32 {c : Int} (h : rune c) : wrap32 c = c := by obtain ⟨h0, h1, _⟩ := h; unfold wrap32; omega
/-- Numbers as a text. -/
def textR (l : List Int) : ByteArray × Int := if allRune l then (txt l, 0) else ((⟨#[]⟩ : ByteArray), 4)
theorem allRune_cons (c : Int) (l : List Int) : allRune (c :: l) ↔ rune c ∧ allRune l := by unfold allRune; simp
theorem text_loop (xs : List Int) (hx : xs.length ≤ 35184372088000) : ∀ (m n k : Nat) (acc : List Int), n + m = xs.length → m + 2 ≤ k → acc.length + 4 * m + 8 ≤ 140737488355327 →
    utf_Text.l0 k acc xs xs.length n = some (if allRune (xs.drop n) then (strOfNums (acc ++ (xs.drop n).flatMap encR), 0) else ((⟨#[]⟩ : ByteArray), 4))
  | 0, n, k, acc, hn, hk, ha => by
    obtain ⟨k, rfl⟩ : ∃ j, k = j + 1 := ⟨k - 1, by omega⟩
    unfold utf_Text.l0
    rw [if_neg (by omega), List.drop_of_length_le (by omega), if_pos (show allRune [] from fun x hx => by simp at hx)]
    simp
  | m + 1, n, k, acc, hn, hk, ha => by
    obtain ⟨k, rfl⟩ : ∃ j, k = j + 1 := ⟨k - 1, by omega⟩
    unfold utf_Text.l0
    rw [if_pos (by omega), if_pos (by omega), if_pos (by omega), may_eq k (by omega), drop_rd (show n < xs.length by omega)]
    simp only [Option.bind_some]
    by_cases hr : rune (rd xs n)
    · rw [decide_eq_true hr, if_pos rfl, rune_wrap32 hr]
      unfold utf8_AppendRune.f
      rw [if_pos ⟨hr, by omega⟩]
      simp only [Option.bind_some]
      have hl := encR_len (rd xs n)
      rw [w64 _ (by omega), show ((n : Int) + 1) = ((n + 1 : Nat) : Int) by omega, text_loop xs hx m (n + 1) k _ (by omega) (by omega) (by rw [List.length_append]; omega)]
      by_cases hc : allRune (xs.drop (n + 1))
      · rw [if_pos hc, if_pos ((allRune_cons _ _).2 ⟨hr, hc⟩), List.flatMap_cons, List.append_assoc]
      · rw [if_neg hc, if_neg (fun h => hc ((allRune_cons _ _).1 h).2)]
    · rw [decide_eq_false hr, if_neg (by simp), if_neg (fun h => hr ((allRune_cons _ _).1 h).1)]
theorem text_eq (l : List Int) (hx : l.length ≤ 35184372080000) (k : Nat) (hk : l.length + 2 ≤ k) : utf_Text.f k l = some (textR l) := by
  unfold utf_Text.f
  have := text_loop l (by omega) l.length 0 k [] (by omega) (by omega) (by simp; omega)
  rw [show (0 : Int) = ((0 : Nat) : Int) from rfl, this]
  unfold textR txt
  rw [List.drop_zero, List.nil_append]
theorem runes_eq (s : ByteArray) (h : s.size ≤ 17592186044416) : utf_Runes.f s = some (if good s then (chr s, 0) else ([], 61)) := by
  unfold utf_Runes.f
  rw [if_pos (by omega)]
  by_cases hg : good s
  · rw [(good_iff s).2 hg, if_pos hg, uitems_chr]
    have := chr_len s
    simp only
    rw [if_pos (by rw [← List.length_map (f := (·.2)), uitems_chr]; omega)]
  · rw [if_neg hg]
    cases hc : checkL (uitems s s.size 0) with
    | none => exact absurd ((good_iff s).1 hc) hg
    | some p => rfl
theorem check_eq (s : ByteArray) (h : s.size ≤ 17592186044416) : ∃ p : Int, utf_Check.f s = some (if good s then ((s.size : Int), 0) else (p, 61)) := by
  unfold utf_Check.f
  rw [if_pos (by omega)]
  by_cases hg : good s
  · refine ⟨0, ?_⟩; rw [(good_iff s).2 hg, if_pos hg]
  · simp only [if_neg hg]
    cases hc : checkL (uitems s s.size 0) with
    | none => exact absurd ((good_iff s).1 hc) hg
    | some p => exact ⟨p, rfl⟩
theorem count_eq (s : ByteArray) (h : s.size ≤ 17592186044416) : utf_Count.f s = some (if good s then (((chr s).length : Int), 0) else (0, 61)) := by
  unfold utf_Count.f
  rw [runes_eq s h]
  by_cases hg : good s
  · rw [if_pos hg, if_pos hg]; rfl
  · rw [if_neg hg, if_neg hg]; rfl
theorem txt_233 : txt [233] = ⟨#[195, 169]⟩ := by decide +kernel
theorem txt_a233 : (⟨#[97, 195, 169]⟩ : ByteArray) = txt [97, 233] := by decide +kernel
theorem alive_eq (k : Nat) (hk : 3 ≤ k) : bolterlaw04_alive.f k = some true := by
  unfold bolterlaw04_alive.f
  have h1 : allRune [233] := by decide
  have h2 : allRune [97, 233] := by decide
  rw [text_eq [233] (by simp) k (by simp; omega), txt_a233, count_eq _ (by rw [← txt_a233]; show 3 ≤ _; omega), if_pos (good_txt h2), chr_txt h2]
  unfold textR
  rw [if_pos h1, txt_233]
  simp only [Option.bind_some, bolterlaw04_num.f]
  decide +kernel
theorem same_loop (xs ys : List Int) (hx : xs.length ≤ 1152921504606846976) (hl : xs.length = ys.length) : ∀ (m n k : Nat), n + m = xs.length → m + 1 ≤ k →
    bolterplain_SameInts.l0 k xs ys n = some (decide (xs.drop n = ys.drop n))
  | 0, n, k, hn, hk => by
    obtain ⟨k, rfl⟩ : ∃ j, k = j + 1 := ⟨k - 1, by omega⟩
    unfold bolterplain_SameInts.l0
    rw [if_neg (by omega), List.drop_of_length_le (by omega), List.drop_of_length_le (by omega)]
    simp
  | m + 1, n, k, hn, hk => by
    obtain ⟨k, rfl⟩ : ∃ j, k = j + 1 := ⟨k - 1, by omega⟩
    unfold bolterplain_SameInts.l0
    rw [if_pos (by omega), if_pos (by omega), if_pos (by omega), drop_rd (show n < xs.length by omega), drop_rd (show n < ys.length by omega)]
    by_cases hr : rd xs n = rd ys n
    · rw [if_pos hr, w64 _ (by omega), show ((n : Int) + 1) = ((n + 1 : Nat) : Int) by omega, same_loop xs ys hx hl m (n + 1) k (by omega) (by omega), hr]
      simp
    · rw [if_neg hr]
      simp [hr]
theorem same_eq (xs ys : List Int) (hx : xs.length ≤ 1152921504606846976) (k : Nat) (hk : xs.length + 1 ≤ k) : bolterplain_SameInts.f k xs ys = some (decide (xs = ys)) := by
  unfold bolterplain_SameInts.f
  by_cases hl : xs.length = ys.length
  · rw [if_pos (by omega), show (0 : Int) = ((0 : Nat) : Int) from rfl, same_loop xs ys hx hl xs.length 0 k (by omega) (by omega)]
    simp
  · rw [if_neg (by omega), decide_eq_false (fun e => hl (by rw [e]))]
/-! ### UtfBack -/
theorem enc_len : ∀ (l : List Int), (l.flatMap encR).length ≤ 4 * l.length
  | [] => by simp
  | c :: l => by
    have := enc_len l
    have := encR_len c
    rw [List.flatMap_cons, List.length_append, List.length_cons]
    omega
theorem txt_size (l : List Int) : (txt l).size ≤ 4 * l.length := by
  unfold txt
  rw [strOfNums_size]
  exact enc_len l
end Go.Proofs.YthekpajbffjfmaaDoor.P
namespace Go.Proofs.YthekpajbffjfmaaDoor.Pure
set_option linter.unusedVariables false
set_option linter.unusedSimpArgs false
open Go.Proofs.YthekpajbffjfmaaDoor.P Go.RowKit
theorem UtfBack (a0 : ByteArray) (l1 : List Int) (h0 : a0.size ≤ 1048576) (h1 : l1.length ≤ 1048576) (hw : ∀ x ∈ l1, (Lit.int .i64 x).wf = true) : ∃ k, bolterlaw04_UtfBack.f k a0 l1 = some true := by
  have hc := chr_len a0
  have ht := txt_size l1
  refine ⟨a0.size + l1.length + 10, ?_⟩
  unfold bolterlaw04_UtfBack.f
  rw [alive_eq _ (by omega), runes_eq a0 (by omega), text_eq l1 (by omega) _ (by omega)]
  simp only [Option.bind_some, if_true, bolterlaw04_num.f]
  have hu : (textR l1).1.size ≤ 4 * l1.length := by
    unfold textR
    split
    · exact ht
    · exact Nat.zero_le _
  rw [runes_eq _ (by omega)]
  have htail : (if (textR l1).2 = 0 then
      (if (if good (textR l1).1 then (chr (textR l1).1, (0 : Int)) else ([], 61)).2 = 0 then
        (bolterplain_SameInts.f (a0.size + l1.length + 10) (if good (textR l1).1 then (chr (textR l1).1, (0 : Int)) else ([], 61)).1 l1).bind fun t => some t
      else some false)
      else some true) = some true := by
    by_cases hr : allRune l1
    · unfold textR
      rw [if_pos hr]
      simp only [if_true]
      rw [if_pos (good_txt hr), chr_txt hr]
      simp only [if_true]
      rw [same_eq _ _ (by omega) _ (by omega)]
      simp
    · unfold textR
      rw [if_neg hr]
      simp
  by_cases hg : good a0
  · rw [if_pos hg]
    simp only [Option.bind_some, if_true]
    rw [text_eq (chr a0) (by omega) _ (by omega)]
    have e : textR (chr a0) = (a0, 0) := by unfold textR; rw [if_pos (good_enc hg).1, txt_chr hg]
    rw [e]
    simp only [Option.bind_some, if_true]
    exact htail
  · rw [if_neg hg]
    simp only [Option.bind_some]
    rw [text_eq [] (by simp) _ (by simp)]
    simp only [Option.bind_some]
    rw [if_neg (by decide)]
    exact htail
end Go.Proofs.YthekpajbffjfmaaDoor.Pure

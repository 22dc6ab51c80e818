/- UtfMakes, UtfMends, UtfCuts: the pure statements. -/
import Derived.Test.YthekpajbffjfmaaDoorPu
import Derived.OpenShut
import Derived.Laws.Small
namespace Go.Proofs.YthekpajbffjfmaaDoor.P
set_option linter.unusedVariables false
set_option linter.unusedSimpArgs false
open Go.RowKit Go.Proofs.YthekpajbffjfmaaDoorW.PrintWords Go.Proofs.YthekpajbffjfmaaDoorW.PrintMore
theorem tm_nn {a b : Int} (h : 0 ≤ a) : Int.tmod a b = a % b := by rw [tmod_eq_if, if_pos h]
theorem td_nn {a b : Int} (h : 0 ≤ a) : Int.tdiv a b = a / b := by rw [tdiv_eq_if, if_pos h]
theorem tm_bd {a b : Int} (h : 0 < b) : -b < Int.tmod a b ∧ Int.tmod a b < b := by
  rw [tmod_eq_if]
  have h1 := Int.emod_nonneg a (show b ≠ 0 by omega)
  have h2 := Int.emod_lt_of_pos a h
  have h3 := Int.emod_nonneg (-a) (show b ≠ 0 by omega)
  have h4 := Int.emod_lt_of_pos (-a) h
  split <;> omega
theorem refmay_eq (c : Int) : bolterref04_may.f c = some (decide (rune c)) := by
  unfold bolterref04_may.f
  by_cases h0 : c ≥ 0
  · rw [if_pos h0]
    by_cases h1 : c ≤ 1114111
    · rw [if_pos h1]
      by_cases h2 : c < 55296
      · rw [if_pos h2, decide_eq_true (show rune c from ⟨h0, h1, by omega⟩)]
      · rw [if_neg h2]
        by_cases h3 : c > 57343
        · rw [decide_eq_true h3, decide_eq_true (show rune c from ⟨h0, h1, by omega⟩)]
        · rw [decide_eq_false h3, decide_eq_false (show ¬ rune c from fun h => by obtain ⟨_, _, h⟩ := h; omega)]
    · rw [if_neg h1, decide_eq_false (show ¬ rune c from fun h => by obtain ⟨_, h, _⟩ := h; omega)]
  · rw [if_neg h0, decide_eq_false (show ¬ rune c from fun h => by obtain ⟨h, _, _⟩ := h; omega)]
theorem octets_eq {c : Int} (h : rune c) : bolterref04_Octets.f c = some (encR c) := by
  obtain ⟨h0, h1, h2⟩ := h
  unfold bolterref04_Octets.f encR
  rw [td_nn h0, td_nn h0, td_nn h0, tm_nn h0, w64 (c / 64) (by omega), w64 (c / 4096) (by omega), w64 (c / 262144) (by omega), tm_nn (show 0 ≤ c / 64 by omega), tm_nn (show 0 ≤ c / 4096 by omega),
    w64 (192 + c / 64) (by omega), w64 (128 + c % 64) (by omega), w64 (224 + c / 4096) (by omega), w64 (128 + c / 64 % 64) (by omega), w64 (240 + c / 262144) (by omega), w64 (128 + c / 4096 % 64) (by omega)]
  by_cases c1 : c < 128
  · rw [if_pos c1, if_pos c1, show c % 256 = c by omega]
  rw [if_neg c1, if_neg c1]
  by_cases c2 : c < 2048
  · rw [if_pos c2, if_pos c2, show (192 + c / 64) % 256 = 192 + c / 64 by omega, show (128 + c % 64) % 256 = 128 + c % 64 by omega]
  rw [if_neg c2, if_neg c2]
  by_cases c3 : c < 65536
  · rw [if_pos c3, if_pos c3, show (224 + c / 4096) % 256 = 224 + c / 4096 by omega, show (128 + c / 64 % 64) % 256 = 128 + c / 64 % 64 by omega, show (128 + c % 64) % 256 = 128 + c % 64 by omega]
  rw [if_neg c3, if_neg c3, show (240 + c / 262144) % 256 = 240 + c / 262144 by omega, show (128 + c / 4096 % 64) % 256 = 128 + c / 4096 % 64 by omega, show (128 + c / 64 % 64) % 256 = 128 + c / 64 % 64 by omega, show (128 + c % 64) % 256 = 128 + c % 64 by omega]
theorem reftext_loop (xs : List Int) (hx : xs.length ≤ 35184372088000) : ∀ (m n k : Nat) (acc : List Int), n + m = xs.length → m + 2 ≤ k → acc.length + 4 * m + 8 ≤ 140737488355327 →
    bolterref04_Text.l0 k xs acc n = some (if allRune (xs.drop n) then (strOfNums (acc ++ (xs.drop n).flatMap encR), 0) else ((⟨#[]⟩ : ByteArray), 4))
  | 0, n, k, acc, hn, hk, ha => by
    obtain ⟨k, rfl⟩ : ∃ j, k = j + 1 := ⟨k - 1, by omega⟩
    unfold bolterref04_Text.l0
    rw [if_neg (by omega), List.drop_of_length_le (by omega), if_pos (show allRune [] from fun x hx => by simp at hx)]
    simp
  | m + 1, n, k, acc, hn, hk, ha => by
    obtain ⟨k, rfl⟩ : ∃ j, k = j + 1 := ⟨k - 1, by omega⟩
    unfold bolterref04_Text.l0
    rw [if_pos (by omega), if_pos (by omega), refmay_eq, drop_rd (show n < xs.length by omega)]
    simp only [Option.bind_some]
    by_cases hr : rune (rd xs n)
    · rw [decide_eq_true hr, if_pos rfl, octets_eq hr]
      simp only [Option.bind_some]
      have hl := encR_len (rd xs n)
      rw [if_pos (by omega), w64 _ (by omega), show ((n : Int) + 1) = ((n + 1 : Nat) : Int) by omega, reftext_loop xs hx m (n + 1) k _ (by omega) (by omega) (by rw [List.length_append]; omega)]
      by_cases hc : allRune (xs.drop (n + 1))
      · rw [if_pos hc, if_pos ((allRune_cons _ _).2 ⟨hr, hc⟩), List.flatMap_cons, List.append_assoc]
      · rw [if_neg hc, if_neg (fun h => hc ((allRune_cons _ _).1 h).2)]
    · rw [decide_eq_false hr, if_neg (by simp), if_neg (fun h => hr ((allRune_cons _ _).1 h).1)]
theorem reftext_eq (l : List Int) (hx : l.length ≤ 35184372080000) (k : Nat) (hk : l.length + 2 ≤ k) : bolterref04_Text.f k l = some (textR l) := by
  unfold bolterref04_Text.f
  have := reftext_loop l (by omega) l.length 0 k [] (by omega) (by omega) (by simp; omega)
  rw [show (0 : Int) = ((0 : Nat) : Int) from rfl, this]
  unfold textR txt
  rw [List.drop_zero, List.nil_append]
theorem refbounds_eq (k : Nat) (hk : 1 ≤ k) (n a b : Int) (h0 : 0 ≤ n) (h1 : n ≤ 1152921504606846976) (ha : -9223372036854775808 ≤ a ∧ a ≤ 9223372036854775807) (hb : -9223372036854775808 ≤ b ∧ b ≤ 9223372036854775807) :
    bolterref04_Bounds.f k n a b = some (uplace n a, max (uplace n b) (uplace n a)) := by
  obtain ⟨k, rfl⟩ : ∃ j, k = j + 1 := ⟨k - 1, by omega⟩
  have e1 : wrap64 (-n) = -n := w64 _ (by omega)
  have e2 : ∀ x : Int, x < 0 → wrap64 (mx x (-n) + n) = mx x (-n) + n := fun x hx => w64 _ (by unfold mx; split <;> omega)
  unfold bolterref04_Bounds.f
  rw [e1]
  by_cases c1 : a < 0
  · rw [if_pos c1, e2 a c1]
    simp only [bolterref04_Bounds.j0]
    rw [e1]
    by_cases c2 : b < 0
    · rw [if_pos c2, e2 b c2]
      unfold uplace mn mx
      rw [if_pos c1, if_pos c2]
      repeat' split
      all_goals (first | (simp; omega) | simp)
    · rw [if_neg c2]
      unfold uplace mn mx
      rw [if_pos c1, if_neg c2]
      repeat' split
      all_goals (first | (simp; omega) | simp)
  · rw [if_neg c1]
    simp only [bolterref04_Bounds.j0]
    rw [e1]
    by_cases c2 : b < 0
    · rw [if_pos c2, e2 b c2]
      unfold uplace mn mx
      rw [if_neg c1, if_pos c2]
      repeat' split
      all_goals (first | (simp; omega) | simp)
    · rw [if_neg c2]
      unfold uplace mn
      rw [if_neg c1, if_neg c2]
      repeat' split
      all_goals (first | (simp; omega) | simp)
theorem bounds_eq (n a b : Int) (h0 : 0 ≤ n) (h1 : n ≤ 1152921504606846976) : utf_Bounds.f n a b = some (uplace n a, max (uplace n b) (uplace n a)) := by
  unfold utf_Bounds.f
  rw [if_pos ⟨h0, h1⟩]
theorem chars_rune : ∀ (f : Nat) (L : List Int), okB L → ∀ c ∈ chars f L, c = -1 ∨ rune c
  | 0, L, _, c, hc => by simp [chars] at hc
  | f + 1, L, h, c, hc => by
    unfold chars at hc
    by_cases h0 : L = []
    · rw [if_pos h0] at hc; simp at hc
    · rw [if_neg h0] at hc
      rcases List.mem_cons.1 hc with rfl | hc
      · by_cases hd : 0 ≤ dc L
        · exact .inr (enc_dec h h0 hd).1
        · refine .inl ?_
          unfold dc at hd ⊢
          split at hd
          · rename_i hh; rw [if_pos hh]
          · omega
      · exact chars_rune f _ (okB_drop h _) c hc
theorem mend_all (s : ByteArray) : allRune ((chr s).map mendI) := by
  intro c hc
  obtain ⟨x, hx, rfl⟩ := List.mem_map.1 hc
  unfold mendI
  rcases chars_rune _ _ (okB_bytesOf s) x hx with rfl | h
  · exact ⟨by decide, by decide, by decide⟩
  · rw [if_neg (by have := h.1; omega)]; exact h
theorem mend_eq (l : List Int) (h : l.length ≤ 35184372088000) : utf_Mend.f l = some (txt ((chr (strOfNums l)).map mendI)) := by
  unfold utf_Mend.f txt
  rw [if_pos h, ← uitems_chr, List.map_map, List.flatMap_map]
  rfl
theorem mend_good {s : ByteArray} (h : good s) : (chr s).map mendI = chr s := by
  conv => rhs; rw [← List.map_id (chr s)]
  refine List.map_congr_left fun c hc => ?_
  unfold mendI
  rw [if_neg (by have := h c hc; omega)]
  rfl
theorem allRune_take {l : List Int} (h : allRune l) (n : Nat) : allRune (l.take n) := fun c hc => h c (List.mem_of_mem_take hc)
theorem allRune_drop {l : List Int} (h : allRune l) (n : Nat) : allRune (l.drop n) := fun c hc => h c (List.mem_of_mem_drop hc)
theorem uplace_in {n p : Int} (h0 : 0 ≤ p) (h1 : p ≤ n) : uplace n p = p := by unfold uplace; rw [if_neg (by omega), if_neg (by omega)]
/-- utf.Slice, within bounds. -/
theorem slice_eq (k : Nat) (s : ByteArray) (hs : s.size ≤ 17592186044416) (hk : s.size + 4 ≤ k) (hg : good s) (a b : Nat) (hab : a ≤ b) (hb : b ≤ (chr s).length) :
    utf_Slice.f k s a b = some (txt (((chr s).take b).drop a), 0) := by
  have hl := chr_len s
  unfold utf_Slice.f
  rw [runes_eq s (by omega), if_pos hg]
  simp only [Option.bind_some, if_true]
  rw [bounds_eq _ _ _ (by omega) (by omega), uplace_in (by omega) (by omega), uplace_in (by omega) (by omega)]
  simp only [Option.bind_some]
  rw [show max (b : Int) (a : Int) = b by omega, if_pos (by omega), if_pos (by omega), if_pos (by omega), Int.toNat_natCast, Int.toNat_natCast, text_eq _ (by rw [List.length_drop, List.length_take]; omega) k (by rw [List.length_drop, List.length_take]; omega)]
  unfold textR
  rw [if_pos (allRune_drop (allRune_take (good_enc hg).1 _) _)]
  rfl
theorem txt_app (a b : List Int) : txt (a ++ b) = txt a ++ txt b := by
  unfold txt strOfNums
  rw [List.flatMap_append, List.map_append]
  apply ByteArray.ext
  simp
end Go.Proofs.YthekpajbffjfmaaDoor.P
namespace Go.Proofs.YthekpajbffjfmaaDoor.Pure
set_option linter.unusedVariables false
set_option linter.unusedSimpArgs false
open Go.Proofs.YthekpajbffjfmaaDoor.P Go.RowKit
theorem UtfMakes (l0 : List Int) (a1 a2 a3 : Int) (hl : l0.length * 8 ≤ 140737488351232) (hw : ∀ x ∈ l0, (Lit.int .i64 x).wf = true) (h1 : (Lit.int .i64 a1).wf = true) (h2 : (Lit.int .i64 a2).wf = true) (h3 : (Lit.int .i64 a3).wf = true) :
    ∃ k, bolterlaw04_UtfMakes.f k l0 a1 a2 a3 = some true := by
  have b2 := bounds_i64 h2
  have b3 := bounds_i64 h3
  have t1 := @tm_bd a1 5000 (by decide)
  have hn : ∃ n : Int, Int.tmod (wrap64 ((Int.tmod a1 5000) + 5000)) 5000 = n ∧ 0 ≤ n ∧ n < 5000 := by
    refine ⟨_, rfl, ?_⟩
    rw [w64 _ (by omega), tm_nn (by omega)]
    omega
  obtain ⟨n, e, hn0, hn1⟩ := hn
  refine ⟨l0.length + 10, ?_⟩
  unfold bolterlaw04_UtfMakes.f bolterplain_CopyInts.f
  rw [if_pos (by simp; omega)]
  simp only [List.nil_append, Option.bind_some]
  rw [text_eq l0 (by omega) _ (by omega), reftext_eq l0 (by omega) _ (by omega), e, bounds_eq _ _ _ hn0 (by omega), refbounds_eq _ (by omega) _ _ _ hn0 (by omega) b2 b3, same_eq _ _ (by omega) _ (by omega), alive_eq _ (by omega)]
  simp only [Option.bind_some, if_true, bolterlaw04_num.f, decide_true]
theorem UtfMends (l0 : List Int) (hl : l0.length ≤ 1048576) (hw : ∀ x ∈ l0, (Lit.int .u8 x).wf = true) : ∃ k, bolterlaw04_UtfMends.f k l0 = some true := by
  have hz : (strOfNums l0).size = l0.length := strOfNums_size l0
  have hM := mend_all (strOfNums l0)
  have hs1 := txt_size ((chr (strOfNums l0)).map mendI)
  have hs2 := chr_len (strOfNums l0)
  rw [List.length_map] at hs1
  refine ⟨10, ?_⟩
  unfold bolterlaw04_UtfMends.f bolterplain_CopyBytes.f
  rw [alive_eq _ (by omega), if_pos (by simp; omega)]
  simp only [List.nil_append, Option.bind_some, if_true]
  rw [mend_eq l0 (by omega)]
  simp only [Option.bind_some]
  obtain ⟨p, hp⟩ := check_eq (txt ((chr (strOfNums l0)).map mendI)) (by omega)
  obtain ⟨q, hq⟩ := check_eq (strOfNums l0) (by omega)
  rw [hp, hq, if_pos (good_txt hM)]
  simp only [Option.bind_some, bolterlaw04_num.f, if_true, bolterplain_SameBytes.f, beq_self_eq_true]
  by_cases hg : good (strOfNums l0)
  · rw [if_pos hg, mend_good hg, txt_chr hg]; simp
  · rw [if_neg hg]; simp
theorem UtfCuts (a0 : ByteArray) (a1 : Int) (h0 : a0.size ≤ 1048576) (h1 : (Lit.int .i64 a1).wf = true) : ∃ k, bolterlaw04_UtfCuts.f k a0 a1 = some true := by
  have b1 := bounds_i64 h1
  have hc := chr_len a0
  refine ⟨a0.size + 10, ?_⟩
  unfold bolterlaw04_UtfCuts.f
  rw [alive_eq _ (by omega), count_eq a0 (by omega)]
  simp only [Option.bind_some, if_true, bolterlaw04_num.f]
  by_cases hg : good a0
  · rw [if_pos hg]
    simp only [if_true]
    rw [w64 ((chr a0).length + 1) (by omega), if_neg (by omega)]
    have tb := @tm_bd a1 ((chr a0).length + 1) (by omega)
    have hm : ∃ m : Nat, Int.tmod (wrap64 ((wrap64 ((Int.tmod a1 (((chr a0).length : Int) + 1)) + (chr a0).length)) + 1)) (((chr a0).length : Int) + 1) = m ∧ m ≤ (chr a0).length := by
      rw [w64 (Int.tmod a1 (((chr a0).length : Int) + 1) + (chr a0).length) (by omega), w64 (Int.tmod a1 (((chr a0).length : Int) + 1) + (chr a0).length + 1) (by omega), tm_nn (by omega)]
      have g1 := Int.emod_nonneg (Int.tmod a1 (((chr a0).length : Int) + 1) + (chr a0).length + 1) (show ((chr a0).length : Int) + 1 ≠ 0 by omega)
      have g2 := Int.emod_lt_of_pos (Int.tmod a1 (((chr a0).length : Int) + 1) + (chr a0).length + 1) (show 0 < ((chr a0).length : Int) + 1 by omega)
      exact ⟨_, (Int.toNat_of_nonneg g1).symm, by omega⟩
    obtain ⟨m, e, hm⟩ := hm
    rw [e]
    have s1 := slice_eq (a0.size + 10) a0 (by omega) (by omega) hg 0 m (by omega) hm
    have s2 := slice_eq (a0.size + 10) a0 (by omega) (by omega) hg m (chr a0).length hm (Nat.le_refl _)
    rw [show ((0 : Nat) : Int) = 0 from rfl] at s1
    rw [s1, s2]
    simp only [Option.bind_some, List.drop_zero, List.take_length]
    have r1 := allRune_take (good_enc hg).1 m
    have z1 := txt_size ((chr a0).take m)
    have z2 := txt_size ((chr a0).drop m)
    rw [List.length_take] at z1
    rw [List.length_drop] at z2
    rw [count_eq _ (by omega), if_pos (good_txt r1), chr_txt r1]
    simp only [Option.bind_some]
    rw [if_pos (by decide +kernel), if_pos (by omega), ← txt_app, List.take_append_drop, txt_chr hg, if_pos rfl, List.length_take]
    simp
    omega
  · rw [if_neg hg]
    simp
end Go.Proofs.YthekpajbffjfmaaDoor.Pure

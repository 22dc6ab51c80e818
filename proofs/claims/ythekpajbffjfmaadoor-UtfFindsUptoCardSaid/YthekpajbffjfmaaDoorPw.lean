/- UtfFinds: the pure statement. -/
import Derived.Test.YthekpajbffjfmaaDoorPv
import Derived.Test.YthekpajbffjfmaaDoorPx7
import Derived.Test.YthekpajbffjfmaaDoorPx8
namespace Go.Proofs.YthekpajbffjfmaaDoor.P
set_option linter.unusedVariables false
set_option linter.unusedSimpArgs false
open Go.RowKit Go.Proofs.YthekpajbffjfmaaDoorW.PrintWords Go.Proofs.YthekpajbffjfmaaDoorW.PrintMore
theorem equal_loop (xs ys : List Int) (hx : xs.length ≤ 1152921504606846976) (hl : xs.length = ys.length) : ∀ (m n k : Nat), n + m = xs.length → m + 1 ≤ k →
    slices_Equal_int_int.l0 k xs ys xs.length n = some (decide (xs.drop n = ys.drop n))
  | 0, n, k, hn, hk => by
    obtain ⟨k, rfl⟩ : ∃ j, k = j + 1 := ⟨k - 1, by omega⟩
    unfold slices_Equal_int_int.l0
    rw [if_neg (by omega), List.drop_of_length_le (by omega), List.drop_of_length_le (by omega)]
    simp
  | m + 1, n, k, hn, hk => by
    obtain ⟨k, rfl⟩ : ∃ j, k = j + 1 := ⟨k - 1, by omega⟩
    unfold slices_Equal_int_int.l0
    rw [if_pos (by omega), if_pos (by omega), if_pos (by omega), if_pos (by omega), drop_rd (show n < xs.length by omega), drop_rd (show n < ys.length by omega)]
    by_cases hr : rd xs n = rd ys n
    · rw [if_pos hr, w64 _ (by omega), show ((n : Int) + 1) = ((n + 1 : Nat) : Int) by omega, equal_loop xs ys hx hl m (n + 1) k (by omega) (by omega), hr]
      simp
    · rw [if_neg hr]
      simp [hr]
theorem equal_eq (xs ys : List Int) (hx : xs.length ≤ 1152921504606846976) (k : Nat) (hk : xs.length + 1 ≤ k) : slices_Equal_int_int.f k xs ys = some (decide (xs = ys)) := by
  unfold slices_Equal_int_int.f
  by_cases hl : xs.length = ys.length
  · rw [if_pos (by omega), show (0 : Int) = ((0 : Nat) : Int) from rfl, equal_loop xs ys hx hl xs.length 0 k (by omega) (by omega)]
    simp
  · rw [if_neg (by omega), decide_eq_false (fun e => hl (by rw [e]))]
/-- Does b stand in a, at n? -/
def hit (a b : List Int) (n : Nat) : Prop := n + b.length ≤ a.length ∧ (a.take (n + b.length)).drop n = b
instance (a b : List Int) (n : Nat) : Decidable (hit a b n) := by unfold hit; infer_instance
/-- Where, from n on, for m places. -/
def occF (a b : List Int) : Nat → Nat → List Int
  | _, 0 => []
  | n, m + 1 => if hit a b n then (n : Int) :: occF a b (n + 1) m else occF a b (n + 1) m
theorem find_loop (a b : List Int) (ha : a.length ≤ 17592186044415) (hb : b.length ≤ 17592186044415) : ∀ (m n k : Nat) (acc : List Int), n + m = a.length → m + b.length + 3 ≤ k → acc.length + m ≤ 17592186044415 →
    utf_Find.l0 k a b acc a.length n = some (acc ++ occF a b n m, 0)
  | 0, n, k, acc, hn, hk, hacc => by
    obtain ⟨k, rfl⟩ : ∃ j, k = j + 1 := ⟨k - 1, by omega⟩
    unfold utf_Find.l0
    rw [if_neg (by omega)]
    simp [occF]
  | m + 1, n, k, acc, hn, hk, hacc => by
    obtain ⟨k, rfl⟩ : ∃ j, k = j + 1 := ⟨k - 1, by omega⟩
    unfold utf_Find.l0 occF
    rw [if_pos (by omega), w64 _ (by omega), w64 _ (by omega), w64 _ (by omega)]
    by_cases h1 : n + b.length ≤ a.length
    · rw [if_pos (by omega), if_pos (by omega), if_pos (by omega), if_pos (by omega), show ((n : Int) + (b.length : Int)).toNat = n + b.length by omega, Int.toNat_natCast, equal_eq _ _ (by rw [List.length_drop, List.length_take]; omega) k (by rw [List.length_drop, List.length_take]; omega)]
      simp only [Option.bind_some]
      by_cases h2 : (a.take (n + b.length)).drop n = b
      · rw [decide_eq_true h2, if_pos rfl, if_pos (by omega), if_pos ⟨h1, h2⟩, show ((n : Int) + 1) = ((n + 1 : Nat) : Int) by omega, find_loop a b ha hb m (n + 1) k _ (by omega) (by omega) (by rw [List.length_append]; simp; omega)]
        simp
      · rw [decide_eq_false h2, if_neg (by simp), if_neg (fun h => h2 h.2), show ((n : Int) + 1) = ((n + 1 : Nat) : Int) by omega, find_loop a b ha hb m (n + 1) k _ (by omega) (by omega) (by omega)]
    · rw [if_neg (by omega), if_neg (fun h => h1 h.1), show ((n : Int) + 1) = ((n + 1 : Nat) : Int) by omega, find_loop a b ha hb m (n + 1) k _ (by omega) (by omega) (by omega)]
/-- Where a text stands in another one. -/
def findR (s t : ByteArray) : List Int × Int := if good s ∧ good t then (if chr t = [] then ([], 0) else (occF (chr s) (chr t) 0 (chr s).length, 0)) else ([], 61)
theorem find_eq (k : Nat) (s t : ByteArray) (hs : s.size ≤ 17592186044415) (ht : t.size ≤ 17592186044415) (hk : s.size + t.size + 5 ≤ k) : utf_Find.f k s t = some (findR s t) := by
  obtain ⟨k, rfl⟩ : ∃ j, k = j + 1 := ⟨k - 1, by omega⟩
  have ls := chr_len s
  have lt := chr_len t
  unfold utf_Find.f findR
  rw [runes_eq s (by omega), runes_eq t (by omega)]
  simp only [Option.bind_some]
  by_cases gs : good s
  · rw [if_pos gs]
    simp only [if_true]
    by_cases gt : good t
    · have hy : good s ∧ good t := ⟨gs, gt⟩
      simp only [if_pos gt, if_pos hy, if_true]
      by_cases h0 : chr t = []
      · rw [if_pos h0, h0]
        simp [utf_Find.j0]
      · have hp := List.length_pos_iff.2 h0
        rw [if_neg h0]
        simp only [utf_Find.j0]
        have hfl : utf_Find.l0 k (chr s) (chr t) [] (chr s).length 0 = some ([] ++ occF (chr s) (chr t) 0 (chr s).length, 0) := find_loop _ _ (by omega) (by omega) (chr s).length 0 k [] (by omega) (by omega) (by simp; omega)
        rw [if_neg (by simp; exact h0), hfl]
        rfl
    · have hn : ¬ (good s ∧ good t) := fun h => gt h.2
      simp only [if_neg gt, if_neg hn]
      simp [utf_Find.j0]
  · have hn : ¬ (good s ∧ good t) := fun h => gs h.1
    simp only [if_neg gs, if_neg hn]
    simp
theorem mem_occF (a b : List Int) (x : Int) : ∀ (m n : Nat), x ∈ occF a b n m ↔ ∃ j : Nat, x = j ∧ n ≤ j ∧ j < n + m ∧ hit a b j
  | 0, n => by simp [occF]; omega
  | m + 1, n => by
    have ih := mem_occF a b x m (n + 1)
    unfold occF
    by_cases h : hit a b n
    · rw [if_pos h, List.mem_cons, ih]
      constructor
      · rintro (rfl | ⟨j, rfl, h1, h2, h3⟩)
        · exact ⟨n, rfl, by omega, by omega, h⟩
        · exact ⟨j, rfl, by omega, by omega, h3⟩
      · rintro ⟨j, rfl, h1, h2, h3⟩
        by_cases hj : j = n
        · subst hj; exact .inl rfl
        · exact .inr ⟨j, rfl, by omega, by omega, h3⟩
    · rw [if_neg h, ih]
      constructor
      · rintro ⟨j, rfl, h1, h2, h3⟩
        exact ⟨j, rfl, by omega, by omega, h3⟩
      · rintro ⟨j, rfl, h1, h2, h3⟩
        by_cases hj : j = n
        · subst hj; exact absurd h3 h
        · exact ⟨j, rfl, by omega, by omega, h3⟩
theorem occF_asc (a b : List Int) : ∀ (m n : Nat), (occF a b n m).Pairwise (· < ·)
  | 0, n => by simp [occF]
  | m + 1, n => by
    have ih := occF_asc a b m (n + 1)
    unfold occF
    by_cases h : hit a b n
    · rw [if_pos h, List.pairwise_cons]
      refine ⟨fun x hx => ?_, ih⟩
      obtain ⟨j, rfl, h1, _⟩ := (mem_occF a b x m (n + 1)).1 hx
      omega
    · rw [if_neg h]; exact ih
theorem rd_mem {l : List Int} {n : Nat} (h : n < l.length) : rd l n ∈ l := by
  unfold rd
  rw [Int.toNat_natCast, List.getD_eq_getElem?_getD, List.getElem?_eq_getElem h]
  exact List.getElem_mem h
theorem rd_asc {l : List Int} (hp : l.Pairwise (· < ·)) {n : Nat} (h : n + 1 < l.length) : rd l n < rd l ((n + 1 : Nat) : Int) := by
  unfold rd
  rw [Int.toNat_natCast, Int.toNat_natCast, List.getD_eq_getElem?_getD, List.getD_eq_getElem?_getD, List.getElem?_eq_getElem h, List.getElem?_eq_getElem (show n < l.length by omega)]
  exact List.pairwise_iff_getElem.1 hp n (n + 1) (by omega) h (by omega)
theorem finds_loop (K : Nat) (s t : ByteArray) (l : List Int) (A : Int) (hs : s.size ≤ 17592186044415) (hg : good s) (ht : good t) (hl : l.length ≤ 17592186044415) (hK : s.size + 4 ≤ K)
    (hh : ∀ x ∈ l, ∃ j : Nat, x = j ∧ hit (chr s) (chr t) j) (hp : l.Pairwise (· < ·)) : ∀ (m n k : Nat) (found : Bool), n + m = l.length → m + K ≤ k →
    bolterlaw04_UtfFinds.l0 (k + 1) t s l A (chr t).length 0 found n = some (found || decide (A ∈ l.drop n))
  | 0, n, k, found, hn, hk => by
    unfold bolterlaw04_UtfFinds.l0
    rw [if_neg (by omega), List.drop_of_length_le (by omega)]
    simp [bolterlaw04_num.f]
  | m + 1, n, k, found, hn, hk => by
    obtain ⟨k, rfl⟩ : ∃ j, k = j + 1 := ⟨k - 1, by omega⟩
    have hc := chr_len s
    have ih := fun f : Bool => finds_loop K s t l A hs hg ht hl hK hh hp m (n + 1) k f
    unfold bolterlaw04_UtfFinds.l0
    obtain ⟨j, hj, hj1, hj2⟩ := hh _ (rd_mem (show n < l.length by omega))
    rw [if_pos (by omega), if_pos (by omega), drop_rd (show n < l.length by omega), hj, w64 ((j : Int) + (chr t).length) (by omega), show ((j : Int) + (chr t).length) = ((j + (chr t).length : Nat) : Int) by omega, slice_eq _ s (by omega) (by omega) hg j _ (by omega) hj1, hj2, txt_chr ht]
    simp only [Option.bind_some, bolterlaw04_num.f, if_true]
    rw [w64 ((n : Int) + 1) (by omega), show ((n : Int) + 1) = ((n + 1 : Nat) : Int) by omega, ih true (by omega) (by omega), ih _ (by omega) (by omega)]
    have hm : (A ∈ (j : Int) :: l.drop (n + 1)) ↔ (j : Int) = A ∨ A ∈ l.drop (n + 1) := by rw [List.mem_cons]; constructor <;> rintro (h | h) <;> first | exact .inl h.symm | exact .inr h
    have hfin : (if found = true then some (true || decide (A ∈ l.drop (n + 1))) else some ((((j : Int) == A)) || decide (A ∈ l.drop (n + 1)))) = some (found || decide (A ∈ (j : Int) :: l.drop (n + 1))) := by
      cases found
      · rw [if_neg (by simp)]
        by_cases h1 : (j : Int) = A
        · simp [h1]
        · by_cases h2 : A ∈ l.drop (n + 1)
          · simp [h2]
          · have h3 : ¬ (A = (j : Int)) := fun e => h1 e.symm
            simp [h1, h2, h3]
      · simp
    by_cases h0 : (n : Int) > 0
    · rw [if_pos h0, w64 _ (by omega), if_pos (by omega), if_pos (by omega)]
      obtain ⟨n', rfl⟩ : ∃ n', n = n' + 1 := ⟨n - 1, by omega⟩
      have ha := rd_asc hp (n := n') (by omega)
      rw [hj] at ha
      rw [show (((n' + 1 : Nat) : Int) - 1) = (n' : Int) by omega, if_neg (by omega)]
      exact hfin
    · rw [if_neg h0]
      exact hfin
theorem bytesOf_app (a b : ByteArray) : bytesOf (a ++ b) = bytesOf a ++ bytesOf b := by
  unfold bytesOf
  rw [ByteArray.data_append, Array.toList_append, List.map_append]
theorem app_size (a b : ByteArray) : (a ++ b).size = a.size + b.size := by
  have := congrArg List.length (bytesOf_app a b)
  rw [List.length_append, bytesOf_length, bytesOf_length, bytesOf_length] at this
  exact this
theorem occF_len (a b : List Int) : ∀ (m n : Nat), (occF a b n m).length ≤ m
  | 0, n => by simp [occF]
  | m + 1, n => by
    have := occF_len a b m (n + 1)
    unfold occF
    split
    · simp; omega
    · omega
end Go.Proofs.YthekpajbffjfmaaDoor.P
namespace Go.Proofs.YthekpajbffjfmaaDoor.Pure
set_option linter.unusedVariables false
set_option linter.unusedSimpArgs false
open Go.Proofs.YthekpajbffjfmaaDoor.P Go.RowKit Go.Proofs.YthekpajbffjfmaaDoorW.PrintWords
theorem UtfFinds (a0 a1 a2 : ByteArray) (h0 : a0.size ≤ 1048576) (h1 : a1.size ≤ 1048576) (h2 : a2.size ≤ 1048576) : ∃ k, bolterlaw04_UtfFinds.f k a0 a1 a2 = some true := by
  have z1 := app_size a0 a1
  have z2 := app_size (a0 ++ a1) a2
  have lc := chr_len (a0 ++ a1 ++ a2)
  have l0 := chr_len a0
  have l1 := chr_len a1
  obtain ⟨K, hK⟩ : ∃ K : Nat, K = 100000000 := ⟨_, rfl⟩
  refine ⟨K + 2, ?_⟩
  unfold bolterlaw04_UtfFinds.f
  rw [alive_eq _ (by omega)]
  simp only [Option.bind_some, if_true, bolterlaw04_num.f]
  rw [if_pos (by omega), if_pos (by omega), find_eq _ _ _ (by omega) (by omega) (by omega), count_eq a0 (by omega), count_eq a1 (by omega)]
  simp only [Option.bind_some]
  generalize hs : a0 ++ a1 ++ a2 = s at *
  by_cases gs : good s ∧ good a1
  · obtain ⟨gs, gt⟩ := gs
    have e1 : findR s a1 = (if chr a1 = [] then (([] : List Int), (0 : Int)) else (occF (chr s) (chr a1) 0 (chr s).length, 0)) := by unfold findR; rw [if_pos ⟨gs, gt⟩]
    have e2 : (if chr a1 = [] then (([] : List Int), (0 : Int)) else (occF (chr s) (chr a1) 0 (chr s).length, 0)).2 = 0 := by split <;> rfl
    rw [e1, e2, if_pos gt]
    simp only [if_true]
    by_cases g0 : good a0
    · rw [if_pos g0]
      simp only [if_true]
      by_cases he : chr a1 = []
      · rw [if_pos he, he]
        simp [bolterlaw04_UtfFinds.j0]
      · have hp := List.length_pos_iff.2 he
        rw [if_neg he]
        simp only [bolterlaw04_UtfFinds.j0]
        have hol := occF_len (chr s) (chr a1) (chr s).length 0
        have hfl : bolterlaw04_UtfFinds.l0 (K + 1) a1 s (occF (chr s) (chr a1) 0 (chr s).length) (chr a0).length (chr a1).length 0 false 0 = _ := finds_loop 60000000 s a1 _ _ (by omega) gs gt (by omega) (by omega) (fun x hx => by
          obtain ⟨j, e, _, _, h⟩ := (mem_occF _ _ x _ _).1 hx
          exact ⟨j, e, h⟩) (occF_asc _ _ _ _) (occF (chr s) (chr a1) 0 (chr s).length).length 0 K false (by omega) (by omega)
        rw [if_neg (by simp; exact he), hfl]
        have hb : bytesOf s = (chr a0 ++ chr a1).flatMap encR ++ bytesOf a2 := by
          rw [← hs, bytesOf_app, bytesOf_app, List.flatMap_append, (good_enc g0).2, (good_enc gt).2]
        obtain ⟨g, hg, _⟩ := chars_app (chr a0 ++ chr a1) (bytesOf a2) s.size (fun c hc => (List.mem_append.1 hc).elim ((good_enc g0).1 c) ((good_enc gt).1 c)) (by rw [← hb, bytesOf_length]; exact Nat.le_refl _)
        rw [← hb] at hg
        have hS : chr s = chr a0 ++ (chr a1 ++ chars g (bytesOf a2)) := by rw [← List.append_assoc]; exact hg
        have hmem : ((chr a0).length : Int) ∈ occF (chr s) (chr a1) 0 (chr s).length := by
          refine (mem_occF _ _ _ _ _).2 ⟨(chr a0).length, rfl, by omega, ?_, ?_, ?_⟩
          · rw [hS]; simp only [List.length_append]; omega
          · rw [hS]; simp only [List.length_append]; omega
          · rw [hS, List.take_length_add_append, List.drop_left, List.take_left]
        rw [List.drop_zero, decide_eq_true hmem]
        rfl
    · rw [if_neg g0]
      simp [bolterlaw04_UtfFinds.j0, bolterlaw04_num.f]
  · have e1 : findR s a1 = ([], 61) := by unfold findR; rw [if_neg gs]
    rw [e1]
    simp [bolterlaw04_UtfFinds.j0, bolterlaw04_num.f]
end Go.Proofs.YthekpajbffjfmaaDoor.Pure

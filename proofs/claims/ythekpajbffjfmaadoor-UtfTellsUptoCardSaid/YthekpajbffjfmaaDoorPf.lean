/- utf.Find: what it tells. -/
import Derived.Test.YthekpajbffjfmaaDoorPv
import Derived.Test.YthekpajbffjfmaaDoorPx7
namespace Go.Proofs.YthekpajbffjfmaaDoor.P
set_option linter.unusedVariables false
set_option linter.unusedSimpArgs false
open Go.RowKit Go.Proofs.YthekpajbffjfmaaDoorW.PrintWords Go.Proofs.YthekpajbffjfmaaDoorW.PrintMore
theorem equal_loop (xs ys : List Int) (hx : xs.length ≤ 1152921504606846976) (hl : xs.length = ys.length) : ∀ (m n k : Nat), n + m = xs.length → m + 1 ≤ k →
    slices_Equal_int_int.l0 k xs ys xs.length n = some (decide (xs.drop n = ys.drop n))
  | 0, n, k, hn, hk => by
    obtain ⟨k, rfl⟩ : ∃ j, k = j + 1 := ⟨k - 1, by omega⟩
    unfold slices_Equal_int_int.l0
    rw [if_neg (by omega), List.drop_of_length_le (by omega), List.drop_of_length_le (by omega)]
    simp
  | m + 1, n, k, hn, hk => by
    obtain ⟨k, rfl⟩ : ∃ j, k = j + 1 := ⟨k - 1, by omega⟩
    unfold slices_Equal_int_int.l0
    rw [if_pos (by omega), if_pos (by omega), if_pos (by omega), if_pos (by omega), drop_rd (show n < xs.length by omega), drop_rd (show n < ys.length by omega)]
    by_cases hr : rd xs n = rd ys n
    · rw [if_pos hr, w64 _ (by omega), show ((n : Int) + 1) = ((n + 1 : Nat) : Int) by omega, equal_loop xs ys hx hl m (n + 1) k (by omega) (by omega), hr]
      simp
    · rw [if_neg hr]
      simp [hr]
theorem equal_eq (xs ys : List Int) (hx : xs.length ≤ 1152921504606846976) (k : Nat) (hk : xs.length + 1 ≤ k) : slices_Equal_int_int.f k xs ys = some (decide (xs = ys)) := by
  unfold slices_Equal_int_int.f
  by_cases hl : xs.length = ys.length
  · rw [if_pos (by omega), show (0 : Int) = ((0 : Nat) : Int) from rfl, equal_loop xs ys hx hl xs.length 0 k (by omega) (by omega)]
    simp
  · rw [if_neg (by omega), decide_eq_false (fun e => hl (by rw [e]))]
/-- Does b stand in a, at n? -/
def hit (a b : List Int) (n : Nat) : Prop := n + b.length ≤ a.length ∧ (a.take (n + b.length)).drop n = b
instance (a b : List Int) (n : Nat) : Decidable (hit a b n) := by unfold hit; infer_instance
/-- Where, from n on, for m places. -/
def occF (a b : List Int) : Nat → Nat → List Int
  | _, 0 => []
  | n, m + 1 => if hit a b n then (n : Int) :: occF a b (n + 1) m else occF a b (n + 1) m
theorem find_loop (a b : List Int) (ha : a.length ≤ 17592186044415) (hb : b.length ≤ 17592186044415) : ∀ (m n k : Nat) (acc : List Int), n + m = a.length → m + b.length + 3 ≤ k → acc.length + m ≤ 17592186044415 →
    utf_Find.l0 k a b acc a.length n = some (acc ++ occF a b n m, 0)
  | 0, n, k, acc, hn, hk, hacc => by
    obtain ⟨k, rfl⟩ : ∃ j, k = j + 1 := ⟨k - 1, by omega⟩
    unfold utf_Find.l0
    rw [if_neg (by omega)]
    simp [occF]
  | m + 1, n, k, acc, hn, hk, hacc => by
    obtain ⟨k, rfl⟩ : ∃ j, k = j + 1 := ⟨k - 1, by omega⟩
    unfold utf_Find.l0 occF
    rw [if_pos (by omega), w64 _ (by omega), w64 _ (by omega), w64 _ (by omega)]
    by_cases h1 : n + b.length ≤ a.length
    · rw [if_pos (by omega), if_pos (by omega), if_pos (by omega), if_pos (by omega), show ((n : Int) + (b.length : Int)).toNat = n + b.length by omega, Int.toNat_natCast, equal_eq _ _ (by rw [List.length_drop, List.length_take]; omega) k (by rw [List.length_drop, List.length_take]; omega)]
      simp only [Option.bind_some]
      by_cases h2 : (a.take (n + b.length)).drop n = b
      · rw [decide_eq_true h2, if_pos rfl, if_pos (by omega), if_pos ⟨h1, h2⟩, show ((n : Int) + 1) = ((n + 1 : Nat) : Int) by omega, find_loop a b ha hb m (n + 1) k _ (by omega) (by omega) (by rw [List.length_append]; simp; omega)]
        simp
      · rw [decide_eq_false h2, if_neg (by simp), if_neg (fun h => h2 h.2), show ((n : Int) + 1) = ((n + 1 : Nat) : Int) by omega, find_loop a b ha hb m (n + 1) k _ (by omega) (by omega) (by omega)]
    · rw [if_neg (by omega), if_neg (fun h => h1 h.1), show ((n : Int) + 1) = ((n + 1 : Nat) : Int) by omega, find_loop a b ha hb m (n + 1) k _ (by omega) (by omega) (by omega)]
/-- Where a text stands in another one. -/
def findR (s t : ByteArray) : List Int × Int := if good s ∧ good t then (if chr t = [] then ([], 0) else (occF (chr s) (chr t) 0 (chr s).length, 0)) else ([], 61)
theorem find_eq (k : Nat) (s t : ByteArray) (hs : s.size ≤ 17592186044415) (ht : t.size ≤ 17592186044415) (hk : s.size + t.size + 5 ≤ k) : utf_Find.f k s t = some (findR s t) := by
  obtain ⟨k, rfl⟩ : ∃ j, k = j + 1 := ⟨k - 1, by omega⟩
  have ls := chr_len s
  have lt := chr_len t
  unfold utf_Find.f findR
  rw [runes_eq s (by omega), runes_eq t (by omega)]
  simp only [Option.bind_some]
  by_cases gs : good s
  · rw [if_pos gs]
    simp only [if_true]
    by_cases gt : good t
    · have hy : good s ∧ good t := ⟨gs, gt⟩
      simp only [if_pos gt, if_pos hy, if_true]
      by_cases h0 : chr t = []
      · rw [if_pos h0, h0]
        simp [utf_Find.j0]
      · have hp := List.length_pos_iff.2 h0
        rw [if_neg h0]
        simp only [utf_Find.j0]
        have hfl : utf_Find.l0 k (chr s) (chr t) [] (chr s).length 0 = some ([] ++ occF (chr s) (chr t) 0 (chr s).length, 0) := find_loop _ _ (by omega) (by omega) (chr s).length 0 k [] (by omega) (by omega) (by simp; omega)
        rw [if_neg (by simp; exact h0), hfl]
        rfl
    · have hn : ¬ (good s ∧ good t) := fun h => gt h.2
      simp only [if_neg gt, if_neg hn]
      simp [utf_Find.j0]
  · have hn : ¬ (good s ∧ good t) := fun h => gs h.1
    simp only [if_neg gs, if_neg hn]
    simp
theorem mem_occF (a b : List Int) (x : Int) : ∀ (m n : Nat), x ∈ occF a b n m ↔ ∃ j : Nat, x = j ∧ n ≤ j ∧ j < n + m ∧ hit a b j
  | 0, n => by simp [occF]; omega
  | m + 1, n => by
    have ih := mem_occF a b x m (n + 1)
    unfold occF
    by_cases h : hit a b n
    · rw [if_pos h, List.mem_cons, ih]
      constructor
      · rintro (rfl | ⟨j, rfl, h1, h2, h3⟩)
        · exact ⟨n, rfl, by omega, by omega, h⟩
        · exact ⟨j, rfl, by omega, by omega, h3⟩
      · rintro ⟨j, rfl, h1, h2, h3⟩
        by_cases hj : j = n
        · subst hj; exact .inl rfl
        · exact .inr ⟨j, rfl, by omega, by omega, h3⟩
    · rw [if_neg h, ih]
      constructor
      · rintro ⟨j, rfl, h1, h2, h3⟩
        exact ⟨j, rfl, by omega, by omega, h3⟩
      · rintro ⟨j, rfl, h1, h2, h3⟩
        by_cases hj : j = n
        · subst hj; exact absurd h3 h
        · exact ⟨j, rfl, by omega, by omega, h3⟩
theorem occF_asc (a b : List Int) : ∀ (m n : Nat), (occF a b n m).Pairwise (· < ·)
  | 0, n => by simp [occF]
  | m + 1, n => by
    have ih := occF_asc a b m (n + 1)
    unfold occF
    by_cases h : hit a b n
    · rw [if_pos h, List.pairwise_cons]
      refine ⟨fun x hx => ?_, ih⟩
      obtain ⟨j, rfl, h1, _⟩ := (mem_occF a b x m (n + 1)).1 hx
      omega
    · rw [if_neg h]; exact ih
theorem rd_mem {l : List Int} {n : Nat} (h : n < l.length) : rd l n ∈ l := by
  unfold rd
  rw [Int.toNat_natCast, List.getD_eq_getElem?_getD, List.getElem?_eq_getElem h]
  exact List.getElem_mem h
theorem rd_asc {l : List Int} (hp : l.Pairwise (· < ·)) {n : Nat} (h : n + 1 < l.length) : rd l n < rd l ((n + 1 : Nat) : Int) := by
  unfold rd
  rw [Int.toNat_natCast, Int.toNat_natCast, List.getD_eq_getElem?_getD, List.getD_eq_getElem?_getD, List.getElem?_eq_getElem h, List.getElem?_eq_getElem (show n < l.length by omega)]
  exact List.pairwise_iff_getElem.1 hp n (n + 1) (by omega) h (by omega)
theorem bytesOf_app (a b : ByteArray) : bytesOf (a ++ b) = bytesOf a ++ bytesOf b := by
  unfold bytesOf
  rw [ByteArray.data_append, Array.toList_append, List.map_append]
theorem app_size (a b : ByteArray) : (a ++ b).size = a.size + b.size := by
  have := congrArg List.length (bytesOf_app a b)
  rw [List.length_append, bytesOf_length, bytesOf_length, bytesOf_length] at this
  exact this
theorem occF_len (a b : List Int) : ∀ (m n : Nat), (occF a b n m).length ≤ m
  | 0, n => by simp [occF]
  | m + 1, n => by
    have := occF_len a b m (n + 1)
    unfold occF
    split
    · simp; omega
    · omega
end Go.Proofs.YthekpajbffjfmaaDoor.P

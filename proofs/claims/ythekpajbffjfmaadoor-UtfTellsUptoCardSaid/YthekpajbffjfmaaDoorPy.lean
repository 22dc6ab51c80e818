/- UtfTells: the pure statement. -/
import Derived.Test.YthekpajbffjfmaaDoorPf
import Derived.Test.YthekpajbffjfmaaDoorPx50
namespace Go.Proofs.YthekpajbffjfmaaDoor.P
set_option linter.unusedVariables false
set_option linter.unusedSimpArgs false
open Go.RowKit Go.Proofs.YthekpajbffjfmaaDoorW.PrintWords Go.Proofs.YthekpajbffjfmaaDoorW.PrintMore
theorem bytesOf_inj {a b : ByteArray} (h : bytesOf a = bytesOf b) : a = b := by rw [← str_bytesOf a, h, str_bytesOf]
theorem toL_inj {a b : ByteArray} : a.toList = b.toList ↔ a = b := by
  rw [ByteArray.toList_eq, ByteArray.toList_eq]
  exact ⟨fun h => ByteArray.ext (Array.toList_inj.mp h), fun h => by rw [h]⟩
theorem str_eq {l : List Int} (h : okB l) (t : ByteArray) : (strOfNums l).toList = t.toList ↔ l = bytesOf t := by
  rw [toL_inj]
  constructor
  · intro e; rw [← e, bytesOf_str h]
  · intro e; rw [e, str_bytesOf]
theorem bytesOf_cut (s : ByteArray) (i j : Nat) : bytesOf (s.extract i j) = ((bytesOf s).drop i).take (j - i) := by
  unfold bytesOf
  rw [ByteArray.data_extract, Array.toList_extract]
  simp [List.extract_eq_take_drop, List.map_take, List.map_drop]
theorem bt_bytes (s : ByteArray) (i : Nat) : bt s i = (bytesOf s).getD i 0 := by
  rw [← rd_bytesOf]; unfold rd; rw [Int.toNat_natCast]
theorem first_end (k : Nat) (s : ByteArray) (n : Int) (z : Nat) (hz : z ≤ s.size) :
    bolterref04_First.l0 (k + 1) s n z z = some (if rune n ∧ encR n = (bytesOf s).take z then (n, (z : Int)) else (0, 0)) := by
  unfold bolterref04_First.l0
  rw [if_neg (by omega), refmay_eq]
  simp only [Option.bind_some]
  by_cases hr : rune n
  · rw [decide_eq_true hr, if_pos rfl, octets_eq hr]
    simp only [Option.bind_some]
    rw [if_pos (by omega), if_pos (by omega), Int.toNat_natCast]
    have hx : (strOfNums (encR n)).toList = (s.extract 0 z).toList ↔ encR n = (bytesOf s).take z := by rw [str_eq (encR_okB hr), bytesOf_cut]; simp
    by_cases he : encR n = (bytesOf s).take z
    · have hy : rune n ∧ encR n = (bytesOf s).take z := ⟨hr, he⟩
      rw [if_pos (hx.2 he), if_pos hy]
    · have hy : ¬ (rune n ∧ encR n = (bytesOf s).take z) := fun h => he h.2
      rw [if_neg (fun h => he (hx.1 h)), if_neg hy]
  · rw [decide_eq_false hr, if_neg (by simp), if_neg (fun h => hr h.1)]
theorem first_step (k : Nat) (s : ByteArray) (n : Int) (z i : Nat) (hi : i < z) (hz : z ≤ s.size) (hz4 : z ≤ 4) (h0 : 0 ≤ n) (h1 : n ≤ 1099511627776) :
    bolterref04_First.l0 (k + 1) s n z i = bolterref04_First.l0 k s (n * 64 + (bytesOf s).getD i 0 % 64) z ((i + 1 : Nat) : Int) := by
  have hb := okB_getD (okB_bytesOf s) i
  rw [bolterref04_First.l0.eq_2, if_pos (by omega), if_pos (by omega), if_pos (by omega), bt_bytes, w64 ((bytesOf s).getD i 0) (by omega), tm_nn hb.1, w64 (n * 64) (by omega), w64 _ (by omega), w64 _ (by omega)]
  rfl
theorem first_spec {L : List Int} (h : okB L) (hn : L ≠ []) (n : Int) (z : Nat) (hu : ∀ c, rune c → encR c ++ L.drop (encR c).length = L → c = n ∧ (encR c).length = z) :
    (if z ≤ L.length ∧ rune n ∧ encR n = L.take z then (n, (z : Int)) else (0, 0)) = if 0 ≤ dc L then (dc L, (dn L : Int)) else (0, 0) := by
  by_cases hd : 0 ≤ dc L
  · obtain ⟨e1, e2, e3⟩ := enc_dec h hn hd
    rw [e3] at e2
    obtain ⟨u1, u2⟩ := hu _ e1 e2
    have hl := congrArg List.length e2
    rw [List.length_append] at hl
    rw [if_pos hd, if_pos, u1, e3, u2]
    refine ⟨by omega, u1 ▸ e1, ?_⟩
    have ht := congrArg (List.take (encR (dc L)).length) e2
    rw [List.take_left, u2, u1] at ht
    exact ht
  · rw [if_neg hd, if_neg]
    rintro ⟨h1, h2, h3⟩
    have e : encR n ++ L.drop z = L := by rw [h3, List.take_append_drop]
    have := (dec_enc h2 (L.drop z)).1
    rw [e] at this
    rw [this] at hd
    exact hd h2.1
theorem heads {L R : List Int} {c : Int} (h : encR c ++ R = L) :
    (c < 128 ∧ L.getD 0 0 = c ∧ (encR c).length = 1) ∨ (128 ≤ c ∧ c < 2048 ∧ L.getD 0 0 = 192 + c / 64 ∧ L.getD 1 0 = 128 + c % 64 ∧ (encR c).length = 2) ∨
    (2048 ≤ c ∧ c < 65536 ∧ L.getD 0 0 = 224 + c / 4096 ∧ L.getD 1 0 = 128 + c / 64 % 64 ∧ L.getD 2 0 = 128 + c % 64 ∧ (encR c).length = 3) ∨
    (65536 ≤ c ∧ L.getD 0 0 = 240 + c / 262144 ∧ L.getD 1 0 = 128 + c / 4096 % 64 ∧ L.getD 2 0 = 128 + c / 64 % 64 ∧ L.getD 3 0 = 128 + c % 64 ∧ (encR c).length = 4) := by
  rw [← h]
  unfold encR
  by_cases c1 : c < 128
  · rw [if_pos c1]; exact .inl ⟨c1, rfl, rfl⟩
  rw [if_neg c1]
  by_cases c2 : c < 2048
  · rw [if_pos c2]; exact .inr (.inl ⟨by omega, c2, rfl, rfl, rfl⟩)
  rw [if_neg c2]
  by_cases c3 : c < 65536
  · rw [if_pos c3]; exact .inr (.inr (.inl ⟨by omega, c3, rfl, rfl, rfl, rfl⟩))
  rw [if_neg c3]; exact .inr (.inr (.inr ⟨by omega, rfl, rfl, rfl, rfl, rfl⟩))
/-- The character that a text begins with. -/
def firstR (L : List Int) : Int × Int := if L ≠ [] ∧ 0 ≤ dc L then (dc L, (dn L : Int)) else (0, 0)
theorem first_eq (k : Nat) (hk : 8 ≤ k) (s : ByteArray) : bolterref04_First.f k s = some (firstR (bytesOf s)) := by
  obtain ⟨k, rfl⟩ : ∃ j, k = j + 1 + 1 + 1 + 1 + 1 := ⟨k - 5, by omega⟩
  have hlen := bytesOf_length s
  unfold bolterref04_First.f firstR
  by_cases h0 : s.size = 0
  · rw [if_pos (by omega), if_neg]
    rintro ⟨h, _⟩
    exact h (List.eq_nil_of_length_eq_zero (by omega))
  have hne : bytesOf s ≠ [] := by intro e; rw [e] at hlen; simp at hlen; omega
  rw [if_neg (by omega), if_pos (by omega), show (0 : Int) = ((0 : Nat) : Int) from rfl, bt_bytes]
  have hb := okB_bytesOf s
  have b0 := okB_getD hb 0
  have b1 := okB_getD hb 1
  have b2 := okB_getD hb 2
  have b3 := okB_getD hb 3
  rw [w64 ((bytesOf s).getD 0 0) (by omega), w64 ((bytesOf s).getD 0 0 - 240) (by omega), w64 ((bytesOf s).getD 0 0 - 224) (by omega), w64 ((bytesOf s).getD 0 0 - 192) (by omega)]
  have fin : ∀ (n : Int) (z : Nat), (∀ c, rune c → encR c ++ (bytesOf s).drop (encR c).length = bytesOf s → c = n ∧ (encR c).length = z) →
      ∀ r, (¬ z ≤ s.size → r = some ((0 : Int), (0 : Int))) → (z ≤ s.size → r = some (if rune n ∧ encR n = (bytesOf s).take z then (n, (z : Int)) else (0, 0))) →
      r = some (if bytesOf s ≠ [] ∧ 0 ≤ dc (bytesOf s) then (dc (bytesOf s), (dn (bytesOf s) : Int)) else (0, 0)) := by
    intro n z hu r r1 r2
    have e : (if bytesOf s ≠ [] ∧ 0 ≤ dc (bytesOf s) then (dc (bytesOf s), (dn (bytesOf s) : Int)) else ((0 : Int), (0 : Int))) = if 0 ≤ dc (bytesOf s) then (dc (bytesOf s), (dn (bytesOf s) : Int)) else (0, 0) := by simp [hne]
    rw [e, ← first_spec hb hne n z hu, hlen]
    by_cases hz : z ≤ s.size
    · rw [r2 hz]; simp [hz]
    · rw [r1 hz]; simp [hz]
  by_cases c4 : (bytesOf s).getD 0 0 ≥ 240
  · rw [if_pos c4]
    refine fin (((((bytesOf s).getD 0 0 - 240) * 64 + (bytesOf s).getD 1 0 % 64) * 64 + (bytesOf s).getD 2 0 % 64) * 64 + (bytesOf s).getD 3 0 % 64) 4 ?_ _ ?_ ?_
    · intro c hc hL
      have := hc.2.1
      rcases heads hL with h | h | h | h <;> omega
    · intro hz; rw [bolterref04_First.j0.eq_2, if_pos (by omega)]
    · intro hz
      rw [bolterref04_First.j0.eq_2, if_neg (by omega)]
      have s1 := first_step (k + 1 + 1 + 1) s ((bytesOf s).getD 0 0 - 240) 4 1 (by omega) hz (by omega) (by omega) (by omega)
      have s2 := first_step (k + 1 + 1) s (((bytesOf s).getD 0 0 - 240) * 64 + (bytesOf s).getD 1 0 % 64) 4 2 (by omega) hz (by omega) (by omega) (by omega)
      have s3 := first_step (k + 1) s ((((bytesOf s).getD 0 0 - 240) * 64 + (bytesOf s).getD 1 0 % 64) * 64 + (bytesOf s).getD 2 0 % 64) 4 3 (by omega) hz (by omega) (by omega) (by omega)
      exact s1.trans (s2.trans (s3.trans (first_end k s _ 4 hz)))
  rw [if_neg c4]
  by_cases c3 : (bytesOf s).getD 0 0 ≥ 224
  · rw [if_pos c3]
    refine fin ((((bytesOf s).getD 0 0 - 224) * 64 + (bytesOf s).getD 1 0 % 64) * 64 + (bytesOf s).getD 2 0 % 64) 3 ?_ _ ?_ ?_
    · intro c hc hL
      have := hc.2.1
      rcases heads hL with h | h | h | h <;> omega
    · intro hz; rw [bolterref04_First.j0.eq_2, if_pos (by omega)]
    · intro hz
      rw [bolterref04_First.j0.eq_2, if_neg (by omega)]
      have s1 := first_step (k + 1 + 1 + 1) s ((bytesOf s).getD 0 0 - 224) 3 1 (by omega) hz (by omega) (by omega) (by omega)
      have s2 := first_step (k + 1 + 1) s (((bytesOf s).getD 0 0 - 224) * 64 + (bytesOf s).getD 1 0 % 64) 3 2 (by omega) hz (by omega) (by omega) (by omega)
      exact s1.trans (s2.trans (first_end (k + 1) s _ 3 hz))
  rw [if_neg c3]
  by_cases c2 : (bytesOf s).getD 0 0 ≥ 192
  · rw [if_pos c2]
    refine fin (((bytesOf s).getD 0 0 - 192) * 64 + (bytesOf s).getD 1 0 % 64) 2 ?_ _ ?_ ?_
    · intro c hc hL
      have := hc.2.1
      rcases heads hL with h | h | h | h <;> omega
    · intro hz; rw [bolterref04_First.j0.eq_2, if_pos (by omega)]
    · intro hz
      rw [bolterref04_First.j0.eq_2, if_neg (by omega)]
      have s1 := first_step (k + 1 + 1 + 1) s ((bytesOf s).getD 0 0 - 192) 2 1 (by omega) hz (by omega) (by omega) (by omega)
      exact s1.trans (first_end (k + 1 + 1) s _ 2 hz)
  rw [if_neg c2]
  refine fin ((bytesOf s).getD 0 0) 1 ?_ _ ?_ ?_
  · intro c hc hL
    have := hc.2.1
    rcases heads hL with h | h | h | h <;> omega
  · intro hz; rw [bolterref04_First.j0.eq_2, if_pos (by omega)]
  · intro hz
    rw [bolterref04_First.j0.eq_2, if_neg (by omega)]
    exact first_end (k + 1 + 1 + 1) s _ 1 hz
/-! The loops of the page's answer -/
theorem cut_bytes (s : ByteArray) (p : Nat) : bytesOf (s.extract p s.size) = (bytesOf s).drop p := by
  rw [bytesOf_cut, List.take_of_length_le]
  rw [List.length_drop, bytesOf_length]
  omega
theorem firstR_ne {L : List Int} (h : L ≠ []) (hd : 0 ≤ dc L) : firstR L = (dc L, (dn L : Int)) := by unfold firstR; rw [if_pos ⟨h, hd⟩]
theorem firstR_bad {L : List Int} (hd : ¬ 0 ≤ dc L) : firstR L = (0, 0) := by unfold firstR; rw [if_neg (fun h => hd h.2)]
theorem drop_ne {s : ByteArray} {p : Nat} (h : p < s.size) : (bytesOf s).drop p ≠ [] := by
  intro e
  have := congrArg List.length e
  rw [List.length_drop, bytesOf_length, List.length_nil] at this
  omega
theorem bad_one {L : List Int} (hd : ¬ 0 ≤ dc L) : dn L = 1 ∧ dc L = -1 := by
  unfold dc at hd ⊢
  unfold dn
  split at hd
  · rename_i h; rw [if_pos h]; exact ⟨h.2, rfl⟩
  · omega
theorem un_fit {s : ByteArray} {p : Nat} (h : p < s.size) : p + dn ((bytesOf s).drop p) ≤ s.size := by rw [← un_dn]; exact un_le s p h
theorem refcheck_loop (s : ByteArray) (hs : s.size ≤ 17592186044415) : ∀ (f p k : Nat), p ≤ s.size → s.size - p ≤ f → f + 10 ≤ k →
    bolterref04_Check.l0 k s p = some (match checkL (uitems s f p) with | none => ((s.size : Int), 0) | some q => ((q : Int), 61))
  | 0, p, k, hp, hf, hk => by
    obtain ⟨k, rfl⟩ : ∃ j, k = j + 1 := ⟨k - 1, by omega⟩
    rw [bolterref04_Check.l0.eq_2, if_neg (by omega)]
    simp [uitems, checkL]
  | f + 1, p, k, hp, hf, hk => by
    obtain ⟨k, rfl⟩ : ∃ j, k = j + 1 := ⟨k - 1, by omega⟩
    rw [bolterref04_Check.l0.eq_2]
    unfold uitems
    by_cases h : p < s.size
    · rw [if_pos (by omega), if_pos (by omega), if_pos (by omega), if_pos h, Int.toNat_natCast, first_eq k (by omega), cut_bytes, uc_dc, un_dn]
      have h1 := un_fit h
      have h2 := dn_pos ((bytesOf s).drop p)
      simp only [Option.bind_some]
      by_cases hd : 0 ≤ dc ((bytesOf s).drop p)
      · rw [firstR_ne (drop_ne h) hd]
        simp only [checkL]
        rw [if_neg (by omega), if_neg (by omega), w64 _ (by omega), show ((p : Int) + (dn ((bytesOf s).drop p) : Int)) = ((p + dn ((bytesOf s).drop p) : Nat) : Int) by omega, refcheck_loop s hs f _ k h1 (by omega) (by omega)]
      · rw [firstR_bad hd]
        simp only [checkL, if_true]
        rw [if_pos (by omega)]
    · rw [if_neg (by omega), if_neg h]
      simp [checkL]
theorem refcheck_eq (s : ByteArray) (hs : s.size ≤ 17592186044415) (k : Nat) (hk : s.size + 10 ≤ k) : bolterref04_Check.f k s = utf_Check.f s := by
  unfold bolterref04_Check.f utf_Check.f
  have : bolterref04_Check.l0 k s 0 = _ := refcheck_loop s hs s.size 0 k (by omega) (by omega) (by omega)
  rw [if_pos (by omega), this]
  split <;> simp_all
theorem refrunes_loop (s : ByteArray) (hs : s.size ≤ 17592186044415) : ∀ (f p k : Nat) (acc : List Int), p ≤ s.size → s.size - p ≤ f → f + 10 ≤ k → acc.length + (s.size - p) ≤ 17592186044415 → (∀ c ∈ chars f ((bytesOf s).drop p), 0 ≤ c) →
    bolterref04_Runes.l0 k s acc p = some (acc ++ chars f ((bytesOf s).drop p), 0)
  | 0, p, k, acc, hp, hf, hk, ha, hg => by
    obtain ⟨k, rfl⟩ : ∃ j, k = j + 1 := ⟨k - 1, by omega⟩
    rw [bolterref04_Runes.l0.eq_2, if_neg (by omega)]
    simp [chars]
  | f + 1, p, k, acc, hp, hf, hk, ha, hg => by
    obtain ⟨k, rfl⟩ : ∃ j, k = j + 1 := ⟨k - 1, by omega⟩
    rw [bolterref04_Runes.l0.eq_2]
    unfold chars at hg ⊢
    by_cases h : p < s.size
    · rw [if_neg (drop_ne h)] at hg ⊢
      rw [if_pos (by omega), if_pos (by omega), if_pos (by omega), Int.toNat_natCast, first_eq k (by omega), cut_bytes]
      have h1 := un_fit h
      have h2 := dn_pos ((bytesOf s).drop p)
      have hd := hg _ List.mem_cons_self
      simp only [Option.bind_some]
      rw [firstR_ne (drop_ne h) hd, if_pos (by omega)]
      simp only
      rw [w64 _ (by omega), show ((p : Int) + (dn ((bytesOf s).drop p) : Int)) = ((p + dn ((bytesOf s).drop p) : Nat) : Int) by omega, List.drop_drop]
      rw [List.drop_drop] at hg
      rw [refrunes_loop s hs f _ k _ h1 (by omega) (by omega) (by rw [List.length_append]; simp; omega) (fun c hc => hg c (List.mem_cons_of_mem _ hc))]
      simp
    · have : (bytesOf s).drop p = [] := List.drop_of_length_le (by rw [bytesOf_length]; omega)
      rw [if_neg (by omega), if_pos this]
      simp
theorem refrunes_eq (s : ByteArray) (hs : s.size ≤ 17592186044415) (k : Nat) (hk : s.size + 10 ≤ k) : bolterref04_Runes.f k s = utf_Runes.f s := by
  rw [runes_eq s (by omega)]
  unfold bolterref04_Runes.f
  rw [refcheck_eq s hs k hk]
  obtain ⟨q, hq⟩ := check_eq s (by omega)
  rw [hq]
  by_cases hg : good s
  · rw [if_pos hg, if_pos hg]
    simp only [Option.bind_some, if_true]
    have : bolterref04_Runes.l0 k s [] 0 = _ := refrunes_loop s hs s.size 0 k [] (by omega) (by omega) (by omega) (by simp; omega) hg
    rw [this]
    rfl
  · rw [if_neg hg, if_neg hg]
    simp
theorem refcount_eq (s : ByteArray) (hs : s.size ≤ 17592186044415) (k : Nat) (hk : s.size + 10 ≤ k) : bolterref04_Count.f k s = utf_Count.f s := by
  unfold bolterref04_Count.f utf_Count.f
  rw [refrunes_eq s hs k hk]
theorem uplace_bd' (n p : Int) (h : 0 ≤ n) : 0 ≤ uplace n p ∧ uplace n p ≤ n := uplace_bd n p h
theorem refslice_eq (s : ByteArray) (hs : s.size ≤ 17592186044415) (k : Nat) (hk : s.size + 10 ≤ k) (u v : Int) (hu : -9223372036854775808 ≤ u ∧ u ≤ 9223372036854775807) (hv : -9223372036854775808 ≤ v ∧ v ≤ 9223372036854775807) :
    ∃ x o, utf_Slice.f k s u v = some (x, o) ∧ bolterref04_Slice.f k s u v = some (x, o) := by
  have hl := chr_len s
  unfold bolterref04_Slice.f utf_Slice.f
  rw [refrunes_eq s hs k hk, runes_eq s (by omega)]
  by_cases hg : good s
  · rw [if_pos hg]
    simp only [Option.bind_some, if_true]
    have b1 := uplace_bd ((chr s).length : Int) u (by omega)
    have b2 := uplace_bd ((chr s).length : Int) v (by omega)
    rw [bounds_eq _ _ _ (by omega) (by omega), refbounds_eq k (by omega) _ _ _ (by omega) (by omega) hu hv]
    simp only [Option.bind_some]
    rw [if_pos (by omega), if_pos (by omega), if_pos (by omega), if_pos (by omega), if_pos (by omega), if_pos (by omega)]
    have hll : (((chr s).take (max (uplace (chr s).length v) (uplace (chr s).length u)).toNat).drop (uplace (chr s).length u).toNat).length ≤ s.size := by
      rw [List.length_drop, List.length_take]; omega
    rw [text_eq _ (by omega) k (by omega), reftext_eq _ (by omega) k (by omega)]
    exact ⟨_, _, rfl, rfl⟩
  · rw [if_neg hg]
    exact ⟨_, _, rfl, rfl⟩
theorem reffind_same (a b : List Int) (n : Nat) (hn : n + b.length ≤ a.length) (ha : a.length ≤ 17592186044415) (acc : List Int) (hacc : acc.length + 1 ≤ 17592186044415) : ∀ (m j k : Nat) (same : Bool), j + m = b.length → m + 1 ≤ k →
    bolterref04_Find.l1 k a b acc n same j = bolterref04_Find.l0 (k - (m + 1)) a b (if same = true ∧ (a.drop (n + j)).take m = b.drop j then acc ++ [(n : Int)] else acc) ((n + 1 : Nat) : Int)
  | 0, j, k, same, hj, hk => by
    obtain ⟨k, rfl⟩ : ∃ i, k = i + 1 := ⟨k - 1, by omega⟩
    rw [bolterref04_Find.l1.eq_2, if_neg (by omega), List.drop_of_length_le (show b.length ≤ j by omega), w64 _ (by omega), show ((n : Int) + 1) = ((n + 1 : Nat) : Int) by omega]
    cases same
    · simp
    · simp; intro h; omega
  | m + 1, j, k, same, hj, hk => by
    obtain ⟨k, rfl⟩ : ∃ i, k = i + 1 := ⟨k - 1, by omega⟩
    have e : k + 1 - (m + 1 + 1) = k - (m + 1) := by omega
    rw [bolterref04_Find.l1.eq_2, if_pos (by omega), w64 _ (by omega), w64 _ (by omega), show ((n : Int) + (j : Int)) = ((n + j : Nat) : Int) by omega, show ((j : Int) + 1) = ((j + 1 : Nat) : Int) by omega, e]
    rw [drop_rd (show n + j < a.length by omega), drop_rd (show j < b.length by omega), List.take_succ_cons]
    cases same
    · rw [if_neg (by simp), reffind_same a b n hn ha acc hacc m (j + 1) k false (by omega) (by omega)]
      simp
    · rw [if_pos rfl, if_pos (by omega), if_pos (by omega), if_pos (by omega), reffind_same a b n hn ha acc hacc m (j + 1) k _ (by omega) (by omega)]
      by_cases hr : rd a ((n + j : Nat) : Int) = rd b j
      · rw [hr, show n + (j + 1) = n + j + 1 by omega]
        simp
      · rw [show n + (j + 1) = n + j + 1 by omega]
        simp [hr]
theorem occF_none (a b : List Int) : ∀ (m n : Nat), a.length < n + b.length → occF a b n m = []
  | 0, n, h => rfl
  | m + 1, n, h => by
    unfold occF
    rw [if_neg (fun hh => by have := hh.1; omega), occF_none a b m (n + 1) (by omega)]
theorem reffind_loop (a b : List Int) (ha : a.length ≤ 17592186044414) (hb : 0 < b.length) (hb2 : b.length ≤ 17592186044414) : ∀ (m n k : Nat) (acc : List Int), n + m = a.length → (m + 1) * (b.length + 4) ≤ k → acc.length + m ≤ 17592186044414 →
    bolterref04_Find.l0 k a b acc n = some (acc ++ occF a b n m, 0)
  | 0, n, k, acc, hn, hk, hacc => by
    obtain ⟨k, rfl⟩ : ∃ j, k = j + 1 + 1 := ⟨k - 2, by omega⟩
    rw [bolterref04_Find.l0.eq_2, w64 _ (by omega), if_neg (by omega), bolterref04_Find.j1.eq_2, if_neg (by simp)]
    simp [occF]
  | m + 1, n, k, acc, hn, hk, hacc => by
    have hk' : (m + 1) * (b.length + 4) + (b.length + 4) ≤ k := by rw [← Nat.succ_mul]; exact hk
    obtain ⟨k, rfl⟩ : ∃ j, k = j + 1 + 1 := ⟨k - 2, by omega⟩
    rw [bolterref04_Find.l0.eq_2, w64 _ (by omega)]
    by_cases h : n + b.length ≤ a.length
    · rw [if_pos (by omega), bolterref04_Find.j1.eq_2, if_pos (by rw [decide_eq_true_eq]; omega)]
      have hs : bolterref04_Find.l1 k a b acc n true 0 = _ := reffind_same a b n h (by omega) acc (by omega) b.length 0 k true (by omega) (by omega)
      have hit' : (true = true ∧ (a.drop (n + 0)).take b.length = b.drop 0) ↔ hit a b n := by
        unfold hit
        rw [List.drop_take, Nat.add_zero, List.drop_zero, Nat.add_sub_cancel_left]
        simp [h]
      unfold occF
      by_cases hh : hit a b n
      · rw [hs, if_pos (hit'.2 hh), if_pos hh, reffind_loop a b ha hb hb2 m (n + 1) _ _ (by omega) (by omega) (by rw [List.length_append]; simp; omega)]
        simp
      · rw [hs, if_neg (fun h => hh (hit'.1 h)), if_neg hh, reffind_loop a b ha hb hb2 m (n + 1) _ _ (by omega) (by omega) (by omega)]
    · rw [if_neg (by omega), bolterref04_Find.j1.eq_2, if_neg (by simp), occF_none a b _ _ (by omega)]
      simp
theorem reffind_nil (a : List Int) (k : Nat) (hk : 2 ≤ k) (ha : a.length ≤ 17592186044415) : bolterref04_Find.l0 k a [] [] 0 = some ([], 0) := by
  obtain ⟨k, rfl⟩ : ∃ j, k = j + 1 + 1 := ⟨k - 2, by omega⟩
  rw [bolterref04_Find.l0.eq_2, w64 _ (by simp)]
  simp [bolterref04_Find.j1]
theorem reffind_eq (s t : ByteArray) (hs : s.size ≤ 1048576) (ht : t.size ≤ 1048576) (k : Nat) (hk : (s.size + 1) * (t.size + 4) + s.size + t.size + 20 ≤ k) : bolterref04_Find.f k s t = some (findR s t) := by
  have ls := chr_len s
  have lt := chr_len t
  unfold bolterref04_Find.f findR
  rw [refrunes_eq s (by omega) k (by omega), refrunes_eq t (by omega) k (by omega), runes_eq s (by omega), runes_eq t (by omega)]
  simp only [Option.bind_some]
  by_cases gs : good s
  · rw [if_pos gs]
    simp only [if_true]
    by_cases gt : good t
    · have hy : good s ∧ good t := ⟨gs, gt⟩
      simp only [if_pos gt, if_pos hy, if_true]
      by_cases h0 : chr t = []
      · rw [if_pos h0, h0, reffind_nil _ k (by omega) (by omega)]
      · have hp := List.length_pos_iff.2 h0
        have hm : ((chr s).length + 1) * ((chr t).length + 4) ≤ (s.size + 1) * (t.size + 4) := Nat.mul_le_mul (by omega) (by omega)
        have hfl : bolterref04_Find.l0 k (chr s) (chr t) [] 0 = some ([] ++ occF (chr s) (chr t) 0 (chr s).length, 0) := reffind_loop _ _ (by omega) hp (by omega) (chr s).length 0 k [] (by omega) (by omega) (by simp; omega)
        rw [if_neg h0, hfl]
        rfl
    · have hn : ¬ (good s ∧ good t) := fun h => gt h.2
      simp only [if_neg gt, if_neg hn]
      simp
  · have hn : ¬ (good s ∧ good t) := fun h => gs h.1
    simp only [if_neg gs, if_neg hn]
    simp
theorem encR_bad : encR 65533 = [239, 191, 189] := by decide
theorem refmend_loop (s : ByteArray) (hs : s.size ≤ 17592186044415) : ∀ (f p k : Nat) (acc : List Int), p ≤ s.size → s.size - p ≤ f → f + 10 ≤ k → acc.length + 4 * (s.size - p) + 4 ≤ 140737488355327 →
    bolterref04_Mend.l0 k acc s p = some (strOfNums (acc ++ ((chars f ((bytesOf s).drop p)).map mendI).flatMap encR))
  | 0, p, k, acc, hp, hf, hk, ha => by
    obtain ⟨k, rfl⟩ : ∃ j, k = j + 1 := ⟨k - 1, by omega⟩
    rw [bolterref04_Mend.l0.eq_2, if_neg (by omega)]
    simp [chars]
  | f + 1, p, k, acc, hp, hf, hk, ha => by
    obtain ⟨k, rfl⟩ : ∃ j, k = j + 1 := ⟨k - 1, by omega⟩
    rw [bolterref04_Mend.l0.eq_2]
    unfold chars
    by_cases h : p < s.size
    · rw [if_neg (drop_ne h), if_pos (by omega), if_pos (by omega), if_pos (by omega), Int.toNat_natCast, first_eq k (by omega), cut_bytes]
      have h1 := un_fit h
      have h2 := dn_pos ((bytesOf s).drop p)
      simp only [Option.bind_some]
      rw [List.map_cons, List.flatMap_cons, List.drop_drop]
      by_cases hd : 0 ≤ dc ((bytesOf s).drop p)
      · obtain ⟨e1, e2, e3⟩ := enc_dec (okB_drop (okB_bytesOf s) p) (drop_ne h) hd
        have ec : bytesOf (s.extract p (p + dn ((bytesOf s).drop p))) = encR (dc ((bytesOf s).drop p)) := by
          rw [bytesOf_cut, Nat.add_sub_cancel_left]
          have := congrArg (List.take (encR (dc ((bytesOf s).drop p))).length) e2
          rw [List.take_left] at this
          rw [e3]
          exact this.symm
        have ez : (s.extract p (p + dn ((bytesOf s).drop p))).size = dn ((bytesOf s).drop p) := by
          rw [← bytesOf_length, ec, e3]
        have hm : mendI (dc ((bytesOf s).drop p)) = dc ((bytesOf s).drop p) := by unfold mendI; rw [if_neg (by omega)]
        have h4 := encR_len (dc ((bytesOf s).drop p))
        rw [firstR_ne (drop_ne h) hd]
        simp only
        rw [if_neg (by omega), w64 _ (by omega), if_pos (by omega), if_pos (by omega), show ((p : Int) + (dn ((bytesOf s).drop p) : Int)).toNat = p + dn ((bytesOf s).drop p) by omega, ez, if_pos (by omega), ec,
          show ((p : Int) + (dn ((bytesOf s).drop p) : Int)) = ((p + dn ((bytesOf s).drop p) : Nat) : Int) by omega, refmend_loop s hs f _ k _ h1 (by omega) (by omega) (by rw [List.length_append]; omega), hm]
        simp
      · obtain ⟨d1, d2⟩ := bad_one hd
        have hm : mendI (dc ((bytesOf s).drop p)) = 65533 := by unfold mendI; rw [if_pos (by omega)]
        rw [firstR_bad hd, hm, encR_bad, d1]
        simp only [if_true, Option.bind_some]
        rw [if_pos (by simp; omega), w64 _ (by omega), show ((p : Int) + 1) = ((p + 1 : Nat) : Int) by omega, refmend_loop s hs f _ k _ (by omega) (by omega) (by omega) (by rw [List.length_append]; simp; omega)]
        simp
    · have : (bytesOf s).drop p = [] := List.drop_of_length_le (by rw [bytesOf_length]; omega)
      rw [if_neg (by omega), if_pos this]
      simp
theorem refmend_eq (s : ByteArray) (hs : s.size ≤ 17592186044415) (k : Nat) (hk : s.size + 10 ≤ k) : bolterref04_Mend.f k (bytesOf s) = utf_Mend.f (bytesOf s) := by
  rw [mend_eq _ (by rw [bytesOf_length]; omega)]
  unfold bolterref04_Mend.f
  rw [str_bytesOf]
  have : bolterref04_Mend.l0 k [] s 0 = _ := refmend_loop s hs s.size 0 k [] (by omega) (by omega) (by omega) (by simp; omega)
  rw [this]
  rfl
end Go.Proofs.YthekpajbffjfmaaDoor.P
namespace Go.Proofs.YthekpajbffjfmaaDoor.Pure
set_option linter.unusedVariables false
set_option linter.unusedSimpArgs false
open Go.Proofs.YthekpajbffjfmaaDoor.P Go.RowKit Go.Proofs.YthekpajbffjfmaaDoorW.PrintWords
theorem UtfTells (a0 a1 : ByteArray) (a2 a3 : Int) (h0 : a0.size ≤ 1048576) (h1 : a1.size ≤ 1048576) (h2 : (Lit.int .i64 a2).wf = true) (h3 : (Lit.int .i64 a3).wf = true) : ∃ k, bolterlaw04_UtfTells.f k a0 a1 a2 a3 = some true := by
  obtain ⟨k, hk⟩ : ∃ k, k = (a0.size + 1) * (a1.size + 4) + a0.size + a1.size + 100 := ⟨_, rfl⟩
  have hc := chr_len a0
  refine ⟨k, ?_⟩
  unfold bolterlaw04_UtfTells.f
  rw [if_pos]
  obtain ⟨p, hp⟩ := check_eq a0 (by omega)
  obtain ⟨x, o, hx, hy⟩ := refslice_eq a0 (by omega) k (by omega) a2 a3 (bounds_i64 h2) (bounds_i64 h3)
  obtain ⟨l, g, hl, hll⟩ : ∃ l g, utf_Runes.f a0 = some (l, g) ∧ l.length ≤ a0.size := by
    rw [runes_eq a0 (by omega)]
    split
    · exact ⟨_, _, rfl, hc⟩
    · exact ⟨_, _, rfl, by simp⟩
  obtain ⟨n, i, hn⟩ : ∃ n i, utf_Count.f a0 = some (n, i) := by
    rw [count_eq a0 (by omega)]
    split
    · exact ⟨_, _, rfl⟩
    · exact ⟨_, _, rfl⟩
  obtain ⟨a, q, hf, haa⟩ : ∃ a q, findR a0 a1 = (a, q) ∧ a.length ≤ a0.size := by
    unfold findR
    split
    · split
      · exact ⟨_, _, rfl, by simp⟩
      · exact ⟨_, _, rfl, by have := occF_len (chr a0) (chr a1) (chr a0).length 0; omega⟩
    · exact ⟨_, _, rfl, by simp⟩
  have hfu := find_eq k a0 a1 (by omega) (by omega) (by omega)
  have hfr := reffind_eq a0 a1 h0 h1 k (by omega)
  rw [hf] at hfu hfr
  obtain ⟨p', e', hpe⟩ : ∃ p' e', utf_Check.f a0 = some (p', e') := by
    rw [hp]
    split
    · exact ⟨_, _, rfl⟩
    · exact ⟨_, _, rfl⟩
  exact ⟨p', e', l, g, n, i, x, o, a, q, _, h0, hpe, (refcheck_eq a0 (by omega) k (by omega)).trans hpe, hl, (refrunes_eq a0 (by omega) k (by omega)).trans hl, hn, (refcount_eq a0 (by omega) k (by omega)).trans hn,
    hx, hy, hfu, hfr, by rw [same_eq _ _ (by omega) k (by omega)]; simp, by rw [same_eq _ _ (by omega) k (by omega)]; simp, mend_eq _ (by rw [bytesOf_length]; omega), (refmend_eq a0 (by omega) k (by omega)).trans (mend_eq _ (by rw [bytesOf_length]; omega)), alive_eq k (by omega)⟩
end Go.Proofs.YthekpajbffjfmaaDoor.Pure

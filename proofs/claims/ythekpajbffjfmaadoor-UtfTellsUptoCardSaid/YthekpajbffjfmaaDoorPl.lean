/- The characters of a text, as lists of numbers: plain. -/
import Derived.Test.YthekpajbffjfmaaDoorUd
import Derived.Test.YthekpajbffjfmaaDoorUb
import Derived.Test.YthekpajbffjfmaaDoorWWords
namespace Go.Proofs.YthekpajbffjfmaaDoor.P
set_option linter.unusedVariables false
set_option linter.unusedSimpArgs false
open Go.RowKit Go.Proofs.YthekpajbffjfmaaDoorW.PrintWords
/-- Octets. -/
def okB (l : List Int) : Prop := ∀ x ∈ l, 0 ≤ x ∧ x < 256
theorem okB_drop {l : List Int} (h : okB l) (n : Nat) : okB (l.drop n) := fun x hx => h x (List.mem_of_mem_drop hx)
theorem okB_app {l r : List Int} (h : okB l) (k : okB r) : okB (l ++ r) := fun x hx => (List.mem_append.1 hx).elim (h x) (k x)
theorem okB_getD {l : List Int} (h : okB l) (i : Nat) : 0 ≤ l.getD i 0 ∧ l.getD i 0 < 256 := by
  rw [List.getD_eq_getElem?_getD]
  by_cases hi : i < l.length
  · rw [List.getElem?_eq_getElem hi]; exact h _ (List.getElem_mem hi)
  · rw [List.getElem?_eq_none (by omega)]; simp
def decN (l : List Int) : Nat × Nat := Lib.decodeN l.length (l.getD 0 0).toNat (l.getD 1 0).toNat (l.getD 2 0).toNat (l.getD 3 0).toNat
def dc (l : List Int) : Int := if (decN l).1 = 65533 ∧ (decN l).2 = 1 then -1 else ((decN l).1 : Int)
def dn (l : List Int) : Nat := (decN l).2
theorem dn_pos (l : List Int) : 1 ≤ dn l := decodeN_pos _ _ _ _ _
theorem dn_le {l : List Int} (h : okB l) (hn : l ≠ []) : dn l ≤ l.length := by
  have h0 := okB_getD h 0
  have hl : 1 ≤ l.length := List.length_pos_iff.2 hn
  exact (decodeN_le l.length _ _ _ _ hl (by omega)).2
theorem list2 {l : List Int} (h : 2 ≤ l.length) : l = [l.getD 0 0, l.getD 1 0] ++ l.drop 2 := by
  match l, h with
  | a :: b :: r, _ => rfl
theorem list1 {l : List Int} (h : 1 ≤ l.length) : l = [l.getD 0 0] ++ l.drop 1 := by
  match l, h with
  | a :: r, _ => rfl
theorem list3 {l : List Int} (h : 3 ≤ l.length) : l = [l.getD 0 0, l.getD 1 0, l.getD 2 0] ++ l.drop 3 := by
  match l, h with
  | a :: b :: c :: r, _ => rfl
theorem list4 {l : List Int} (h : 4 ≤ l.length) : l = [l.getD 0 0, l.getD 1 0, l.getD 2 0, l.getD 3 0] ++ l.drop 4 := by
  match l, h with
  | a :: b :: c :: d :: r, _ => rfl
theorem rune_nonneg {c : Int} (h : rune c) : 0 ≤ c := h.1
theorem encR_okB {c : Int} (h : rune c) : okB (encR c) := by
  obtain ⟨h0, h1, h2⟩ := h
  unfold encR
  repeat' split
  all_goals intro x hx
  all_goals simp at hx
  · omega
  · rcases hx with rfl | rfl <;> omega
  · rcases hx with rfl | rfl | rfl <;> omega
  · rcases hx with rfl | rfl | rfl | rfl <;> omega
theorem encR_pos (c : Int) : 1 ≤ (encR c).length := by
  unfold encR
  repeat' split
  all_goals simp
/-- What was made of a character is read as it. -/
theorem dec_enc {c : Int} (h : rune c) (r : List Int) : dc (encR c ++ r) = c ∧ dn (encR c ++ r) = (encR c).length := by
  obtain ⟨h0, h1, h2⟩ := h
  have key : decN (encR c ++ r) = (c.toNat, (encR c).length) := by
    unfold encR decN
    split
    · simp only [List.cons_append, List.nil_append, List.length_cons, List.getD_cons_zero, List.length_nil]
      unfold Lib.decodeN
      rw [if_pos (by omega)]
    split
    · simp only [List.cons_append, List.nil_append, List.length_cons, List.getD_cons_zero, List.getD_cons_succ, List.length_nil]
      unfold Lib.decodeN
      rw [if_neg (by omega), if_pos (by omega), if_pos (by omega)]
      simp; omega
    split
    · simp only [List.cons_append, List.nil_append, List.length_cons, List.getD_cons_zero, List.getD_cons_succ, List.length_nil]
      unfold Lib.decodeN
      rw [if_neg (by omega), if_neg (by omega), if_pos (by omega), if_pos (by omega)]
      simp; omega
    · simp only [List.cons_append, List.nil_append, List.length_cons, List.getD_cons_zero, List.getD_cons_succ, List.length_nil]
      unfold Lib.decodeN
      rw [if_neg (by omega), if_neg (by omega), if_neg (by omega), if_pos (by omega), if_pos (by omega)]
      simp; omega
  unfold dc dn
  rw [key]
  refine ⟨?_, rfl⟩
  simp only
  rw [if_neg]
  · omega
  · rintro ⟨ha, hb⟩
    unfold encR at hb
    split at hb
    · omega
    split at hb
    · simp at hb
    split at hb <;> simp at hb
/-- What is read as a character was made of it. -/
theorem enc_dec {l : List Int} (h : okB l) (hn : l ≠ []) (hc : 0 ≤ dc l) : rune (dc l) ∧ encR (dc l) ++ l.drop (dn l) = l ∧ dn l = (encR (dc l)).length := by
  have hl : 1 ≤ l.length := List.length_pos_iff.2 hn
  have b0 := okB_getD h 0
  have b1 := okB_getD h 1
  have b2 := okB_getD h 2
  have b3 := okB_getD h 3
  have l1 := list1 hl
  have l2 := @list2 l
  have l3 := @list3 l
  have l4 := @list4 l
  revert hc
  unfold dc dn decN Lib.decodeN
  generalize l.getD 0 0 = x0 at *
  generalize l.getD 1 0 = x1 at *
  generalize l.getD 2 0 = x2 at *
  generalize l.getD 3 0 = x3 at *
  split
  · simp only
    rw [if_neg (by omega)]
    intro _
    have e : ((x0.toNat : Nat) : Int) = x0 := by omega
    rw [e]
    unfold rune encR
    rw [if_pos (by omega)]
    exact ⟨by omega, l1.symm, rfl⟩
  split
  · split
    · simp only
      rw [if_neg (by omega)]
      intro _
      have e1 : (((x0.toNat % 32 * 64 + x1.toNat % 64 : Nat) : Int)) / 64 + 192 = x0 := by omega
      have e2 : (((x0.toNat % 32 * 64 + x1.toNat % 64 : Nat) : Int)) % 64 + 128 = x1 := by omega
      generalize (((x0.toNat % 32 * 64 + x1.toNat % 64 : Nat) : Int)) = v at *
      unfold rune encR
      rw [if_neg (by omega), if_pos (by omega), Int.add_comm 192, Int.add_comm 128, e1, e2]
      exact ⟨by omega, (l2 (by omega)).symm, rfl⟩
    · simp
  split
  · split
    · simp only
      rw [if_neg (by omega)]
      intro _
      have e1 : (((x0.toNat % 16 * 4096 + x1.toNat % 64 * 64 + x2.toNat % 64 : Nat) : Int)) / 4096 + 224 = x0 := by omega
      have e2 : (((x0.toNat % 16 * 4096 + x1.toNat % 64 * 64 + x2.toNat % 64 : Nat) : Int)) / 64 % 64 + 128 = x1 := by omega
      have e3 : (((x0.toNat % 16 * 4096 + x1.toNat % 64 * 64 + x2.toNat % 64 : Nat) : Int)) % 64 + 128 = x2 := by omega
      have e4 : (((x0.toNat % 16 * 4096 + x1.toNat % 64 * 64 + x2.toNat % 64 : Nat) : Int)) < 65536 := by omega
      have e5 : 2048 ≤ (((x0.toNat % 16 * 4096 + x1.toNat % 64 * 64 + x2.toNat % 64 : Nat) : Int)) := by omega
      have e6 : (((x0.toNat % 16 * 4096 + x1.toNat % 64 * 64 + x2.toNat % 64 : Nat) : Int)) < 55296 ∨ 57344 ≤ (((x0.toNat % 16 * 4096 + x1.toNat % 64 * 64 + x2.toNat % 64 : Nat) : Int)) := by omega
      generalize (((x0.toNat % 16 * 4096 + x1.toNat % 64 * 64 + x2.toNat % 64 : Nat) : Int)) = v at *
      unfold rune encR
      rw [if_neg (by omega), if_neg (by omega), if_pos (by omega), Int.add_comm 224, Int.add_comm 128, Int.add_comm 128, e1, e2, e3]
      exact ⟨by omega, (l3 (by omega)).symm, rfl⟩
    · simp
  split
  · split
    · simp only
      rw [if_neg (by omega)]
      intro _
      have e1 : (((x0.toNat % 8 * 262144 + x1.toNat % 64 * 4096 + x2.toNat % 64 * 64 + x3.toNat % 64 : Nat) : Int)) / 262144 + 240 = x0 := by omega
      have e2 : (((x0.toNat % 8 * 262144 + x1.toNat % 64 * 4096 + x2.toNat % 64 * 64 + x3.toNat % 64 : Nat) : Int)) / 4096 % 64 + 128 = x1 := by omega
      have e3 : (((x0.toNat % 8 * 262144 + x1.toNat % 64 * 4096 + x2.toNat % 64 * 64 + x3.toNat % 64 : Nat) : Int)) / 64 % 64 + 128 = x2 := by omega
      have e4 : (((x0.toNat % 8 * 262144 + x1.toNat % 64 * 4096 + x2.toNat % 64 * 64 + x3.toNat % 64 : Nat) : Int)) % 64 + 128 = x3 := by omega
      have e5 : 65536 ≤ (((x0.toNat % 8 * 262144 + x1.toNat % 64 * 4096 + x2.toNat % 64 * 64 + x3.toNat % 64 : Nat) : Int)) := by omega
      have e6 : (((x0.toNat % 8 * 262144 + x1.toNat % 64 * 4096 + x2.toNat % 64 * 64 + x3.toNat % 64 : Nat) : Int)) ≤ 1114111 := by omega
      generalize (((x0.toNat % 8 * 262144 + x1.toNat % 64 * 4096 + x2.toNat % 64 * 64 + x3.toNat % 64 : Nat) : Int)) = v at *
      unfold rune encR
      rw [if_neg (by omega), if_neg (by omega), if_neg (by omega), Int.add_comm 240, Int.add_comm 128, Int.add_comm 128, Int.add_comm 128, e1, e2, e3, e4]
      exact ⟨by omega, (l4 (by omega)).symm, rfl⟩
    · simp
  · simp
/-- The characters of octets (below 0: none). -/
def chars : Nat → List Int → List Int
  | 0, _ => []
  | f + 1, l => if l = [] then [] else dc l :: chars f (l.drop (dn l))
def allRune (l : List Int) : Prop := ∀ c ∈ l, rune c
instance (l : List Int) : Decidable (allRune l) := by unfold allRune; infer_instance
theorem encs_ne (c : Int) (r : List Int) : encR c ++ r ≠ [] := by
  intro h
  have h2 := congrArg List.length h
  have h3 := encR_pos c
  rw [List.length_append, List.length_nil] at h2
  omega
theorem chars_app : ∀ (l r : List Int) (f : Nat), allRune l → (l.flatMap encR ++ r).length ≤ f → ∃ g, chars f (l.flatMap encR ++ r) = l ++ chars g r ∧ r.length ≤ g
  | [], r, f, _, hf => ⟨f, by simp, by simpa using hf⟩
  | c :: l, r, f, h, hf => by
    have hc := h c List.mem_cons_self
    have h1 := encR_pos c
    rw [List.flatMap_cons, List.append_assoc] at hf ⊢
    obtain ⟨f', rfl⟩ : ∃ f', f = f' + 1 := ⟨f - 1, by simp only [List.length_append] at hf; omega⟩
    obtain ⟨d1, d2⟩ := dec_enc hc (l.flatMap encR ++ r)
    obtain ⟨g, hg, hr⟩ := chars_app l r f' (fun x hx => h x (List.mem_cons_of_mem _ hx)) (by simp only [List.length_append] at hf ⊢; omega)
    refine ⟨g, ?_, hr⟩
    rw [show chars (f' + 1) (encR c ++ (l.flatMap encR ++ r)) = _ from chars.eq_2 _ _, if_neg (encs_ne c _), d1, d2, List.drop_left, hg]
    rfl
theorem chars_nil (f : Nat) : chars f [] = [] := by cases f <;> simp [chars]
theorem chars_enc {l : List Int} {f : Nat} (h : allRune l) (hf : (l.flatMap encR).length ≤ f) : chars f (l.flatMap encR) = l := by
  obtain ⟨g, hg, _⟩ := chars_app l [] f h (by simpa using hf)
  rw [List.append_nil] at hg
  rw [hg, chars_nil, List.append_nil]
theorem enc_chars : ∀ (f : Nat) (L : List Int), okB L → L.length ≤ f → (∀ c ∈ chars f L, 0 ≤ c) → allRune (chars f L) ∧ (chars f L).flatMap encR = L
  | 0, L, _, hf, _ => by
    have : L = [] := List.eq_nil_of_length_eq_zero (by omega)
    subst this
    exact ⟨fun c hc => by simp [chars] at hc, rfl⟩
  | f + 1, L, hL, hf, hg => by
    by_cases h0 : L = []
    · subst h0; rw [chars_nil]; exact ⟨fun c hc => by simp at hc, rfl⟩
    · have hd := dn_pos L
      unfold chars at hg ⊢
      rw [if_neg h0] at hg ⊢
      obtain ⟨e1, e2, e3⟩ := enc_dec hL h0 (hg _ List.mem_cons_self)
      obtain ⟨i1, i2⟩ := enc_chars f (L.drop (dn L)) (okB_drop hL _) (by rw [List.length_drop]; omega) (fun c hc => hg c (List.mem_cons_of_mem _ hc))
      refine ⟨fun c hc => ?_, ?_⟩
      · rcases List.mem_cons.1 hc with rfl | hc
        · exact e1
        · exact i1 c hc
      · rw [List.flatMap_cons, i2, e2]
theorem chars_len : ∀ (f : Nat) (L : List Int), (chars f L).length ≤ L.length
  | 0, L => by simp [chars]
  | f + 1, L => by
    unfold chars
    by_cases h0 : L = []
    · rw [if_pos h0]; simp
    · rw [if_neg h0]
      have := dn_pos L
      have h1 : 1 ≤ L.length := List.length_pos_iff.2 h0
      have := chars_len f (L.drop (dn L))
      rw [List.length_drop] at this
      rw [List.length_cons]
      omega
/-! Texts and their octets -/
theorem okB_bytesOf (s : ByteArray) : okB (bytesOf s) := by
  intro x hx
  unfold bytesOf at hx
  obtain ⟨b, _, rfl⟩ := List.mem_map.1 hx
  have := UInt8.toNat_lt b
  omega
theorem str_bytesOf (s : ByteArray) : strOfNums (bytesOf s) = s := by
  cases s with
  | mk d =>
    unfold strOfNums bytesOf
    simp only [List.map_map]
    rw [show ((fun n : Int => UInt8.ofNat n.toNat) ∘ fun b : UInt8 => (b.toNat : Int)) = id from funext fun b => by simp]
    simp
theorem bytesOf_str {l : List Int} (h : okB l) : bytesOf (strOfNums l) = l := by
  unfold strOfNums bytesOf
  simp only [List.toList_toArray, List.map_map]
  conv => rhs; rw [← List.map_id l]
  refine List.map_congr_left fun x hx => ?_
  have := h x hx
  simp only [Function.comp, id]
  rw [UInt8.toNat_ofNat']
  omega
theorem bytesOf_getD (s : ByteArray) (p i : Nat) : ((bytesOf s).drop p).getD i 0 = ((s.get! (p + i)).toNat : Int) := by
  unfold bytesOf
  rw [List.getD_eq_getElem?_getD, List.getElem?_drop, List.getElem?_map]
  simp only [ByteArray.get!, getElem!_def]
  by_cases h : p + i < s.data.size
  · rw [Array.getElem?_eq_getElem h, List.getElem?_eq_getElem (by simpa using h)]
    simp
  · have hz : s.data.size = s.size := rfl
    rw [Array.getElem?_eq_none (by omega), List.getElem?_eq_none (by simp; omega)]
    rfl
theorem decN_at (s : ByteArray) (p : Nat) : decN ((bytesOf s).drop p) = Utf8.decode s p := by
  rw [Lib.decode_at]
  unfold decN
  simp only [bytesOf_getD, List.length_drop, bytesOf_length, Int.toNat_natCast, Nat.add_zero]
theorem uc_dc (s : ByteArray) (p : Nat) : uc s p = dc ((bytesOf s).drop p) := by unfold uc dc; rw [decN_at]
theorem un_dn (s : ByteArray) (p : Nat) : un s p = dn ((bytesOf s).drop p) := by unfold un dn; rw [decN_at]
theorem uitems_chars (s : ByteArray) : ∀ (f p : Nat), (uitems s f p).map (·.2) = chars f ((bytesOf s).drop p)
  | 0, _ => rfl
  | f + 1, p => by
    unfold uitems chars
    have hl : ((bytesOf s).drop p).length = s.size - p := by rw [List.length_drop, bytesOf_length]
    by_cases h : p < s.size
    · rw [if_pos h, if_neg (by intro e; rw [e] at hl; simp at hl; omega), List.map_cons, uitems_chars s f, uc_dc, un_dn, List.drop_drop]
    · rw [if_neg h, if_pos (List.eq_nil_of_length_eq_zero (by omega))]; rfl
/-- A text's characters. -/
def chr (s : ByteArray) : List Int := chars s.size (bytesOf s)
theorem uitems_chr (s : ByteArray) : (uitems s s.size 0).map (·.2) = chr s := uitems_chars s s.size 0
theorem checkL_iff : ∀ (l : List (Nat × Int)), checkL l = none ↔ ∀ c ∈ l.map (·.2), 0 ≤ c
  | [] => by simp [checkL]
  | (p, c) :: l => by
    unfold checkL
    have := checkL_iff l
    by_cases h : c < 0
    · rw [if_pos h]; simp; omega
    · rw [if_neg h, this]; simp; omega
def good (s : ByteArray) : Prop := ∀ c ∈ chr s, 0 ≤ c
instance (s : ByteArray) : Decidable (good s) := by unfold good; infer_instance
theorem good_iff (s : ByteArray) : checkL (uitems s s.size 0) = none ↔ good s := by rw [checkL_iff, uitems_chr]; rfl
theorem chr_len (s : ByteArray) : (chr s).length ≤ s.size := by have := chars_len s.size (bytesOf s); rwa [bytesOf_length] at this
theorem good_enc {s : ByteArray} (h : good s) : allRune (chr s) ∧ (chr s).flatMap encR = bytesOf s := enc_chars s.size (bytesOf s) (okB_bytesOf s) (by rw [bytesOf_length]; exact Nat.le_refl _) h
theorem okB_enc : ∀ {l : List Int}, allRune l → okB (l.flatMap encR)
  | [], _ => fun x hx => by simp at hx
  | c :: l, h => by
    rw [List.flatMap_cons]
    exact okB_app (encR_okB (h c List.mem_cons_self)) (okB_enc fun x hx => h x (List.mem_cons_of_mem _ hx))
/-- The text of characters. -/
def txt (l : List Int) : ByteArray := strOfNums (l.flatMap encR)
theorem txt_chr {s : ByteArray} (h : good s) : txt (chr s) = s := by unfold txt; rw [(good_enc h).2, str_bytesOf]
theorem bytes_txt {l : List Int} (h : allRune l) : bytesOf (txt l) = l.flatMap encR := bytesOf_str (okB_enc h)
theorem chr_txt {l : List Int} (h : allRune l) : chr (txt l) = l := by
  unfold chr
  rw [bytes_txt h]
  refine chars_enc h ?_
  have := congrArg List.length (bytes_txt h)
  rw [bytesOf_length] at this
  omega
theorem good_txt {l : List Int} (h : allRune l) : good (txt l) := by
  unfold good
  rw [chr_txt h]
  exact fun c hc => (h c hc).1
end Go.Proofs.YthekpajbffjfmaaDoor.P

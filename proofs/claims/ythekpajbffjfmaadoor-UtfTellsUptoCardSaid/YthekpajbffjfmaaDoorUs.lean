/- The characters of a text with their places: plain functions over bytes. -/
import Derived.Shelf.Unicode.DecodeSlow
import Derived.Lib.DecodeN
namespace Go.Proofs.YthekpajbffjfmaaDoor.P
set_option linter.unusedVariables false
set_option linter.unusedSimpArgs false
/-- The character that begins at a place; below 0: none does. -/
def uc (s : ByteArray) (p : Nat) : Int := if (Utf8.decode s p).1 = 65533 ∧ (Utf8.decode s p).2 = 1 then -1 else ((Utf8.decode s p).1 : Int)
/-- How many octets it has. -/
def un (s : ByteArray) (p : Nat) : Nat := (Utf8.decode s p).2
theorem decodeN_pos (n b0 b1 b2 b3 : Nat) : 1 ≤ (Lib.decodeN n b0 b1 b2 b3).2 := by
  unfold Lib.decodeN
  repeat' split
  all_goals simp
theorem un_pos (s : ByteArray) (p : Nat) : 1 ≤ un s p := by
  unfold un
  rw [Lib.decode_at]
  exact decodeN_pos _ _ _ _ _
/-- The places and characters from a place on. -/
def uitems (s : ByteArray) : Nat → Nat → List (Nat × Int)
  | 0, _ => []
  | f + 1, p => if p < s.size then (p, uc s p) :: uitems s f (p + un s p) else []
theorem decodeN_le (n b0 b1 b2 b3 : Nat) (hn : 1 ≤ n) (h0 : b0 < 256) : ((Lib.decodeN n b0 b1 b2 b3).1 ≤ 1114111 ∧ ((Lib.decodeN n b0 b1 b2 b3).1 < 55296 ∨ 57343 < (Lib.decodeN n b0 b1 b2 b3).1)) ∧ (Lib.decodeN n b0 b1 b2 b3).2 ≤ n := by
  unfold Lib.decodeN
  repeat' split
  all_goals (simp; omega)
theorem get_lt (s : ByteArray) (i : Nat) : (s.get! i).toNat < 256 := UInt8.toNat_lt _
theorem uc_bd (s : ByteArray) (p : Nat) (h : p < s.size) : -1 ≤ uc s p ∧ (uc s p ≤ 1114111 ∧ (uc s p < 55296 ∨ 57343 < uc s p)) := by
  unfold uc
  have := decodeN_le (s.size - p) (s.get! p).toNat (s.get! (p + 1)).toNat (s.get! (p + 2)).toNat (s.get! (p + 3)).toNat (by omega) (get_lt _ _)
  rw [← Lib.decode_at] at this
  split <;> omega
theorem un_le (s : ByteArray) (p : Nat) (h : p < s.size) : p + un s p ≤ s.size := by
  have := decodeN_le (s.size - p) (s.get! p).toNat (s.get! (p + 1)).toNat (s.get! (p + 2)).toNat (s.get! (p + 3)).toNat (by omega) (get_lt _ _)
  rw [← Lib.decode_at] at this
  unfold un
  omega
theorem get_extract (s : ByteArray) (p i : Nat) : (s.extract p s.size).get! i = s.get! (p + i) := by
  simp only [ByteArray.get!, ByteArray.data_extract]
  simp only [getElem!_def]
  by_cases h : p + i < s.data.size
  · rw [Array.getElem?_extract_of_lt (by simp only [ByteArray.size_data] at *; omega), Array.getElem?_eq_getElem h]
  · have h1 : ¬ i < (s.data.extract p s.size).size := by simp only [Array.size_extract, ByteArray.size_data] at *; omega
    rw [Array.getElem?_eq_none (by omega), Array.getElem?_eq_none (by omega)]
theorem decodeGo_extract (s : ByteArray) (p : Nat) (h : p < s.size) : Lib.decodeGo (s.extract p s.size) = Utf8.decode s p := by
  have hz : (s.extract p s.size).size = s.size - p := by simp
  unfold Lib.decodeGo
  rw [if_neg (by omega), Lib.decode_at, Lib.decode_at, hz]
  simp only [get_extract, Nat.sub_zero, Nat.add_zero, Nat.zero_add]
/-- A place and a character, as an iterator hands them over. -/
abbrev UItem := { x : Nat × Int // x.1 ≤ 1152921504606846976 ∧ -1 ≤ x.2 ∧ (x.2 ≤ 1114111 ∧ (x.2 < 55296 ∨ 57343 < x.2)) }
/-- The same list, each with its bounds. -/
def usub (s : ByteArray) (hs : s.size ≤ 1152921504606846976) : Nat → Nat → List UItem
  | 0, _ => []
  | f + 1, p => if h : p < s.size then ⟨(p, uc s p), by omega, (uc_bd s p h).1, (uc_bd s p h).2⟩ :: usub s hs f (p + un s p) else []
theorem usub_val (s : ByteArray) (hs : s.size ≤ 1152921504606846976) : ∀ f p, (usub s hs f p).map (·.1) = uitems s f p
  | 0, _ => rfl
  | f + 1, p => by
    unfold usub uitems
    by_cases h : p < s.size
    · rw [dif_pos h, if_pos h]; simp [usub_val s hs f]
    · rw [dif_neg h, if_neg h]; rfl
end Go.Proofs.YthekpajbffjfmaaDoor.P

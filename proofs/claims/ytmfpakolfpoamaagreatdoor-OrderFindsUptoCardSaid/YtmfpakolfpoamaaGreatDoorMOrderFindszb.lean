/- Texts of this claim, one behind the other. -/
import Derived.Test.YtmfpakolfpoamaaGreatDoorMOrderFindsf
import Derived.Test.YtmfpakolfpoamaaGreatDoorMOrderFindsb
import Derived.Test.YtmfpakolfpoamaaGreatDoorMOrderFindsl
import Derived.Test.YtmfpakolfpoamaaGreatDoorMOrderFindse
import Derived.Test.YtmfpakolfpoamaaGreatDoorMOrderFindsm
set_option maxRecDepth 100000
namespace Go.Proofs.YtmfpakolfpoamaaGreatDoor.P
set_option linter.unusedVariables false
set_option linter.unusedSimpArgs false
open Go.RowKit Go.Proofs.YtmfpakolfpoamaaGreatDoorW.PrintWords
def encR (c : Int) : List Int :=
 if c < 128 then [c] else if c < 2048 then [192 + c / 64, 128 + c % 64]
 else if c < 65536 then [224 + c / 4096, 128 + c / 64 % 64, 128 + c % 64]
 else [240 + c / 262144, 128 + c / 4096 % 64, 128 + c / 64 % 64, 128 + c % 64]
def rune (c : Int) : Prop := 0 ≤ c ∧ c ≤ 1114111 ∧ ¬ (55296 ≤ c ∧ c ≤ 57343)
instance (c : Int) : Decidable (rune c) := by unfold rune; infer_instance
def okO (l : List Int) : Prop := ∀ x ∈ l, 0 ≤ x ∧ x < 256
theorem okO_getD {l : List Int} (h : okO l) (i : Nat) : 0 ≤ l.getD i 0 ∧ l.getD i 0 < 256 := by
 rw [List.getD_eq_getElem?_getD]
 by_cases hi : i < l.length
 · rw [List.getElem?_eq_getElem hi]; exact h _ (List.getElem_mem hi)
 · rw [List.getElem?_eq_none (by omega)]; simp
def decN (l : List Int) : Nat × Nat := Lib.decodeN l.length (l.getD 0 0).toNat (l.getD 1 0).toNat (l.getD 2 0).toNat (l.getD 3 0).toNat
def dc (l : List Int) : Int := if (decN l).1 = 65533 ∧ (decN l).2 = 1 then -1 else ((decN l).1 : Int)
def dn (l : List Int) : Nat := (decN l).2
theorem list2 {l : List Int} (h : 2 ≤ l.length) : l = [l.getD 0 0, l.getD 1 0] ++ l.drop 2 := by
 match l, h with
 | a :: b :: r, _ => rfl
theorem list1 {l : List Int} (h : 1 ≤ l.length) : l = [l.getD 0 0] ++ l.drop 1 := by
 match l, h with
 | a :: r, _ => rfl
theorem list3 {l : List Int} (h : 3 ≤ l.length) : l = [l.getD 0 0, l.getD 1 0, l.getD 2 0] ++ l.drop 3 := by
 match l, h with
 | a :: b :: c :: r, _ => rfl
theorem list4 {l : List Int} (h : 4 ≤ l.length) : l = [l.getD 0 0, l.getD 1 0, l.getD 2 0, l.getD 3 0] ++ l.drop 4 := by
 match l, h with
 | a :: b :: c :: d :: r, _ => rfl
theorem encR_okO {c : Int} (h : rune c) : okO (encR c) := by
 obtain ⟨h0, h1, h2⟩ := h
 unfold encR
 repeat' split
 all_goals intro x hx
 all_goals simp at hx
 · omega
 · rcases hx with rfl | rfl <;> omega
 · rcases hx with rfl | rfl | rfl <;> omega
 · rcases hx with rfl | rfl | rfl | rfl <;> omega
theorem dec_enc {c : Int} (h : rune c) (r : List Int) : dc (encR c ++ r) = c ∧ dn (encR c ++ r) = (encR c).length := by
 obtain ⟨h0, h1, h2⟩ := h
 have key : decN (encR c ++ r) = (c.toNat, (encR c).length) := by
  unfold encR decN
  split
  · simp only [List.cons_append, List.nil_append, List.length_cons, List.getD_cons_zero, List.length_nil]
    unfold Lib.decodeN
    rw [if_pos (by omega)]
  split
  · simp only [List.cons_append, List.nil_append, List.length_cons, List.getD_cons_zero, List.getD_cons_succ, List.length_nil]
    unfold Lib.decodeN
    rw [if_neg (by omega), if_pos (by omega), if_pos (by omega)]
    simp; omega
  split
  · simp only [List.cons_append, List.nil_append, List.length_cons, List.getD_cons_zero, List.getD_cons_succ, List.length_nil]
    unfold Lib.decodeN
    rw [if_neg (by omega), if_neg (by omega), if_pos (by omega), if_pos (by omega)]
    simp; omega
  · simp only [List.cons_append, List.nil_append, List.length_cons, List.getD_cons_zero, List.getD_cons_succ, List.length_nil]
    unfold Lib.decodeN
    rw [if_neg (by omega), if_neg (by omega), if_neg (by omega), if_pos (by omega), if_pos (by omega)]
    simp; omega
 unfold dc dn
 rw [key]
 refine ⟨?_, rfl⟩
 simp only
 rw [if_neg]
 · omega
 · rintro ⟨ha, hb⟩
   unfold encR at hb
   split at hb
   · omega
   split at hb
   · simp at hb
   split at hb <;> simp at hb
theorem enc_dec {l : List Int} (h : okO l) (hn : l ≠ []) (hc : 0 ≤ dc l) : rune (dc l) ∧ encR (dc l) ++ l.drop (dn l) = l ∧ dn l = (encR (dc l)).length := by
 have hl : 1 ≤ l.length := List.length_pos_iff.2 hn
 have b0 := okO_getD h 0
 have b1 := okO_getD h 1
 have b2 := okO_getD h 2
 have b3 := okO_getD h 3
 have l1 := list1 hl
 have l2 := @list2 l
 have l3 := @list3 l
 have l4 := @list4 l
 revert hc
 unfold dc dn decN Lib.decodeN
 generalize l.getD 0 0 = x0 at *
 generalize l.getD 1 0 = x1 at *
 generalize l.getD 2 0 = x2 at *
 generalize l.getD 3 0 = x3 at *
 split
 · simp only
   rw [if_neg (by omega)]
   intro _
   have e : ((x0.toNat : Nat) : Int) = x0 := by omega
   rw [e]
   unfold rune encR
   rw [if_pos (by omega)]
   exact ⟨by omega, l1.symm, rfl⟩
 split
 · split
   · simp only
     rw [if_neg (by omega)]
     intro _
     have e1 : (((x0.toNat % 32 * 64 + x1.toNat % 64 : Nat) : Int)) / 64 + 192 = x0 := by omega
     have e2 : (((x0.toNat % 32 * 64 + x1.toNat % 64 : Nat) : Int)) % 64 + 128 = x1 := by omega
     generalize (((x0.toNat % 32 * 64 + x1.toNat % 64 : Nat) : Int)) = v at *
     unfold rune encR
     rw [if_neg (by omega), if_pos (by omega), Int.add_comm 192, Int.add_comm 128, e1, e2]
     exact ⟨by omega, (l2 (by omega)).symm, rfl⟩
   · simp
 split
 · split
   · simp only
     rw [if_neg (by omega)]
     intro _
     have e1 : (((x0.toNat % 16 * 4096 + x1.toNat % 64 * 64 + x2.toNat % 64 : Nat) : Int)) / 4096 + 224 = x0 := by omega
     have e2 : (((x0.toNat % 16 * 4096 + x1.toNat % 64 * 64 + x2.toNat % 64 : Nat) : Int)) / 64 % 64 + 128 = x1 := by omega
     have e3 : (((x0.toNat % 16 * 4096 + x1.toNat % 64 * 64 + x2.toNat % 64 : Nat) : Int)) % 64 + 128 = x2 := by omega
     have e4 : (((x0.toNat % 16 * 4096 + x1.toNat % 64 * 64 + x2.toNat % 64 : Nat) : Int)) < 65536 := by omega
     have e5 : 2048 ≤ (((x0.toNat % 16 * 4096 + x1.toNat % 64 * 64 + x2.toNat % 64 : Nat) : Int)) := by omega
     have e6 : (((x0.toNat % 16 * 4096 + x1.toNat % 64 * 64 + x2.toNat % 64 : Nat) : Int)) < 55296 ∨ 57344 ≤ (((x0.toNat % 16 * 4096 + x1.toNat % 64 * 64 + x2.toNat % 64 : Nat) : Int)) := by omega
     generalize (((x0.toNat % 16 * 4096 + x1.toNat % 64 * 64 + x2.toNat % 64 : Nat) : Int)) = v at *
     unfold rune encR
     rw [if_neg (by omega), if_neg (by omega), if_pos (by omega), Int.add_comm 224, Int.add_comm 128, Int.add_comm 128, e1, e2, e3]
     exact ⟨by omega, (l3 (by omega)).symm, rfl⟩
   · simp
 split
 · split
   · simp only
     rw [if_neg (by omega)]
     intro _
     have e1 : (((x0.toNat % 8 * 262144 + x1.toNat % 64 * 4096 + x2.toNat % 64 * 64 + x3.toNat % 64 : Nat) : Int)) / 262144 + 240 = x0 := by omega
     have e2 : (((x0.toNat % 8 * 262144 + x1.toNat % 64 * 4096 + x2.toNat % 64 * 64 + x3.toNat % 64 : Nat) : Int)) / 4096 % 64 + 128 = x1 := by omega
     have e3 : (((x0.toNat % 8 * 262144 + x1.toNat % 64 * 4096 + x2.toNat % 64 * 64 + x3.toNat % 64 : Nat) : Int)) / 64 % 64 + 128 = x2 := by omega
     have e4 : (((x0.toNat % 8 * 262144 + x1.toNat % 64 * 4096 + x2.toNat % 64 * 64 + x3.toNat % 64 : Nat) : Int)) % 64 + 128 = x3 := by omega
     have e5 : 65536 ≤ (((x0.toNat % 8 * 262144 + x1.toNat % 64 * 4096 + x2.toNat % 64 * 64 + x3.toNat % 64 : Nat) : Int)) := by omega
     have e6 : (((x0.toNat % 8 * 262144 + x1.toNat % 64 * 4096 + x2.toNat % 64 * 64 + x3.toNat % 64 : Nat) : Int)) ≤ 1114111 := by omega
     generalize (((x0.toNat % 8 * 262144 + x1.toNat % 64 * 4096 + x2.toNat % 64 * 64 + x3.toNat % 64 : Nat) : Int)) = v at *
     unfold rune encR
     rw [if_neg (by omega), if_neg (by omega), if_neg (by omega), Int.add_comm 240, Int.add_comm 128, Int.add_comm 128, Int.add_comm 128, e1, e2, e3, e4]
     exact ⟨by omega, (l4 (by omega)).symm, rfl⟩
   · simp
 · simp
theorem okO_bytesOf (s : ByteArray) : okO (bytesOf s) := by
 intro x hx
 unfold bytesOf at hx
 obtain ⟨b, _, rfl⟩ := List.mem_map.1 hx
 have := UInt8.toNat_lt b
 omega
theorem str_bytesOf (s : ByteArray) : strOfNums (bytesOf s) = s := by
 cases s with
 | mk d =>
  unfold strOfNums bytesOf
  simp only [List.map_map]
  rw [show ((fun n : Int => UInt8.ofNat n.toNat) ∘ fun b : UInt8 => (b.toNat : Int)) = id from funext fun b => by simp]
  simp
theorem bytesOf_str {l : List Int} (h : okO l) : bytesOf (strOfNums l) = l := by
 unfold strOfNums bytesOf
 simp only [List.toList_toArray, List.map_map]
 conv => rhs; rw [← List.map_id l]
 refine List.map_congr_left fun x hx => ?_
 have := h x hx
 simp only [Function.comp, id]
 rw [UInt8.toNat_ofNat']
 omega
theorem bytesOf_getD (s : ByteArray) (p i : Nat) : ((bytesOf s).drop p).getD i 0 = ((s.get! (p + i)).toNat : Int) := by
 unfold bytesOf
 rw [List.getD_eq_getElem?_getD, List.getElem?_drop, List.getElem?_map]
 simp only [ByteArray.get!, getElem!_def]
 by_cases h : p + i < s.data.size
 · rw [Array.getElem?_eq_getElem h, List.getElem?_eq_getElem (by simpa using h)]
   simp
 · have hz : s.data.size = s.size := rfl
   rw [Array.getElem?_eq_none (by omega), List.getElem?_eq_none (by simp; omega)]
   rfl
theorem decN_at (s : ByteArray) (p : Nat) : decN ((bytesOf s).drop p) = Utf8.decode s p := by
 rw [Lib.decode_at]
 unfold decN
 simp only [bytesOf_getD, List.length_drop, bytesOf_length, Int.toNat_natCast, Nat.add_zero]
theorem uc_dc (s : ByteArray) (p : Nat) : uc s p = dc ((bytesOf s).drop p) := by unfold uc dc; rw [decN_at]
theorem un_dn (s : ByteArray) (p : Nat) : un s p = dn ((bytesOf s).drop p) := by unfold un dn; rw [decN_at]
theorem toL_inj {a b : ByteArray} : a.toList = b.toList ↔ a = b := by
 rw [ByteArray.toList_eq, ByteArray.toList_eq]
 exact ⟨fun h => ByteArray.ext (Array.toList_inj.mp h), fun h => by rw [h]⟩
theorem str_eq {l : List Int} (h : okO l) (t : ByteArray) : (strOfNums l).toList = t.toList ↔ l = bytesOf t := by
 rw [toL_inj]
 constructor
 · intro e; rw [← e, bytesOf_str h]
 · intro e; rw [e, str_bytesOf]
theorem bytesOf_cut (s : ByteArray) (i j : Nat) : bytesOf (s.extract i j) = ((bytesOf s).drop i).take (j - i) := by
 unfold bytesOf
 rw [ByteArray.data_extract, Array.toList_extract]
 simp [List.extract_eq_take_drop, List.map_take, List.map_drop]
theorem bt_bytes (s : ByteArray) (i : Nat) : bt s i = (bytesOf s).getD i 0 := by
 rw [← rd_bytesOf]; unfold rd; rw [Int.toNat_natCast]
theorem first_spec {L : List Int} (h : okO L) (hn : L ≠ []) (n : Int) (z : Nat) (hu : ∀ c, rune c → encR c ++ L.drop (encR c).length = L → c = n ∧ (encR c).length = z) :
 (if z ≤ L.length ∧ rune n ∧ encR n = L.take z then (n, (z : Int)) else (0, 0)) = if 0 ≤ dc L then (dc L, (dn L : Int)) else (0, 0) := by
 by_cases hd : 0 ≤ dc L
 · obtain ⟨e1, e2, e3⟩ := enc_dec h hn hd
   rw [e3] at e2
   obtain ⟨u1, u2⟩ := hu _ e1 e2
   have hl := congrArg List.length e2
   rw [List.length_append] at hl
   rw [if_pos hd, if_pos, u1, e3, u2]
   refine ⟨by omega, u1 ▸ e1, ?_⟩
   have ht := congrArg (List.take (encR (dc L)).length) e2
   rw [List.take_left, u2, u1] at ht
   exact ht
 · rw [if_neg hd, if_neg]
   rintro ⟨h1, h2, h3⟩
   have e : encR n ++ L.drop z = L := by rw [h3, List.take_append_drop]
   have := (dec_enc h2 (L.drop z)).1
   rw [e] at this
   rw [this] at hd
   exact hd h2.1
theorem heads {L R : List Int} {c : Int} (h : encR c ++ R = L) :
 (c < 128 ∧ L.getD 0 0 = c ∧ (encR c).length = 1) ∨ (128 ≤ c ∧ c < 2048 ∧ L.getD 0 0 = 192 + c / 64 ∧ L.getD 1 0 = 128 + c % 64 ∧ (encR c).length = 2) ∨
 (2048 ≤ c ∧ c < 65536 ∧ L.getD 0 0 = 224 + c / 4096 ∧ L.getD 1 0 = 128 + c / 64 % 64 ∧ L.getD 2 0 = 128 + c % 64 ∧ (encR c).length = 3) ∨
 (65536 ≤ c ∧ L.getD 0 0 = 240 + c / 262144 ∧ L.getD 1 0 = 128 + c / 4096 % 64 ∧ L.getD 2 0 = 128 + c / 64 % 64 ∧ L.getD 3 0 = 128 + c % 64 ∧ (encR c).length = 4) := by
 rw [← h]
 unfold encR
 by_cases c1 : c < 128
 · rw [if_pos c1]; exact .inl ⟨c1, rfl, rfl⟩
 rw [if_neg c1]
 by_cases c2 : c < 2048
 · rw [if_pos c2]; exact .inr (.inl ⟨by omega, c2, rfl, rfl, rfl⟩)
 rw [if_neg c2]
 by_cases c3 : c < 65536
 · rw [if_pos c3]; exact .inr (.inr (.inl ⟨by omega, c3, rfl, rfl, rfl, rfl⟩))
 rw [if_neg c3]; exact .inr (.inr (.inr ⟨by omega, rfl, rfl, rfl, rfl, rfl⟩))
def firstR (L : List Int) : Int × Int := if L ≠ [] ∧ 0 ≤ dc L then (dc L, (dn L : Int)) else (0, 0)
theorem cut_bytes (s : ByteArray) (p : Nat) : bytesOf (s.extract p s.size) = (bytesOf s).drop p := by
 rw [bytesOf_cut, List.take_of_length_le]
 rw [List.length_drop, bytesOf_length]
 omega
theorem firstR_ne {L : List Int} (h : L ≠ []) (hd : 0 ≤ dc L) : firstR L = (dc L, (dn L : Int)) := by unfold firstR; rw [if_pos ⟨h, hd⟩]
theorem firstR_bad {L : List Int} (hd : ¬ 0 ≤ dc L) : firstR L = (0, 0) := by unfold firstR; rw [if_neg (fun h => hd h.2)]
theorem drop_ne {s : ByteArray} {p : Nat} (h : p < s.size) : (bytesOf s).drop p ≠ [] := by
 intro e
 have := congrArg List.length e
 rw [List.length_drop, bytesOf_length, List.length_nil] at this
 omega
end Go.Proofs.YtmfpakolfpoamaaGreatDoor.P
namespace Go.Proofs.YtmfpakolfpoamaaGreatDoor.P
set_option linter.unusedVariables false
set_option linter.unusedSimpArgs false
open Go.RowKit Go.Proofs.YtmfpakolfpoamaaGreatDoorW.PrintWords Go.Proofs.YtmfpakolfpoamaaGreatDoorW.PrintMore Go.Proofs.YtmfpakolfpoamaaGreatDoorW.PrintLast
theorem may_any (n : Int) (w : World) : Calls Tryz.prog 162 #[.int .i64 n] w fun e w' => e = .returned (.bool (decide (rune n))) ∧ w' = w := by
 have hr : rune n ↔ 0 ≤ n ∧ n ≤ 1114111 ∧ ¬ (55296 ≤ n ∧ n ≤ 57343) := Iff.rfl
 obtain ⟨r, hrr⟩ : ∃ r, r = decide (rune n) := ⟨_, rfl⟩
 rw [← hrr]
 by_cases h0 : 0 ≤ n
 · have d0 : decide (0 ≤ n) = true := decide_eq_true h0
   by_cases h1 : n ≤ 1114111
   · have d1 : decide (n ≤ 1114111) = true := decide_eq_true h1
     by_cases h2 : n < 55296
     · have d2 : decide (n < 55296) = true := decide_eq_true h2
       have HR : Hid (r = true) := Lib.hid (by rw [hrr]; exact decide_eq_true (hr.2 ⟨h0, h1, by omega⟩))
       clear hr hrr
       go_enter Tryz.func162, Tryz.ntmps162
       go_wp2
       go_ret
       exact ⟨by rw [HR.out]; rfl, rfl⟩
     · have d2 : decide (n < 55296) = false := decide_eq_false h2
       by_cases h3 : 57343 < n
       · have d3 : decide (57343 < n) = true := decide_eq_true h3
         have HR : Hid (r = true) := Lib.hid (by rw [hrr]; exact decide_eq_true (hr.2 ⟨h0, h1, by omega⟩))
         clear hr hrr
         go_enter Tryz.func162, Tryz.ntmps162
         go_wp2
         go_ret
         exact ⟨by rw [HR.out]; rfl, rfl⟩
       · have d3 : decide (57343 < n) = false := decide_eq_false h3
         have HR : Hid (r = false) := Lib.hid (by rw [hrr]; exact decide_eq_false (fun h => (hr.1 h).2.2 (by omega)))
         clear hr hrr
         go_enter Tryz.func162, Tryz.ntmps162
         go_wp2
         go_ret
         exact ⟨by rw [HR.out]; rfl, rfl⟩
   · have d1 : decide (n ≤ 1114111) = false := decide_eq_false h1
     have HR : Hid (r = false) := Lib.hid (by rw [hrr]; exact decide_eq_false (fun h => h1 (hr.1 h).2.1))
     clear hr hrr
     go_enter Tryz.func162, Tryz.ntmps162
     go_wp2
     go_ret
     exact ⟨by rw [HR.out]; rfl, rfl⟩
 · have d0 : decide (0 ≤ n) = false := decide_eq_false h0
   have HR : Hid (r = false) := Lib.hid (by rw [hrr]; exact decide_eq_false (fun h => h0 (hr.1 h).1))
   clear hr hrr
   go_enter Tryz.func162, Tryz.ntmps162
   go_wp2
   go_ret
   exact ⟨by rw [HR.out]; rfl, rfl⟩
theorem own8 (w : World) (xs : List Int) (h : xs.length ≤ 9223372036854775807) : Kd.R (Kd.int .u8) 5 (w.alloc (.cells (nums .u8 xs).toArray 5)) w.heap.size (fun _ => True) (.slice (some ⟨w.heap.size, 0, none⟩) xs.length xs.length) xs :=
 Kd.R_of_own (enc := Value.int .u8) (own_lit w w.heap.size 5 .u8 xs (Nat.le_refl _) h) (fun _ _ => trivial)
set_option maxHeartbeats 1000000 in
theorem octets_any (n : Int) (w : World) (h : rune n) : Calls Tryz.prog 163 #[.int .i64 n] w fun e w' => ∃ v : Value, e = .returned v ∧ Kd.R (Kd.int .u8) 5 w' w.heap.size (fun _ => True) v (encR n) ∧ Below w.heap.size w w' := by
 obtain ⟨h0, h1, -⟩ := h
 by_cases c1 : n < 128
 · have he : encR n = [n] := by unfold encR; rw [if_pos c1]
   have HR := Lib.hid (own8 w [n] (by simp))
   rw [he]
   have e1 : n % 256 = n := by omega
   clear he
   go_enter Tryz.func163, Tryz.ntmps163
   go_wp2
   go_ret
   exact ⟨_, rfl, HR.out, (Below.refl _ _).alloc (Nat.le_refl _) _⟩
 · by_cases c2 : n < 2048
   · have he : encR n = [192 + n / 64, 128 + n % 64] := by unfold encR; rw [if_neg c1, if_pos c2]
     obtain ⟨a, ha⟩ : ∃ a, a = n / 64 := ⟨_, rfl⟩
     obtain ⟨b, hb⟩ : ∃ b, b = n % 64 := ⟨_, rfl⟩
     rw [← ha, ← hb] at he
     have HR := Lib.hid (own8 w [192 + a, 128 + b] (by simp))
     rw [he]
     have e1 : (192 + a) % 256 = 192 + a := by omega
     have e2 : (128 + b) % 256 = 128 + b := by omega
     have a1 : 0 ≤ a ∧ a ≤ 32 := by omega
     have b1 : 0 ≤ b ∧ b ≤ 63 := by omega
     have ha' : n / 64 = a := ha.symm
     have hb' : n % 64 = b := hb.symm
     clear he ha hb
     go_enter Tryz.func163, Tryz.ntmps163
     go_wp2
     go_ret
     exact ⟨_, rfl, HR.out, (Below.refl _ _).alloc (Nat.le_refl _) _⟩
   · by_cases c3 : n < 65536
     · have he : encR n = [224 + n / 4096, 128 + n / 64 % 64, 128 + n % 64] := by unfold encR; rw [if_neg c1, if_neg c2, if_pos c3]
       obtain ⟨a, ha⟩ : ∃ a, a = n / 4096 := ⟨_, rfl⟩
       obtain ⟨d, hd⟩ : ∃ d, d = n / 64 := ⟨_, rfl⟩
       obtain ⟨b, hb⟩ : ∃ b, b = n % 64 := ⟨_, rfl⟩
       rw [← ha, ← hd, ← hb] at he
       obtain ⟨f, hf⟩ : ∃ f, f = d % 64 := ⟨_, rfl⟩
       rw [← hf] at he
       have HR := Lib.hid (own8 w [224 + a, 128 + f, 128 + b] (by simp))
       rw [he]
       have e1 : (224 + a) % 256 = 224 + a := by omega
       have e2 : (128 + b) % 256 = 128 + b := by omega
       have e3 : (128 + f) % 256 = 128 + f := by omega
       have a1 : 0 ≤ a ∧ a ≤ 16 := by omega
       have b1 : 0 ≤ b ∧ b ≤ 63 := by omega
       have f1 : 0 ≤ f ∧ f ≤ 63 := by omega
       have d1 : 0 ≤ d ∧ d ≤ 1024 := by omega
       have ha' : n / 4096 = a := ha.symm
       have hd' : n / 64 = d := hd.symm
       have hb' : n % 64 = b := hb.symm
       have hf' : d % 64 = f := hf.symm
       clear he ha hb hd hf
       go_enter Tryz.func163, Tryz.ntmps163
       go_wp2
       go_ret
       exact ⟨_, rfl, HR.out, (Below.refl _ _).alloc (Nat.le_refl _) _⟩
     · have he : encR n = [240 + n / 262144, 128 + n / 4096 % 64, 128 + n / 64 % 64, 128 + n % 64] := by unfold encR; rw [if_neg c1, if_neg c2, if_neg c3]
       obtain ⟨a, ha⟩ : ∃ a, a = n / 262144 := ⟨_, rfl⟩
       obtain ⟨g, hg⟩ : ∃ g, g = n / 4096 := ⟨_, rfl⟩
       obtain ⟨d, hd⟩ : ∃ d, d = n / 64 := ⟨_, rfl⟩
       obtain ⟨b, hb⟩ : ∃ b, b = n % 64 := ⟨_, rfl⟩
       rw [← ha, ← hg, ← hd, ← hb] at he
       obtain ⟨f, hf⟩ : ∃ f, f = d % 64 := ⟨_, rfl⟩
       obtain ⟨i, hi⟩ : ∃ i, i = g % 64 := ⟨_, rfl⟩
       rw [← hf, ← hi] at he
       have HR := Lib.hid (own8 w [240 + a, 128 + i, 128 + f, 128 + b] (by simp))
       rw [he]
       have e1 : (240 + a) % 256 = 240 + a := by omega
       have e2 : (128 + b) % 256 = 128 + b := by omega
       have e3 : (128 + f) % 256 = 128 + f := by omega
       have e4 : (128 + i) % 256 = 128 + i := by omega
       have a1 : 0 ≤ a ∧ a ≤ 5 := by omega
       have b1 : 0 ≤ b ∧ b ≤ 63 := by omega
       have f1 : 0 ≤ f ∧ f ≤ 63 := by omega
       have i1 : 0 ≤ i ∧ i ≤ 63 := by omega
       have g1 : 0 ≤ g ∧ g ≤ 300 := by omega
       have d1 : 0 ≤ d ∧ d ≤ 20000 := by omega
       have ha' : n / 262144 = a := ha.symm
       have hg' : n / 4096 = g := hg.symm
       have hd' : n / 64 = d := hd.symm
       have hb' : n % 64 = b := hb.symm
       have hf' : d % 64 = f := hf.symm
       have hi' : g % 64 = i := hi.symm
       clear he ha hb hd hf hg hi
       go_enter Tryz.func163, Tryz.ntmps163
       go_wp2
       go_ret
       exact ⟨_, rfl, HR.out, (Below.refl _ _).alloc (Nat.le_refl _) _⟩
def facc (L : List Int) (n : Int) : Nat → Int
 | 0 => n
 | i + 1 => facc L n i * 64 + L.getD (i + 1) 0 % 64
theorem facc_bd {L : List Int} (h : okO L) {n : Int} (h0 : 0 ≤ n) (h1 : n ≤ 255) : (0 ≤ facc L n 1 ∧ facc L n 1 ≤ 20000) ∧ (0 ≤ facc L n 2 ∧ facc L n 2 ≤ 2000000) ∧ (0 ≤ facc L n 3 ∧ facc L n 3 ≤ 200000000) := by
 have b1 := okO_getD h 1
 have b2 := okO_getD h 2
 have b3 := okO_getD h 3
 simp only [facc]
 omega
theorem facc_le {L : List Int} (h : okO L) {n : Int} (h0 : 0 ≤ n) (h1 : n ≤ 255) (i : Nat) (hi : i ≤ 3) : 0 ≤ facc L n i ∧ facc L n i ≤ 200000000 := by
 have := facc_bd h h0 h1
 rcases i with _ | _ | _ | _ | i
 · simp only [facc]; omega
 · exact ⟨this.1.1, Int.le_trans this.1.2 (by decide)⟩
 · exact ⟨this.2.1.1, Int.le_trans this.2.1.2 (by decide)⟩
 · exact this.2.2
 · omega
def fcls (c : Int) : Int × Nat := if 240 ≤ c then (c - 240, 4) else if 224 ≤ c then (c - 224, 3) else if 192 ≤ c then (c - 192, 2) else (c, 1)
theorem first_all {L : List Int} (hb : okO L) (hne : L ≠ []) : firstR L = if (fcls (L.getD 0 0)).2 ≤ L.length ∧ rune (facc L (fcls (L.getD 0 0)).1 ((fcls (L.getD 0 0)).2 - 1)) ∧ encR (facc L (fcls (L.getD 0 0)).1 ((fcls (L.getD 0 0)).2 - 1)) = L.take (fcls (L.getD 0 0)).2 then (facc L (fcls (L.getD 0 0)).1 ((fcls (L.getD 0 0)).2 - 1), ((fcls (L.getD 0 0)).2 : Int)) else (0, 0) := by
 have e : firstR L = if 0 ≤ dc L then (dc L, (dn L : Int)) else (0, 0) := by unfold firstR; simp [hne]
 rw [e, ← first_spec hb hne _ _ ?_]
 intro c hc hL
 have := hc.2.1
 unfold fcls
 by_cases c4 : 240 ≤ L.getD 0 0
 · rw [if_pos c4]
   show c = (((L.getD 0 0 - 240) * 64 + L.getD 1 0 % 64) * 64 + L.getD 2 0 % 64) * 64 + L.getD 3 0 % 64 ∧ (encR c).length = 4
   rcases heads hL with h | h | h | h <;> omega
 rw [if_neg c4]
 by_cases c3 : 224 ≤ L.getD 0 0
 · rw [if_pos c3]
   show c = ((L.getD 0 0 - 224) * 64 + L.getD 1 0 % 64) * 64 + L.getD 2 0 % 64 ∧ (encR c).length = 3
   rcases heads hL with h | h | h | h <;> omega
 rw [if_neg c3]
 by_cases c2 : 192 ≤ L.getD 0 0
 · rw [if_pos c2]
   show c = (L.getD 0 0 - 192) * 64 + L.getD 1 0 % 64 ∧ (encR c).length = 2
   rcases heads hL with h | h | h | h <;> omega
 rw [if_neg c2]
 show c = L.getD 0 0 ∧ (encR c).length = 1
 rcases heads hL with h | h | h | h <;> omega
theorem fcls_bd {c : Int} (h : 0 ≤ c ∧ c < 256) : 0 ≤ (fcls c).1 ∧ (fcls c).1 ≤ 255 ∧ 1 ≤ (fcls c).2 ∧ (fcls c).2 ≤ 4 := by
 unfold fcls
 split
 · simp; omega
 · split
   · simp; omega
   · split <;> simp <;> omega
set_option maxHeartbeats 4000000 in
theorem first_any (s : ByteArray) (w : World) (hs : s.size ≤ 1073741824) : Calls Tryz.prog 154 #[.string s] w fun e w' => e = .returned (.tuple #[.int .i64 (firstR (bytesOf s)).1, .int .i64 (firstR (bytesOf s)).2]) ∧ Below w.heap.size w w' := by
 have hb := okO_bytesOf s
 have hlen := bytesOf_length s
 by_cases h0 : s.size = 0
 · have hr : firstR (bytesOf s) = (0, 0) := by
    unfold firstR
    rw [if_neg]
    rintro ⟨h, _⟩
    exact h (List.eq_nil_of_length_eq_zero (by omega))
   have HR := Lib.hid hr
   have g0 : ((s.size : Int) == 0) = true := by rw [h0]; rfl
   clear hr h0 hb hlen
   rw [HR.out]
   go_enter Tryz.func154, Tryz.ntmps154
   go_wp2
   go_ret2
   exact ⟨rfl, Below.refl _ _⟩
 have hne : bytesOf s ≠ [] := by intro e; rw [e] at hlen; simp at hlen; omega
 have hFA := first_all hb hne
 have hc := okO_getD hb 0
 have hbd := fcls_bd hc
 obtain ⟨r, hr⟩ : ∃ r, r = firstR (bytesOf s) := ⟨_, rfl⟩
 rw [← hr] at hFA ⊢
 have HAT : Hid (∀ i : Nat, i < s.size → ∀ h : i < s.size, (((s[i]'h).toNat : Nat) : Int) = (bytesOf s).getD i 0) := Lib.hid (fun i hi h => by rw [← bt_bytes]; exact bt_at s (i : Int) h)
 have HGD := Lib.hid (fun i => okO_getD hb i)
 have HFB := Lib.hid (fun i hi => facc_le hb hbd.1 hbd.2.1 i hi)
 have hc0 := HAT.out 0 (by omega)
 generalize hcc : (bytesOf s).getD 0 0 = c at *
 have HCL : Hid ((240 ≤ c ∧ fcls c = (c - 240, 4)) ∨ (c < 240 ∧ 224 ≤ c ∧ fcls c = (c - 224, 3)) ∨ (c < 224 ∧ 192 ≤ c ∧ fcls c = (c - 192, 2)) ∨ (c < 192 ∧ fcls c = (c, 1))) := Lib.hid (by
  unfold fcls
  by_cases c4 : 240 ≤ c
  · rw [if_pos c4]; exact .inl ⟨c4, rfl⟩
  by_cases c3 : 224 ≤ c
  · rw [if_neg c4, if_pos c3]; exact .inr (.inl ⟨by omega, c3, rfl⟩)
  by_cases c2 : 192 ≤ c
  · rw [if_neg c4, if_neg c3, if_pos c2]; exact .inr (.inr (.inl ⟨by omega, c2, rfl⟩))
  · rw [if_neg c4, if_neg c3, if_neg c2]; exact .inr (.inr (.inr ⟨by omega, rfl⟩)))
 obtain ⟨⟨n0, z⟩, hfc⟩ : ∃ p, p = fcls c := ⟨_, rfl⟩
 rw [← hfc] at hFA hbd HFB HCL
 have HFA := Lib.hid hFA
 simp only at HFA hbd HFB
 have q4 : (0 < s.size) = True := eq_true (by omega)
 have qi4 : (0 < (s.size : Int)) = True := eq_true (by omega)
 have g0 : ((s.size : Int) == 0) = false := by rw [beq_eq_false_iff_ne]; omega
 obtain ⟨hc1, hc2⟩ := hc
 obtain ⟨hn1, hn2, hz1, hz2⟩ := hbd
 clear hFA hr hfc hcc hb hne h0
 go_enter Tryz.func154, Tryz.ntmps154
 go_upto_block 0 with (fail)
 go_cut [5, 6] (fun v5 v6 wc => v5 = .int .i64 n0 ∧ v6 = .int .i64 (z : Int) ∧ wc = w)
 case first =>
  rcases HCL.out with ⟨k1, k2⟩ | ⟨k1, k2, k3⟩ | ⟨k1, k2, k3⟩ | ⟨k1, k2⟩
  · injection k2 with e1 e2
    subst e1 e2
    go_wp2
    go_meet
    case rel => exact ⟨rfl, rfl, rfl⟩
  · injection k3 with e1 e2
    subst e1 e2
    have k1' : ¬ 240 ≤ c := by omega
    go_wp2
    go_meet
    case rel => exact ⟨rfl, rfl, rfl⟩
  · injection k3 with e1 e2
    subst e1 e2
    have k1' : ¬ 240 ≤ c := by omega
    have k2' : ¬ 224 ≤ c := by omega
    go_wp2
    go_meet
    case rel => exact ⟨rfl, rfl, rfl⟩
  · injection k2 with e1 e2
    subst e1 e2
    have k1' : ¬ 240 ≤ n0 := by omega
    have k2' : ¬ 224 ≤ n0 := by omega
    have k3' : ¬ 192 ≤ n0 := by omega
    go_wp2
    go_meet
    case rel => exact ⟨rfl, rfl, rfl⟩
 case rest =>
  obtain ⟨rfl, rfl, rfl⟩ := hcut
  clear hc0 HCL g0 q4 qi4
  by_cases hz : s.size < z
  · have HR : Hid (r = (0, 0)) := Lib.hid (by rw [HFA.out, if_neg (by rw [hlen]; omega)])
    have e1 : (s.size : Int) < (z : Int) := by omega
    go_wp2
    go_ret2
    exact ⟨by rw [HR.out]; rfl, Below.refl _ _⟩
  · have e1 : ¬ (s.size : Int) < (z : Int) := by omega
    go_wp2
    go_loopw [5, 7] (fun v5 v7 wr => ∃ i : Nat, i + 1 ≤ z ∧ v7 = .int .i64 ((i + 1 : Nat) : Int) ∧ v5 = .int .i64 (facc (bytesOf s) n0 i) ∧ wr = wc) (fun v5 v7 _ => z - (intOf v7).toNat)
    case atStart => exact ⟨0, hz1, rfl, rfl, rfl⟩
    case round =>
     obtain ⟨i, hi, rfl, rfl, rfl⟩ := hrel
     have hfb := HFB.out i (by omega)
     by_cases hlt : i + 1 < z
     · have hlt2 : ((i + 1 : Nat) : Int) < (z : Int) := by omega
       have hlt3 : ((i + 1 : Nat) : Int) < (s.size : Int) := by omega
       have hi0 : (0 : Int) ≤ ((i + 1 : Nat) : Int) := by omega
       have hg := HGD.out (i + 1)
       have hat := HAT.out (i + 1) (by omega)
       have HS : Hid (facc (bytesOf s) n0 (i + 1) = facc (bytesOf s) n0 i * 64 + (bytesOf s).getD (i + 1) 0 % 64) := Lib.hid rfl
       obtain ⟨hg1, hg2⟩ := hg
       obtain ⟨hf1, hf2⟩ := hfb
       have q5 : (i + 1 < s.size) = True := eq_true (by omega)
       have q6 : (((i + 1 : Nat) : Int) < (s.size : Int)) = True := eq_true (by omega)
       generalize (bytesOf s).getD (i + 1) 0 = y at *
       generalize facc (bytesOf s) n0 i = f at *
       go_wp2
       go_roundw
       case rel => exact ⟨i + 1, by omega, by go_num, by rw [HS.out], by first | rfl | trivial⟩
       case measure => simp [intOf]; omega
     · obtain rfl : z = i + 1 := by omega
       have hlt2 : ¬ ((i + 1 : Nat) : Int) < ((i + 1 : Nat) : Int) := by omega
       obtain ⟨n, hn⟩ : ∃ n, n = facc (bytesOf s) n0 i := ⟨_, rfl⟩
       rw [show i + 1 - 1 = i from rfl, ← hn] at HFA
       rw [← hn]
       have hsl1 : (0 : Int) ≤ ((i + 1 : Nat) : Int) := by omega
       have hsl2 : ((i + 1 : Nat) : Int) ≤ (s.size : Int) := by omega
       have hsl3 : (0 : Int) ≤ (i : Int) + 1 := by omega
       have hsl4 : (i : Int) + 1 ≤ (s.size : Int) := by omega
       have HM := Lib.hid (may_any n wr)
       clear hn hfb HFB HGD HAT
       by_cases hru : rune n
       · have HOC := Lib.hid (fun W => octets_any n W hru)
         rw [decide_eq_true hru] at HM
         have HEQ : Hid ((strOfNums (encR n)).toList = (s.extract 0 (i + 1)).toList ↔ encR n = (bytesOf s).take (i + 1)) := Lib.hid (by rw [str_eq (encR_okO hru), bytesOf_cut]; simp)
         by_cases he : encR n = (bytesOf s).take (i + 1)
         · have HR : Hid (r = (n, ((i + 1 : Nat) : Int))) := Lib.hid (by rw [HFA.out, if_pos ⟨by rw [hlen]; omega, hru, he⟩])
           have hq : ((strOfNums (encR n)).toList != (s.extract 0 (i + 1)).toList) = false := bne_eq_false_iff_eq.2 (HEQ.out.2 he)
           have hq2 : ((strOfNums (encR n)).toList == (s.extract 0 (i + 1)).toList) = true := beq_iff_eq.2 (HEQ.out.2 he)
           clear he HEQ
           have HBc : Hid (Below wr.heap.size wr wr.drew) := Lib.hid (below_drew (Below.refl _ _))
           go_upto_region 17 with (fail)
           refine wp_region_any (by kernel_rfl) ?_
           change wpAny _ _ _ _ _ _ _ (World.drew _)
           refine tq 0 (h := ?_)
           simp only [lst]
           refine one 1 rfl (by kernel_rfl) (by rfl) fun K_ hK_ => ?_
           simp only [lgt]
           go_simp
           refine (may_any n _).mono ?_
           rintro e_ w5_ ⟨rfl, hw5_⟩
           obtain rfl := hw5_.symm
           rw [decide_eq_true hru]
           simp only [Oper.upon]
           refine hK_ _ _ ?_
           clear hK_ K_
           refine tq 2 (h := ?_)
           refine tq 3 (h := ?_)
           simp only [lst]
           refine tq 4 (h := ?_)
           refine tq 7 (h := ?_)
           simp only [lst]
           refine tq 8 (h := ?_)
           refine tq 9 (h := ?_)
           simp only [lst]
           refine one 5 rfl (by kernel_rfl) (by rfl) fun K_ hK_ => ?_
           simp only [lgt]
           go_simp
           refine (HOC.out _).mono ?_
           rintro e_ w6 ⟨v6, rfl, hR6, hB6⟩
           obtain ⟨G6, g6, rfl⟩ := Kd.R_slice hR6
           have HR6 := Lib.hid hR6
           have HBc := Lib.hid (HBc.out.trans (hB6.mono HBc.out.size))
           clear hB6 hR6
           simp only [Oper.upon]
           refine hK_ _ _ ?_
           clear hK_ K_
           refine one 6 rfl (by kernel_rfl) (by rfl) fun K_ hK_ => ?_
           have hcv := own_string (P := Tryz.prog) Tryz.underlying185 Tryz.underlying5 Tryz.underlying9 (Kd.own_of_R HR6.out)
           simp only [lgt]
           go_simp
           clear hcv
           refine hK_ _ _ ?_
           clear hK_ K_
           refine tq 10 (h := ?_)
           refine tq 11 (h := ?_)
           refine wpAny_done (by kernel_rfl) ?_ _
           simp only [lst]
           rotate_left
           all_goals
            go_wp2_with fail
            go_ret2
            exact ⟨by rw [HR.out]; rfl, HBc.out⟩
         · have HR : Hid (r = (0, 0)) := Lib.hid (by rw [HFA.out, if_neg (fun h => he h.2.2)])
           have hq : ((strOfNums (encR n)).toList != (s.extract 0 (i + 1)).toList) = true := bne_iff_ne.2 (fun h => he (HEQ.out.1 h))
           have hq2 : ((strOfNums (encR n)).toList == (s.extract 0 (i + 1)).toList) = false := beq_eq_false_iff_ne.2 (fun h => he (HEQ.out.1 h))
           clear he HEQ
           have HBc : Hid (Below wr.heap.size wr wr.drew) := Lib.hid (below_drew (Below.refl _ _))
           go_upto_region 17 with (fail)
           refine wp_region_any (by kernel_rfl) ?_
           change wpAny _ _ _ _ _ _ _ (World.drew _)
           refine tq 0 (h := ?_)
           simp only [lst]
           refine one 1 rfl (by kernel_rfl) (by rfl) fun K_ hK_ => ?_
           simp only [lgt]
           go_simp
           refine (may_any n _).mono ?_
           rintro e_ w5_ ⟨rfl, hw5_⟩
           obtain rfl := hw5_.symm
           rw [decide_eq_true hru]
           simp only [Oper.upon]
           refine hK_ _ _ ?_
           clear hK_ K_
           refine tq 2 (h := ?_)
           refine tq 3 (h := ?_)
           simp only [lst]
           refine tq 4 (h := ?_)
           refine tq 7 (h := ?_)
           simp only [lst]
           refine tq 8 (h := ?_)
           refine tq 9 (h := ?_)
           simp only [lst]
           refine one 5 rfl (by kernel_rfl) (by rfl) fun K_ hK_ => ?_
           simp only [lgt]
           go_simp
           refine (HOC.out _).mono ?_
           rintro e_ w6 ⟨v6, rfl, hR6, hB6⟩
           obtain ⟨G6, g6, rfl⟩ := Kd.R_slice hR6
           have HR6 := Lib.hid hR6
           have HBc := Lib.hid (HBc.out.trans (hB6.mono HBc.out.size))
           clear hB6 hR6
           simp only [Oper.upon]
           refine hK_ _ _ ?_
           clear hK_ K_
           refine one 6 rfl (by kernel_rfl) (by rfl) fun K_ hK_ => ?_
           have hcv := own_string (P := Tryz.prog) Tryz.underlying185 Tryz.underlying5 Tryz.underlying9 (Kd.own_of_R HR6.out)
           simp only [lgt]
           go_simp
           clear hcv
           refine hK_ _ _ ?_
           clear hK_ K_
           refine tq 10 (h := ?_)
           refine tq 11 (h := ?_)
           refine wpAny_done (by kernel_rfl) ?_ _
           simp only [lst]
           rotate_left
           all_goals
            go_wp2_with fail
            go_ret2
            exact ⟨by rw [HR.out]; rfl, HBc.out⟩
       · have HR : Hid (r = (0, 0)) := Lib.hid (by rw [HFA.out, if_neg (fun h => hru h.2.1)])
         rw [decide_eq_false hru] at HM
         have HBc : Hid (Below wr.heap.size wr wr.drew) := Lib.hid (below_drew (Below.refl _ _))
         go_upto_region 17 with (fail)
         refine wp_region_any (by kernel_rfl) ?_
         change wpAny _ _ _ _ _ _ _ (World.drew _)
         refine tq 0 (h := ?_)
         simp only [lst]
         refine one 1 rfl (by kernel_rfl) (by rfl) fun K_ hK_ => ?_
         simp only [lgt]
         go_simp
         refine (may_any n _).mono ?_
         rintro e_ w5_ ⟨rfl, hw5_⟩
         obtain rfl := hw5_.symm
         rw [decide_eq_false hru]
         simp only [Oper.upon]
         refine hK_ _ _ ?_
         clear hK_ K_
         refine tq 2 (h := ?_)
         refine tq 3 (h := ?_)
         simp only [lst]
         refine sq 4 (h := ?_)
         refine sq 5 (h := ?_)
         simp only [lst]
         refine sq 6 (h := ?_)
         refine sq 7 (h := ?_)
         simp only [lst]
         refine sq 8 (h := ?_)
         refine sq 9 (h := ?_)
         simp only [lst]
         refine sq 10 (h := ?_)
         refine tq 11 (h := ?_)
         refine wpAny_done (by kernel_rfl) ?_ _
         simp only [lst]
         rotate_left
         all_goals
          go_wp2_with fail
          go_ret2
          exact ⟨by rw [HR.out]; rfl, HBc.out⟩
def t4 (s : ByteArray) : Int := if checkL (uitems s s.size 0) = none then 0 else 61
theorem txt_eq {s : ByteArray} (h : s.size ≤ 1073741824) : txt s = if t4 s ≠ 0 then 61 else if 16384 < (s.size : Int) then 5 else 0 := by
 unfold txt t4 value_letters.f utf_Check.f
 rw [if_pos (by omega)]
 cases hc : checkL (uitems s s.size 0) with
 | none =>
  by_cases hs : 16384 < (s.size : Int)
  · simp
    rw [if_pos hs, if_pos hs]; rfl
  · simp
    rw [if_neg hs, if_neg hs]; rfl
 | some p => simp
def R4Post (r : Int) (w : World) (e : Ending) (w' : World) : Prop := ∃ p : Int, e = .returned (.tuple #[.int .i64 p, .int .i64 r]) ∧ Below w.heap.size w w'
set_option maxHeartbeats 2000000 in
theorem r4_any (s : ByteArray) (w : World) (hs : s.size ≤ 1073741824) : Calls Tryz.prog 140 #[.string s] w (R4Post (t4 s) w) := by
 have HT : Hid (t4 s = if checkL (uitems s s.size 0) = none then 0 else 61) := Lib.hid rfl
 obtain ⟨r, hr⟩ : ∃ r, r = t4 s := ⟨_, rfl⟩
 rw [← hr] at HT ⊢
 clear hr
 go_enter Tryz.func140, Tryz.ntmps140
 go_wp2
 go_loopw [4] (fun va wr => ∃ p : Nat, p ≤ s.size ∧ va = .int .i64 p ∧ Hid (∃ f, s.size - p ≤ f ∧ checkL (uitems s s.size 0) = checkL (uitems s f p)) ∧ Hid (Below w.heap.size w wr)) (fun va _ => s.size - (intOf va).toNat)
 case atStart => exact ⟨0, Nat.zero_le _, rfl, Lib.hid ⟨s.size, by omega, rfl⟩, Lib.hid (Below.refl _ _)⟩
 case round =>
  obtain ⟨p, hp, rfl, HF, HB⟩ := hrel
  by_cases hlt : p < s.size
  · have hlt2 : (p : Int) < (s.size : Int) := by omega
    have hle2 : (p : Int) ≤ (s.size : Int) := by omega
    have hp0 : (0 : Int) ≤ (p : Int) := by omega
    obtain ⟨f, hf, hck⟩ := HF.out
    obtain ⟨g, rfl⟩ : ∃ g, f = g + 1 := ⟨f - 1, by omega⟩
    have hui : uitems s (g + 1) p = (p, uc s p) :: uitems s g (p + un s p) := by rw [uitems, if_pos hlt]
    rw [hui, checkL] at hck
    have hsz : (s.extract p s.size).size ≤ 1073741824 := by rw [ByteArray.size_extract]; omega
    have HFI := Lib.hid (first_any (s.extract p s.size) wr hsz)
    rw [cut_bytes] at HFI
    have hun := un_le s p hlt
    have hup := un_pos s p
    rw [uc_dc, un_dn] at hck
    rw [un_dn] at hun hup
    by_cases hd : 0 ≤ dc ((bytesOf s).drop p)
    · rw [firstR_ne (drop_ne hlt) hd] at HFI
      rw [if_neg (by omega)] at hck
      have HF2 : Hid (∃ f, s.size - (p + dn ((bytesOf s).drop p)) ≤ f ∧ checkL (uitems s s.size 0) = checkL (uitems s f (p + dn ((bytesOf s).drop p)))) := Lib.hid ⟨g, by omega, hck⟩
      simp only at HFI
      generalize dc ((bytesOf s).drop p) = cc at *
      generalize dn ((bytesOf s).drop p) = u at *
      have hu0 : ((u : Int) == 0) = false := by rw [beq_eq_false_iff_ne]; omega
      have hu1 : (0 : Int) ≤ (u : Int) := by omega
      clear HF hck hui hf
      go_wp2_with (go_at_call 154; (with_reducible refine (HFI.out).mono ?_); rintro e w5 ⟨rfl, hB5⟩; have HB5 := Lib.hid (HB.out.trans (hB5.mono HB.out.size)); clear hB5)
      go_roundw
      case rel => exact ⟨p + u, hun, congrArg (Value.int .i64) (by omega), HF2, HB5⟩
      case measure => show s.size - ((p : Int) + (u : Int)).toNat < s.size - p; omega
    · rw [firstR_bad hd] at HFI
      rw [if_pos (by omega)] at hck
      have HR : Hid (r = 61) := Lib.hid (by rw [HT.out, if_neg (by rw [hck]; simp)])
      simp only at HFI
      clear HF hck hui hf hd hun hup
      go_wp2_with (go_at_call 154; (with_reducible refine (HFI.out).mono ?_); rintro e w5 ⟨rfl, hB5⟩; have HB5 := Lib.hid (HB.out.trans (hB5.mono HB.out.size)); clear hB5)
      go_ret2
      exact ⟨_, by rw [HR.out]; rfl, HB5.out⟩
  · obtain rfl : p = s.size := by omega
    have hlt2 : ¬ (s.size : Int) < (s.size : Int) := by omega
    have HR : Hid (r = 0) := Lib.hid (by
     obtain ⟨f, _, hck⟩ := HF.out
     rw [HT.out, hck, if_pos]
     cases f with
     | zero => rfl
     | succ g => rw [uitems, if_neg (by omega)]; rfl)
    go_wp2
    go_ret2
    exact ⟨_, by rw [HR.out]; rfl, HB.out⟩
set_option maxHeartbeats 1000000 in
theorem rtext_any (s : ByteArray) (w : World) (hs : s.size ≤ 1073741824) : Calls Tryz.prog 124 #[.string s] w fun e w' => e = .returned (.int .i64 (txt s)) ∧ Below w.heap.size w w' := by
 have HX := Lib.hid (txt_eq hs)
 have H4 := Lib.hid (r4_any s w hs)
 generalize txt s = r at *
 generalize t4 s = t at *
 by_cases h0 : t = 0
 · subst h0
   by_cases h1 : 16384 < (s.size : Int)
   · have HR : Hid (r = 5) := Lib.hid (by rw [HX.out, if_neg (by simp), if_pos h1])
     have h2 : decide (16384 < s.size) = true := by simp; omega
     go_enter Tryz.func124, Tryz.ntmps124
     go_wp2_with (go_at_call 140; (with_reducible refine (H4.out).mono ?_); rintro e w5 ⟨p, rfl, hB5⟩; have HB5 := Lib.hid hB5; clear hB5)
     go_ret
     exact ⟨by rw [HR.out]; rfl, HB5.out⟩
   · have HR : Hid (r = 0) := Lib.hid (by rw [HX.out, if_neg (by simp), if_neg h1])
     have h2 : decide (16384 < s.size) = false := by simp; omega
     go_enter Tryz.func124, Tryz.ntmps124
     go_wp2_with (go_at_call 140; (with_reducible refine (H4.out).mono ?_); rintro e w5 ⟨p, rfl, hB5⟩; have HB5 := Lib.hid hB5; clear hB5)
     go_ret
     exact ⟨by rw [HR.out]; rfl, HB5.out⟩
 · have HR : Hid (r = 61) := Lib.hid (by rw [HX.out, if_pos h0])
   have h1 : (t != 0) = true := by simpa using h0
   go_enter Tryz.func124, Tryz.ntmps124
   go_wp2_with (go_at_call 140; (with_reducible refine (H4.out).mono ?_); rintro e w5 ⟨p, rfl, hB5⟩; have HB5 := Lib.hid hB5; clear hB5)
   go_ret
   exact ⟨by rw [HR.out]; rfl, HB5.out⟩
end Go.Proofs.YtmfpakolfpoamaaGreatDoor.P

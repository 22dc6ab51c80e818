/- The page's texts and powers, by value. -/
import Derived.Test.YtdbnpaloalhciaaPf
import Derived.Test.YtdbnpaloalhciaaNi
import Derived.Test.YtdbnpaloalhciaaPx9
import Derived.Test.YtdbnpaloalhciaaPx10
namespace Go.Proofs.Ytdbnpaloalhciaa.P
set_option linter.unusedVariables false
set_option linter.unusedSimpArgs false
open Go.RowKit Go.Proofs.YtdbnpaloalhciaaW.PrintWords Go.Proofs.YtdbnpaloalhciaaW.PrintMore
/-! Texts -/
theorem str_bytesOf (s : ByteArray) : strOfNums (bytesOf s) = s := by
  cases s with
  | mk d =>
    unfold strOfNums bytesOf
    simp only [List.map_map]
    rw [show ((fun n : Int => UInt8.ofNat n.toNat) ∘ fun b : UInt8 => (b.toNat : Int)) = id from funext fun b => by simp]
    simp
theorem bytesOf_str {l : List Int} (h : ∀ x ∈ l, 0 ≤ x ∧ x < 256) : bytesOf (strOfNums l) = l := by
  unfold strOfNums bytesOf
  simp only [List.toList_toArray, List.map_map]
  conv => rhs; rw [← List.map_id l]
  refine List.map_congr_left fun x hx => ?_
  have := h x hx
  simp only [Function.comp, id]
  rw [UInt8.toNat_ofNat']
  omega
theorem strOfNums_size (l : List Int) : (strOfNums l).size = l.length := by unfold strOfNums ByteArray.size; simp
theorem bytesOf_inj {a b : ByteArray} (h : bytesOf a = bytesOf b) : a = b := by rw [← str_bytesOf a, h, str_bytesOf]
theorem bt_bytes (s : ByteArray) (i : Nat) : bt s i = (bytesOf s).getD i 0 := by
  rw [← rd_bytesOf]; unfold rd; rw [Int.toNat_natCast]
theorem digB_iff {l : List Int} : digB l = true ↔ ∀ x ∈ l, 48 ≤ x ∧ x ≤ 57 := by
  unfold digB
  rw [List.all_eq_true]
  constructor
  · intro h x hx; have := h x hx; unfold digC at this; simpa using this
  · intro h x hx; have := h x hx; unfold digC; simpa using this
/-- The digits of a text, the lowest first. -/
def low (l : List Int) : List Int := (l.map (· - 48)).reverse
theorem low_okD {l : List Int} (h : digB l = true) : okD (low l) := fun x hx => by
  unfold low at hx
  rw [List.mem_reverse] at hx
  obtain ⟨y, hy, rfl⟩ := List.mem_map.1 hx
  have := digB_iff.1 h y hy
  omega
theorem low_dval {l : List Int} (h : digB l = true) : dval (low l) = dnum l := by
  have key : ∀ (k : Nat) (l : List Int), l.length = k → digB l = true → dval (low l) = dnum l := by
    intro k
    induction k with
    | zero => intro l hl _; rw [List.eq_nil_of_length_eq_zero hl]; rfl
    | succ k ih =>
      intro l hl h
      have hne : l ≠ [] := by intro e; subst e; simp at hl
      obtain ⟨c, hc⟩ : ∃ c, c = l.getLast hne := ⟨_, rfl⟩
      have e : l = l.dropLast ++ [c] := by rw [hc]; exact (List.dropLast_concat_getLast hne).symm
      have hd : digB l.dropLast = true := digB_iff.2 fun x hx => digB_iff.1 h x (List.dropLast_subset _ hx)
      have hcd := digB_iff.1 h c (by rw [hc]; exact List.getLast_mem hne)
      have := ih l.dropLast (by rw [List.length_dropLast]; omega) hd
      rw [e, dnum_snoc, ← this]
      unfold low
      rw [List.map_append, List.reverse_append]
      simp only [List.map_cons, List.map_nil, List.reverse_cons, List.reverse_nil, List.nil_append, List.cons_append, dval]
      omega
  exact key _ l rfl h
theorem asc_dig (n : Nat) : ∀ x ∈ (asc n).reverse, 48 ≤ x ∧ x ≤ 57 := fun x hx => by
  rw [List.mem_reverse] at hx
  unfold asc at hx
  obtain ⟨y, hy, rfl⟩ := List.mem_map.1 hx
  have := okD_decs n y hy
  omega
theorem bytes_text (n : Nat) : bytesOf (text n) = if n = 0 then [48] else (asc n).reverse := by
  unfold text fin
  by_cases h : n = 0
  · subst h
    rw [asc_zero]
    rfl
  · rw [if_neg h, if_neg (by rw [asc_pos h]; simp)]
    exact bytesOf_str fun x hx => by have := asc_dig n x hx; omega
theorem text_dig (n : Nat) : digB (bytesOf (text n)) = true := by
  rw [bytes_text]
  split
  · rfl
  · exact digB_iff.2 (asc_dig n)
theorem text_num (n : Nat) : dnum (bytesOf (text n)) = n := by
  rw [← low_dval (text_dig n), bytes_text]
  split
  · rename_i h; subst h; rfl
  · unfold low asc
    rw [List.map_reverse, List.reverse_reverse, List.map_map]
    have : ((fun x : Int => x - 48) ∘ fun x => 48 + x) = id := funext fun x => by simp only [Function.comp, id]; omega
    rw [this, List.map_id, dval_decs]
theorem text_size (n : Nat) : (text n).size = if n = 0 then 1 else (decs n).length := by
  rw [← bytesOf_length, bytes_text]
  split
  · rfl
  · rw [List.length_reverse, asc_len]
/-- A text of digits that has no 0 at its beginning is its number's. -/
theorem text_back {s : ByteArray} (hd : digB (bytesOf s) = true) (h0 : 0 < s.size) (hf : (bytesOf s).getD 0 0 ≠ 48) : text (dnum (bytesOf s)) = s := by
  have hL : bytesOf s ≠ [] := by intro e; have := bytesOf_length s; rw [e] at this; simp at this; omega
  have hc : dcanon (low (bytesOf s)) := by
    refine dcanon_of_last (low_okD hd) fun hn => ?_
    have e : (low (bytesOf s)).getLast hn = (bytesOf s).getD 0 0 - 48 := by
      have e1 : ∀ (l : List Int) (hl : low l ≠ []), (low l).getLast hl = l.getD 0 0 - 48 := by
        intro l hl
        cases l with
        | nil => exact absurd rfl hl
        | cons a l => simp [low]
      exact e1 _ hn
    rw [e]
    omega
  have hne : dnum (bytesOf s) ≠ 0 := by
    intro e
    unfold dcanon at hc
    rw [low_dval hd, e, decs_zero] at hc
    unfold low at hc
    have := congrArg List.length hc
    simp at this
    have h2 := bytesOf_length s
    omega
  apply bytesOf_inj
  rw [bytes_text, if_neg hne]
  unfold asc
  unfold dcanon at hc
  rw [low_dval hd] at hc
  rw [hc]
  unfold low
  rw [List.map_reverse, List.reverse_reverse, List.map_map]
  have : ((fun x : Int => 48 + x) ∘ fun x => x - 48) = id := funext fun x => by simp only [Function.comp, id]; omega
  rw [this, List.map_id]
theorem text_short {s : ByteArray} (hd : digB (bytesOf s) = true) (h0 : 0 < s.size) : (text (dnum (bytesOf s))).size ≤ s.size := by
  rw [text_size]
  split
  · omega
  · have := dnum_lt _ hd
    rw [bytesOf_length] at this
    exact decs_len this
/-! The page's Parse -/
def parseV (s : ByteArray) : List Int × Int := if s.size = 0 then ([], 8) else if s.size > 2400 then ([], 5) else if digB (bytesOf s) then (limbs (dnum (bytesOf s)), 0) else ([], 32)
theorem parse_f (s : ByteArray) : nat_Parse.f s = some (parseV s) := rfl
theorem low_drop {l : List Int} {i : Nat} (h : i < l.length) : low (l.drop i) = low (l.drop (i + 1)) ++ [l.getD i 0 - 48] := by
  rw [drop_getD h]
  simp [low]
theorem ref_parse_loop (s : ByteArray) (hz : s.size ≤ 2400) : ∀ i : Nat, i ≤ s.size → digB ((bytesOf s).drop i) = true →
    Ev (fun k => bolterref01_Parse.l0 k s (low ((bytesOf s).drop i)) ((i : Int) - 1)) (if digB (bytesOf s) then (limbs (dnum (bytesOf s)), 0) else ([], 32))
  | 0, _, hd => by
    rw [List.drop_zero] at hd ⊢
    rw [if_pos hd]
    have hl : (low (bytesOf s)).length ≤ 2400 := by unfold low; rw [List.length_reverse, List.length_map, bytesOf_length]; exact hz
    have ht := Trim_f _ (low_okD hd) (by omega)
    rw [low_dval hd] at ht
    have h2 : (decs (dnum (bytesOf s))).length ≤ 1000000000 := by
      have := dnum_lt _ hd
      rw [bytesOf_length] at this
      have := decs_len this
      omega
    refine Ev.step (fun k => by rw [bolterref01_Parse.l0.eq_2, if_neg (by omega)]) ?_
    exact Ev.bind ht (Ev.bind (Limbs_f _ h2) (Ev.now _))
  | i + 1, hi, hd => by
    have hb := bt_bytes s i
    have hlt : i < (bytesOf s).length := by rw [bytesOf_length]; omega
    by_cases hc : 48 ≤ (bytesOf s).getD i 0 ∧ (bytesOf s).getD i 0 ≤ 57
    · have hd2 : digB ((bytesOf s).drop i) = true := by
        rw [drop_getD hlt]
        exact digB_iff.2 fun x hx => by
          rcases List.mem_cons.1 hx with rfl | hx
          · exact hc
          · exact digB_iff.1 hd x hx
      have hl : (low ((bytesOf s).drop (i + 1))).length ≤ 2400 := by unfold low; rw [List.length_reverse, List.length_map, List.length_drop, bytesOf_length]; omega
      have h := ref_parse_loop s hz i (by omega) hd2
      rw [low_drop hlt] at h
      refine Ev.step (fun k => ?_) h
      rw [bolterref01_Parse.l0.eq_2, if_pos (by omega), if_pos (by omega), if_pos (by omega), show (((i + 1 : Nat) : Int) - 1) = (i : Int) by omega, hb, if_neg (by omega), if_neg (by omega), if_pos (by omega), w64 _ (by omega), show ((bytesOf s).getD i 0 - 48) % 256 = (bytesOf s).getD i 0 - 48 by omega]
    · have hbad : ¬ digB (bytesOf s) = true := fun h => hc (digB_getD h hlt)
      rw [if_neg hbad]
      refine Ev.step (f := fun _ => some ([], 32)) (fun k => ?_) (Ev.now _)
      rw [bolterref01_Parse.l0.eq_2, if_pos (by omega), if_pos (by omega), if_pos (by omega), show (((i + 1 : Nat) : Int) - 1) = (i : Int) by omega, hb]
      by_cases h1 : (bytesOf s).getD i 0 < 48
      · rw [if_pos h1]
      · rw [if_neg h1, if_pos (by omega)]
theorem ref_parse (s : ByteArray) : Ev (fun k => bolterref01_Parse.f k s) (parseV s) := by
  unfold bolterref01_Parse.f parseV
  by_cases h0 : s.size = 0
  · simp only [if_pos h0, if_pos (show (s.size : Int) = 0 by omega)]
    exact Ev.now _
  · simp only [if_neg h0, if_neg (show ¬ (s.size : Int) = 0 by omega)]
    by_cases h1 : s.size > 2400
    · simp only [if_pos h1, if_pos (show (s.size : Int) > 2400 by omega)]
      exact Ev.now _
    · simp only [if_neg h1, if_neg (show ¬ (s.size : Int) > 2400 by omega)]
      have := ref_parse_loop s (by omega) s.size (Nat.le_refl _) (by rw [← bytesOf_length, List.drop_length]; rfl)
      rw [← bytesOf_length, List.drop_length, bytesOf_length] at this
      rw [w64 _ (by omega)]
      exact this
/-! The page's Print -/
theorem ref_word_loop (n : Nat) (hz : (decs n).length ≤ 1000000000) : ∀ i : Nat, i ≤ (decs n).length → ∀ k, i + 1 ≤ k → bolterref01_Word.l0 k (decs n) (((decs n).drop i).map (48 + ·)).reverse ((i : Int) - 1) = some (text n)
  | 0, _, k, hk => by
    obtain ⟨k, rfl⟩ : ∃ m, k = m + 1 := ⟨k - 1, by omega⟩
    rw [bolterref01_Word.l0.eq_2, if_neg (by omega), List.drop_zero]
    unfold text fin asc
    rw [List.length_reverse]
    by_cases h : ((decs n).map (48 + ·)).length = 0
    · rw [if_pos (by omega), if_pos h]
    · rw [if_neg (by omega), if_neg h]
  | i + 1, hi, k, hk => by
    obtain ⟨k, rfl⟩ : ∃ m, k = m + 1 := ⟨k - 1, by omega⟩
    have hb := okD_getD (okD_decs n) i
    have h := ref_word_loop n hz i (by omega) k (by omega)
    rw [drop_getD (show i < (decs n).length by omega), List.map_cons, List.reverse_cons] at h
    rw [bolterref01_Word.l0.eq_2, if_pos (by omega), if_pos (by omega), if_pos (by omega), if_pos (by rw [List.length_reverse, List.length_map, List.length_drop]; omega), show (((i + 1 : Nat) : Int) - 1) = (i : Int) by omega, rdn, w64 _ (by omega), w64 _ (by omega), show (48 + (decs n).getD i 0) % 256 = 48 + (decs n).getD i 0 by omega]
    exact h
theorem Word_f (n : Nat) (hz : (decs n).length ≤ 1000000000) : Ev (fun k => bolterref01_Word.f k (decs n)) (text n) := by
  refine ⟨(decs n).length + 1, fun k hk => ?_⟩
  have := ref_word_loop n hz (decs n).length (Nat.le_refl _) k hk
  rw [List.drop_length] at this
  unfold bolterref01_Word.f
  rw [w64 _ (by omega)]
  exact this
theorem ref_print (l : List Int) (h : okL l) (hl : l.length ≤ 4611686018427387904) : Ev (fun k => bolterref01_Print.f k l) (printV l) := by
  unfold bolterref01_Print.f printV
  rw [ref_check l hl]
  simp only [Option.bind_some]
  by_cases hc : chk l = 0
  · simp only [if_pos hc]
    obtain ⟨h1, h2⟩ := (chk_ok h).1 hc
    have := decs_256 h h1
    exact Ev.bind (Digits_f h2 h1) (Ev.bind (Word_f _ (by omega)) (Ev.now _))
  · simp only [if_neg hc]
    exact Ev.now _
/-! The page's Pow -/
theorem shift_decs : ∀ m : Nat, List.replicate m (0 : Int) ++ [1] = decs (10 ^ m)
  | 0 => by rw [decs_pos (by simp)]; simp [decs_zero]
  | m + 1 => by
    have hp : (10 : Nat) ^ m ≠ 0 := Nat.ne_of_gt (Nat.pow_pos (by omega))
    rw [List.replicate_succ, List.cons_append, shift_decs m, Nat.pow_succ, decs_pos (n := 10 ^ m * 10) (by omega), Nat.mul_mod_left, Nat.mul_div_cancel _ (by omega)]
    rfl
theorem ref_pow (n : Int) : Ev (fun k => bolterref01_Pow.f k n) (powV n) := by
  unfold bolterref01_Pow.f powV
  by_cases h0 : n < 0
  · simp only [if_pos h0, if_neg (show ¬ (0 ≤ n ∧ n ≤ 2400) by omega)]
    exact Ev.step (f := fun _ => some ([], 4)) (fun k => by rw [bolterref01_Pow.j0.eq_2, if_pos rfl]) (Ev.now _)
  · by_cases h1 : n > 2400
    · simp only [if_neg h0, if_neg (show ¬ (0 ≤ n ∧ n ≤ 2400) by omega), decide_eq_true h1]
      exact Ev.step (f := fun _ => some ([], 4)) (fun k => by rw [bolterref01_Pow.j0.eq_2, if_pos rfl]) (Ev.now _)
    · obtain ⟨m, rfl⟩ : ∃ m : Nat, n = m := ⟨n.toNat, by omega⟩
      simp only [if_neg h0, if_pos (show (0 ≤ (m : Int) ∧ (m : Int) ≤ 2400) by omega), decide_eq_false h1, Int.toNat_natCast]
      have hs : bolterref01_Shift.f [1] (m : Int) = some (decs (10 ^ m)) := by
        unfold bolterref01_Shift.f
        rw [if_neg (by simp), if_pos (by omega), Int.toNat_natCast, if_pos (by omega), Option.bind_some, if_pos (by simp; omega), shift_decs]
      have hl : (decs (10 ^ m)).length ≤ 1000000000 := by rw [← shift_decs]; simp; omega
      refine Ev.step (fun k => ?_) (Ev.bind (f := fun k (a : List Int) => some (a, (0 : Int))) (Limbs_f _ hl) (Ev.now _))
      rw [bolterref01_Pow.j0.eq_2, if_neg (by simp), hs, Option.bind_some]
end Go.Proofs.Ytdbnpaloalhciaa.P

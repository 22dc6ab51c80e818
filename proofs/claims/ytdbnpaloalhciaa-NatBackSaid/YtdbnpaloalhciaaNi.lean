/- nat's Parse: contract. -/
import Derived.Test.YtdbnpaloalhciaaPa
import Derived.Test.YtdbnpaloalhciaaNa
import Derived.Deep.RegionHeld3
import Derived.Lib.ConvBytes
namespace Go.Proofs.Ytdbnpaloalhciaa.P
set_option linter.unusedVariables false
set_option linter.unusedSimpArgs false
open Go.RowKit Go.Proofs.YtdbnpaloalhciaaW.PrintWords Go.Proofs.YtdbnpaloalhciaaW.PrintMore Go.Proofs.YtdbnpaloalhciaaW.PrintLast
def digC (c : Int) : Bool := decide (48 ≤ c) && decide (c ≤ 57)
def digB (l : List Int) : Bool := l.all digC
def dnum (l : List Int) : Nat := l.foldl (fun n c => n * 10 + (c - 48).toNat) 0
set_option maxHeartbeats 1000000 in
theorem dig_in (c : Int) (w : World) : Calls Try.prog 41 #[.int .u8 c] w fun e w' => e = .returned (.bool (!digC c)) ∧ w = w' := by
  by_cases h1 : c < 48
  · have hd : digC c = false := by unfold digC; simp; omega
    rw [hd]
    go_enter Try.func41, Try.ntmps41
    go_wp2
    go_ret
    exact ⟨rfl, rfl⟩
  · by_cases h2 : c > 57
    · have hd : digC c = false := by unfold digC; simp; omega
      rw [hd]
      go_enter Try.func41, Try.ntmps41
      go_wp2
      go_ret
      exact ⟨rfl, rfl⟩
    · have hd : digC c = true := by unfold digC; simp; omega
      rw [hd]
      go_enter Try.func41, Try.ntmps41
      go_wp2
      go_ret
      exact ⟨rfl, rfl⟩
set_option maxHeartbeats 1000000 in
theorem index_in (A : Option Addr) (c : Nat) (l : List Int) (w : World) (hC : ReadsInt w .u8 A l.length l) (hz : l.length ≤ 4611686018427387904) :
    Calls Try.prog 65 #[.slice A l.length c, .func (.func 41) #[] #[]] w fun e w' => w = w' ∧ ∃ r : Int, e = .returned (.int .i64 r) ∧ (r ≥ 0 ↔ digB l = false) := by
  have HC := Lib.hid hC
  clear hC
  go_enter Try.func65, Try.ntmps65
  go_wp2
  go_loopw [8] (fun i wr => ∃ k : Nat, k ≤ l.length ∧ i = .int .i64 k ∧ Hid (digB (l.take k) = true) ∧ wr = w) (fun i _ => l.length - (intOf i).toNat)
  case atStart => exact ⟨0, Nat.zero_le _, rfl, Lib.hid rfl, rfl⟩
  case round =>
    obtain ⟨k, hk, rfl, hd, rfl⟩ := hrel
    by_cases hlt : k < l.length
    · obtain ⟨ad, rfl, hx⟩ := HC.out.at_ (k : Int) (by omega) (by omega)
      rw [Int.toNat_natCast] at hx
      have hw : IntKind.i64.wrap ((k : Int) + 1) = ((k + 1 : Nat) : Int) := by rw [wrap_in _ (by omega)]; omega
      have ht : Hid (digB (l.take (k + 1)) = digC (rd l k)) := Lib.hid (by
        rw [take_succ_getD hlt, ← rd_nat]
        have := hd.out
        unfold digB at this ⊢
        rw [List.all_append, this]
        simp)
      cases hc : digC (rd l k) with
      | true =>
        rw [hc] at ht
        go_wp2_with (first | (go_at_call 41; refine (dig_in _ _).mono ?_; rw [hc]; rintro e w' ⟨rfl, rfl⟩))
        go_roundw
        case rel => exact ⟨k + 1, by omega, by go_num, ht, trivial⟩
        case measure => simp [intOf]; omega
      | false =>
        rw [hc] at ht
        have hbad : Hid (digB l = false) := Lib.hid (by
          have := ht.out
          have e : l = l.take (k + 1) ++ l.drop (k + 1) := (List.take_append_drop _ _).symm
          rw [e]
          unfold digB at this ⊢
          rw [List.all_append, this]
          rfl)
        go_wp2_with (first | (go_at_call 41; refine (dig_in _ _).mono ?_; rw [hc]; rintro e w' ⟨rfl, rfl⟩))
        go_ret
        exact ⟨rfl, _, rfl, by rw [hbad.out]; simp⟩
    · obtain rfl : k = l.length := by omega
      rw [List.take_length] at hd
      go_wp2
      go_ret
      exact ⟨rfl, _, rfl, by rw [hd.out]; simp⟩
set_option maxHeartbeats 1000000 in
theorem contains_in (A : Option Addr) (c : Nat) (l : List Int) (w : World) (hC : ReadsInt w .u8 A l.length l) (hz : l.length ≤ 4611686018427387904) :
    Calls Try.prog 40 #[.slice A l.length c, .func (.func 41) #[] #[]] w fun e w' => w = w' ∧ e = .returned (.bool (!digB l)) := by
  have HC := Lib.hid hC
  clear hC
  go_enter Try.func40, Try.ntmps40
  go_wp2_with fail
  refine (index_in A c l _ HC.out hz).mono ?_
  rintro e w' ⟨rfl, r, rfl, hr⟩
  have hb : (decide (r ≥ 0)) = !digB l := by
    cases h : digB l with
    | true => simp [h] at hr ⊢; exact hr
    | false => simp [h] at hr ⊢; exact hr
  go_wp2
  go_ret
  exact ⟨rfl, by rw [← hb]; rfl⟩
theorem dnum_snoc (l : List Int) (c : Int) : dnum (l ++ [c]) = dnum l * 10 + (c - 48).toNat := by unfold dnum; rw [List.foldl_append]; rfl
theorem dnum_lt : ∀ (l : List Int), digB l = true → dnum l < 10 ^ l.length := by
  intro l
  have key : ∀ (l : List Int) (n m : Nat), digB l = true → n < m → l.foldl (fun n c => n * 10 + (c - 48).toNat) n < m * 10 ^ l.length := by
    intro l
    induction l with
    | nil => intro n m _ h; simpa using h
    | cons c l ih =>
      intro n m h hn
      unfold digB at h
      simp only [List.all_cons, Bool.and_eq_true] at h
      have hc : 48 ≤ c ∧ c ≤ 57 := by have := h.1; unfold digC at this; simpa using this
      rw [List.foldl_cons, List.length_cons]
      have := ih (n * 10 + (c - 48).toNat) (m * 10) h.2 (by omega)
      rwa [Nat.mul_assoc, ← Nat.pow_succ'] at this
  intro h
  have := key l 0 1 h (by omega)
  unfold dnum
  simpa using this
theorem digB_getD {l : List Int} (h : digB l = true) {i : Nat} (hi : i < l.length) : 48 ≤ l.getD i 0 ∧ l.getD i 0 ≤ 57 := by
  have := List.all_eq_true.1 h (l.getD i 0) (by rw [List.getD_eq_getElem?_getD, List.getElem?_eq_getElem hi]; exact List.getElem_mem _)
  unfold digC at this
  simpa using this
theorem digB_take {l : List Int} (h : digB l = true) (n : Nat) : digB (l.take n) = true := List.all_eq_true.2 fun x hx => List.all_eq_true.1 h x (List.mem_of_mem_take hx)
theorem digB_drop {l : List Int} (h : digB l = true) (n : Nat) : digB (l.drop n) = true := List.all_eq_true.2 fun x hx => List.all_eq_true.1 h x (List.mem_of_mem_drop hx)
set_option maxHeartbeats 1000000 in
theorem piece_in (t : ByteArray) (w : World) (hd : digB (bytesOf t) = true) (hz : t.size ≤ 9) :
    Calls Try.prog 42 #[.string t] w fun e w' => e = .returned (.int .u32 (dnum (bytesOf t))) ∧ Below w.heap.size w w' := by
  have hconv := fun W : World => print_bytes (P := Try.prog) 9 65 5 Try.underlying9 Try.underlying65 Try.underlying5 t W
  have hR := Lib.hid (bytes_reads w 5 t (by omega))
  have hB := Lib.hid (bytes_below (Below.refl w.heap.size w) (Nat.le_refl _) 5 t)
  have HD := Lib.hid hd
  have HL := Lib.hid (bytesOf_length t)
  obtain ⟨W, hW⟩ : ∃ W, W = Lib.bytesWorld w 5 t := ⟨_, rfl⟩
  rw [← hW] at hR hB
  have HW := Lib.hid hW
  clear hd hW
  go_enter Try.func42, Try.ntmps42
  go_wp2
  rw [← HW.out]
  go_loopw [3, 9] (fun vn vi wr => ∃ k : Nat, k ≤ t.size ∧ vi = .int .i64 k ∧ vn = .int .u32 (dnum ((bytesOf t).take k)) ∧ wr = W) (fun _ i _ => t.size - (intOf i).toNat)
  case atStart => exact ⟨0, Nat.zero_le _, rfl, rfl, rfl⟩
  case round =>
    obtain ⟨k, hk, rfl, rfl, rfl⟩ := hrel
    by_cases hlt : k < t.size
    · obtain ⟨ad, hA, hx⟩ := hR.out.at_ (k : Int) (by omega) (by omega)
      injection hA with hA
      subst hA
      rw [Int.toNat_natCast, add_plain] at hx
      have hc := digB_getD HD.out (i := k) (by have := HL.out; omega)
      rw [rd_nat] at hx
      have hlt9 : dnum ((bytesOf t).take k) < 10 ^ 8 := Nat.lt_of_lt_of_le (dnum_lt _ (digB_take HD.out k)) (Nat.pow_le_pow_right (by omega) (by rw [List.length_take]; omega))
      have hs : Hid (dnum ((bytesOf t).take (k + 1)) = dnum ((bytesOf t).take k) * 10 + ((bytesOf t).getD k 0 - 48).toNat) := Lib.hid (by rw [take_succ_getD (by have := HL.out; omega), dnum_snoc])
      generalize (bytesOf t).getD k 0 = c at *
      generalize dnum ((bytesOf t).take k) = n at *
      have hw : IntKind.i64.wrap ((k : Int) + 1) = ((k + 1 : Nat) : Int) := by rw [wrap_in _ (by omega)]; omega
      go_wp2
      go_roundw
      case rel =>
        refine ⟨k + 1, by omega, by go_num, ?_, trivial⟩
        rw [hs.out]
        congr 1
        omega
      case measure => simp [intOf]; omega
    · obtain rfl : k = t.size := by omega
      have hT : Hid ((bytesOf t).take t.size = bytesOf t) := Lib.hid (by rw [← HL.out, List.take_length])
      go_wp2
      go_ret
      rw [hT.out]
      exact ⟨rfl, hB.out⟩
theorem bytesOf_cut (s : ByteArray) (i j : Nat) : bytesOf (s.extract i j) = ((bytesOf s).drop i).take (j - i) := by
  unfold bytesOf
  rw [ByteArray.data_extract, Array.toList_extract]
  simp [List.extract_eq_take_drop, List.map_take, List.map_drop]
theorem one_C (W : World) (x : Int) : Kd.C (Kd.int .u32) (W.alloc (.cells #[.int .u32 x] 59)) (some ⟨W.heap.size, 0, none⟩) [x].length [x] := by
  refine Kd.C_of_reads (d := (0 : Int)) (h1 := fun _ => rfl) ⟨rfl, by simp, fun _ => ⟨_, rfl, fun j hj => ?_⟩⟩
  obtain rfl : j = 0 := by simpa using hj
  exact cell_one_new W (.int .u32 x) _ 0 _ rfl
theorem trim_C (A : Option Addr) (c : Nat) (l : List Int) (w : World) (hC : Kd.C (Kd.int .u32) w A l.length l) (hc : l.length ≤ c) (hl : okL l) (hz : l.length ≤ 1152921504606846976) :
    Calls Try.prog 43 #[.slice A l.length c] w fun e w' => w' = w ∧ ∃ A' c', e = .returned (.slice A' (limbs (val l)).length c') ∧ (limbs (val l)).length ≤ c' ∧ Kd.C (Kd.int .u32) w A' (limbs (val l)).length (limbs (val l)) := by
  refine (trim_in A c l w hC hc hl hz).mono ?_
  rintro e w' ⟨rfl, m, hm, hr, he⟩
  have hlen : (limbs (val l)).length = m := by rw [← hr, List.length_take]; omega
  refine ⟨rfl, ?_⟩
  rcases he with ⟨rfl, rfl⟩ | ⟨h, rfl⟩
  · have h0 : limbs (val l) = [] := List.eq_nil_of_length_eq_zero hlen
    rw [h0]
    exact ⟨none, 0, rfl, Nat.le_refl _, Kd.C_nil _ _⟩
  · refine ⟨A, c, by rw [hlen], by omega, ?_⟩
    rw [← hr]
    exact Kd.C_take hC hm
/-- What stands in front of a place, as a number; behind each nine. -/
theorem dnum_app (a b : List Int) (h : digB b = true) : dnum (a ++ b) = dnum a * 10 ^ b.length + dnum b := by
  have key : ∀ (b : List Int) (n m : Nat), b.foldl (fun n c => n * 10 + (c - 48).toNat) (n + m) = n * 10 ^ b.length + b.foldl (fun n c => n * 10 + (c - 48).toNat) m := by
    intro b
    induction b with
    | nil => intro n m; simp
    | cons c b ih =>
      intro n m
      rw [List.foldl_cons, List.foldl_cons, List.length_cons, show (n + m) * 10 + (c - 48).toNat = n * 10 + (m * 10 + (c - 48).toNat) by omega, ih, Nat.pow_succ']
      rw [Nat.mul_assoc]
  unfold dnum
  rw [List.foldl_append]
  have := key b (a.foldl (fun n c => n * 10 + (c - 48).toNat) 0) 0
  simpa using this
def nat_Parse.f (a0 : ByteArray) : Option (List Int × Int) := some (if a0.size = 0 then ([], 8) else if a0.size > 2400 then ([], 5) else if digB (bytesOf a0) then (limbs (dnum (bytesOf a0)), 0) else ([], 32))
theorem parse_bound {n k : Nat} (h : n < 10 ^ k) : (limbs n).length ≤ k := canon_len (canon_limbs n) (by
  rw [val_limbs]
  exact Nat.lt_of_lt_of_le h (Nat.pow_le_pow_left (by omega) _))
def strLen : Value → Nat
  | .string s => s.size
  | _ => 0
set_option maxHeartbeats 4000000 in
set_option maxRecDepth 100000 in
theorem parse_loop (s : ByteArray) (w : World) (h0 : 0 < s.size) (h1 : s.size ≤ 2400) (hd : digB (bytesOf s) = true) :
    Calls Try.prog 15 #[.string s] w fun e w' => ∃ v0_ : Value, e = .returned (.tuple #[v0_, .int .i64 0]) ∧ Kd.R (Kd.int .u32) 59 w' w.heap.size (fun _ => True) v0_ (limbs (dnum (bytesOf s))) ∧ Below w.heap.size w w' := by
  have hconv := fun W : World => print_bytes (P := Try.prog) 9 65 5 Try.underlying9 Try.underlying65 Try.underlying5 s W
  have hR := Lib.hid (bytes_reads w 5 s (by omega))
  have hB := Lib.hid (bytes_below (Below.refl w.heap.size w) (Nat.le_refl _) 5 s)
  have HD := Lib.hid hd
  have HL := Lib.hid (bytesOf_length s)
  rw [← HL.out] at hR
  obtain ⟨W, hW⟩ : ∃ W, W = Lib.bytesWorld w 5 s := ⟨_, rfl⟩
  rw [← hW] at hR hB
  have HW := Lib.hid hW
  clear hd hW
  go_enter Try.func15, Try.ntmps15
  go_wp2_with fail
  rw [← HW.out, ← HL.out]
  refine (contains_in _ _ (bytesOf s) _ hR.out (by have := HL.out; omega)).mono ?_
  rintro e w' ⟨rfl, rfl⟩
  rw [HD.out]
  go_wp2_with fail
  go_loopw [0, 4] (fun vs vo wr => ∃ (i : Nat) (t : ByteArray), i ≤ s.size ∧ vs = .string t ∧ Hid (bytesOf t = (bytesOf s).drop i) ∧ t.size = s.size - i ∧ Hid (Kd.R (Kd.int .u32) 59 wr w.heap.size (fun _ => True) vo (limbs (dnum ((bytesOf s).take i)))) ∧ Hid (Below w.heap.size w wr) ∧ (i = 0 ∨ (s.size - i) % 9 = 0)) (fun vs _ _ => strLen vs)
  case atStart =>
    refine ⟨0, s, Nat.zero_le _, rfl, Lib.hid rfl, rfl, Lib.hid ?_, hB, .inl rfl⟩
    have : limbs (dnum ((bytesOf s).take 0)) = [] := limbs_zero
    rw [this]
    exact Kd.R_nil _ _ _ _ _
  case round =>
    obtain ⟨i, t, hi, rfl, hT, htz, hO, hBl, hm9⟩ := hrel
    by_cases ht0 : t.size = 0
    · have ht : t = ⟨#[]⟩ := by
        cases t with
        | mk d => congr 1; exact Array.eq_empty_of_size_eq_zero ht0
      obtain rfl : i = s.size := by omega
      subst ht
      have e : Hid ((bytesOf s).take s.size = bytesOf s) := Lib.hid (by rw [← HL.out, List.take_length])
      rw [e.out] at hO
      go_wp2
      go_ret2
      exact ⟨_, rfl, hO.out, hBl.out⟩
    · obtain ⟨m, hm⟩ : ∃ m, m = (t.size - 1) % 9 + 1 := ⟨_, rfl⟩
      have hm1 : 1 ≤ m := by omega
      have hm2 : m ≤ t.size := by omega
      have hmz : m ≤ 9 := by omega
      have hmE : wrap64 ((wrap64 ((t.size : Int) - 1)).tmod 9 + 1) = (m : Int) := by rw [w64 ((t.size : Int) - 1) (by omega), Int.tmod_eq_emod_of_nonneg (by omega), w64 _ (by omega)]; omega
      have HME := Lib.hid hmE
      clear hmE
      have hne : t.toList.isEmpty = false := by
        rw [ByteArray.toList_eq, ← Bool.not_eq_true, List.isEmpty_iff]
        intro h
        have := congrArg List.length h
        rw [Array.length_toList] at this
        exact ht0 this
      have hdp : digB (bytesOf (t.extract 0 m)) = true := by
        rw [bytesOf_cut, hT.out]
        exact digB_take (digB_drop (digB_drop HD.out _) _) _
      have hsp : (t.extract 0 m).size = m := by simp; omega
      have hpl : dnum (bytesOf (t.extract 0 m)) < 1000000000 := by
        have := dnum_lt _ hdp
        rw [bytesOf_length, hsp] at this
        exact Nat.lt_of_lt_of_le this (Nat.pow_le_pow_right (n := 10) (by omega) hmz)
      obtain ⟨p, hp⟩ : ∃ p, p = dnum (bytesOf (t.extract 0 m)) := ⟨_, rfl⟩
      obtain ⟨N, hN⟩ : ∃ N, N = dnum ((bytesOf s).take i) := ⟨_, rfl⟩
      have hbt : bytesOf (t.extract 0 m) = ((bytesOf s).drop i).take m := by rw [bytesOf_cut, hT.out]; simp
      have hnext : Hid (dnum ((bytesOf s).take (i + m)) = N * 1000000000 + p) := Lib.hid (by
        have e : (bytesOf s).take (i + m) = (bytesOf s).take i ++ bytesOf (t.extract 0 m) := by rw [hbt, List.take_add]
        rw [e, dnum_app _ _ hdp, bytesOf_length, hsp, ← hN, ← hp]
        rcases hm9 with rfl | h9
        · rw [hN]; simp [dnum]
        · rw [show m = 9 by omega])
      have hNb : N < 10 ^ i := by
        have := dnum_lt _ (digB_take HD.out i)
        rw [List.length_take, HL.out, Nat.min_eq_left hi, ← hN] at this
        exact this
      have hNl := parse_bound hNb
      rw [← hN] at hO
      have HMUL : Hid (nat_num_mul.f 100000 (limbs N) [1000000000] = some (limbs (N * 1000000000))) := Lib.hid (by
        have := mul_eq (limbs N) [1000000000] (okL_limbs N) (by decide) (by omega) (by simp) 100000 (by simp; omega)
        rw [val_limbs] at this
        simpa [val] using this)
      have HOK : Hid (okL [(dnum (bytesOf (t.extract 0 m)) : Int)]) := Lib.hid (by rw [okL_cons]; exact ⟨by omega, okL_nil⟩)
      have HADD : Hid (nat_num_add.f (limbs (N * 1000000000)) (limbs (val [(dnum (bytesOf (t.extract 0 m)) : Int)])) = some (limbs (N * 1000000000 + p))) := Lib.hid (by
        have hz : (limbs (N * 1000000000)).length ≤ i + 9 := parse_bound (by rw [Nat.pow_add]; exact Nat.mul_lt_mul_of_lt_of_le hNb (Nat.le_refl _) (by omega))
        have hv : val [(dnum (bytesOf (t.extract 0 m)) : Int)] = p := by rw [hp]; simp [val]
        have hz2 : (limbs p).length ≤ 1 := canon_len (canon_limbs p) (by rw [val_limbs]; omega)
        unfold nat_num_add.f
        rw [hv, if_pos ⟨⟨okL_limbs _, okL_limbs _⟩, by omega, by omega⟩, val_limbs, val_limbs])
      have HP := Lib.hid hpl
      have HPE := Lib.hid hp
      have HDP := Lib.hid hdp
      clear hN hNb hpl hbt hdp
      rw [← hp] at HP
      obtain ⟨A, c, rfl⟩ := Kd.R_slice hO.out
      have hOC := Kd.R_reads' hO.out
      have HOC := Lib.hid hOC.2.2
      have hOc := hOC.2.1
      clear hOC
      have HTZ := Lib.hid htz
      have hm0 : (0 : Int) ≤ (m : Int) := by omega
      have hsl : ∀ W : World, (Instr.slice 9 (.string t) none (some (.int .i64 (m : Int))) none).run Try.prog W = .ok (.string (t.extract 0 m)) W := fun W => by
        have := run_slice_string_h (P := Try.prog) W 9 t Try.underlying9 .i64 (m : Int) (by omega) (by omega)
        simpa using this
      have HM := Lib.hid hm
      clear htz hm
      go_wp2_with fail
      simp only [HME.out]
      go_region_held3 (fun _ => True) (trivial) (first
        | (go_at_call 39; refine (nat_num_mul.calls 100000 A c (limbs N) _ 1 [1000000000] (limbs (N * 1000000000)) _ ?h1 hOc ?h2 (Nat.le_refl _) ?h3).mono ?_; (case h1 => exact Kd.C_alloc (Kd.C_drew HOC.out) _); (case h2 => exact one_C _ _); (case h3 => exact HMUL.out); rintro e w' ⟨v, rfl, hR1, hB1⟩; obtain ⟨A1, c1, rfl⟩ := Kd.R_slice hR1)
        | (go_at_call 42; refine (piece_in _ _ HDP.out (by rw [hsp]; exact hmz)).mono ?_; rintro e w' ⟨rfl, hB2⟩)
        | (go_at_call 43; refine (trim_C _ 1 [(dnum (bytesOf (t.extract 0 m)) : Int)] _ (one_C _ _) (Nat.le_refl _) HOK.out (by simp)).mono ?_; rintro e w' ⟨rfl, A2, c2, rfl, hc2, hC2⟩)
        | (go_at_call 38; refine (nat_num_add.calls _ _ _ _ _ _ (limbs (N * 1000000000 + p)) _ ?h1 ?h2 ?h3 ?h4 ?h5).mono ?_; (case h1 => exact Kd.C_alloc (Kd.C_below (Kd.R_reads' hR1).2.2 hB2) _); (case h2 => exact (Kd.R_reads' hR1).2.1); (case h3 => exact hC2); (case h4 => exact hc2); (case h5 => exact HADD.out); rintro e w' ⟨v, rfl, hR3, hB3⟩))
      have hR3' := Lib.hid hR3
      have hB3' := Lib.hid hB3
      have hB1' := Lib.hid hB1
      have hB2' := Lib.hid hB2
      clear hR3 hB3 hB1 hB2 hC2 hc2 hR1
      have hbl := hBl.out
      have hb1 := hB1'.out
      have hb2 := hB2'.out
      have hb3 := hB3'.out
      have hz1 := hbl.size
      have hz2 := hb1.size
      have hz3 := hb2.size
      have hz4 := hb3.size
      simp only [World.size_alloc, World.size_drew] at hz2 hz3 hz4 hb1 hb3 hR3'
      have b1 : Below w.heap.size w (wr.alloc (.cells #[.int .u32 1000000000] 59)).drew := below_drew (hbl.alloc hz1 _)
      have b2 := b1.trans (hb1.mono (by omega))
      have b3 := b2.trans (hb2.mono (by omega))
      have b4 := b3.alloc (by omega) (.cells #[.int .u32 (dnum (bytesOf (t.extract 0 m)) : Int)] 59)
      have hfin := Lib.hid (b4.trans (hb3.mono (by omega)))
      have hRf := Lib.hid (Kd.R_lower hR3'.out (show w.heap.size ≤ _ by omega))
      clear hbl hb1 hb2 hb3 b1 b2 b3 b4 hz1 hz2 hz3 hz4
      go_wp2
      refine ⟨⟨i + m, t.extract m t.size, by have := HTZ.out; omega, rfl, Lib.hid ?_, ?_, ?_, hfin, ?_⟩, ?_⟩
      · rw [bytesOf_cut, hT.out, List.drop_drop, List.take_of_length_le]
        rw [List.length_drop, HL.out]
        have := HTZ.out
        omega
      · have := HTZ.out
        simp
        omega
      · rw [hnext.out]; exact hRf
      · rcases hm9 with rfl | h9
        · exact .inr (by have := HTZ.out; have := HM.out; omega)
        · exact .inr (by have := HTZ.out; have := HM.out; omega)
      · simp [strLen]; omega
theorem nat_Parse.calls (a0 : ByteArray) (r1 : List Int) (r2 : Int) (w : World) (h : nat_Parse.f a0 = some (r1, r2)) :
    Calls Try.prog 15 #[.string a0] w fun e w' => ∃ v0_ : Value, e = .returned (.tuple #[v0_, .int .i64 r2]) ∧ Kd.R (Kd.int .u32) 59 w' w.heap.size (fun _ => True) v0_ r1 ∧ Below w.heap.size w w' := by
  unfold nat_Parse.f at h
  have h := Option.some.inj h
  by_cases h0 : a0.size = 0
  · rw [if_pos h0] at h
    obtain ⟨rfl, rfl⟩ : [] = r1 ∧ 8 = r2 := ⟨congrArg Prod.fst h, congrArg Prod.snd h⟩
    clear h
    go_enter Try.func15, Try.ntmps15
    go_wp2
    go_ret2
    exact ⟨_, rfl, Kd.R_nil _ _ _ _ _, Below.refl _ _⟩
  rw [if_neg h0] at h
  by_cases h1 : a0.size > 2400
  · rw [if_pos h1] at h
    obtain ⟨rfl, rfl⟩ : [] = r1 ∧ 5 = r2 := ⟨congrArg Prod.fst h, congrArg Prod.snd h⟩
    clear h
    go_enter Try.func15, Try.ntmps15
    go_wp2
    go_ret2
    exact ⟨_, rfl, Kd.R_nil _ _ _ _ _, Below.refl _ _⟩
  rw [if_neg h1] at h
  by_cases h2 : digB (bytesOf a0) = true
  · rw [if_pos h2] at h
    obtain ⟨rfl, rfl⟩ : limbs (dnum (bytesOf a0)) = r1 ∧ 0 = r2 := ⟨congrArg Prod.fst h, congrArg Prod.snd h⟩
    exact parse_loop a0 w (by omega) (by omega) h2
  · rw [if_neg h2] at h
    obtain ⟨rfl, rfl⟩ : [] = r1 ∧ 32 = r2 := ⟨congrArg Prod.fst h, congrArg Prod.snd h⟩
    clear h
    have hconv := fun W : World => print_bytes (P := Try.prog) 9 65 5 Try.underlying9 Try.underlying65 Try.underlying5 a0 W
    have hR := Lib.hid (bytes_reads w 5 a0 (by omega))
    have hB := Lib.hid (bytes_below (Below.refl w.heap.size w) (Nat.le_refl _) 5 a0)
    have HL := Lib.hid (bytesOf_length a0)
    rw [← HL.out] at hR
    obtain ⟨W, hW⟩ : ∃ W, W = Lib.bytesWorld w 5 a0 := ⟨_, rfl⟩
    rw [← hW] at hR hB
    have HW := Lib.hid hW
    have HD : Hid (digB (bytesOf a0) = false) := Lib.hid (by simpa using h2)
    clear h2 hW
    go_enter Try.func15, Try.ntmps15
    go_wp2_with fail
    rw [← HW.out, ← HL.out]
    refine (contains_in _ _ (bytesOf a0) _ hR.out (by have := HL.out; omega)).mono ?_
    rintro e w' ⟨rfl, rfl⟩
    rw [HD.out]
    go_wp2
    go_ret2
    exact ⟨_, rfl, Kd.R_nil _ _ _ _ _, hB.out⟩
end Go.Proofs.Ytdbnpaloalhciaa.P

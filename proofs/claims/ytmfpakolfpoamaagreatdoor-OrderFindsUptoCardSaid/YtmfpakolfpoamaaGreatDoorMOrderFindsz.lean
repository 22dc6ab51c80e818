/- Texts of this claim, one behind the other. -/
import Derived.Test.YtmfpakolfpoamaaGreatDoorMOrderFindsy
import Derived.Test.YtmfpakolfpoamaaGreatDoorMOrderFindso
set_option maxRecDepth 100000
namespace Go.Proofs.YtmfpakolfpoamaaGreatDoor.P
set_option linter.unusedVariables false
set_option linter.unusedSimpArgs false
open Go.RowKit Go.Proofs.YtmfpakolfpoamaaGreatDoorW.PrintWords Go.Proofs.YtmfpakolfpoamaaGreatDoorW.PrintMore Go.Proofs.YtmfpakolfpoamaaGreatDoorW.PrintLast
structure PlusDg (a b : List Int) (i : Nat) (o : List Int) : Prop where
 len : o.length = i
 sum : dval o = dval (a.take i) + dval (b.take i)
 ok : ∀ x ∈ o, 0 ≤ x ∧ x ≤ 18
theorem PlusDg.nil (a b : List Int) : PlusDg a b 0 [] := ⟨rfl, rfl, fun x hx => by cases hx⟩
theorem PlusDg.step {a b : List Int} {i : Nat} {o : List Int} (h : PlusDg a b i o) (ha : okD a) (hb : okD b) : PlusDg a b (i + 1) (o ++ [a.getD i 0 + b.getD i 0]) := by
 have h1 := okD_getD ha i
 have h2 := okD_getD hb i
 refine ⟨by rw [List.length_append, h.len]; rfl, ?_, fun x hx => ?_⟩
 · rw [dval_snoc, h.len, h.sum, dval_take_step, dval_take_step, show (a.getD i 0 + b.getD i 0).toNat = (a.getD i 0).toNat + (b.getD i 0).toNat by omega, Nat.mul_add]
   omega
 · rcases List.mem_append.1 hx with hx | hx
   · exact h.ok x hx
   · rw [List.mem_singleton.1 hx]; omega
theorem PlusDg.done {a b : List Int} {i : Nat} {o : List Int} (h : PlusDg a b i o) (h1 : a.length ≤ i) (h2 : b.length ≤ i) : dval o = dval a + dval b := by
 rw [h.sum, List.take_of_length_le h1, List.take_of_length_le h2]
structure MinusDg (a b : List Int) (i : Nat) (ls : Nat) (o : List Int) : Prop where
 len : o.length = i
 sum : dval (a.take i) + 10 ^ i * ls = dval o + dval (b.take i)
 ok : okD o
 one : ls ≤ 1
theorem MinusDg.nil (a b : List Int) : MinusDg a b 0 0 [] := ⟨rfl, rfl, okD_nil, by omega⟩
theorem MinusDg.step {a b : List Int} {i ls : Nat} {o : List Int} (h : MinusDg a b i ls o) (ha : okD a) (hb : okD b) {x : Int} {ls' : Nat} (hx : x = a.getD i 0 - (ls : Int) - b.getD i 0 + 10 * (ls' : Int)) (h0 : 0 ≤ x) (h9 : x < 10) (hl : ls' ≤ 1) : MinusDg a b (i + 1) ls' (o ++ [x]) := by
 have h1 := okD_getD ha i
 have h2 := okD_getD hb i
 have hs := h.sum
 have ho := h.one
 refine ⟨by rw [List.length_append, h.len]; rfl, ?_, okD_app.2 ⟨h.ok, fun y hy => by rw [List.mem_singleton.1 hy]; exact ⟨h0, h9⟩⟩, hl⟩
 rw [dval_snoc, h.len, dval_take_step, dval_take_step, Nat.pow_succ]
 have e : x.toNat + ls + (b.getD i 0).toNat = (a.getD i 0).toNat + 10 * ls' := by omega
 generalize (a.getD i 0).toNat = p at *
 generalize (b.getD i 0).toNat = q at *
 generalize x.toNat = r at *
 generalize 10 ^ i = t at *
 have e2 := congrArg (t * ·) e
 simp only [Nat.mul_add] at e2
 have e3 : t * 10 * ls' = t * (10 * ls') := Nat.mul_assoc _ _ _
 omega
theorem MinusDg.done {a b : List Int} {i ls : Nat} {o : List Int} (h : MinusDg a b i ls o) (h1 : a.length ≤ i) (h2 : b.length ≤ i) (hle : dval b ≤ dval a) : dval o = dval a - dval b := by
 have hs := h.sum
 rw [List.take_of_length_le h1, List.take_of_length_le h2] at hs
 have hlt := dval_lt h.ok
 rw [h.len] at hlt
 rcases Nat.eq_zero_or_pos ls with h0 | h0
 · rw [h0] at hs; omega
 · have : ls = 1 := by have := h.one; omega
   rw [this] at hs
   omega
theorem dlt_at {a b : List Int} (ha : okD a) (hb : okD b) (hl : a.length = b.length) {i : Nat} (hi : i < a.length) (he : a.drop (i + 1) = b.drop (i + 1)) (hlt : a.getD i 0 < b.getD i 0) : dval a < dval b := by
 have hx := okD_getD ha i
 have hy := okD_getD hb i
 have h1 : dval a = dval (a.take i) + 10 ^ i * ((a.getD i 0).toNat + 10 * dval (a.drop (i + 1))) := by
  have e := congrArg dval (List.take_append_drop i a)
  rw [dval_app, List.length_take, Nat.min_eq_left (by omega), List.drop_eq_getElem_cons hi, dval] at e
  rw [← e, List.getD_eq_getElem?_getD, List.getElem?_eq_getElem hi]; rfl
 have h2 : dval b = dval (b.take i) + 10 ^ i * ((b.getD i 0).toNat + 10 * dval (b.drop (i + 1))) := by
  have e := congrArg dval (List.take_append_drop i b)
  rw [dval_app, List.length_take, Nat.min_eq_left (by omega), List.drop_eq_getElem_cons (by omega), dval] at e
  rw [← e, List.getD_eq_getElem?_getD, List.getElem?_eq_getElem (by omega)]; rfl
 have h3 := dval_lt (okD_take ha i)
 rw [List.length_take, Nat.min_eq_left (by omega)] at h3
 rw [← he] at h2
 have h4 : (a.getD i 0).toNat + 10 * dval (a.drop (i + 1)) + 1 ≤ (b.getD i 0).toNat + 10 * dval (a.drop (i + 1)) := by omega
 have h5 := Nat.mul_le_mul_left (10 ^ i) h4
 rw [Nat.mul_add _ _ 1] at h5
 generalize 10 ^ i * ((a.getD i 0).toNat + 10 * dval (a.drop (i + 1))) = p at *
 generalize 10 ^ i * ((b.getD i 0).toNat + 10 * dval (a.drop (i + 1))) = q at *
 omega
theorem dlen_lt {m n : Nat} (h : (decs m).length < (decs n).length) : m < n := by
 have h1 := dval_lt (okD_decs m)
 have hn : decs n ≠ [] := fun e => by rw [e] at h; simp at h
 have h2 := dcanon_ge (dcanon_decs n) hn
 rw [dval_decs] at h1 h2
 have h3 : 10 ^ (decs m).length ≤ 10 ^ ((decs n).length - 1) := Nat.pow_le_pow_right (by decide) (by omega)
 omega
theorem drop_step {a b : List Int} {i : Nat} (ha : i < a.length) (hb : i < b.length) (he : a.drop (i + 1) = b.drop (i + 1)) (hx : a.getD i 0 = b.getD i 0) : a.drop i = b.drop i := by
 rw [List.drop_eq_getElem_cons ha, List.drop_eq_getElem_cons hb, he]
 rw [List.getD_eq_getElem?_getD, List.getD_eq_getElem?_getD, List.getElem?_eq_getElem ha, List.getElem?_eq_getElem hb] at hx
 rw [show a[i] = b[i] from hx]
theorem decs_shift {m : Nat} (h : m ≠ 0) : ∀ k, decs (m * 10 ^ k) = List.replicate k 0 ++ decs m
 | 0 => by simp
 | k + 1 => by
  have e : m * 10 ^ (k + 1) = 10 * (m * 10 ^ k) := by rw [Nat.pow_succ]; simp only [Nat.mul_comm, Nat.mul_left_comm]
  have hp : m * 10 ^ k ≠ 0 := Nat.mul_ne_zero h (Nat.pos_iff_ne_zero.1 (Nat.pow_pos (by decide)))
  rw [e, decs_pos (by omega), show 10 * (m * 10 ^ k) % 10 = 0 by omega, show 10 * (m * 10 ^ k) / 10 = m * 10 ^ k by omega, decs_shift h k]
  rfl
theorem decs_shift_len (m k : Nat) : (decs (m * 10 ^ k)).length ≤ (decs m).length + k := by
 by_cases h : m = 0
 · subst h; simp [decs_zero]
 · rw [decs_shift h]; simp; omega
theorem cmpI_less {a b : Int} (h : a < b) : cmpI a b = -1 := by unfold cmpI; rw [if_pos h]
theorem cmpI_more {a b : Int} (h : b < a) : cmpI a b = 1 := by unfold cmpI; rw [if_neg (by omega), if_pos h]
theorem cmpI_same (a : Int) : cmpI a a = 0 := by unfold cmpI; rw [if_neg (by omega), if_neg (by omega)]
theorem at_dig {w : World} {A : Option Addr} {d : List Int} (hC : Kd.C (Kd.int .i64) w A d.length d) (i : Nat) (h : i < d.length) : ∃ ad, A = some ad ∧ w.cell? (ad.add i) = some (.int .i64 (d.getD i 0)) := by
 obtain ⟨ad, h1, h2⟩ := Kd.at_int hC (i : Int) (by omega) (by omega)
 rw [Int.toNat_natCast] at h2
 refine ⟨ad, h1, h2.trans ?_⟩
 unfold rd
 rw [Int.toNat_natCast]
set_option maxHeartbeats 2000000 in
theorem Order01_any (m n : Nat) (A B : Option Addr) (c d : Nat) (w : World) (hA : Kd.C (Kd.int .i64) w A (decs m).length (decs m)) (hB : Kd.C (Kd.int .i64) w B (decs n).length (decs n)) (hl : (decs m).length ≤ 1000000) (hl2 : (decs n).length ≤ 1000000) :
 Calls Tryz.prog 96 #[.slice A (decs m).length c, .slice B (decs n).length d] w fun e w' => e = .returned (.int .i64 (cmpI m n)) ∧ Below w.heap.size w w' := by
 have e0 := dval_decs m
 have e1 := dval_decs n
 have k0 := okD_decs m
 have k1 := okD_decs n
 have HL1 : Hid ((decs m).length < (decs n).length → cmpI m n = -1) := Lib.hid (fun h => cmpI_less (by have := dlen_lt h; omega))
 have HL2 : Hid ((decs n).length < (decs m).length → cmpI m n = 1) := Lib.hid (fun h => cmpI_more (by have := dlen_lt h; omega))
 have HLT : Hid (∀ i, (decs m).length = (decs n).length → i < (decs m).length → (decs m).drop (i + 1) = (decs n).drop (i + 1) → (decs m).getD i 0 < (decs n).getD i 0 → cmpI m n = -1) := Lib.hid (fun i hl hi he hx => cmpI_less (by have := dlt_at k0 k1 hl hi he hx; omega))
 have HGT : Hid (∀ i, (decs m).length = (decs n).length → i < (decs m).length → (decs m).drop (i + 1) = (decs n).drop (i + 1) → (decs n).getD i 0 < (decs m).getD i 0 → cmpI m n = 1) := Lib.hid (fun i hl hi he hx => cmpI_more (by have := dlt_at k1 k0 hl.symm (by omega) he.symm hx; omega))
 have HEQ : Hid (decs m = decs n → cmpI m n = 0) := Lib.hid (fun h => by
  have : m = n := by rw [← e0, ← e1, h]
  rw [this]; exact cmpI_same _)
 generalize decs m = a at *
 generalize decs n = b at *
 generalize cmpI m n = r at *
 obtain ⟨x, hx⟩ : ∃ x, x = a.length := ⟨_, rfl⟩
 obtain ⟨y, hy⟩ : ∃ y, y = b.length := ⟨_, rfl⟩
 have HA := Lib.hid hA
 have HB := Lib.hid hB
 have HX := Lib.hid hx
 have HY := Lib.hid hy
 rw [← hx, ← hy]
 rw [← hx] at hl
 rw [← hy] at hl2
 clear hA hB e0 e1 k0 k1 hx hy
 by_cases h1 : x < y
 · have g1 : (x : Int) < (y : Int) := by omega
   have HR := Lib.hid (HL1.out (by rw [← HX.out, ← HY.out]; exact h1))
   go_enter Tryz.func96, Tryz.ntmps96
   go_wp2
   go_ret
   exact ⟨by rw [HR.out]; rfl, Below.refl _ _⟩
 · by_cases h2 : y < x
   · have g1 : ¬ (x : Int) < (y : Int) := by omega
     have g2 : (y : Int) < (x : Int) := by omega
     have HR := Lib.hid (HL2.out (by rw [← HX.out, ← HY.out]; exact h2))
     go_enter Tryz.func96, Tryz.ntmps96
     go_wp2
     go_ret
     exact ⟨by rw [HR.out]; rfl, Below.refl _ _⟩
   · obtain rfl : x = y := by omega
     have g1 : ¬ (x : Int) < (x : Int) := by omega
     clear h1 h2
     go_enter Tryz.func96, Tryz.ntmps96
     go_wp2
     go_loopw [5] (fun vi wr => ∃ k : Nat, k ≤ x ∧ vi = .int .i64 ((k : Int) - 1) ∧ Hid (a.drop k = b.drop k) ∧ Hid (Below w.heap.size w wr)) (fun vi _ => (intOf vi + 1).toNat)
     case atStart => exact ⟨x, Nat.le_refl _, rfl, Lib.hid (by rw [List.drop_of_length_le (by rw [← HX.out]; exact Nat.le_refl _), List.drop_of_length_le (by rw [← HY.out]; exact Nat.le_refl _)]), Lib.hid (Below.refl _ _)⟩
     case round =>
      obtain ⟨k, hk, rfl, HD, HBW⟩ := hrel
      by_cases hz : k = 0
      · subst hz
        have HR := Lib.hid (HEQ.out (by have := HD.out; rwa [List.drop_zero, List.drop_zero] at this))
        go_wp2
        go_ret
        exact ⟨by rw [HR.out]; rfl, HBW.out⟩
      · obtain ⟨j, rfl⟩ : ∃ j, k = j + 1 := ⟨k - 1, by omega⟩
        have hj1 : (((j + 1 : Nat) : Int) - 1) = (j : Int) := by omega
        rw [hj1]
        have hj0 : (0 : Int) ≤ (j : Int) := by omega
        have hjn : (j : Int) < (x : Int) := by omega
        obtain ⟨ad, rfl, hxx⟩ := at_dig (Kd.C_below HA.out HBW.out) j (by rw [← HX.out]; omega)
        obtain ⟨be, rfl, hyy⟩ := at_dig (Kd.C_below HB.out HBW.out) j (by rw [← HY.out]; omega)
        have HS : Hid (a.getD j 0 = b.getD j 0 → a.drop j = b.drop j) := Lib.hid (drop_step (by rw [← HX.out]; omega) (by rw [← HY.out]; omega) HD.out)
        have HP : Hid (a.getD j 0 < b.getD j 0 → r = -1) := Lib.hid (fun h => HLT.out j (by rw [← HX.out, ← HY.out]) (by rw [← HX.out]; omega) HD.out h)
        have HQ : Hid (b.getD j 0 < a.getD j 0 → r = 1) := Lib.hid (fun h => HGT.out j (by rw [← HX.out, ← HY.out]) (by rw [← HX.out]; omega) HD.out h)
        generalize a.getD j 0 = p at *
        generalize b.getD j 0 = q at *
        clear hj1 hz HL1 HL2 HLT HGT HEQ
        by_cases h1 : p < q
        · have HR := Lib.hid (HP.out h1)
          go_wp2
          go_quiet (fail)
          go_wp2
          go_ret
          exact ⟨by rw [HR.out]; rfl, by first | exact pw_below_drewN (pw_below_drewN HBW.out _) _ | exact pw_below_drewN HBW.out _⟩
        · by_cases h2 : q < p
          · have HR := Lib.hid (HQ.out h2)
            go_wp2
            go_quiet (fail)
            go_wp2
            go_quiet (fail)
            go_wp2
            go_ret
            exact ⟨by rw [HR.out]; rfl, by first | exact pw_below_drewN (pw_below_drewN HBW.out _) _ | exact pw_below_drewN HBW.out _⟩
          · have HD2 := Lib.hid (HS.out (by omega))
            go_wp2
            go_quiet (fail)
            go_wp2
            go_quiet (fail)
            go_wp2
            go_roundw
            case rel => exact ⟨j, by omega, by go_num, HD2, Lib.hid (pw_below_drewN HBW.out _)⟩
            case measure => simp [intOf]
set_option maxHeartbeats 2000000 in
theorem Shift_any (m k : Nat) (A : Option Addr) (c : Nat) (w : World) (hA : Kd.C (Kd.int .i64) w A (decs m).length (decs m)) (hl : (decs m).length ≤ 1000000) (hk : k ≤ 1000000) :
 Calls Tryz.prog 120 #[.slice A (decs m).length c, .int .i64 k] w fun e w' => ∃ v : Value, e = .returned v ∧ Kd.R (Kd.int .i64) 3 w' w.heap.size (fun _ => True) v (decs (m * 10 ^ k)) ∧ Below w.heap.size w w' := by
 by_cases h0 : m = 0
 · subst h0
   rw [Nat.zero_mul]
   have e0 : (decs 0).length = 0 := by rw [decs_zero]; rfl
   rw [e0]
   have HR : Hid (∀ W, Kd.R (Kd.int .i64) 3 W w.heap.size (fun _ => True) (.slice none 0 0) (decs 0)) := Lib.hid (fun W => by rw [decs_zero]; exact Kd.R_nil _ _ _ _ _)
   clear hA e0
   go_enter Tryz.func120, Tryz.ntmps120
   go_wp2
   go_ret
   exact ⟨_, rfl, HR.out _, Below.refl _ _⟩
 · have HE := Lib.hid (decs_shift h0 k)
   have hp : (decs m).length ≠ 0 := by rw [decs_pos h0]; simp
   obtain ⟨a, ha⟩ : ∃ a, a = decs m := ⟨_, rfl⟩
   obtain ⟨n, hn⟩ : ∃ n, n = a.length := ⟨_, rfl⟩
   rw [← ha] at hA hl hp
   rw [← ha] at HE ⊢
   rw [← hn] at hA hl hp ⊢
   have hp2 : ((n : Int) == 0) = false := by rw [beq_eq_false_iff_ne]; omega
   have HA := Lib.hid hA
   have hk0 : (0 : Int) ≤ (k : Int) := by omega
   generalize decs (m * 10 ^ k) = r at *
   clear hA hp ha hn h0
   go_enter Tryz.func120, Tryz.ntmps120
   have hlr : (List.replicate k (0 : Int)).length = k := List.length_replicate
   have HLR := Lib.hid hlr
   clear hlr
   go_wp2_with (first
    | (at_make; refine Kd.R_make (Kd.int .i64) (w0 := w) w.heap.size 3 rfl rfl 40 _ _ rfl (k : Int) rfl rfl Tryz.underlying40 (.int .i64 0) 8 infoI_ rfl (by decide) (by decide) 0 (ok := fun _ => True) (okp := fun _ => False) rfl (fun _ h => h.elim) trivial hk0 (by omega) (Below.refl _ _) (Nat.le_refl _) ?_; intro v1 w1 hR1 hB1 hg1 hat1; obtain ⟨G1, c1, rfl⟩ := Kd.R_slice hR1; rw [Int.toNat_natCast, HLR.out] at hR1; rw [Int.toNat_natCast, HLR.out]; have HR1 := Lib.hid hR1; have HB1 := Lib.hid hB1; clear hR1 hB1 hg1 hat1)
    | (at_builtin; refine Kd.R_append_rows (Kd.int .i64) (w0 := w) w.heap.size rfl _ _ 40 3 (.int .i64 0) 8 rfl Tryz.underlying40 infoI_ rfl (by decide) (by decide) (.slice G1 k c1) (List.replicate k 0) a A n c (fun _ => True) (fun _ => False) rfl rfl HR1.out (Kd.C_below HA.out HB1.out) (fun _ _ h => h) (fun _ h => h.elim) (fun _ _ => trivial) HB1.out HB1.out.size (by rw [HLR.out]; omega) ?_; intro v7 w7 hR7 hB7 hg7 hat7; rw [← HE.out] at hR7; have HR7 := Lib.hid hR7; have HB7 := Lib.hid hB7; clear hR7 hB7 hg7 hat7))
   go_ret
   exact ⟨_, rfl, HR7.out, HB7.out⟩
set_option maxHeartbeats 4000000 in
theorem Plus_any (m n : Nat) (A B : Option Addr) (c d : Nat) (w : World) (hA : Kd.C (Kd.int .i64) w A (decs m).length (decs m)) (hB : Kd.C (Kd.int .i64) w B (decs n).length (decs n)) (hl : (decs m).length ≤ 500000) (hl2 : (decs n).length ≤ 500000) :
 Calls Tryz.prog 80 #[.slice A (decs m).length c, .slice B (decs n).length d] w fun e w' => ∃ v : Value, e = .returned v ∧ Kd.R (Kd.int .i64) 3 w' w.heap.size (fun _ => True) v (decs (m + n)) ∧ Below w.heap.size w w' := by
 have HT : Hid (dval (decs m) + dval (decs n) = m + n) := Lib.hid (by rw [dval_decs, dval_decs])
 have k0 := Lib.hid (okD_decs m)
 have k1 := Lib.hid (okD_decs n)
 generalize decs m = a at *
 generalize decs n = b at *
 generalize m + n = t at *
 obtain ⟨x, hx⟩ : ∃ x, x = a.length := ⟨_, rfl⟩
 obtain ⟨y, hy⟩ : ∃ y, y = b.length := ⟨_, rfl⟩
 have HA := Lib.hid hA
 have HB := Lib.hid hB
 have HX := Lib.hid hx
 have HY := Lib.hid hy
 rw [← hx, ← hy]
 rw [← hx] at hl
 rw [← hy] at hl2
 clear hA hB hx hy
 go_enter Tryz.func80, Tryz.ntmps80
 go_wp2
 go_loopw [5, 6] (fun vo vi wr => ∃ (i : Nat) (o : List Int) (G : Option Addr) (cap : Nat), i ≤ max x y ∧ vi = .int .i64 i ∧ vo = .slice G i cap ∧ Hid (PlusDg a b i o) ∧ Hid (Kd.R (Kd.int .i64) 3 wr w.heap.size (fun _ => True) (.slice G i cap) o ∧ Below w.heap.size w wr)) (fun vo vi _ => max x y - (intOf vi).toNat)
 case atStart => exact ⟨0, [], none, 0, Nat.zero_le _, rfl, rfl, Lib.hid (PlusDg.nil _ _), Lib.hid ⟨Kd.R_nil _ _ _ _ _, Below.refl _ _⟩⟩
 case round =>
  obtain ⟨i, o, G, cap, hi, rfl, rfl, HP, HR⟩ := hrel
  have HSZ : Hid (w.heap.size ≤ wr.heap.size) := Lib.hid HR.out.2.size
  have hol : o.length ≤ 500000 := by rw [HP.out.len]; omega
  have HST := Lib.hid (HP.out.step k0.out k1.out)
  have HXA := Lib.hid (okD_getD k0.out i)
  have HYA := Lib.hid (okD_getD k1.out i)
  have hi0 : (0 : Int) ≤ (i : Int) := by omega
  by_cases h1 : i < x
  · have g1 : (i : Int) < (x : Int) := by omega
    obtain ⟨ad, rfl, hxx⟩ := at_dig (Kd.C_below HA.out HR.out.2) i (by rw [← HX.out]; omega)
    by_cases h2 : i < y
    · have g2 : (i : Int) < (y : Int) := by omega
      obtain ⟨be, rfl, hyy⟩ := at_dig (Kd.C_below HB.out HR.out.2) i (by rw [← HY.out]; omega)
      generalize a.getD i 0 = p at *
      generalize b.getD i 0 = q at *
      obtain ⟨p1, p2⟩ := HXA.out
      obtain ⟨q1, q2⟩ := HYA.out
      go_wp2_with (at_builtin; refine Kd.R_append (Kd.int .i64) (w0 := w) w.heap.size rfl (.tmp 40) (.tmp 42) 40 3 (.int .i64 0) 8 rfl Tryz.underlying40 infoI_ rfl (by decide) (by decide) (.slice G i cap) o (p + q) _ (fun _ => True) (fun _ => False) rfl rfl rfl (fun _ h => h.elim) (fun _ _ => trivial) HR.out.1 HR.out.2 HSZ.out (by omega) ?_; intro v1 w7 hR7 hB7 hg7 hat7)
      obtain ⟨G7, cap7, rfl⟩ := Kd.R_slice hR7
      have hl7 : (o ++ [p + q]).length = i + 1 := HST.out.len
      rw [hl7] at hR7
      have HR7 := Lib.hid (And.intro hR7 hB7)
      rw [hl7]
      clear hR7 hB7 hg7 hat7 hol hl7
      go_roundw
      case rel => exact ⟨i + 1, o ++ [p + q], G7, cap7, by omega, by go_num, rfl, HST, HR7⟩
      case measure => simp [intOf]; omega
    · have g2 : ¬ (i : Int) < (y : Int) := by omega
      have hq : b.getD i 0 = 0 := by rw [List.getD_eq_getElem?_getD, List.getElem?_eq_none (by rw [← HY.out]; omega)]; rfl
      rw [hq, Int.add_zero] at HST
      clear hq
      generalize a.getD i 0 = p at *
      obtain ⟨p1, p2⟩ := HXA.out
      go_wp2_with (at_builtin; refine Kd.R_append (Kd.int .i64) (w0 := w) w.heap.size rfl (.tmp 40) (.tmp 42) 40 3 (.int .i64 0) 8 rfl Tryz.underlying40 infoI_ rfl (by decide) (by decide) (.slice G i cap) o p _ (fun _ => True) (fun _ => False) rfl rfl rfl (fun _ h => h.elim) (fun _ _ => trivial) HR.out.1 HR.out.2 HSZ.out (by omega) ?_; intro v1 w7 hR7 hB7 hg7 hat7)
      obtain ⟨G7, cap7, rfl⟩ := Kd.R_slice hR7
      have hl7 : (o ++ [p]).length = i + 1 := HST.out.len
      rw [hl7] at hR7
      have HR7 := Lib.hid (And.intro hR7 hB7)
      rw [hl7]
      clear hR7 hB7 hg7 hat7 hol hl7
      go_roundw
      case rel => exact ⟨i + 1, o ++ [p], G7, cap7, by omega, by go_num, rfl, HST, HR7⟩
      case measure => simp [intOf]; omega
  · have g1 : ¬ (i : Int) < (x : Int) := by omega
    by_cases h2 : i < y
    · have g2 : (i : Int) < (y : Int) := by omega
      obtain ⟨be, rfl, hyy⟩ := at_dig (Kd.C_below HB.out HR.out.2) i (by rw [← HY.out]; omega)
      have hp : a.getD i 0 = 0 := by rw [List.getD_eq_getElem?_getD, List.getElem?_eq_none (by rw [← HX.out]; omega)]; rfl
      rw [hp, Int.zero_add] at HST
      clear hp
      generalize b.getD i 0 = q at *
      obtain ⟨q1, q2⟩ := HYA.out
      go_wp2_with (at_builtin; refine Kd.R_append (Kd.int .i64) (w0 := w) w.heap.size rfl (.tmp 40) (.tmp 42) 40 3 (.int .i64 0) 8 rfl Tryz.underlying40 infoI_ rfl (by decide) (by decide) (.slice G i cap) o q _ (fun _ => True) (fun _ => False) rfl rfl rfl (fun _ h => h.elim) (fun _ _ => trivial) HR.out.1 HR.out.2 HSZ.out (by omega) ?_; intro v1 w7 hR7 hB7 hg7 hat7)
      obtain ⟨G7, cap7, rfl⟩ := Kd.R_slice hR7
      have hl7 : (o ++ [q]).length = i + 1 := HST.out.len
      rw [hl7] at hR7
      have HR7 := Lib.hid (And.intro hR7 hB7)
      rw [hl7]
      clear hR7 hB7 hg7 hat7 hol hl7
      go_roundw
      case rel => exact ⟨i + 1, o ++ [q], G7, cap7, by omega, by go_num, rfl, HST, HR7⟩
      case measure => simp [intOf]; omega
    · have g2 : ¬ (i : Int) < (y : Int) := by omega
      have hr := Kd.R_reads' HR.out.1
      have hc := carry_any o G cap wr hr.2.2 (by omega) HP.out.ok
      rw [← hr.1, HP.out.done (by rw [← HX.out]; omega) (by rw [← HY.out]; omega), HT.out] at hc
      have HC := Lib.hid hc
      clear hr hc
      go_wp2_with (go_at_call 106; (with_reducible refine (HC.out).mono ?_); rintro e w5 ⟨v5, rfl, hR5, hB5⟩; have HR5 := Lib.hid (Kd.R_lower hR5 HSZ.out); have HB5 := Lib.hid (HR.out.2.trans (hB5.mono HSZ.out)); clear hR5 hB5)
      go_ret
      exact ⟨_, rfl, HR5.out, HB5.out⟩
set_option maxHeartbeats 4000000 in
theorem Minus_any (m n : Nat) (A B : Option Addr) (c d : Nat) (w : World) (hA : Kd.C (Kd.int .i64) w A (decs m).length (decs m)) (hB : Kd.C (Kd.int .i64) w B (decs n).length (decs n)) (hl : (decs m).length ≤ 500000) (hle : n ≤ m) :
 Calls Tryz.prog 97 #[.slice A (decs m).length c, .slice B (decs n).length d] w fun e w' => ∃ v : Value, e = .returned v ∧ Kd.R (Kd.int .i64) 3 w' w.heap.size (fun _ => True) v (decs (m - n)) ∧ Below w.heap.size w w' := by
 have HT : Hid (dval (decs m) = m ∧ dval (decs n) = n) := Lib.hid ⟨dval_decs m, dval_decs n⟩
 have k0 := Lib.hid (okD_decs m)
 have k1 := Lib.hid (okD_decs n)
 have hyx : (decs n).length ≤ (decs m).length := by
  refine Nat.le_of_not_lt fun h => ?_
  have := dlen_lt h
  omega
 have HLE : Hid (dval (decs n) ≤ dval (decs m)) := Lib.hid (by rw [dval_decs, dval_decs]; exact hle)
 have HE : Hid (decs (dval (decs m) - dval (decs n)) = decs (m - n)) := Lib.hid (by rw [dval_decs, dval_decs])
 generalize decs (m - n) = t at *
 generalize decs m = a at *
 generalize decs n = b at *
 obtain ⟨x, hx⟩ : ∃ x, x = a.length := ⟨_, rfl⟩
 obtain ⟨y, hy⟩ : ∃ y, y = b.length := ⟨_, rfl⟩
 have HA := Lib.hid hA
 have HB := Lib.hid hB
 have HX := Lib.hid hx
 have HY := Lib.hid hy
 rw [← hx, ← hy]
 rw [← hx] at hl
 rw [← hx, ← hy] at hyx
 clear hA hB hx hy hle
 go_enter Tryz.func97, Tryz.ntmps97
 go_wp2
 go_loopw [5, 6, 7] (fun vo vl vi wr => ∃ (i ls : Nat) (o : List Int) (G : Option Addr) (cap : Nat), i ≤ x ∧ vi = .int .i64 i ∧ vl = .int .i64 ls ∧ vo = .slice G i cap ∧ Hid (MinusDg a b i ls o) ∧ Hid (Kd.R (Kd.int .i64) 3 wr w.heap.size (fun _ => True) (.slice G i cap) o ∧ Below w.heap.size w wr)) (fun vo vl vi _ => x - (intOf vi).toNat)
 case atStart => exact ⟨0, 0, [], none, 0, Nat.zero_le _, rfl, rfl, rfl, Lib.hid (MinusDg.nil _ _), Lib.hid ⟨Kd.R_nil _ _ _ _ _, Below.refl _ _⟩⟩
 case round =>
  obtain ⟨i, ls, o, G, cap, hi, rfl, rfl, rfl, HM, HR⟩ := hrel
  have HSZ : Hid (w.heap.size ≤ wr.heap.size) := Lib.hid HR.out.2.size
  have hol : o.length ≤ 500000 := by rw [HM.out.len]; omega
  have hi0 : (0 : Int) ≤ (i : Int) := by omega
  have hls : (ls : Int) ≤ 1 := by have := HM.out.one; omega
  have hls0 : (0 : Int) ≤ (ls : Int) := by omega
  by_cases h1 : i < x
  · have g1 : (i : Int) < (x : Int) := by omega
    obtain ⟨ad, rfl, hxx⟩ := at_dig (Kd.C_below HA.out HR.out.2) i (by rw [← HX.out]; omega)
    have HXA := Lib.hid (okD_getD k0.out i)
    have HYA := Lib.hid (okD_getD k1.out i)
    have HST : Hid (∀ (z : Int) (l' : Nat), z = a.getD i 0 - (ls : Int) - b.getD i 0 + 10 * (l' : Int) → 0 ≤ z → z < 10 → l' ≤ 1 → MinusDg a b (i + 1) l' (o ++ [z])) := Lib.hid (fun z l' e h0 h9 hl => HM.out.step k0.out k1.out e h0 h9 hl)
    by_cases h2 : i < y
    · have g2 : (i : Int) < (y : Int) := by omega
      obtain ⟨be, rfl, hyy⟩ := at_dig (Kd.C_below HB.out HR.out.2) i (by rw [← HY.out]; omega)
      generalize a.getD i 0 = p at *
      generalize b.getD i 0 = q at *
      obtain ⟨p1, p2⟩ := HXA.out
      obtain ⟨q1, q2⟩ := HYA.out
      by_cases h3 : p - (ls : Int) - q < 0
      · have HS := Lib.hid (HST.out (p - (ls : Int) - q + 10) 1 (by omega) (by omega) (by omega) (by omega))
        go_wp2_with (at_builtin; refine Kd.R_append (Kd.int .i64) (w0 := w) w.heap.size rfl (.tmp 35) (.tmp 37) 40 3 (.int .i64 0) 8 rfl Tryz.underlying40 infoI_ rfl (by decide) (by decide) (.slice G i cap) o (p - (ls : Int) - q + 10) _ (fun _ => True) (fun _ => False) rfl rfl rfl (fun _ h => h.elim) (fun _ _ => trivial) HR.out.1 HR.out.2 HSZ.out (by omega) ?_; intro v1 w7 hR7 hB7 hg7 hat7)
        obtain ⟨G7, cap7, rfl⟩ := Kd.R_slice hR7
        have hl7 := HS.out.len
        rw [hl7] at hR7
        have HR7 := Lib.hid (And.intro hR7 hB7)
        rw [hl7]
        clear hR7 hB7 hg7 hat7 hol hl7
        go_roundw
        case rel => exact ⟨i + 1, 1, _, G7, cap7, by omega, by go_num, rfl, rfl, HS, HR7⟩
        case measure => simp [intOf]; omega
      · have HS := Lib.hid (HST.out (p - (ls : Int) - q) 0 (by omega) (by omega) (by omega) (by omega))
        go_wp2_with (at_builtin; refine Kd.R_append (Kd.int .i64) (w0 := w) w.heap.size rfl (.tmp 35) (.tmp 37) 40 3 (.int .i64 0) 8 rfl Tryz.underlying40 infoI_ rfl (by decide) (by decide) (.slice G i cap) o (p - (ls : Int) - q) _ (fun _ => True) (fun _ => False) rfl rfl rfl (fun _ h => h.elim) (fun _ _ => trivial) HR.out.1 HR.out.2 HSZ.out (by omega) ?_; intro v1 w7 hR7 hB7 hg7 hat7)
        obtain ⟨G7, cap7, rfl⟩ := Kd.R_slice hR7
        have hl7 := HS.out.len
        rw [hl7] at hR7
        have HR7 := Lib.hid (And.intro hR7 hB7)
        rw [hl7]
        clear hR7 hB7 hg7 hat7 hol hl7
        go_roundw
        case rel => exact ⟨i + 1, 0, _, G7, cap7, by omega, by go_num, rfl, rfl, HS, HR7⟩
        case measure => simp [intOf]; omega
    · have g2 : ¬ (i : Int) < (y : Int) := by omega
      have hq : b.getD i 0 = 0 := by rw [List.getD_eq_getElem?_getD, List.getElem?_eq_none (by rw [← HY.out]; omega)]; rfl
      rw [hq] at HST
      clear hq HYA
      generalize a.getD i 0 = p at *
      obtain ⟨p1, p2⟩ := HXA.out
      by_cases h3 : p - (ls : Int) < 0
      · have HS := Lib.hid (HST.out (p - (ls : Int) + 10) 1 (by omega) (by omega) (by omega) (by omega))
        go_wp2_with (at_builtin; refine Kd.R_append (Kd.int .i64) (w0 := w) w.heap.size rfl (.tmp 35) (.tmp 37) 40 3 (.int .i64 0) 8 rfl Tryz.underlying40 infoI_ rfl (by decide) (by decide) (.slice G i cap) o (p - (ls : Int) + 10) _ (fun _ => True) (fun _ => False) rfl rfl rfl (fun _ h => h.elim) (fun _ _ => trivial) HR.out.1 HR.out.2 HSZ.out (by omega) ?_; intro v1 w7 hR7 hB7 hg7 hat7)
        obtain ⟨G7, cap7, rfl⟩ := Kd.R_slice hR7
        have hl7 := HS.out.len
        rw [hl7] at hR7
        have HR7 := Lib.hid (And.intro hR7 hB7)
        rw [hl7]
        clear hR7 hB7 hg7 hat7 hol hl7
        go_roundw
        case rel => exact ⟨i + 1, 1, _, G7, cap7, by omega, by go_num, rfl, rfl, HS, HR7⟩
        case measure => simp [intOf]; omega
      · have HS := Lib.hid (HST.out (p - (ls : Int)) 0 (by omega) (by omega) (by omega) (by omega))
        go_wp2_with (at_builtin; refine Kd.R_append (Kd.int .i64) (w0 := w) w.heap.size rfl (.tmp 35) (.tmp 37) 40 3 (.int .i64 0) 8 rfl Tryz.underlying40 infoI_ rfl (by decide) (by decide) (.slice G i cap) o (p - (ls : Int)) _ (fun _ => True) (fun _ => False) rfl rfl rfl (fun _ h => h.elim) (fun _ _ => trivial) HR.out.1 HR.out.2 HSZ.out (by omega) ?_; intro v1 w7 hR7 hB7 hg7 hat7)
        obtain ⟨G7, cap7, rfl⟩ := Kd.R_slice hR7
        have hl7 := HS.out.len
        rw [hl7] at hR7
        have HR7 := Lib.hid (And.intro hR7 hB7)
        rw [hl7]
        clear hR7 hB7 hg7 hat7 hol hl7
        go_roundw
        case rel => exact ⟨i + 1, 0, _, G7, cap7, by omega, by go_num, rfl, rfl, HS, HR7⟩
        case measure => simp [intOf]; omega
  · obtain rfl : i = x := by omega
    have g1 : ¬ (i : Int) < (i : Int) := by omega
    have hr := Kd.R_reads' HR.out.1
    have hc := Trim_any o G cap wr hr.2.2 (by rw [← hr.1]; exact hr.2.1) (by omega) HM.out.ok
    rw [← hr.1, HM.out.done (by rw [← HX.out]; omega) (by rw [← HY.out]; omega) HLE.out, HE.out] at hc
    have HC := Lib.hid hc
    have HRL := Lib.hid hr.1
    clear hr hc hol
    go_wp2_with (go_at_call 107; (with_reducible refine (HC.out).mono ?_); rintro e w5 ⟨rfl, rfl, hT1, hT2⟩; have HTK := Lib.hid (And.intro hT1 hT2); clear hT1 hT2)
    go_ret
    exact ⟨_, rfl, by have := Kd.R_take HR.out.1 (by rw [← HRL.out]; exact HTK.out.2); rw [HTK.out.1] at this; exact this, HR.out.2⟩
set_option maxHeartbeats 2000000 in
theorem Of_any (d : D) (A : Option Addr) (c : Nat) (w : World) (hC : Kd.C (Kd.int .u32) w A d.f1.length d.f1) (hl : d.f1.length ≤ 256) (hok : okL d.f1) :
 Calls Tryz.prog 69 #[.agg #[.bool d.f0, .slice A d.f1.length c, .int .i64 d.f2]] w fun e w' => ∃ G g, e = .returned (.agg #[.bool d.f0, .slice G (decs (val d.f1)).length g, .int .i64 d.f2]) ∧ Kd.R (Kd.int .i64) 3 w' w.heap.size (fun _ => True) (.slice G (decs (val d.f1)).length g) (decs (val d.f1)) ∧ Below w.heap.size w w' := by
 have HDG := Lib.hid (fun W (hW : Below w.heap.size w W) => Digits_any d.f1 A c W (Kd.C_below hC hW) hl hok)
 generalize decs (val d.f1) = ds at *
 generalize d.f1.length = n at *
 generalize d.f0 = b at *
 generalize d.f2 = x at *
 clear hC hl hok
 obtain ⟨W2, hW2⟩ : ∃ W2, W2 = (w.alloc (.cells #[.bool b, .slice A n c, .int .i64 x] 31)).alloc (.cells #[.bool false, .slice none 0 0, .int .i64 0] 101) := ⟨_, rfl⟩
 have hb2 : Below w.heap.size w W2 := by rw [hW2]; exact ((Below.refl _ _).alloc (Nat.le_refl _) _).alloc (by simp) _
 have hx2 : W2.heap[w.heap.size]? = some (.cells #[.bool b, .slice A n c, .int .i64 x] 31 (0, 0)) := by rw [hW2]; exact blk_alloc (blk_new _ _) _
 have hr2 : W2.heap[w.heap.size + 1]? = some (.cells #[.bool false, .slice none 0 0, .int .i64 0] 101 (0, 0)) := by rw [hW2]; have := blk_new (w.alloc (.cells #[.bool b, .slice A n c, .int .i64 x] 31)) (.cells #[.bool false, .slice none 0 0, .int .i64 0] 101); rwa [World.size_alloc] at this
 have HW2 := Lib.hid hW2
 have HB2 := Lib.hid (below_drew hb2)
 have HR2 := Lib.hid (blk_drew hr2)
 have HX2 := Lib.hid (blk_drew hx2)
 have hz : w.heap.size + 2 = W2.heap.size := by rw [hW2]; simp
 rw [← World.size_drew] at hz
 have HZ := Lib.hid hz
 clear hb2 hx2 hr2 hW2 hz
 go_enter Tryz.func69, Tryz.ntmps69
 go_upto_region 1 with (fail)
 rw [← HW2.out]
 clear HW2
 obtain ⟨hx, hxf⟩ := bcells HX2.out (Below.refl _ _)
 go_region_law (go_simp; go_at_call 98; (with_reducible refine (HDG.out _ HB2.out).mono ?_); rintro e w5 ⟨v5, rfl, hR5, hB5⟩; obtain ⟨G5, g5, rfl⟩ := Kd.R_slice hR5; have hs5 := hB5.size; obtain ⟨hx5, hxf5⟩ := bcells HX2.out hB5; obtain ⟨hr5, hrf5⟩ := bcells HR2.out hB5)
 all_goals
  rename_i q_ k_ a_
  refine a_ _ _ ?_
  have hrow := box3_out (blk_below2 HR2.out hB5) (.bool b) (.slice G5 ds.length g5) (.int .i64 x)
  have hrr := Kd.R_set (Kd.R_set (Kd.R_set (Kd.R_lower hR5 HB2.out.size) (blk_below2 HR2.out hB5) (by decide) 0 (.bool b)) (blk_set (blk_below2 HR2.out hB5) 0 (.bool b)) (by decide) 1 (.slice G5 ds.length g5)) (blk_set (blk_set (blk_below2 HR2.out hB5) 0 (.bool b)) 1 (.slice G5 ds.length g5)) (by decide) 2 (.int .i64 x)
  have hbb := (((HB2.out.trans (hB5.mono HB2.out.size)).setCell (p := ⟨w.heap.size + 1, 0, none⟩) (by simp) (.bool b)).setCell (p := ⟨w.heap.size + 1, 1, none⟩) (by simp) (.slice G5 ds.length g5)).setCell (p := ⟨w.heap.size + 1, 2, none⟩) (by simp) (.int .i64 x)
  clear a_ hx5 hxf5 hr5 hrf5 hx hxf hB5 hR5 hs5
  obtain ⟨X, hX⟩ : ∃ X, X = ((w5.setCell ⟨w.heap.size + 1, 0, none⟩ (.bool b)).setCell ⟨w.heap.size + 1, 1, none⟩ (.slice G5 ds.length g5)).setCell ⟨w.heap.size + 1, 2, none⟩ (.int .i64 x) := ⟨_, rfl⟩
  rw [← hX] at hrow hrr hbb ⊢
  obtain ⟨y0, y1, y2⟩ := cells3 hrow
  clear hX hrow
  go_wp2_with fail
  exact bodyPost_ret (v := .agg #[.bool b, .slice G5 ds.length g5, .int .i64 x]) (by simp [results, Tryz.f69, go_sem, y0, y1, y2]) rfl ⟨_, _, rfl, hrr, hbb⟩
set_option maxHeartbeats 1000000 in
theorem opposite_any (b : Bool) (A : Option Addr) (n c : Nat) (x : Int) (w : World) :
 Calls Tryz.prog 70 #[.agg #[.bool b, .slice A n c, .int .i64 x]] w fun e w' => e = .returned (.agg #[.bool (!b && decide (n ≠ 0)), .slice A n c, .int .i64 x]) ∧ Below w.heap.size w w' := by
 obtain ⟨r, hr⟩ : ∃ r, r = (!b && decide (n ≠ 0)) := ⟨_, rfl⟩
 rw [← hr]
 obtain ⟨W2, hW2⟩ : ∃ W2, W2 = (w.alloc (.cells #[.bool b, .slice A n c, .int .i64 x] 101)).alloc (.cells #[.bool false, .slice none 0 0, .int .i64 0] 101) := ⟨_, rfl⟩
 have hb2 : Below w.heap.size w W2 := by rw [hW2]; exact ((Below.refl _ _).alloc (Nat.le_refl _) _).alloc (by simp) _
 have hx2 : W2.heap[w.heap.size]? = some (.cells #[.bool b, .slice A n c, .int .i64 x] 101 (0, 0)) := by rw [hW2]; exact blk_alloc (blk_new _ _) _
 have hr2 : W2.heap[w.heap.size + 1]? = some (.cells #[.bool false, .slice none 0 0, .int .i64 0] 101 (0, 0)) := by rw [hW2]; have := blk_new (w.alloc (.cells #[.bool b, .slice A n c, .int .i64 x] 101)) (.cells #[.bool false, .slice none 0 0, .int .i64 0] 101); rwa [World.size_alloc] at this
 have hE : ∃ X, X = (((W2.setCell ⟨w.heap.size, 0, none⟩ (.bool r)).setCell ⟨w.heap.size + 1, 0, none⟩ (.bool r)).setCell ⟨w.heap.size + 1, 1, none⟩ (.slice A n c)).setCell ⟨w.heap.size + 1, 2, none⟩ (.int .i64 x) := ⟨_, rfl⟩
 obtain ⟨X, hX⟩ := hE
 have hXr : X.heap[w.heap.size + 1]? = some (.cells #[.bool r, .slice A n c, .int .i64 x] 101 (0, 0)) := by rw [hX]; exact box3_out (blk_far hr2 (by simp) _) _ _ _
 have hXb : Below w.heap.size w X := by rw [hX]; exact (((hb2.setCell (p := ⟨w.heap.size, 0, none⟩) (Nat.le_refl _) _).setCell (p := ⟨w.heap.size + 1, 0, none⟩) (by simp) _).setCell (p := ⟨w.heap.size + 1, 1, none⟩) (by simp) _).setCell (p := ⟨w.heap.size + 1, 2, none⟩) (by simp) _
 have HX := Lib.hid hX
 have HXR := Lib.hid hXr
 have HXB := Lib.hid hXb
 have HW2 := Lib.hid hW2
 obtain ⟨hcx, hfx⟩ := bcells hx2 (Below.refl _ _)
 obtain ⟨hcr, hfr⟩ := bcells hr2 (Below.refl _ _)
 clear hX hXr hXb hW2 hb2 hx2 hr2
 cases b with
 | true =>
  have hr' : r = false := by rw [hr]; rfl
  clear hr
  subst hr'
  go_enter Tryz.func70, Tryz.ntmps70
  go_upto_region 1 with (fail)
  rw [← HW2.out]
  go_wp2_with fail
  rw [← HX.out]
  obtain ⟨y0, y1, y2⟩ := cells3 HXR.out
  exact bodyPost_ret (v := .agg #[.bool false, .slice A n c, .int .i64 x]) (by simp [results, Tryz.f70, go_sem, y0, y1, y2]) rfl ⟨rfl, HXB.out⟩
 | false =>
  by_cases hn : n = 0
  · have hr' : r = false := by rw [hr, hn]; rfl
    clear hr
    subst hr' hn
    go_enter Tryz.func70, Tryz.ntmps70
    go_upto_region 1 with (fail)
    rw [← HW2.out]
    go_wp2_with fail
    rw [← HX.out]
    obtain ⟨y0, y1, y2⟩ := cells3 HXR.out
    exact bodyPost_ret (v := .agg #[.bool false, .slice A 0 c, .int .i64 x]) (by simp [results, Tryz.f70, go_sem, y0, y1, y2]) rfl ⟨rfl, HXB.out⟩
  · have hr' : r = true := by rw [hr]; simp [hn]
    have g1 : decide (0 < n) = true := by simp; omega
    have g2 : (0 : Int) < (n : Int) := by omega
    clear hr hn
    subst hr'
    go_enter Tryz.func70, Tryz.ntmps70
    go_upto_region 1 with (fail)
    rw [← HW2.out]
    go_wp2_with fail
    rw [← HX.out]
    obtain ⟨y0, y1, y2⟩ := cells3 HXR.out
    exact bodyPost_ret (v := .agg #[.bool true, .slice A n c, .int .i64 x]) (by simp [results, Tryz.f70, go_sem, y0, y1, y2]) rfl ⟨rfl, HXB.out⟩
end Go.Proofs.YtmfpakolfpoamaaGreatDoor.P

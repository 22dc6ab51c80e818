import Derived.Test.YthigbklhngihkaaGreatDoorMOrderOwnq
set_option linter.unusedVariables false
set_option linter.unusedSimpArgs false
set_option maxRecDepth 100000
namespace Go.Proofs.YthigbklhngihkaaGreatDoor.P
open Go.RowKit Go.Proofs.YthigbklhngihkaaGreatDoorW.PrintWords Go.Proofs.YthigbklhngihkaaGreatDoorW.PrintMore Go.Proofs.YthigbklhngihkaaGreatDoorW.PrintLast
set_option maxHeartbeats 2000000 in
theorem Trim_any (d : List Int) (A : Option Addr) (c : Nat) (w : World) (hC : Kd.C (Kd.int .i64) w A d.length d) (hc : d.length ≤ c) (hl : d.length ≤ 1048576) (hok : okD d) :
 Calls Tryz.prog 158 #[.slice A d.length c] w fun e w' => e = .returned (.slice A (decs (dval d)).length c) ∧ w' = w ∧ d.take (decs (dval d)).length = decs (dval d) ∧ (decs (dval d)).length ≤ d.length := by
 have HTK := fun (j : Nat) (hj : j ≤ d.length) => (print_take_int (P := Tryz.prog) (k := .i64) 104 3 Tryz.underlying104 (i := (Tryz.prog.info? 3).get (by kernel_rfl)) (by kernel_rfl) (by kernel_rfl) A c d (j : Int) (by omega) (by omega) hc).1
 obtain ⟨n, hn⟩ : ∃ n, n = d.length := ⟨_, rfl⟩
 have HD : Hid (∀ m, m ≤ n → dval (d.take m) = dval d → (m = 0 ∨ d.getD (m - 1) 0 ≠ 0) → d.take m = decs (dval d)) := Lib.hid (fun m hm h1 h2 => dtrim_done hok (by omega) h1 h2)
 have HTS : Hid (∀ m, m + 1 ≤ n → dval (d.take (m + 1)) = dval d → d.getD m 0 = 0 → dval (d.take m) = dval d) := Lib.hid (fun m hm h1 h2 => dtrim_step (by omega) h1 h2)
 have HT2 : Hid (∀ (j : Nat), j ≤ n → ∀ W : World, (Instr.slice 104 (.slice A n c) none (some (.int .i64 (j : Int))) none).run Tryz.prog W = .ok (.slice A j c) W) := Lib.hid (fun j hj W => by
  have := HTK j (by omega) W
  rw [Int.toNat_natCast, List.length_take, Nat.min_eq_left (by omega), ← hn] at this
  exact this)
 have HC := Lib.hid hC
 have HN := Lib.hid hn
 rw [← hn]
 rw [← hn] at hc hl HC
 clear hC hn hok HTK
 go_enter Tryz.func158, Tryz.ntmps158
 go_wp2
 go_loopw [3] (fun vi wr => ∃ m : Nat, m ≤ n ∧ vi = .int .i64 m ∧ Hid (dval (d.take m) = dval d) ∧ wr = w) (fun vi _ => (intOf vi).toNat)
 case atStart => exact ⟨n, Nat.le_refl _, rfl, Lib.hid (by rw [HN.out, List.take_length]), rfl⟩
 case round =>
  obtain ⟨m, hm, rfl, HV, rfl⟩ := hrel
  by_cases hz : m = 0
  · subst hz
    have hzz : ¬ (0 : Int) < ((0 : Nat) : Int) := by omega
    have hcut := HT2.out 0 (by omega) wr
    have HE := Lib.hid (HD.out 0 (by omega) HV.out (.inl rfl))
    have hlen : (decs (dval d)).length = 0 := by rw [← HE.out]; rfl
    have HLN := Lib.hid hlen
    clear hlen
    go_wp2
    go_ret
    exact ⟨by rw [HLN.out]; rfl, rfl, by rw [HLN.out, ← HE.out], by rw [HLN.out]; omega⟩
  · obtain ⟨j, rfl⟩ : ∃ j, m = j + 1 := ⟨m - 1, by omega⟩
    have hzz : (0 : Int) < ((j + 1 : Nat) : Int) := by omega
    have hjj : (((j + 1 : Nat) : Int) - 1) = (j : Int) := by omega
    have hj0 : (0 : Int) ≤ (j : Int) := by omega
    have hjn : (j : Int) < (n : Int) := by omega
    obtain ⟨ad, rfl, hx⟩ := Kd.at_int HC.out (j : Int) (by omega) (by omega)
    rw [Int.toNat_natCast] at hx
    have hxe : rd d (j : Int) = d.getD j 0 := by unfold rd; rw [Int.toNat_natCast]
    obtain ⟨x, hxx⟩ : ∃ x, x = d.getD j 0 := ⟨_, rfl⟩
    rw [hxe, ← hxx] at hx
    by_cases h0 : x = 0
    · have hb0 : (x == 0) = true := by simp [h0]
      have HV2 := Lib.hid (HTS.out j hm HV.out (by rw [← hxx]; exact h0))
      clear hxe hxx h0 hz
      go_wp2
      go_roundw
      case rel => exact ⟨j, by omega, by first | rfl | (congr 1; omega), HV2, by first | rfl | trivial⟩
      case measure => simp [intOf]
    · have hb0 : (x == 0) = false := by simpa using h0
      have HE := Lib.hid (HD.out (j + 1) hm HV.out (.inr (by rw [Nat.add_sub_cancel, ← hxx]; exact h0)))
      have hcut := HT2.out (j + 1) hm wr
      have HLN : Hid ((decs (dval d)).length = j + 1) := Lib.hid (by rw [← HE.out, List.length_take, ← HN.out, Nat.min_eq_left hm])
      clear hxe hxx h0 hz
      go_wp2
      go_ret
      exact ⟨by rw [HLN.out]; rfl, rfl, by rw [HLN.out]; exact HE.out, by rw [HLN.out]; exact hm⟩
set_option maxHeartbeats 4000000 in
theorem carry_any (d : List Int) (A : Option Addr) (c : Nat) (w : World) (hC : Kd.C (Kd.int .i64) w A d.length d) (hl : d.length ≤ 1000000) (hd : ∀ x ∈ d, 0 ≤ x ∧ x ≤ 18) :
 Calls Tryz.prog 157 #[.slice A d.length c] w fun e w' => ∃ v : Value, e = .returned v ∧ Kd.R (Kd.int .i64) 3 w' w.heap.size (fun _ => True) v (decs (dval d)) ∧ Below w.heap.size w w' := by
 obtain ⟨n, hn⟩ : ∃ n, n = d.length := ⟨_, rfl⟩
 obtain ⟨T, hT⟩ : ∃ T, T = dval d := ⟨_, rfl⟩
 have h0 : TimesTo T 1 d [] 0 := ⟨okD_nil, by rw [hT]; simp [dval]⟩
 rw [← hT]
 have HC := Lib.hid hC
 have HN := Lib.hid hn
 have HD := Lib.hid hd
 have H0 := Lib.hid h0
 rw [← hn]
 rw [← hn] at hl HC
 clear hC hn hd h0 hT
 go_enter Tryz.func157, Tryz.ntmps157
 go_wp2
 go_loopw [3, 4, 5] (fun vo vm vi wr => ∃ (i mo : Nat) (o : List Int) (G : Option Addr) (cap : Nat), i ≤ n ∧ vi = .int .i64 i ∧ vm = .int .i64 mo ∧ vo = .slice G i cap ∧ mo ≤ 2 ∧ Hid (o.length = i ∧ TimesTo T 1 (d.drop i) o mo) ∧ Hid (Kd.R (Kd.int .i64) 3 wr w.heap.size (fun _ => True) (.slice G i cap) o ∧ Below w.heap.size w wr)) (fun vo vm vi _ => n - (intOf vi).toNat)
 case atStart => exact ⟨0, 0, [], none, 0, Nat.zero_le _, rfl, rfl, rfl, by omega, Lib.hid ⟨rfl, by rw [List.drop_zero]; exact H0.out⟩, Lib.hid ⟨Kd.R_nil _ _ _ _ _, Below.refl _ _⟩⟩
 case round =>
  obtain ⟨i, mo, o, G, cap, hi, rfl, rfl, rfl, hmo, HT, HR⟩ := hrel
  by_cases hlt : i < n
  · have hlt2 : (i : Int) < (n : Int) := by omega
    obtain ⟨ad, rfl, hx⟩ := Kd.at_int (Kd.C_below HC.out HR.out.2) (i : Int) (by omega) (by omega)
    rw [Int.toNat_natCast] at hx
    obtain ⟨x, hxe⟩ : ∃ x, x = rd d (i : Int) := ⟨_, rfl⟩
    have hxd : d.drop i = x :: d.drop (i + 1) := by
     rw [List.drop_eq_getElem_cons (by rw [← HN.out]; exact hlt), hxe]
     unfold rd
     rw [Int.toNat_natCast, List.getD_eq_getElem?_getD, List.getElem?_eq_getElem (by rw [← HN.out]; exact hlt)]
     rfl
    have hxr : 0 ≤ x ∧ x ≤ 18 := HD.out x (List.mem_of_mem_drop (by rw [hxd]; exact List.mem_cons_self))
    rw [← hxe] at hx
    obtain ⟨x', rfl⟩ : ∃ x' : Nat, x = (x' : Int) := ⟨x.toNat, by omega⟩
    have HST : Hid ((o ++ [((mo : Int) + x') % 10]).length = i + 1 ∧ (mo + x') / 10 ≤ 2 ∧ TimesTo T 1 (d.drop (i + 1)) (o ++ [((mo : Int) + x') % 10]) ((mo + x') / 10)) := Lib.hid (by
     obtain ⟨h1, h3⟩ := HT.out
     rw [hxd] at h3
     have h4 := h3.step hxr.1
     rw [Int.toNat_natCast, Nat.one_mul, show (((mo + x') % 10 : Nat) : Int) = ((mo : Int) + x') % 10 by omega] at h4
     exact ⟨by simp [h1], by omega, h4⟩)
    have hx1 : (0 : Int) ≤ (x' : Int) := by omega
    have hx2 : (x' : Int) ≤ 18 := by omega
    have hm1 : (0 : Int) ≤ (mo : Int) := by omega
    have hm2 : (mo : Int) ≤ 2 := by omega
    have HSZ : Hid (w.heap.size ≤ wr.heap.size) := Lib.hid HR.out.2.size
    have hol : o.length ≤ 1048576 := by rw [HT.out.1]; omega
    clear hxe hxd hxr
    go_wp2_with (at_builtin; refine Kd.R_append (Kd.int .i64) (w0 := w) w.heap.size rfl (.tmp 18) (.tmp 21) 104 3 (.int .i64 0) 8 rfl Tryz.underlying104 infoI_ rfl (by decide) (by decide) (.slice G i cap) o _ _ (fun _ => True) (fun _ => False) rfl rfl rfl (fun _ h => h.elim) (fun _ _ => trivial) HR.out.1 HR.out.2 HSZ.out (by omega) ?_; intro v1 w7 hR7 hB7 hg7 hat7)
    obtain ⟨G7, cap7, rfl⟩ := Kd.R_slice hR7
    have hl7 : (o ++ [((mo : Int) + x') % 10]).length = i + 1 := HST.out.1
    rw [hl7] at hR7
    have HR7 := Lib.hid (And.intro hR7 hB7)
    clear hR7 hB7 hg7 hat7 hol
    go_roundw
    case rel => exact ⟨i + 1, (mo + x') / 10, o ++ [((mo : Int) + x') % 10], G7, cap7, hlt, by go_num, congrArg (Value.int .i64) (by omega), by rw [← hl7, List.length_append], HST.out.2.1, Lib.hid ⟨HST.out.1, HST.out.2.2⟩, HR7⟩
    case measure => simp [intOf]; omega
  · obtain rfl : i = n := by omega
    have hlt2 : ¬ (i : Int) < (i : Int) := by omega
    have HT2 : Hid (o.length ≤ 1000000 ∧ TimesTo T 1 [] o mo) := Lib.hid (by
     obtain ⟨h1, h3⟩ := HT.out
     rw [HN.out, List.drop_length] at h3
     exact ⟨by omega, h3⟩)
    have HLO := Lib.hid HT.out.1
    clear HT
    go_wp2
    go_loopw [3, 4] (fun vo vm w3 => ∃ (mo : Nat) (o : List Int) (G : Option Addr) (cap : Nat), vm = .int .i64 mo ∧ vo = .slice G o.length cap ∧ mo ≤ 2 ∧ Hid (o.length + mo ≤ 1000002 ∧ TimesTo T 1 [] o mo) ∧ Hid (Kd.R (Kd.int .i64) 3 w3 w.heap.size (fun _ => True) (.slice G o.length cap) o ∧ Below w.heap.size w w3)) (fun vo vm _ => (intOf vm).toNat)
    case atStart => exact ⟨mo, o, G, cap, rfl, by rw [HLO.out], hmo, Lib.hid ⟨by have := HT2.out.1; omega, HT2.out.2⟩, Lib.hid (by rw [HLO.out]; exact HR.out)⟩
    case round =>
     clear HR HT2 HLO
     obtain ⟨mo, o, G, cap, rfl, rfl, hmo, HT, HR⟩ := hrel
     have hm0 : (0 : Int) ≤ (mo : Int) := by omega
     have hm2 : (mo : Int) ≤ 2 := by omega
     by_cases hz : mo = 0
     · subst hz
       have hzz : ¬ (0 : Int) < ((0 : Nat) : Int) := by omega
       have hv : dval o = T := by have := HT.out.2.2; simpa [dval] using this
       have hr := Kd.R_reads' HR.out.1
       have ht := Trim_any o G cap wr hr.2.2 hr.2.1 (by have := HT.out.1; omega) HT.out.2.1
       rw [hv] at ht
       have HTR := Lib.hid ht
       clear hv hr ht
       go_wp2_with (go_at_call 158; (with_reducible refine (HTR.out).mono ?_); rintro e w5 ⟨rfl, rfl, hT1, hT2⟩; have HTK := Lib.hid (And.intro hT1 hT2); clear hT1 hT2)
       go_ret
       exact ⟨_, rfl, by have := Kd.R_take HR.out.1 HTK.out.2; rw [HTK.out.1] at this; exact this, HR.out.2⟩
     · have hzz : (0 : Int) < (mo : Int) := by omega
       have HST : Hid (TimesTo T 1 [] (o ++ [(mo : Int) % 10]) (mo / 10)) := Lib.hid (by
        have h4 := HT.out.2.more
        rw [show ((mo % 10 : Nat) : Int) = (mo : Int) % 10 by omega] at h4
        exact h4)
       have hol : o.length ≤ 1048586 := by have := HT.out.1; omega
       have hol2 : Hid (o.length + mo ≤ 1000002) := Lib.hid HT.out.1
       have HSZ : Hid (w.heap.size ≤ wr.heap.size) := Lib.hid HR.out.2.size
       clear hz
       go_wp2_with (at_builtin; refine Kd.R_append (Kd.int .i64) (w0 := w) w.heap.size rfl (.tmp 27) (.tmp 30) 104 3 (.int .i64 0) 8 rfl Tryz.underlying104 infoI_ rfl (by decide) (by decide) (.slice G o.length cap) o _ _ (fun _ => True) (fun _ => False) rfl rfl rfl (fun _ h => h.elim) (fun _ _ => trivial) HR.out.1 HR.out.2 HSZ.out (by omega) ?_; intro v1 w7 hR7 hB7 hg7 hat7)
       obtain ⟨G7, cap7, rfl⟩ := Kd.R_slice hR7
       have HR7 := Lib.hid (And.intro hR7 hB7)
       clear hR7 hB7 hg7 hat7 hol
       have hmd : mo / 10 < mo := by omega
       go_roundw
       case rel => exact ⟨mo / 10, o ++ [(mo : Int) % 10], G7, cap7, congrArg (Value.int .i64) (by omega), by rw [List.length_append], by omega, Lib.hid ⟨by have := hol2.out; rw [List.length_append, List.length_singleton]; omega, HST.out⟩, HR7⟩
       case measure => simp [intOf]; omega
structure LimbAt (k : Nat) (j rest : Nat) (ys : List Int) : Prop where
 len : ys.length = (decs k).length
 le : j ≤ ys.length
 head : ys.take j = (decs k).take j
 ok : okD ys
 rest : rest = dval ((decs k).drop j) % 4294967296
 quo : dval (ys.drop j) = dval ((decs k).drop j) / 4294967296
theorem LimbAt.step {k j rest : Nat} {ys : List Int} (h : LimbAt k (j + 1) rest ys) : 0 ≤ ys.getD j 0 ∧ ys.getD j 0 ≤ 9 ∧ LimbAt k j ((rest * 10 + (ys.getD j 0).toNat) % 4294967296) (ys.set j (((rest * 10 + (ys.getD j 0).toNat) / 4294967296 : Nat) : Int)) := by
 have hj : j < ys.length := h.le
 have hx := okD_getD h.ok j
 have hxe : ys.getD j 0 = (decs k).getD j 0 := by
  have h1 : (ys.take (j + 1))[j]? = ((decs k).take (j + 1))[j]? := by rw [h.head]
  rw [List.getElem?_take_of_lt (by omega), List.getElem?_take_of_lt (by omega)] at h1
  rw [List.getD_eq_getElem?_getD, List.getD_eq_getElem?_getD, h1]
 have hj2 : j < (decs k).length := by rw [← h.len]; exact hj
 have hd : dval ((decs k).drop j) = (ys.getD j 0).toNat + 10 * dval ((decs k).drop (j + 1)) := by
  rw [hxe, List.drop_eq_getElem_cons hj2, dval, List.getD_eq_getElem?_getD, List.getElem?_eq_getElem hj2]
  rfl
 have hr := h.rest
 have hq := h.quo
 have hrl : rest < 4294967296 := by rw [hr]; exact Nat.mod_lt _ (by decide)
 have hx9 : (ys.getD j 0).toNat ≤ 9 := by omega
 have hxx : 0 ≤ ys.getD j 0 ∧ ys.getD j 0 ≤ 9 := by omega
 generalize (ys.getD j 0).toNat = x at *
 generalize dval ((decs k).drop (j + 1)) = t at *
 refine ⟨hxx.1, hxx.2, by simp [h.len], by simp; omega, ?_, ?_, ?_, ?_⟩
 · rw [List.take_set_of_le (Nat.le_refl _)]
   have h1 := congrArg (List.take j) h.head
   rw [List.take_take, List.take_take, Nat.min_eq_left (by omega)] at h1
   exact h1
 · intro y hy
   rcases List.mem_or_eq_of_mem_set hy with hy | rfl
   · exact h.ok y hy
   · have : (rest * 10 + x) / 4294967296 ≤ 9 := by omega
     omega
 · rw [hd, hr]; omega
 · have h1 : (ys.set j (((rest * 10 + x) / 4294967296 : Nat) : Int)).drop j = (((rest * 10 + x) / 4294967296 : Nat) : Int) :: ys.drop (j + 1) := by
    rw [List.drop_eq_getElem_cons (by rw [List.length_set]; exact hj), List.getElem_set_self, List.drop_set_of_lt (by omega)]
   rw [h1, dval, Int.toNat_natCast, hq, hd, hr]
   omega
theorem shl_back (s : Nat) (h : s < 42949672970) : wrap64 ((s : Int) - wrap64 (((s / 4294967296 : Nat) : Int) * 4294967296)) = ((s % 4294967296 : Nat) : Int) := by
 have h1 : s = s / 4294967296 * 4294967296 + s % 4294967296 := by omega
 have h2 : s % 4294967296 < 4294967296 := by omega
 have h3 : s / 4294967296 ≤ 10 := by omega
 generalize s / 4294967296 = q at *
 generalize s % 4294967296 = r at *
 have e1 : wrap64 ((q : Int) * 4294967296) = (q : Int) * 4294967296 := by unfold wrap64; omega
 rw [e1]
 have e2 : (s : Int) - (q : Int) * 4294967296 = (r : Int) := by omega
 rw [e2]
 unfold wrap64
 omega
theorem limb_sum (rest x : Nat) (h1 : rest < 4294967296) (h2 : x ≤ 9) : wrap64 (wrap64 ((rest : Int) * 10) + (x : Int)) = ((rest * 10 + x : Nat) : Int) := by
 have e1 : wrap64 ((rest : Int) * 10) = (rest : Int) * 10 := by unfold wrap64; omega
 rw [e1]
 unfold wrap64
 omega
set_option maxHeartbeats 4000000 in
theorem Limbs_any (m : Nat) (A : Option Addr) (c : Nat) (w : World) (hC : Kd.C (Kd.int .i64) w A (decs m).length (decs m)) (hl : (decs m).length ≤ 1000000) :
 Calls Tryz.prog 159 #[.slice A (decs m).length c] w fun e w' => ∃ v : Value, e = .returned v ∧ Kd.R (Kd.int .u32) 131 w' w.heap.size (fun _ => True) v (limbs m) ∧ Below w.heap.size w w' := by
 have HLM : Hid (∀ k, k ≤ m → (decs k).length ≤ 1000000) := Lib.hid (fun k hk => Nat.le_trans (decs_len (Nat.lt_of_le_of_lt hk (by have := dval_lt (okD_decs m); rw [dval_decs] at this; exact this))) hl)
 have HLO : Hid (∀ o k, o ++ limbs k = limbs m → o.length ≤ 1000000) := Lib.hid (fun o k h => by
  have h1 : (limbs m).length ≤ (decs m).length := limbs_len (by
   have h1 := dval_lt (okD_decs m)
   rw [dval_decs] at h1
   exact Nat.lt_of_lt_of_le h1 (Nat.pow_le_pow_left (by decide) _))
  have := congrArg List.length h
  rw [List.length_append] at this
  omega)
 obtain ⟨n, hn⟩ : ∃ n, n = (decs m).length := ⟨_, rfl⟩
 have HC := Lib.hid hC
 have HN := Lib.hid hn
 rw [← hn]
 rw [← hn] at HC hl
 clear hC hn
 go_enter Tryz.func159, Tryz.ntmps159
 go_wp2_with (at_builtin; refine Kd.R_append_row (Value.int .i64) (0 : Int) w.heap.size rfl (.tmp 7) (.tmp 8) 104 3 (.int .i64 0) 8 rfl Tryz.underlying104 infoI_ rfl (by decide) _ [] _ _ _ _ (fun _ => True) rfl rfl (fun _ _ => trivial) (Kd.R_nil _ _ _ _ _) HC.out (Below.refl _ _) (Nat.le_refl _) (by simp; omega) ?_; intro v1 w1 hR1 hB1 hg1 hat1; obtain ⟨G1, d1, rfl⟩ := Kd.R_slice hR1)
 simp only [List.nil_append, ← HN.out] at hR1 ⊢
 have HR1 := Lib.hid (And.intro hR1 hB1)
 clear hR1 hB1 hg1 hat1
 go_loopg [3, 4] m (fun k vo vw wr => ∃ (o : List Int) (G : Option Addr) (cap : Nat) (B : Option Addr) (ln d : Nat), vo = .slice G o.length cap ∧ vw = .slice B ln d ∧ k ≤ m ∧ Hid (ln = (decs k).length ∧ Kd.R (Kd.int .i64) 3 wr w.heap.size (fun _ => True) (.slice B ln d) (decs k)) ∧ Hid (Kd.R (Kd.int .u32) 131 wr w.heap.size (fun _ => True) (.slice G o.length cap) o ∧ Below w.heap.size w wr) ∧ Hid (o ++ limbs k = limbs m))
 case atStart => exact ⟨[], none, 0, G1, n, d1, rfl, rfl, Nat.le_refl _, Lib.hid ⟨HN.out, HR1.out.1⟩, Lib.hid ⟨Kd.R_nil _ _ _ _ _, HR1.out.2⟩, Lib.hid rfl⟩
 case round =>
  obtain ⟨o, G, cap, B, ln, d, rfl, rfl, hk, HW, HO, HE⟩ := hrel
  by_cases hz : gk = 0
  · subst hz
    have hl0 : ln = 0 := by rw [HW.out.1, decs_zero]; rfl
    subst hl0
    have HEE : Hid (o = limbs m) := Lib.hid (by have := HE.out; rw [limbs_zero, List.append_nil] at this; exact this)
    go_wp2
    go_ret
    exact ⟨_, rfl, by rw [← HEE.out]; exact HO.out.1, HO.out.2⟩
  · have hlp : 0 < ln := by rw [HW.out.1, decs_pos hz]; simp
    obtain ⟨g, d2, e, -⟩ := Kd.R_form HW.out.2 (by rw [← HW.out.1]; exact hlp)
    injection e with e1 e2 e3
    subst e1 e3
    clear e2
    have hlm : ln ≤ 1000000 := by rw [HW.out.1]; exact HLM.out gk hk
    have HZ := Lib.hid hz
    have HG : Hid (w.heap.size ≤ g) := Lib.hid (Kd.R_base HW.out.2 g rfl)
    clear hz
    go_wp2
    go_loopw [5, 6] (fun vr vi w3 => ∃ (j rest : Nat) (ys : List Int), vi = .int .i64 ((j : Int) - 1) ∧ vr = .int .i64 rest ∧ j ≤ ln ∧ Hid (rest < 4294967296 ∧ ys.length = ln ∧ LimbAt gk j rest ys) ∧ Hid (Kd.R (Kd.int .i64) 3 w3 w.heap.size (fun _ => True) (.slice (some ⟨g, 0, none⟩) ln d) ys ∧ Kd.R (Kd.int .u32) 131 w3 w.heap.size (fun _ => True) (.slice G o.length cap) o ∧ Below w.heap.size w w3)) (fun vr vi _ => (intOf vi + 1).toNat)
    case atStart => exact ⟨ln, 0, decs gk, rfl, rfl, Nat.le_refl _, Lib.hid ⟨by decide, HW.out.1.symm, ⟨rfl, by rw [HW.out.1]; exact Nat.le_refl _, rfl, okD_decs _, by rw [HW.out.1, List.drop_length]; rfl, by rw [HW.out.1, List.drop_length]; rfl⟩⟩, Lib.hid ⟨HW.out.2, HO.out.1, HO.out.2⟩⟩
    case round =>
     obtain ⟨j, rest, ys, rfl, rfl, hj, HL, HR⟩ := hrel
     by_cases hj0 : j = 0
     · subst hj0
       have hT := HL.out.2.2
       have hv : dval ys = gk / 4294967296 := by have := hT.quo; rw [List.drop_zero, List.drop_zero, dval_decs] at this; exact this
       have hr : rest = gk % 4294967296 := by have := hT.rest; rw [List.drop_zero, dval_decs] at this; exact this
       have hca := Lib.hid (fun W (hW : Kd.R (Kd.int .i64) 3 W w.heap.size (fun _ => True) (.slice (some ⟨g, 0, none⟩) ln d) ys) => carry_any ys (some ⟨g, 0, none⟩) d W (Kd.R_reads' hW).2.2 (by rw [HL.out.2.1]; exact hlm) (fun y hy => by have := hT.ok y hy; omega))
       have HNX : Hid ((o ++ [(rest : Int) % 4294967296]) ++ limbs (gk / 4294967296) = limbs m) := Lib.hid (by rw [← HE.out, limbs_pos HZ.out, hr, show ((gk % 4294967296 : Nat) : Int) % 4294967296 = ((gk % 4294967296 : Nat) : Int) by omega]; simp)
       have hol : o.length ≤ 1000000 := HLO.out o gk HE.out
       have HLT : Hid (gk / 4294967296 < gk) := Lib.hid (by have := HZ.out; omega)
       have HYL := Lib.hid HL.out.2.1
       have HRB := Lib.hid HL.out.1
       have HSZ : Hid (w.heap.size ≤ wr.heap.size) := Lib.hid HR.out.2.2.size
       have hr0 : (0 : Int) ≤ (rest : Int) := by omega
       rw [hv] at hca
       clear hT hv hr HL HE
       go_wp2_with (first
        | (at_builtin; refine Kd.R_append (Kd.int .u32) (w0 := w) w.heap.size rfl (.tmp 39) (.tmp 42) 22 131 (.int .u32 0) 4 rfl Tryz.underlying22 infoU rfl (by decide) (by decide) (.slice G o.length cap) o _ _ (fun _ => True) (fun _ => False) rfl rfl rfl (fun _ h => h.elim) (fun _ _ => trivial) HR.out.2.1 HR.out.2.2 HSZ.out (by omega) ?_; intro v1 w7 hR7 hB7 hg7 hat7; obtain ⟨G7, cap7, rfl⟩ := Kd.R_slice hR7; have HO7 := Lib.hid hR7; have HW7 := Lib.hid (Kd.R_over' HR.out.1 (Kd.R_typed HR.out.2.1) (by decide) hg7); have HB7 := Lib.hid hB7; clear hR7 hB7 hg7 hat7)
        | (go_at_call 157; have hcc := hca.out _ HW7.out; rw [HYL.out] at hcc; refine hcc.mono ?_; rintro e w8 ⟨v8, rfl, hR8, hB8⟩; obtain ⟨B8, d8, rfl⟩ := Kd.R_slice hR8; have HR8 := Lib.hid (Kd.R_lower hR8 HB7.out.size); have HO8 := Lib.hid (And.intro (Kd.R_below HO7.out hB8) (HB7.out.trans (hB8.mono HB7.out.size))); clear hR8 hB8 hcc))
       have hkm : gk / 4294967296 ≤ m := by have := HLT.out; omega
       go_roundg (gk / 4294967296)
       case measure => exact HLT.out
       case rel => exact ⟨o ++ [(rest : Int) % 4294967296], G7, cap7, B8, _, d8, by rw [List.length_append]; rfl, rfl, hkm, Lib.hid ⟨rfl, HR8.out⟩, HO8, HNX⟩
     · obtain ⟨i, rfl⟩ : ∃ i, j = i + 1 := ⟨j - 1, by omega⟩
       obtain ⟨hx0, hx9, hst⟩ := HL.out.2.2.step
       obtain ⟨hcx, hfx⟩ := Kd.R_celln (0 : Int) HR.out.1 (i : Int) (by omega) (by omega)
       rw [Int.toNat_natCast] at hcx hfx
       have hxe : rdOf (0 : Int) ys (i : Int) = ys.getD i 0 := by unfold rdOf; rw [Int.toNat_natCast]
       rw [hxe] at hcx
       obtain ⟨x, hx⟩ : ∃ x : Nat, ys.getD i 0 = (x : Int) := ⟨(ys.getD i 0).toNat, by omega⟩
       rw [hx, Int.toNat_natCast] at hst
       rw [hx] at hcx hx9
       have hii : (((i + 1 : Nat) : Int) - 1) = (i : Int) := by omega
       rw [hii]
       have hi0 : (0 : Int) ≤ (i : Int) := by omega
       have hin : (i : Int) < (ln : Int) := by omega
       clear hxe hx hx0 hii hj0
       go_wp2
       have hrb := HL.out.1
       obtain ⟨s, hs⟩ : ∃ s, s = rest * 10 + x := ⟨_, rfl⟩
       have E1 : wrap64 (wrap64 ((rest : Int) * 10) + (x : Int)) = (s : Int) := by rw [hs]; exact limb_sum rest x hrb (by omega)
       have E2 : (s : Int) / 4294967296 = ((s / 4294967296 : Nat) : Int) := by omega
       have E3 := shl_back s (by omega)
       rw [E1, E2, E3]
       rw [← hs] at hst
       have hp := Kd.R_putn HR.out.1 (i : Int) ((s / 4294967296 : Nat) : Int)
       rw [Int.toNat_natCast] at hp
       refine ⟨⟨i, s % 4294967296, _, rfl, rfl, by omega, Lib.hid ⟨Nat.mod_lt _ (by decide), by rw [List.length_set]; exact HL.out.2.1, hst⟩, Lib.hid ⟨hp, ?_, HR.out.2.2.setCell (p := ⟨g, i, none⟩) HG.out _⟩⟩, by show ((i : Int) - 1 + 1).toNat < ((i : Int) + 1).toNat; omega⟩
       obtain ⟨cells, hcg⟩ := Kd.R_typed HR.out.1 g rfl
       exact Kd.R_set HR.out.2.1 hcg (by decide) i _
structure PlusDg (a b : List Int) (i : Nat) (o : List Int) : Prop where
 len : o.length = i
 sum : dval o = dval (a.take i) + dval (b.take i)
 ok : ∀ x ∈ o, 0 ≤ x ∧ x ≤ 18
theorem PlusDg.nil (a b : List Int) : PlusDg a b 0 [] := ⟨rfl, rfl, fun x hx => by cases hx⟩
theorem PlusDg.step {a b : List Int} {i : Nat} {o : List Int} (h : PlusDg a b i o) (ha : okD a) (hb : okD b) : PlusDg a b (i + 1) (o ++ [a.getD i 0 + b.getD i 0]) := by
 have h1 := okD_getD ha i
 have h2 := okD_getD hb i
 refine ⟨by rw [List.length_append, h.len]; rfl, ?_, fun x hx => ?_⟩
 · rw [dval_snoc, h.len, h.sum, dval_take_step, dval_take_step, show (a.getD i 0 + b.getD i 0).toNat = (a.getD i 0).toNat + (b.getD i 0).toNat by omega, Nat.mul_add]
   omega
 · rcases List.mem_append.1 hx with hx | hx
   · exact h.ok x hx
   · rw [List.mem_singleton.1 hx]; omega
theorem PlusDg.done {a b : List Int} {i : Nat} {o : List Int} (h : PlusDg a b i o) (h1 : a.length ≤ i) (h2 : b.length ≤ i) : dval o = dval a + dval b := by
 rw [h.sum, List.take_of_length_le h1, List.take_of_length_le h2]
structure MinusDg (a b : List Int) (i : Nat) (ls : Nat) (o : List Int) : Prop where
 len : o.length = i
 sum : dval (a.take i) + 10 ^ i * ls = dval o + dval (b.take i)
 ok : okD o
 one : ls ≤ 1
theorem MinusDg.nil (a b : List Int) : MinusDg a b 0 0 [] := ⟨rfl, rfl, okD_nil, by omega⟩
theorem MinusDg.step {a b : List Int} {i ls : Nat} {o : List Int} (h : MinusDg a b i ls o) (ha : okD a) (hb : okD b) {x : Int} {ls' : Nat} (hx : x = a.getD i 0 - (ls : Int) - b.getD i 0 + 10 * (ls' : Int)) (h0 : 0 ≤ x) (h9 : x < 10) (hl : ls' ≤ 1) : MinusDg a b (i + 1) ls' (o ++ [x]) := by
 have h1 := okD_getD ha i
 have h2 := okD_getD hb i
 have hs := h.sum
 have ho := h.one
 refine ⟨by rw [List.length_append, h.len]; rfl, ?_, okD_app.2 ⟨h.ok, fun y hy => by rw [List.mem_singleton.1 hy]; exact ⟨h0, h9⟩⟩, hl⟩
 rw [dval_snoc, h.len, dval_take_step, dval_take_step, Nat.pow_succ]
 have e : x.toNat + ls + (b.getD i 0).toNat = (a.getD i 0).toNat + 10 * ls' := by omega
 generalize (a.getD i 0).toNat = p at *
 generalize (b.getD i 0).toNat = q at *
 generalize x.toNat = r at *
 generalize 10 ^ i = t at *
 have e2 := congrArg (t * ·) e
 simp only [Nat.mul_add] at e2
 have e3 : t * 10 * ls' = t * (10 * ls') := Nat.mul_assoc _ _ _
 omega
theorem MinusDg.done {a b : List Int} {i ls : Nat} {o : List Int} (h : MinusDg a b i ls o) (h1 : a.length ≤ i) (h2 : b.length ≤ i) (hle : dval b ≤ dval a) : dval o = dval a - dval b := by
 have hs := h.sum
 rw [List.take_of_length_le h1, List.take_of_length_le h2] at hs
 have hlt := dval_lt h.ok
 rw [h.len] at hlt
 rcases Nat.eq_zero_or_pos ls with h0 | h0
 · rw [h0] at hs; omega
 · have : ls = 1 := by have := h.one; omega
   rw [this] at hs
   omega
theorem dlt_at {a b : List Int} (ha : okD a) (hb : okD b) (hl : a.length = b.length) {i : Nat} (hi : i < a.length) (he : a.drop (i + 1) = b.drop (i + 1)) (hlt : a.getD i 0 < b.getD i 0) : dval a < dval b := by
 have hx := okD_getD ha i
 have hy := okD_getD hb i
 have h1 : dval a = dval (a.take i) + 10 ^ i * ((a.getD i 0).toNat + 10 * dval (a.drop (i + 1))) := by
  have e := congrArg dval (List.take_append_drop i a)
  rw [dval_app, List.length_take, Nat.min_eq_left (by omega), List.drop_eq_getElem_cons hi, dval] at e
  rw [← e, List.getD_eq_getElem?_getD, List.getElem?_eq_getElem hi]; rfl
 have h2 : dval b = dval (b.take i) + 10 ^ i * ((b.getD i 0).toNat + 10 * dval (b.drop (i + 1))) := by
  have e := congrArg dval (List.take_append_drop i b)
  rw [dval_app, List.length_take, Nat.min_eq_left (by omega), List.drop_eq_getElem_cons (by omega), dval] at e
  rw [← e, List.getD_eq_getElem?_getD, List.getElem?_eq_getElem (by omega)]; rfl
 have h3 := dval_lt (okD_take ha i)
 rw [List.length_take, Nat.min_eq_left (by omega)] at h3
 rw [← he] at h2
 have h4 : (a.getD i 0).toNat + 10 * dval (a.drop (i + 1)) + 1 ≤ (b.getD i 0).toNat + 10 * dval (a.drop (i + 1)) := by omega
 have h5 := Nat.mul_le_mul_left (10 ^ i) h4
 rw [Nat.mul_add _ _ 1] at h5
 generalize 10 ^ i * ((a.getD i 0).toNat + 10 * dval (a.drop (i + 1))) = p at *
 generalize 10 ^ i * ((b.getD i 0).toNat + 10 * dval (a.drop (i + 1))) = q at *
 omega
theorem dlen_lt {m n : Nat} (h : (decs m).length < (decs n).length) : m < n := by
 have h1 := dval_lt (okD_decs m)
 have hn : decs n ≠ [] := fun e => by rw [e] at h; simp at h
 have h2 := dcanon_ge (dcanon_decs n) hn
 rw [dval_decs] at h1 h2
 have h3 : 10 ^ (decs m).length ≤ 10 ^ ((decs n).length - 1) := Nat.pow_le_pow_right (by decide) (by omega)
 omega
theorem drop_step {a b : List Int} {i : Nat} (ha : i < a.length) (hb : i < b.length) (he : a.drop (i + 1) = b.drop (i + 1)) (hx : a.getD i 0 = b.getD i 0) : a.drop i = b.drop i := by
 rw [List.drop_eq_getElem_cons ha, List.drop_eq_getElem_cons hb, he]
 rw [List.getD_eq_getElem?_getD, List.getD_eq_getElem?_getD, List.getElem?_eq_getElem ha, List.getElem?_eq_getElem hb] at hx
 rw [show a[i] = b[i] from hx]
theorem decs_shift {m : Nat} (h : m ≠ 0) : ∀ k, decs (m * 10 ^ k) = List.replicate k 0 ++ decs m
 | 0 => by simp
 | k + 1 => by
  have e : m * 10 ^ (k + 1) = 10 * (m * 10 ^ k) := by rw [Nat.pow_succ]; simp only [Nat.mul_comm, Nat.mul_left_comm]
  have hp : m * 10 ^ k ≠ 0 := Nat.mul_ne_zero h (Nat.pos_iff_ne_zero.1 (Nat.pow_pos (by decide)))
  rw [e, decs_pos (by omega), show 10 * (m * 10 ^ k) % 10 = 0 by omega, show 10 * (m * 10 ^ k) / 10 = m * 10 ^ k by omega, decs_shift h k]
  rfl
theorem decs_shift_len (m k : Nat) : (decs (m * 10 ^ k)).length ≤ (decs m).length + k := by
 by_cases h : m = 0
 · subst h; simp [decs_zero]
 · rw [decs_shift h]; simp; omega
theorem cmpI_less {a b : Int} (h : a < b) : cmpI a b = -1 := by unfold cmpI; rw [if_pos h]
theorem cmpI_more {a b : Int} (h : b < a) : cmpI a b = 1 := by unfold cmpI; rw [if_neg (by omega), if_pos h]
theorem cmpI_same (a : Int) : cmpI a a = 0 := by unfold cmpI; rw [if_neg (by omega), if_neg (by omega)]
theorem at_dig {w : World} {A : Option Addr} {d : List Int} (hC : Kd.C (Kd.int .i64) w A d.length d) (i : Nat) (h : i < d.length) : ∃ ad, A = some ad ∧ w.cell? (ad.add i) = some (.int .i64 (d.getD i 0)) := by
 obtain ⟨ad, h1, h2⟩ := Kd.at_int hC (i : Int) (by omega) (by omega)
 rw [Int.toNat_natCast] at h2
 refine ⟨ad, h1, h2.trans ?_⟩
 unfold rd
 rw [Int.toNat_natCast]
set_option maxHeartbeats 2000000 in
theorem Order01_any (m n : Nat) (A B : Option Addr) (c d : Nat) (w : World) (hA : Kd.C (Kd.int .i64) w A (decs m).length (decs m)) (hB : Kd.C (Kd.int .i64) w B (decs n).length (decs n)) (hl : (decs m).length ≤ 1000000) (hl2 : (decs n).length ≤ 1000000) :
 Calls Tryz.prog 201 #[.slice A (decs m).length c, .slice B (decs n).length d] w fun e w' => e = .returned (.int .i64 (cmpI m n)) ∧ Below w.heap.size w w' := by
 have e0 := dval_decs m
 have e1 := dval_decs n
 have k0 := okD_decs m
 have k1 := okD_decs n
 have HL1 : Hid ((decs m).length < (decs n).length → cmpI m n = -1) := Lib.hid (fun h => cmpI_less (by have := dlen_lt h; omega))
 have HL2 : Hid ((decs n).length < (decs m).length → cmpI m n = 1) := Lib.hid (fun h => cmpI_more (by have := dlen_lt h; omega))
 have HLT : Hid (∀ i, (decs m).length = (decs n).length → i < (decs m).length → (decs m).drop (i + 1) = (decs n).drop (i + 1) → (decs m).getD i 0 < (decs n).getD i 0 → cmpI m n = -1) := Lib.hid (fun i hl hi he hx => cmpI_less (by have := dlt_at k0 k1 hl hi he hx; omega))
 have HGT : Hid (∀ i, (decs m).length = (decs n).length → i < (decs m).length → (decs m).drop (i + 1) = (decs n).drop (i + 1) → (decs n).getD i 0 < (decs m).getD i 0 → cmpI m n = 1) := Lib.hid (fun i hl hi he hx => cmpI_more (by have := dlt_at k1 k0 hl.symm (by omega) he.symm hx; omega))
 have HEQ : Hid (decs m = decs n → cmpI m n = 0) := Lib.hid (fun h => by
  have : m = n := by rw [← e0, ← e1, h]
  rw [this]; exact cmpI_same _)
 generalize decs m = a at *
 generalize decs n = b at *
 generalize cmpI m n = r at *
 obtain ⟨x, hx⟩ : ∃ x, x = a.length := ⟨_, rfl⟩
 obtain ⟨y, hy⟩ : ∃ y, y = b.length := ⟨_, rfl⟩
 have HA := Lib.hid hA
 have HB := Lib.hid hB
 have HX := Lib.hid hx
 have HY := Lib.hid hy
 rw [← hx, ← hy]
 rw [← hx] at hl
 rw [← hy] at hl2
 clear hA hB e0 e1 k0 k1 hx hy
 by_cases h1 : x < y
 · have g1 : (x : Int) < (y : Int) := by omega
   have HR := Lib.hid (HL1.out (by rw [← HX.out, ← HY.out]; exact h1))
   go_enter Tryz.func201, Tryz.ntmps201
   go_wp2
   go_ret
   exact ⟨by rw [HR.out]; rfl, Below.refl _ _⟩
 · by_cases h2 : y < x
   · have g1 : ¬ (x : Int) < (y : Int) := by omega
     have g2 : (y : Int) < (x : Int) := by omega
     have HR := Lib.hid (HL2.out (by rw [← HX.out, ← HY.out]; exact h2))
     go_enter Tryz.func201, Tryz.ntmps201
     go_wp2
     go_ret
     exact ⟨by rw [HR.out]; rfl, Below.refl _ _⟩
   · obtain rfl : x = y := by omega
     have g1 : ¬ (x : Int) < (x : Int) := by omega
     clear h1 h2
     go_enter Tryz.func201, Tryz.ntmps201
     go_wp2
     go_loopw [5] (fun vi wr => ∃ k : Nat, k ≤ x ∧ vi = .int .i64 ((k : Int) - 1) ∧ Hid (a.drop k = b.drop k) ∧ Hid (Below w.heap.size w wr)) (fun vi _ => (intOf vi + 1).toNat)
     case atStart => exact ⟨x, Nat.le_refl _, rfl, Lib.hid (by rw [List.drop_of_length_le (by rw [← HX.out]; exact Nat.le_refl _), List.drop_of_length_le (by rw [← HY.out]; exact Nat.le_refl _)]), Lib.hid (Below.refl _ _)⟩
     case round =>
      obtain ⟨k, hk, rfl, HD, HBW⟩ := hrel
      by_cases hz : k = 0
      · subst hz
        have HR := Lib.hid (HEQ.out (by have := HD.out; rwa [List.drop_zero, List.drop_zero] at this))
        go_wp2
        go_ret
        exact ⟨by rw [HR.out]; rfl, HBW.out⟩
      · obtain ⟨j, rfl⟩ : ∃ j, k = j + 1 := ⟨k - 1, by omega⟩
        have hj1 : (((j + 1 : Nat) : Int) - 1) = (j : Int) := by omega
        rw [hj1]
        have hj0 : (0 : Int) ≤ (j : Int) := by omega
        have hjn : (j : Int) < (x : Int) := by omega
        obtain ⟨ad, rfl, hxx⟩ := at_dig (Kd.C_below HA.out HBW.out) j (by rw [← HX.out]; omega)
        obtain ⟨be, rfl, hyy⟩ := at_dig (Kd.C_below HB.out HBW.out) j (by rw [← HY.out]; omega)
        have HS : Hid (a.getD j 0 = b.getD j 0 → a.drop j = b.drop j) := Lib.hid (drop_step (by rw [← HX.out]; omega) (by rw [← HY.out]; omega) HD.out)
        have HP : Hid (a.getD j 0 < b.getD j 0 → r = -1) := Lib.hid (fun h => HLT.out j (by rw [← HX.out, ← HY.out]) (by rw [← HX.out]; omega) HD.out h)
        have HQ : Hid (b.getD j 0 < a.getD j 0 → r = 1) := Lib.hid (fun h => HGT.out j (by rw [← HX.out, ← HY.out]) (by rw [← HX.out]; omega) HD.out h)
        generalize a.getD j 0 = p at *
        generalize b.getD j 0 = q at *
        clear hj1 hz HL1 HL2 HLT HGT HEQ
        by_cases h1 : p < q
        · have HR := Lib.hid (HP.out h1)
          go_wp2
          go_quiet (fail)
          go_wp2
          go_ret
          exact ⟨by rw [HR.out]; rfl, by first | exact pw_below_drewN (pw_below_drewN HBW.out _) _ | exact pw_below_drewN HBW.out _⟩
        · by_cases h2 : q < p
          · have HR := Lib.hid (HQ.out h2)
            go_wp2
            go_quiet (fail)
            go_wp2
            go_quiet (fail)
            go_wp2
            go_ret
            exact ⟨by rw [HR.out]; rfl, by first | exact pw_below_drewN (pw_below_drewN HBW.out _) _ | exact pw_below_drewN HBW.out _⟩
          · have HD2 := Lib.hid (HS.out (by omega))
            go_wp2
            go_quiet (fail)
            go_wp2
            go_quiet (fail)
            go_wp2
            go_roundw
            case rel => exact ⟨j, by omega, by go_num, HD2, Lib.hid (pw_below_drewN HBW.out _)⟩
            case measure => simp [intOf]
set_option maxHeartbeats 2000000 in
theorem Shift_any (m k : Nat) (A : Option Addr) (c : Nat) (w : World) (hA : Kd.C (Kd.int .i64) w A (decs m).length (decs m)) (hl : (decs m).length ≤ 1000000) (hk : k ≤ 1000000) :
 Calls Tryz.prog 247 #[.slice A (decs m).length c, .int .i64 k] w fun e w' => ∃ v : Value, e = .returned v ∧ Kd.R (Kd.int .i64) 3 w' w.heap.size (fun _ => True) v (decs (m * 10 ^ k)) ∧ Below w.heap.size w w' := by
 by_cases h0 : m = 0
 · subst h0
   rw [Nat.zero_mul]
   have e0 : (decs 0).length = 0 := by rw [decs_zero]; rfl
   rw [e0]
   have HR : Hid (∀ W, Kd.R (Kd.int .i64) 3 W w.heap.size (fun _ => True) (.slice none 0 0) (decs 0)) := Lib.hid (fun W => by rw [decs_zero]; exact Kd.R_nil _ _ _ _ _)
   clear hA e0
   go_enter Tryz.func247, Tryz.ntmps247
   go_wp2
   go_ret
   exact ⟨_, rfl, HR.out _, Below.refl _ _⟩
 · have HE := Lib.hid (decs_shift h0 k)
   have hp : (decs m).length ≠ 0 := by rw [decs_pos h0]; simp
   obtain ⟨a, ha⟩ : ∃ a, a = decs m := ⟨_, rfl⟩
   obtain ⟨n, hn⟩ : ∃ n, n = a.length := ⟨_, rfl⟩
   rw [← ha] at hA hl hp
   rw [← ha] at HE ⊢
   rw [← hn] at hA hl hp ⊢
   have hp2 : ((n : Int) == 0) = false := by rw [beq_eq_false_iff_ne]; omega
   have HA := Lib.hid hA
   have hk0 : (0 : Int) ≤ (k : Int) := by omega
   generalize decs (m * 10 ^ k) = r at *
   clear hA hp ha hn h0
   go_enter Tryz.func247, Tryz.ntmps247
   have hlr : (List.replicate k (0 : Int)).length = k := List.length_replicate
   have HLR := Lib.hid hlr
   clear hlr
   go_wp2_with (first
    | (at_make; refine Kd.R_make (Kd.int .i64) (w0 := w) w.heap.size 3 rfl rfl 104 _ _ rfl (k : Int) rfl rfl Tryz.underlying104 (.int .i64 0) 8 infoI_ rfl (by decide) (by decide) 0 (ok := fun _ => True) (okp := fun _ => False) rfl (fun _ h => h.elim) trivial hk0 (by omega) (Below.refl _ _) (Nat.le_refl _) ?_; intro v1 w1 hR1 hB1 hg1 hat1; obtain ⟨G1, c1, rfl⟩ := Kd.R_slice hR1; rw [Int.toNat_natCast, HLR.out] at hR1; rw [Int.toNat_natCast, HLR.out]; have HR1 := Lib.hid hR1; have HB1 := Lib.hid hB1; clear hR1 hB1 hg1 hat1)
    | (at_builtin; refine Kd.R_append_rows (Kd.int .i64) (w0 := w) w.heap.size rfl _ _ 104 3 (.int .i64 0) 8 rfl Tryz.underlying104 infoI_ rfl (by decide) (by decide) (.slice G1 k c1) (List.replicate k 0) a A n c (fun _ => True) (fun _ => False) rfl rfl HR1.out (Kd.C_below HA.out HB1.out) (fun _ _ h => h) (fun _ h => h.elim) (fun _ _ => trivial) HB1.out HB1.out.size (by rw [HLR.out]; omega) ?_; intro v7 w7 hR7 hB7 hg7 hat7; rw [← HE.out] at hR7; have HR7 := Lib.hid hR7; have HB7 := Lib.hid hB7; clear hR7 hB7 hg7 hat7))
   go_ret
   exact ⟨_, rfl, HR7.out, HB7.out⟩
set_option maxHeartbeats 4000000 in
theorem Plus_any (m n : Nat) (A B : Option Addr) (c d : Nat) (w : World) (hA : Kd.C (Kd.int .i64) w A (decs m).length (decs m)) (hB : Kd.C (Kd.int .i64) w B (decs n).length (decs n)) (hl : (decs m).length ≤ 500000) (hl2 : (decs n).length ≤ 500000) :
 Calls Tryz.prog 115 #[.slice A (decs m).length c, .slice B (decs n).length d] w fun e w' => ∃ v : Value, e = .returned v ∧ Kd.R (Kd.int .i64) 3 w' w.heap.size (fun _ => True) v (decs (m + n)) ∧ Below w.heap.size w w' := by
 have HT : Hid (dval (decs m) + dval (decs n) = m + n) := Lib.hid (by rw [dval_decs, dval_decs])
 have k0 := Lib.hid (okD_decs m)
 have k1 := Lib.hid (okD_decs n)
 generalize decs m = a at *
 generalize decs n = b at *
 generalize m + n = t at *
 obtain ⟨x, hx⟩ : ∃ x, x = a.length := ⟨_, rfl⟩
 obtain ⟨y, hy⟩ : ∃ y, y = b.length := ⟨_, rfl⟩
 have HA := Lib.hid hA
 have HB := Lib.hid hB
 have HX := Lib.hid hx
 have HY := Lib.hid hy
 rw [← hx, ← hy]
 rw [← hx] at hl
 rw [← hy] at hl2
 clear hA hB hx hy
 go_enter Tryz.func115, Tryz.ntmps115
 go_wp2
 go_loopw [5, 6] (fun vo vi wr => ∃ (i : Nat) (o : List Int) (G : Option Addr) (cap : Nat), i ≤ max x y ∧ vi = .int .i64 i ∧ vo = .slice G i cap ∧ Hid (PlusDg a b i o) ∧ Hid (Kd.R (Kd.int .i64) 3 wr w.heap.size (fun _ => True) (.slice G i cap) o ∧ Below w.heap.size w wr)) (fun vo vi _ => max x y - (intOf vi).toNat)
 case atStart => exact ⟨0, [], none, 0, Nat.zero_le _, rfl, rfl, Lib.hid (PlusDg.nil _ _), Lib.hid ⟨Kd.R_nil _ _ _ _ _, Below.refl _ _⟩⟩
 case round =>
  obtain ⟨i, o, G, cap, hi, rfl, rfl, HP, HR⟩ := hrel
  have HSZ : Hid (w.heap.size ≤ wr.heap.size) := Lib.hid HR.out.2.size
  have hol : o.length ≤ 500000 := by rw [HP.out.len]; omega
  have HST := Lib.hid (HP.out.step k0.out k1.out)
  have HXA := Lib.hid (okD_getD k0.out i)
  have HYA := Lib.hid (okD_getD k1.out i)
  have hi0 : (0 : Int) ≤ (i : Int) := by omega
  by_cases h1 : i < x
  · have g1 : (i : Int) < (x : Int) := by omega
    obtain ⟨ad, rfl, hxx⟩ := at_dig (Kd.C_below HA.out HR.out.2) i (by rw [← HX.out]; omega)
    by_cases h2 : i < y
    · have g2 : (i : Int) < (y : Int) := by omega
      obtain ⟨be, rfl, hyy⟩ := at_dig (Kd.C_below HB.out HR.out.2) i (by rw [← HY.out]; omega)
      generalize a.getD i 0 = p at *
      generalize b.getD i 0 = q at *
      obtain ⟨p1, p2⟩ := HXA.out
      obtain ⟨q1, q2⟩ := HYA.out
      go_wp2_with (at_builtin; refine Kd.R_append (Kd.int .i64) (w0 := w) w.heap.size rfl (.tmp 40) (.tmp 42) 104 3 (.int .i64 0) 8 rfl Tryz.underlying104 infoI_ rfl (by decide) (by decide) (.slice G i cap) o (p + q) _ (fun _ => True) (fun _ => False) rfl rfl rfl (fun _ h => h.elim) (fun _ _ => trivial) HR.out.1 HR.out.2 HSZ.out (by omega) ?_; intro v1 w7 hR7 hB7 hg7 hat7)
      obtain ⟨G7, cap7, rfl⟩ := Kd.R_slice hR7
      have hl7 : (o ++ [p + q]).length = i + 1 := HST.out.len
      rw [hl7] at hR7
      have HR7 := Lib.hid (And.intro hR7 hB7)
      rw [hl7]
      clear hR7 hB7 hg7 hat7 hol hl7
      go_roundw
      case rel => exact ⟨i + 1, o ++ [p + q], G7, cap7, by omega, by go_num, rfl, HST, HR7⟩
      case measure => simp [intOf]; omega
    · have g2 : ¬ (i : Int) < (y : Int) := by omega
      have hq : b.getD i 0 = 0 := by rw [List.getD_eq_getElem?_getD, List.getElem?_eq_none (by rw [← HY.out]; omega)]; rfl
      rw [hq, Int.add_zero] at HST
      clear hq
      generalize a.getD i 0 = p at *
      obtain ⟨p1, p2⟩ := HXA.out
      go_wp2_with (at_builtin; refine Kd.R_append (Kd.int .i64) (w0 := w) w.heap.size rfl (.tmp 40) (.tmp 42) 104 3 (.int .i64 0) 8 rfl Tryz.underlying104 infoI_ rfl (by decide) (by decide) (.slice G i cap) o p _ (fun _ => True) (fun _ => False) rfl rfl rfl (fun _ h => h.elim) (fun _ _ => trivial) HR.out.1 HR.out.2 HSZ.out (by omega) ?_; intro v1 w7 hR7 hB7 hg7 hat7)
      obtain ⟨G7, cap7, rfl⟩ := Kd.R_slice hR7
      have hl7 : (o ++ [p]).length = i + 1 := HST.out.len
      rw [hl7] at hR7
      have HR7 := Lib.hid (And.intro hR7 hB7)
      rw [hl7]
      clear hR7 hB7 hg7 hat7 hol hl7
      go_roundw
      case rel => exact ⟨i + 1, o ++ [p], G7, cap7, by omega, by go_num, rfl, HST, HR7⟩
      case measure => simp [intOf]; omega
  · have g1 : ¬ (i : Int) < (x : Int) := by omega
    by_cases h2 : i < y
    · have g2 : (i : Int) < (y : Int) := by omega
      obtain ⟨be, rfl, hyy⟩ := at_dig (Kd.C_below HB.out HR.out.2) i (by rw [← HY.out]; omega)
      have hp : a.getD i 0 = 0 := by rw [List.getD_eq_getElem?_getD, List.getElem?_eq_none (by rw [← HX.out]; omega)]; rfl
      rw [hp, Int.zero_add] at HST
      clear hp
      generalize b.getD i 0 = q at *
      obtain ⟨q1, q2⟩ := HYA.out
      go_wp2_with (at_builtin; refine Kd.R_append (Kd.int .i64) (w0 := w) w.heap.size rfl (.tmp 40) (.tmp 42) 104 3 (.int .i64 0) 8 rfl Tryz.underlying104 infoI_ rfl (by decide) (by decide) (.slice G i cap) o q _ (fun _ => True) (fun _ => False) rfl rfl rfl (fun _ h => h.elim) (fun _ _ => trivial) HR.out.1 HR.out.2 HSZ.out (by omega) ?_; intro v1 w7 hR7 hB7 hg7 hat7)
      obtain ⟨G7, cap7, rfl⟩ := Kd.R_slice hR7
      have hl7 : (o ++ [q]).length = i + 1 := HST.out.len
      rw [hl7] at hR7
      have HR7 := Lib.hid (And.intro hR7 hB7)
      rw [hl7]
      clear hR7 hB7 hg7 hat7 hol hl7
      go_roundw
      case rel => exact ⟨i + 1, o ++ [q], G7, cap7, by omega, by go_num, rfl, HST, HR7⟩
      case measure => simp [intOf]; omega
    · have g2 : ¬ (i : Int) < (y : Int) := by omega
      have hr := Kd.R_reads' HR.out.1
      have hc := carry_any o G cap wr hr.2.2 (by omega) HP.out.ok
      rw [← hr.1, HP.out.done (by rw [← HX.out]; omega) (by rw [← HY.out]; omega), HT.out] at hc
      have HC := Lib.hid hc
      clear hr hc
      go_wp2_with (go_at_call 157; (with_reducible refine (HC.out).mono ?_); rintro e w5 ⟨v5, rfl, hR5, hB5⟩; have HR5 := Lib.hid (Kd.R_lower hR5 HSZ.out); have HB5 := Lib.hid (HR.out.2.trans (hB5.mono HSZ.out)); clear hR5 hB5)
      go_ret
      exact ⟨_, rfl, HR5.out, HB5.out⟩
set_option maxHeartbeats 4000000 in
theorem Minus_any (m n : Nat) (A B : Option Addr) (c d : Nat) (w : World) (hA : Kd.C (Kd.int .i64) w A (decs m).length (decs m)) (hB : Kd.C (Kd.int .i64) w B (decs n).length (decs n)) (hl : (decs m).length ≤ 500000) (hle : n ≤ m) :
 Calls Tryz.prog 202 #[.slice A (decs m).length c, .slice B (decs n).length d] w fun e w' => ∃ v : Value, e = .returned v ∧ Kd.R (Kd.int .i64) 3 w' w.heap.size (fun _ => True) v (decs (m - n)) ∧ Below w.heap.size w w' := by
 have HT : Hid (dval (decs m) = m ∧ dval (decs n) = n) := Lib.hid ⟨dval_decs m, dval_decs n⟩
 have k0 := Lib.hid (okD_decs m)
 have k1 := Lib.hid (okD_decs n)
 have hyx : (decs n).length ≤ (decs m).length := by
  refine Nat.le_of_not_lt fun h => ?_
  have := dlen_lt h
  omega
 have HLE : Hid (dval (decs n) ≤ dval (decs m)) := Lib.hid (by rw [dval_decs, dval_decs]; exact hle)
 have HE : Hid (decs (dval (decs m) - dval (decs n)) = decs (m - n)) := Lib.hid (by rw [dval_decs, dval_decs])
 generalize decs (m - n) = t at *
 generalize decs m = a at *
 generalize decs n = b at *
 obtain ⟨x, hx⟩ : ∃ x, x = a.length := ⟨_, rfl⟩
 obtain ⟨y, hy⟩ : ∃ y, y = b.length := ⟨_, rfl⟩
 have HA := Lib.hid hA
 have HB := Lib.hid hB
 have HX := Lib.hid hx
 have HY := Lib.hid hy
 rw [← hx, ← hy]
 rw [← hx] at hl
 rw [← hx, ← hy] at hyx
 clear hA hB hx hy hle
 go_enter Tryz.func202, Tryz.ntmps202
 go_wp2
 go_loopw [5, 6, 7] (fun vo vl vi wr => ∃ (i ls : Nat) (o : List Int) (G : Option Addr) (cap : Nat), i ≤ x ∧ vi = .int .i64 i ∧ vl = .int .i64 ls ∧ vo = .slice G i cap ∧ Hid (MinusDg a b i ls o) ∧ Hid (Kd.R (Kd.int .i64) 3 wr w.heap.size (fun _ => True) (.slice G i cap) o ∧ Below w.heap.size w wr)) (fun vo vl vi _ => x - (intOf vi).toNat)
 case atStart => exact ⟨0, 0, [], none, 0, Nat.zero_le _, rfl, rfl, rfl, Lib.hid (MinusDg.nil _ _), Lib.hid ⟨Kd.R_nil _ _ _ _ _, Below.refl _ _⟩⟩
 case round =>
  obtain ⟨i, ls, o, G, cap, hi, rfl, rfl, rfl, HM, HR⟩ := hrel
  have HSZ : Hid (w.heap.size ≤ wr.heap.size) := Lib.hid HR.out.2.size
  have hol : o.length ≤ 500000 := by rw [HM.out.len]; omega
  have hi0 : (0 : Int) ≤ (i : Int) := by omega
  have hls : (ls : Int) ≤ 1 := by have := HM.out.one; omega
  have hls0 : (0 : Int) ≤ (ls : Int) := by omega
  by_cases h1 : i < x
  · have g1 : (i : Int) < (x : Int) := by omega
    obtain ⟨ad, rfl, hxx⟩ := at_dig (Kd.C_below HA.out HR.out.2) i (by rw [← HX.out]; omega)
    have HXA := Lib.hid (okD_getD k0.out i)
    have HYA := Lib.hid (okD_getD k1.out i)
    have HST : Hid (∀ (z : Int) (l' : Nat), z = a.getD i 0 - (ls : Int) - b.getD i 0 + 10 * (l' : Int) → 0 ≤ z → z < 10 → l' ≤ 1 → MinusDg a b (i + 1) l' (o ++ [z])) := Lib.hid (fun z l' e h0 h9 hl => HM.out.step k0.out k1.out e h0 h9 hl)
    by_cases h2 : i < y
    · have g2 : (i : Int) < (y : Int) := by omega
      obtain ⟨be, rfl, hyy⟩ := at_dig (Kd.C_below HB.out HR.out.2) i (by rw [← HY.out]; omega)
      generalize a.getD i 0 = p at *
      generalize b.getD i 0 = q at *
      obtain ⟨p1, p2⟩ := HXA.out
      obtain ⟨q1, q2⟩ := HYA.out
      by_cases h3 : p - (ls : Int) - q < 0
      · have HS := Lib.hid (HST.out (p - (ls : Int) - q + 10) 1 (by omega) (by omega) (by omega) (by omega))
        go_wp2_with (at_builtin; refine Kd.R_append (Kd.int .i64) (w0 := w) w.heap.size rfl (.tmp 35) (.tmp 37) 104 3 (.int .i64 0) 8 rfl Tryz.underlying104 infoI_ rfl (by decide) (by decide) (.slice G i cap) o (p - (ls : Int) - q + 10) _ (fun _ => True) (fun _ => False) rfl rfl rfl (fun _ h => h.elim) (fun _ _ => trivial) HR.out.1 HR.out.2 HSZ.out (by omega) ?_; intro v1 w7 hR7 hB7 hg7 hat7)
        obtain ⟨G7, cap7, rfl⟩ := Kd.R_slice hR7
        have hl7 := HS.out.len
        rw [hl7] at hR7
        have HR7 := Lib.hid (And.intro hR7 hB7)
        rw [hl7]
        clear hR7 hB7 hg7 hat7 hol hl7
        go_roundw
        case rel => exact ⟨i + 1, 1, _, G7, cap7, by omega, by go_num, rfl, rfl, HS, HR7⟩
        case measure => simp [intOf]; omega
      · have HS := Lib.hid (HST.out (p - (ls : Int) - q) 0 (by omega) (by omega) (by omega) (by omega))
        go_wp2_with (at_builtin; refine Kd.R_append (Kd.int .i64) (w0 := w) w.heap.size rfl (.tmp 35) (.tmp 37) 104 3 (.int .i64 0) 8 rfl Tryz.underlying104 infoI_ rfl (by decide) (by decide) (.slice G i cap) o (p - (ls : Int) - q) _ (fun _ => True) (fun _ => False) rfl rfl rfl (fun _ h => h.elim) (fun _ _ => trivial) HR.out.1 HR.out.2 HSZ.out (by omega) ?_; intro v1 w7 hR7 hB7 hg7 hat7)
        obtain ⟨G7, cap7, rfl⟩ := Kd.R_slice hR7
        have hl7 := HS.out.len
        rw [hl7] at hR7
        have HR7 := Lib.hid (And.intro hR7 hB7)
        rw [hl7]
        clear hR7 hB7 hg7 hat7 hol hl7
        go_roundw
        case rel => exact ⟨i + 1, 0, _, G7, cap7, by omega, by go_num, rfl, rfl, HS, HR7⟩
        case measure => simp [intOf]; omega
    · have g2 : ¬ (i : Int) < (y : Int) := by omega
      have hq : b.getD i 0 = 0 := by rw [List.getD_eq_getElem?_getD, List.getElem?_eq_none (by rw [← HY.out]; omega)]; rfl
      rw [hq] at HST
      clear hq HYA
      generalize a.getD i 0 = p at *
      obtain ⟨p1, p2⟩ := HXA.out
      by_cases h3 : p - (ls : Int) < 0
      · have HS := Lib.hid (HST.out (p - (ls : Int) + 10) 1 (by omega) (by omega) (by omega) (by omega))
        go_wp2_with (at_builtin; refine Kd.R_append (Kd.int .i64) (w0 := w) w.heap.size rfl (.tmp 35) (.tmp 37) 104 3 (.int .i64 0) 8 rfl Tryz.underlying104 infoI_ rfl (by decide) (by decide) (.slice G i cap) o (p - (ls : Int) + 10) _ (fun _ => True) (fun _ => False) rfl rfl rfl (fun _ h => h.elim) (fun _ _ => trivial) HR.out.1 HR.out.2 HSZ.out (by omega) ?_; intro v1 w7 hR7 hB7 hg7 hat7)
        obtain ⟨G7, cap7, rfl⟩ := Kd.R_slice hR7
        have hl7 := HS.out.len
        rw [hl7] at hR7
        have HR7 := Lib.hid (And.intro hR7 hB7)
        rw [hl7]
        clear hR7 hB7 hg7 hat7 hol hl7
        go_roundw
        case rel => exact ⟨i + 1, 1, _, G7, cap7, by omega, by go_num, rfl, rfl, HS, HR7⟩
        case measure => simp [intOf]; omega
      · have HS := Lib.hid (HST.out (p - (ls : Int)) 0 (by omega) (by omega) (by omega) (by omega))
        go_wp2_with (at_builtin; refine Kd.R_append (Kd.int .i64) (w0 := w) w.heap.size rfl (.tmp 35) (.tmp 37) 104 3 (.int .i64 0) 8 rfl Tryz.underlying104 infoI_ rfl (by decide) (by decide) (.slice G i cap) o (p - (ls : Int)) _ (fun _ => True) (fun _ => False) rfl rfl rfl (fun _ h => h.elim) (fun _ _ => trivial) HR.out.1 HR.out.2 HSZ.out (by omega) ?_; intro v1 w7 hR7 hB7 hg7 hat7)
        obtain ⟨G7, cap7, rfl⟩ := Kd.R_slice hR7
        have hl7 := HS.out.len
        rw [hl7] at hR7
        have HR7 := Lib.hid (And.intro hR7 hB7)
        rw [hl7]
        clear hR7 hB7 hg7 hat7 hol hl7
        go_roundw
        case rel => exact ⟨i + 1, 0, _, G7, cap7, by omega, by go_num, rfl, rfl, HS, HR7⟩
        case measure => simp [intOf]; omega
  · obtain rfl : i = x := by omega
    have g1 : ¬ (i : Int) < (i : Int) := by omega
    have hr := Kd.R_reads' HR.out.1
    have hc := Trim_any o G cap wr hr.2.2 (by rw [← hr.1]; exact hr.2.1) (by omega) HM.out.ok
    rw [← hr.1, HM.out.done (by rw [← HX.out]; omega) (by rw [← HY.out]; omega) HLE.out, HE.out] at hc
    have HC := Lib.hid hc
    have HRL := Lib.hid hr.1
    clear hr hc hol
    go_wp2_with (go_at_call 158; (with_reducible refine (HC.out).mono ?_); rintro e w5 ⟨rfl, rfl, hT1, hT2⟩; have HTK := Lib.hid (And.intro hT1 hT2); clear hT1 hT2)
    go_ret
    exact ⟨_, rfl, by have := Kd.R_take HR.out.1 (by rw [← HRL.out]; exact HTK.out.2); rw [HTK.out.1] at this; exact this, HR.out.2⟩
set_option maxHeartbeats 2000000 in
theorem Of_any (d : D) (A : Option Addr) (c : Nat) (w : World) (hC : Kd.C (Kd.int .u32) w A d.f1.length d.f1) (hl : d.f1.length ≤ 256) (hok : okL d.f1) :
 Calls Tryz.prog 162 #[.agg #[.bool d.f0, .slice A d.f1.length c, .int .i64 d.f2]] w fun e w' => ∃ G g, e = .returned (.agg #[.bool d.f0, .slice G (decs (val d.f1)).length g, .int .i64 d.f2]) ∧ Kd.R (Kd.int .i64) 3 w' w.heap.size (fun _ => True) (.slice G (decs (val d.f1)).length g) (decs (val d.f1)) ∧ Below w.heap.size w w' := by
 have HDG := Lib.hid (fun W (hW : Below w.heap.size w W) => Digits_any d.f1 A c W (Kd.C_below hC hW) hl hok)
 generalize decs (val d.f1) = ds at *
 generalize d.f1.length = n at *
 generalize d.f0 = b at *
 generalize d.f2 = x at *
 clear hC hl hok
 obtain ⟨W2, hW2⟩ : ∃ W2, W2 = (w.alloc (.cells #[.bool b, .slice A n c, .int .i64 x] 24)).alloc (.cells #[.bool false, .slice none 0 0, .int .i64 0] 144) := ⟨_, rfl⟩
 have hb2 : Below w.heap.size w W2 := by rw [hW2]; exact ((Below.refl _ _).alloc (Nat.le_refl _) _).alloc (by simp) _
 have hx2 : W2.heap[w.heap.size]? = some (.cells #[.bool b, .slice A n c, .int .i64 x] 24 (0, 0)) := by rw [hW2]; exact blk_alloc (blk_new _ _) _
 have hr2 : W2.heap[w.heap.size + 1]? = some (.cells #[.bool false, .slice none 0 0, .int .i64 0] 144 (0, 0)) := by rw [hW2]; have := blk_new (w.alloc (.cells #[.bool b, .slice A n c, .int .i64 x] 24)) (.cells #[.bool false, .slice none 0 0, .int .i64 0] 144); rwa [World.size_alloc] at this
 have HW2 := Lib.hid hW2
 have HB2 := Lib.hid (below_drew hb2)
 have HR2 := Lib.hid (blk_drew hr2)
 have HX2 := Lib.hid (blk_drew hx2)
 have hz : w.heap.size + 2 = W2.heap.size := by rw [hW2]; simp
 rw [← World.size_drew] at hz
 have HZ := Lib.hid hz
 clear hb2 hx2 hr2 hW2 hz
 go_enter Tryz.func162, Tryz.ntmps162
 go_upto_region 1 with (fail)
 rw [← HW2.out]
 clear HW2
 obtain ⟨hx, hxf⟩ := bcells HX2.out (Below.refl _ _)
 go_region_law (go_simp; go_at_call 155; (with_reducible refine (HDG.out _ HB2.out).mono ?_); rintro e w5 ⟨v5, rfl, hR5, hB5⟩; obtain ⟨G5, g5, rfl⟩ := Kd.R_slice hR5; have hs5 := hB5.size; obtain ⟨hx5, hxf5⟩ := bcells HX2.out hB5; obtain ⟨hr5, hrf5⟩ := bcells HR2.out hB5)
 all_goals
  rename_i q_ k_ a_
  refine a_ _ _ ?_
  have hrow := box3_out (blk_below2 HR2.out hB5) (.bool b) (.slice G5 ds.length g5) (.int .i64 x)
  have hrr := Kd.R_set (Kd.R_set (Kd.R_set (Kd.R_lower hR5 HB2.out.size) (blk_below2 HR2.out hB5) (by decide) 0 (.bool b)) (blk_set (blk_below2 HR2.out hB5) 0 (.bool b)) (by decide) 1 (.slice G5 ds.length g5)) (blk_set (blk_set (blk_below2 HR2.out hB5) 0 (.bool b)) 1 (.slice G5 ds.length g5)) (by decide) 2 (.int .i64 x)
  have hbb := (((HB2.out.trans (hB5.mono HB2.out.size)).setCell (p := ⟨w.heap.size + 1, 0, none⟩) (by simp) (.bool b)).setCell (p := ⟨w.heap.size + 1, 1, none⟩) (by simp) (.slice G5 ds.length g5)).setCell (p := ⟨w.heap.size + 1, 2, none⟩) (by simp) (.int .i64 x)
  clear a_ hx5 hxf5 hr5 hrf5 hx hxf hB5 hR5 hs5
  obtain ⟨X, hX⟩ : ∃ X, X = ((w5.setCell ⟨w.heap.size + 1, 0, none⟩ (.bool b)).setCell ⟨w.heap.size + 1, 1, none⟩ (.slice G5 ds.length g5)).setCell ⟨w.heap.size + 1, 2, none⟩ (.int .i64 x) := ⟨_, rfl⟩
  rw [← hX] at hrow hrr hbb ⊢
  obtain ⟨y0, y1, y2⟩ := cells3 hrow
  clear hX hrow
  go_wp2_with fail
  exact bodyPost_ret (v := .agg #[.bool b, .slice G5 ds.length g5, .int .i64 x]) (by simp [results, Tryz.f162, go_sem, y0, y1, y2]) rfl ⟨_, _, rfl, hrr, hbb⟩
set_option maxHeartbeats 1000000 in
theorem opposite_any (b : Bool) (A : Option Addr) (n c : Nat) (x : Int) (w : World) :
 Calls Tryz.prog 163 #[.agg #[.bool b, .slice A n c, .int .i64 x]] w fun e w' => e = .returned (.agg #[.bool (!b && decide (n ≠ 0)), .slice A n c, .int .i64 x]) ∧ Below w.heap.size w w' := by
 obtain ⟨r, hr⟩ : ∃ r, r = (!b && decide (n ≠ 0)) := ⟨_, rfl⟩
 rw [← hr]
 obtain ⟨W2, hW2⟩ : ∃ W2, W2 = (w.alloc (.cells #[.bool b, .slice A n c, .int .i64 x] 144)).alloc (.cells #[.bool false, .slice none 0 0, .int .i64 0] 144) := ⟨_, rfl⟩
 have hb2 : Below w.heap.size w W2 := by rw [hW2]; exact ((Below.refl _ _).alloc (Nat.le_refl _) _).alloc (by simp) _
 have hx2 : W2.heap[w.heap.size]? = some (.cells #[.bool b, .slice A n c, .int .i64 x] 144 (0, 0)) := by rw [hW2]; exact blk_alloc (blk_new _ _) _
 have hr2 : W2.heap[w.heap.size + 1]? = some (.cells #[.bool false, .slice none 0 0, .int .i64 0] 144 (0, 0)) := by rw [hW2]; have := blk_new (w.alloc (.cells #[.bool b, .slice A n c, .int .i64 x] 144)) (.cells #[.bool false, .slice none 0 0, .int .i64 0] 144); rwa [World.size_alloc] at this
 have hE : ∃ X, X = (((W2.setCell ⟨w.heap.size, 0, none⟩ (.bool r)).setCell ⟨w.heap.size + 1, 0, none⟩ (.bool r)).setCell ⟨w.heap.size + 1, 1, none⟩ (.slice A n c)).setCell ⟨w.heap.size + 1, 2, none⟩ (.int .i64 x) := ⟨_, rfl⟩
 obtain ⟨X, hX⟩ := hE
 have hXr : X.heap[w.heap.size + 1]? = some (.cells #[.bool r, .slice A n c, .int .i64 x] 144 (0, 0)) := by rw [hX]; exact box3_out (blk_far hr2 (by simp) _) _ _ _
 have hXb : Below w.heap.size w X := by rw [hX]; exact (((hb2.setCell (p := ⟨w.heap.size, 0, none⟩) (Nat.le_refl _) _).setCell (p := ⟨w.heap.size + 1, 0, none⟩) (by simp) _).setCell (p := ⟨w.heap.size + 1, 1, none⟩) (by simp) _).setCell (p := ⟨w.heap.size + 1, 2, none⟩) (by simp) _
 have HX := Lib.hid hX
 have HXR := Lib.hid hXr
 have HXB := Lib.hid hXb
 have HW2 := Lib.hid hW2
 obtain ⟨hcx, hfx⟩ := bcells hx2 (Below.refl _ _)
 obtain ⟨hcr, hfr⟩ := bcells hr2 (Below.refl _ _)
 clear hX hXr hXb hW2 hb2 hx2 hr2
 cases b with
 | true =>
  have hr' : r = false := by rw [hr]; rfl
  clear hr
  subst hr'
  go_enter Tryz.func163, Tryz.ntmps163
  go_upto_region 1 with (fail)
  rw [← HW2.out]
  go_wp2_with fail
  rw [← HX.out]
  obtain ⟨y0, y1, y2⟩ := cells3 HXR.out
  exact bodyPost_ret (v := .agg #[.bool false, .slice A n c, .int .i64 x]) (by simp [results, Tryz.f163, go_sem, y0, y1, y2]) rfl ⟨rfl, HXB.out⟩
 | false =>
  by_cases hn : n = 0
  · have hr' : r = false := by rw [hr, hn]; rfl
    clear hr
    subst hr' hn
    go_enter Tryz.func163, Tryz.ntmps163
    go_upto_region 1 with (fail)
    rw [← HW2.out]
    go_wp2_with fail
    rw [← HX.out]
    obtain ⟨y0, y1, y2⟩ := cells3 HXR.out
    exact bodyPost_ret (v := .agg #[.bool false, .slice A 0 c, .int .i64 x]) (by simp [results, Tryz.f163, go_sem, y0, y1, y2]) rfl ⟨rfl, HXB.out⟩
  · have hr' : r = true := by rw [hr]; simp [hn]
    have g1 : decide (0 < n) = true := by simp; omega
    have g2 : (0 : Int) < (n : Int) := by omega
    clear hr hn
    subst hr'
    go_enter Tryz.func163, Tryz.ntmps163
    go_upto_region 1 with (fail)
    rw [← HW2.out]
    go_wp2_with fail
    rw [← HX.out]
    obtain ⟨y0, y1, y2⟩ := cells3 HXR.out
    exact bodyPost_ret (v := .agg #[.bool true, .slice A n c, .int .i64 x]) (by simp [results, Tryz.f163, go_sem, y0, y1, y2]) rfl ⟨rfl, HXB.out⟩
def sumB (na nb : Bool) (x y : Nat) : Bool × Nat := if na = nb then (na, x + y) else if y ≤ x then (na, x - y) else (nb, y - x)
theorem sumB_sg (na nb : Bool) (x y : Nat) : sg (sumB na nb x y).1 (sumB na nb x y).2 = sg na x + sg nb y := by
 unfold sumB
 by_cases h : na = nb
 · rw [if_pos h, h]
   unfold sg
   split <;> push_cast <;> omega
 · rw [if_neg h]
   by_cases hle : y ≤ x
   · rw [if_pos hle]
     unfold sg
     cases na <;> cases nb <;> simp at h ⊢ <;> omega
   · rw [if_neg hle]
     unfold sg
     cases na <;> cases nb <;> simp at h ⊢ <;> omega
theorem R_set3 {α : Type} {d : Kd α} {w : World} {e base : Nat} {ok : Nat → Prop} {v : Value} {xs : List α} (h : d.R e w base ok v xs) {g t : Nat} {o0 o1 o2 : Value} (hb : w.heap[g]? = some (.cells #[o0, o1, o2] t (0, 0))) (ht : ∀ q, q ∈ e :: d.E → q ≠ t) (v0 v1 v2 : Value) : d.R e (set3 w g v0 v1 v2) base ok v xs :=
 Kd.R_set (Kd.R_set (Kd.R_set h hb ht 0 v0) (blk_set hb 0 v0) ht 1 v1) (blk_set (blk_set hb 0 v0) 1 v1) ht 2 v2
theorem two_box {X : World} {g g' t t' : Nat} {o0 o1 o2 p0 p1 p2 : Value} (hne : g ≠ g') (h : X.heap[g]? = some (.cells #[o0, o1, o2] t (0, 0))) (h' : X.heap[g']? = some (.cells #[p0, p1, p2] t' (0, 0))) (v0 v1 v2 u0 u1 u2 : Value) :
 (set3 (set3 X g v0 v1 v2) g' u0 u1 u2).heap[g]? = some (.cells #[v0, v1, v2] t (0, 0)) ∧ (set3 (set3 X g v0 v1 v2) g' u0 u1 u2).heap[g']? = some (.cells #[u0, u1, u2] t' (0, 0)) :=
 ⟨(set3_far _ _ _ _ _ _ hne).trans (set3_row h _ _ _), set3_row ((set3_far _ _ _ _ _ _ hne.symm).trans h') _ _ _⟩
set_option maxHeartbeats 2000000 in
theorem Align_any (na nb : Bool) (m n : Nat) (e f : Int) (A B : Option Addr) (c d : Nat) (w : World) (hA : Kd.C (Kd.int .i64) w A (decs m).length (decs m)) (hB : Kd.C (Kd.int .i64) w B (decs n).length (decs n)) (hl : (decs m).length ≤ 10000) (hl2 : (decs n).length ≤ 10000) (he : -100000 ≤ e ∧ e ≤ 100000) (hf : -100000 ≤ f ∧ f ≤ 100000) (low : Int) (hlow : low = min e f) :
 Calls Tryz.prog 200 #[.agg #[.bool na, .slice A (decs m).length c, .int .i64 e], .agg #[.bool nb, .slice B (decs n).length d, .int .i64 f]] w fun x w' => ∃ G g H h, x = .returned (.tuple #[.agg #[.bool na, .slice G (decs (m * 10 ^ (e - low).toNat)).length g, .int .i64 low], .agg #[.bool nb, .slice H (decs (n * 10 ^ (f - low).toNat)).length h, .int .i64 low]]) ∧ Kd.R (Kd.int .i64) 3 w' w.heap.size (fun _ => True) (.slice G (decs (m * 10 ^ (e - low).toNat)).length g) (decs (m * 10 ^ (e - low).toNat)) ∧ Kd.R (Kd.int .i64) 3 w' w.heap.size (fun _ => True) (.slice H (decs (n * 10 ^ (f - low).toNat)).length h) (decs (n * 10 ^ (f - low).toNat)) ∧ Below w.heap.size w w' := by
 have HSA : Hid (∀ W, Below w.heap.size w W → Calls Tryz.prog 247 #[.slice A (decs m).length c, .int .i64 (e - low)] W fun x w' => ∃ v : Value, x = .returned v ∧ Kd.R (Kd.int .i64) 3 w' W.heap.size (fun _ => True) v (decs (m * 10 ^ (e - low).toNat)) ∧ Below W.heap.size W w') := Lib.hid (fun W hW => by
  have := Shift_any m (e - low).toNat A c W (Kd.C_below hA hW) (by omega) (by omega)
  rwa [show (((e - low).toNat : Nat) : Int) = e - low by omega] at this)
 have HSB : Hid (∀ W, Below w.heap.size w W → Calls Tryz.prog 247 #[.slice B (decs n).length d, .int .i64 (f - low)] W fun x w' => ∃ v : Value, x = .returned v ∧ Kd.R (Kd.int .i64) 3 w' W.heap.size (fun _ => True) v (decs (n * 10 ^ (f - low).toNat)) ∧ Below W.heap.size W w') := Lib.hid (fun W hW => by
  have := Shift_any n (f - low).toNat B d W (Kd.C_below hB hW) (by omega) (by omega)
  rwa [show (((f - low).toNat : Nat) : Int) = f - low by omega] at this)
 have hlo : -100000 ≤ low ∧ low ≤ e ∧ low ≤ f := by omega
 generalize decs (m * 10 ^ (e - low).toNat) = ra at *
 generalize decs (n * 10 ^ (f - low).toNat) = rb at *
 generalize (decs m).length = lm at *
 generalize (decs n).length = ln at *
 clear hA hB hl hl2
 obtain ⟨he1, he2⟩ := he
 obtain ⟨hf1, hf2⟩ := hf
 obtain ⟨hlo1, hlo2, hlo3⟩ := hlo
 obtain ⟨W4, hW4⟩ : ∃ W4, W4 = (((w.alloc (.cells #[.bool na, .slice A lm c, .int .i64 e] 144)).alloc (.cells #[.bool nb, .slice B ln d, .int .i64 f] 144)).alloc (.cells #[.bool false, .slice none 0 0, .int .i64 0] 144)).alloc (.cells #[.bool false, .slice none 0 0, .int .i64 0] 144) := ⟨_, rfl⟩
 have hb4 : Below w.heap.size w W4 := by rw [hW4]; exact ((((Below.refl _ _).alloc (Nat.le_refl _) _).alloc (by simp) _).alloc (by simp; omega) _).alloc (by simp; omega) _
 have h4a : W4.heap[w.heap.size]? = some (.cells #[.bool na, .slice A lm c, .int .i64 e] 144 (0, 0)) := by rw [hW4]; exact blk_alloc (blk_alloc (blk_alloc (blk_new _ _) _) _) _
 have h4b : W4.heap[w.heap.size + 1]? = some (.cells #[.bool nb, .slice B ln d, .int .i64 f] 144 (0, 0)) := by
  rw [hW4]
  have := blk_new (w.alloc (.cells #[.bool na, .slice A lm c, .int .i64 e] 144)) (.cells #[.bool nb, .slice B ln d, .int .i64 f] 144)
  rw [World.size_alloc] at this
  exact blk_alloc (blk_alloc this _) _
 have h4c : W4.heap[w.heap.size + 1 + 1]? = some (.cells #[.bool false, .slice none 0 0, .int .i64 0] 144 (0, 0)) := by
  rw [hW4]
  have := blk_new ((w.alloc (.cells #[.bool na, .slice A lm c, .int .i64 e] 144)).alloc (.cells #[.bool nb, .slice B ln d, .int .i64 f] 144)) (.cells #[.bool false, .slice none 0 0, .int .i64 0] 144)
  rw [World.size_alloc, World.size_alloc] at this
  exact blk_alloc this _
 have h4d : W4.heap[w.heap.size + 1 + 1 + 1]? = some (.cells #[.bool false, .slice none 0 0, .int .i64 0] 144 (0, 0)) := by
  rw [hW4]
  have := blk_new (((w.alloc (.cells #[.bool na, .slice A lm c, .int .i64 e] 144)).alloc (.cells #[.bool nb, .slice B ln d, .int .i64 f] 144)).alloc (.cells #[.bool false, .slice none 0 0, .int .i64 0] 144)) (.cells #[.bool false, .slice none 0 0, .int .i64 0] 144)
  rw [World.size_alloc, World.size_alloc, World.size_alloc] at this
  exact this
 have HB4 := Lib.hid hb4
 have H4A := Lib.hid h4a
 have H4B := Lib.hid h4b
 have H4C := Lib.hid h4c
 have H4D := Lib.hid h4d
 have HW4 := Lib.hid hW4
 have HLO := Lib.hid hlow
 have hz : w.heap.size + 4 ≤ W4.heap.size := by rw [hW4]; simp
 have HZ := Lib.hid hz
 clear hb4 h4a h4b h4c h4d hW4 hlow hz
 go_enter Tryz.func200, Tryz.ntmps200
 go_upto_region 1 with (fail)
 rw [← HW4.out]
 clear HW4
 obtain ⟨hca, hfa⟩ := bcells H4A.out (Below.refl _ _)
 obtain ⟨hcb, hfb⟩ := bcells H4B.out (Below.refl _ _)
 go_upto_region 2 with (fail)
 rw [← HLO.out]
 clear HLO
 go_upto_region 3 with (go_at_call 247; (with_reducible refine (HSA.out _ HB4.out).mono ?_); rintro x w5 ⟨v5, rfl, hR5, hB5⟩; obtain ⟨G5, g5, rfl⟩ := Kd.R_slice hR5; obtain ⟨hc5, hf5⟩ := bcells H4A.out hB5; have HR5 := Lib.hid hR5; have HB5 := Lib.hid hB5; clear hR5 hB5)
 obtain ⟨W5, hW5⟩ : ∃ W5, W5 = (w5.setCell ⟨w.heap.size, 1, none⟩ (.slice G5 ra.length g5)).setCell ⟨w.heap.size, 2, none⟩ (.int .i64 low) := ⟨_, rfl⟩
 have a5 := blk_below2 H4A.out HB5.out
 have HA5 : Hid (W5.heap[w.heap.size]? = some (.cells #[.bool na, .slice G5 ra.length g5, .int .i64 low] 144 (0, 0))) := Lib.hid (by rw [hW5]; exact blk_set (blk_set a5 1 _) 2 _)
 have HB5' : Hid (W5.heap[w.heap.size + 1]? = some (.cells #[.bool nb, .slice B ln d, .int .i64 f] 144 (0, 0))) := Lib.hid (by rw [hW5]; exact blk_far (blk_far (blk_below2 H4B.out HB5.out) (by dsimp only; omega) _) (by dsimp only; omega) _)
 have HC5 : Hid (W5.heap[w.heap.size + 1 + 1]? = some (.cells #[.bool false, .slice none 0 0, .int .i64 0] 144 (0, 0))) := Lib.hid (by rw [hW5]; exact blk_far (blk_far (blk_below2 H4C.out HB5.out) (by dsimp only; omega) _) (by dsimp only; omega) _)
 have HD5 : Hid (W5.heap[w.heap.size + 1 + 1 + 1]? = some (.cells #[.bool false, .slice none 0 0, .int .i64 0] 144 (0, 0))) := Lib.hid (by rw [hW5]; exact blk_far (blk_far (blk_below2 H4D.out HB5.out) (by dsimp only; omega) _) (by dsimp only; omega) _)
 have HR5' : Hid (Kd.R (Kd.int .i64) 3 W5 w.heap.size (fun _ => True) (.slice G5 ra.length g5) ra) := Lib.hid (by rw [hW5]; exact Kd.R_set (Kd.R_set (Kd.R_lower HR5.out HB4.out.size) a5 (by decide) 1 _) (blk_set a5 1 _) (by decide) 2 _)
 have HBB5 : Hid (Below w.heap.size w W5) := Lib.hid (by rw [hW5]; exact ((HB4.out.trans (HB5.out.mono HB4.out.size)).setCell (p := ⟨w.heap.size, 1, none⟩) (Nat.le_refl _) _).setCell (p := ⟨w.heap.size, 2, none⟩) (Nat.le_refl _) _)
 have hz5 : w.heap.size + 4 ≤ W5.heap.size := by
  have h1 := HB5.out.size
  have h2 := HZ.out
  rw [hW5]; simp; omega
 have HZ5 := Lib.hid hz5
 rw [← hW5]
 clear hW5 a5 hc5 hf5 hca hfa hcb hfb HR5 HB5 H4A H4B H4C H4D HB4 HZ HSA hz5
 obtain ⟨hcb, hfb⟩ := bcells HB5'.out (Below.refl _ _)
 go_upto_region 4 with (go_at_call 247; (with_reducible refine (HSB.out _ HBB5.out).mono ?_); rintro x w6 ⟨v6, rfl, hR6, hB6⟩; obtain ⟨G6, g6, rfl⟩ := Kd.R_slice hR6; obtain ⟨hc6, hf6⟩ := bcells HB5'.out hB6; have HR6 := Lib.hid hR6; have HB6 := Lib.hid hB6; clear hR6 hB6)
 obtain ⟨W6, hW6⟩ : ∃ W6, W6 = (w6.setCell ⟨w.heap.size + 1, 1, none⟩ (.slice G6 rb.length g6)).setCell ⟨w.heap.size + 1, 2, none⟩ (.int .i64 low) := ⟨_, rfl⟩
 have b6 := blk_below2 HB5'.out HB6.out
 have HA6 : Hid (W6.heap[w.heap.size]? = some (.cells #[.bool na, .slice G5 ra.length g5, .int .i64 low] 144 (0, 0))) := Lib.hid (by rw [hW6]; exact blk_far (blk_far (blk_below2 HA5.out HB6.out) (by dsimp only; omega) _) (by dsimp only; omega) _)
 have HB6' : Hid (W6.heap[w.heap.size + 1]? = some (.cells #[.bool nb, .slice G6 rb.length g6, .int .i64 low] 144 (0, 0))) := Lib.hid (by rw [hW6]; exact blk_set (blk_set b6 1 _) 2 _)
 have HC6 : Hid (W6.heap[w.heap.size + 1 + 1]? = some (.cells #[.bool false, .slice none 0 0, .int .i64 0] 144 (0, 0))) := Lib.hid (by rw [hW6]; exact blk_far (blk_far (blk_below2 HC5.out HB6.out) (by dsimp only; omega) _) (by dsimp only; omega) _)
 have HD6 : Hid (W6.heap[w.heap.size + 1 + 1 + 1]? = some (.cells #[.bool false, .slice none 0 0, .int .i64 0] 144 (0, 0))) := Lib.hid (by rw [hW6]; exact blk_far (blk_far (blk_below2 HD5.out HB6.out) (by dsimp only; omega) _) (by dsimp only; omega) _)
 have HRA : Hid (Kd.R (Kd.int .i64) 3 W6 w.heap.size (fun _ => True) (.slice G5 ra.length g5) ra) := Lib.hid (by rw [hW6]; exact Kd.R_set (Kd.R_set (Kd.R_below HR5'.out HB6.out) b6 (by decide) 1 _) (blk_set b6 1 _) (by decide) 2 _)
 have HRB : Hid (Kd.R (Kd.int .i64) 3 W6 w.heap.size (fun _ => True) (.slice G6 rb.length g6) rb) := Lib.hid (by rw [hW6]; exact Kd.R_set (Kd.R_set (Kd.R_lower HR6.out HBB5.out.size) b6 (by decide) 1 _) (blk_set b6 1 _) (by decide) 2 _)
 have HBB6 : Hid (Below w.heap.size w W6) := Lib.hid (by rw [hW6]; exact ((HBB5.out.trans (HB6.out.mono HBB5.out.size)).setCell (p := ⟨w.heap.size + 1, 1, none⟩) (by simp) _).setCell (p := ⟨w.heap.size + 1, 2, none⟩) (by simp) _)
 rw [← hW6]
 clear hW6 b6 hc6 hf6 hcb hfb HR6 HB6 HA5 HB5' HC5 HD5 HR5' HBB5 HSB HZ5
 obtain ⟨hca, hfa⟩ := bcells (blk_drew HA6.out) (Below.refl _ _)
 obtain ⟨hcb, hfb⟩ := bcells (blk_drew HB6'.out) (Below.refl _ _)
 obtain ⟨hcc, hfc⟩ := bcells (blk_drew HC6.out) (Below.refl _ _)
 obtain ⟨hcd, hfd⟩ := bcells (blk_drew HD6.out) (Below.refl _ _)
 obtain ⟨hca', hfa'⟩ := bcells HA6.out (Below.refl _ _)
 obtain ⟨hcb', hfb'⟩ := bcells HB6'.out (Below.refl _ _)
 obtain ⟨hcc', hfc'⟩ := bcells HC6.out (Below.refl _ _)
 obtain ⟨hcd', hfd'⟩ := bcells HD6.out (Below.refl _ _)
 have HX := two_box (g := w.heap.size + 1 + 1) (g' := w.heap.size + 1 + 1 + 1) (by omega) HC6.out HD6.out (.bool na) (.slice G5 ra.length g5) (.int .i64 low) (.bool nb) (.slice G6 rb.length g6) (.int .i64 low)
 obtain ⟨h71, h72⟩ := HX
 have h73 := Lib.hid (R_set3 (R_set3 HRA.out HC6.out (by decide) (.bool na) (.slice G5 ra.length g5) (.int .i64 low)) ((set3_far W6 (w.heap.size + 1 + 1) (.bool na) (.slice G5 ra.length g5) (.int .i64 low) (w.heap.size + 1 + 1 + 1) (by omega)).trans HD6.out) (by decide) (.bool nb) (.slice G6 rb.length g6) (.int .i64 low))
 have h74 := Lib.hid (R_set3 (R_set3 HRB.out HC6.out (by decide) (.bool na) (.slice G5 ra.length g5) (.int .i64 low)) ((set3_far W6 (w.heap.size + 1 + 1) (.bool na) (.slice G5 ra.length g5) (.int .i64 low) (w.heap.size + 1 + 1 + 1) (by omega)).trans HD6.out) (by decide) (.bool nb) (.slice G6 rb.length g6) (.int .i64 low))
 have h75 := Lib.hid (set3_below (set3_below HBB6.out (g := w.heap.size + 1 + 1) (by omega) (.bool na) (.slice G5 ra.length g5) (.int .i64 low)) (g := w.heap.size + 1 + 1 + 1) (by omega) (.bool nb) (.slice G6 rb.length g6) (.int .i64 low))
 have H71 := Lib.hid h71
 have H72 := Lib.hid h72
 clear h71 h72
 go_region_law (fail)
 all_goals
  rename_i q_ k_ a_
  refine a_ _ _ ?_
  clear a_ hca hfa hcb hfb hcc hfc hcd hfd hca' hfa' hcb' hfb' hcc' hfc' hcd' hfd' HA6 HB6' HC6 HD6 HRA HRB HBB6
  obtain ⟨X, hX⟩ : ∃ X, X = set3 (set3 W6 (w.heap.size + 1 + 1) (.bool na) (.slice G5 ra.length g5) (.int .i64 low)) (w.heap.size + 1 + 1 + 1) (.bool nb) (.slice G6 rb.length g6) (.int .i64 low) := ⟨_, rfl⟩
  rw [← hX] at H71 H72 h73 h74 h75
  simp only [set3] at hX
  rw [← hX]
  clear hX
  have HRA : Hid (Kd.R (Kd.int .i64) 3 X.drew w.heap.size (fun _ => True) (.slice G5 ra.length g5) ra) := Lib.hid (Kd.R_below h73.out (below_drew (Below.refl _ _)))
  have HRB : Hid (Kd.R (Kd.int .i64) 3 X.drew w.heap.size (fun _ => True) (.slice G6 rb.length g6) rb) := Lib.hid (Kd.R_below h74.out (below_drew (Below.refl _ _)))
  have HBX : Hid (Below w.heap.size w X.drew) := Lib.hid (below_drew h75.out)
  obtain ⟨y0, y1, y2⟩ := cells3 (blk_drew H71.out)
  obtain ⟨z0, z1, z2⟩ := cells3 (blk_drew H72.out)
  generalize X.drew = XD at *
  clear h73 h74 h75 H71 H72
  go_wp2_with fail
  exact bodyPost_ret (v := .tuple #[.agg #[.bool na, .slice G5 ra.length g5, .int .i64 low], .agg #[.bool nb, .slice G6 rb.length g6, .int .i64 low]]) (by simp [results, Tryz.f200, go_sem, y0, y1, y2, z0, z1, z2]) rfl ⟨_, _, _, _, rfl, HRA.out, HRB.out, HBX.out⟩
end Go.Proofs.YthigbklhngihkaaGreatDoor.P

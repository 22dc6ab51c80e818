import Derived.Test.YthigbklhngihkaaGreatDoorMOrderOwnu
set_option linter.unusedVariables false
set_option linter.unusedSimpArgs false
set_option maxRecDepth 100000
namespace Go.Proofs.YthigbklhngihkaaGreatDoor.P
open Go.RowKit Go.Proofs.YthigbklhngihkaaGreatDoorW.PrintWords Go.Proofs.YthigbklhngihkaaGreatDoorW.PrintMore Go.Proofs.YthigbklhngihkaaGreatDoorW.PrintLast
theorem may_any (n : Int) (w : World) : Calls Tryz.prog 264 #[.int .i64 n] w fun e w' => e = .returned (.bool (decide (rune n))) ∧ w' = w := by
 have hr : rune n ↔ 0 ≤ n ∧ n ≤ 1114111 ∧ ¬ (55296 ≤ n ∧ n ≤ 57343) := Iff.rfl
 obtain ⟨r, hrr⟩ : ∃ r, r = decide (rune n) := ⟨_, rfl⟩
 rw [← hrr]
 by_cases h0 : 0 ≤ n
 · have d0 : decide (0 ≤ n) = true := decide_eq_true h0
   by_cases h1 : n ≤ 1114111
   · have d1 : decide (n ≤ 1114111) = true := decide_eq_true h1
     by_cases h2 : n < 55296
     · have d2 : decide (n < 55296) = true := decide_eq_true h2
       have HR : Hid (r = true) := Lib.hid (by rw [hrr]; exact decide_eq_true (hr.2 ⟨h0, h1, by omega⟩))
       clear hr hrr
       go_enter Tryz.func264, Tryz.ntmps264
       go_wp2
       go_ret
       exact ⟨by rw [HR.out]; rfl, rfl⟩
     · have d2 : decide (n < 55296) = false := decide_eq_false h2
       by_cases h3 : 57343 < n
       · have d3 : decide (57343 < n) = true := decide_eq_true h3
         have HR : Hid (r = true) := Lib.hid (by rw [hrr]; exact decide_eq_true (hr.2 ⟨h0, h1, by omega⟩))
         clear hr hrr
         go_enter Tryz.func264, Tryz.ntmps264
         go_wp2
         go_ret
         exact ⟨by rw [HR.out]; rfl, rfl⟩
       · have d3 : decide (57343 < n) = false := decide_eq_false h3
         have HR : Hid (r = false) := Lib.hid (by rw [hrr]; exact decide_eq_false (fun h => (hr.1 h).2.2 (by omega)))
         clear hr hrr
         go_enter Tryz.func264, Tryz.ntmps264
         go_wp2
         go_ret
         exact ⟨by rw [HR.out]; rfl, rfl⟩
   · have d1 : decide (n ≤ 1114111) = false := decide_eq_false h1
     have HR : Hid (r = false) := Lib.hid (by rw [hrr]; exact decide_eq_false (fun h => h1 (hr.1 h).2.1))
     clear hr hrr
     go_enter Tryz.func264, Tryz.ntmps264
     go_wp2
     go_ret
     exact ⟨by rw [HR.out]; rfl, rfl⟩
 · have d0 : decide (0 ≤ n) = false := decide_eq_false h0
   have HR : Hid (r = false) := Lib.hid (by rw [hrr]; exact decide_eq_false (fun h => h0 (hr.1 h).1))
   clear hr hrr
   go_enter Tryz.func264, Tryz.ntmps264
   go_wp2
   go_ret
   exact ⟨by rw [HR.out]; rfl, rfl⟩
theorem own8 (w : World) (xs : List Int) (h : xs.length ≤ 9223372036854775807) : Kd.R (Kd.int .u8) 5 (w.alloc (.cells (nums .u8 xs).toArray 5)) w.heap.size (fun _ => True) (.slice (some ⟨w.heap.size, 0, none⟩) xs.length xs.length) xs :=
 Kd.R_of_own (enc := Value.int .u8) (own_lit w w.heap.size 5 .u8 xs (Nat.le_refl _) h) (fun _ _ => trivial)
set_option maxHeartbeats 1000000 in
theorem octets_any (n : Int) (w : World) (h : rune n) : Calls Tryz.prog 265 #[.int .i64 n] w fun e w' => ∃ v : Value, e = .returned v ∧ Kd.R (Kd.int .u8) 5 w' w.heap.size (fun _ => True) v (encR n) ∧ Below w.heap.size w w' := by
 obtain ⟨h0, h1, -⟩ := h
 by_cases c1 : n < 128
 · have he : encR n = [n] := by unfold encR; rw [if_pos c1]
   have HR := Lib.hid (own8 w [n] (by simp))
   rw [he]
   have e1 : n % 256 = n := by omega
   clear he
   go_enter Tryz.func265, Tryz.ntmps265
   go_wp2
   go_ret
   exact ⟨_, rfl, HR.out, (Below.refl _ _).alloc (Nat.le_refl _) _⟩
 · by_cases c2 : n < 2048
   · have he : encR n = [192 + n / 64, 128 + n % 64] := by unfold encR; rw [if_neg c1, if_pos c2]
     obtain ⟨a, ha⟩ : ∃ a, a = n / 64 := ⟨_, rfl⟩
     obtain ⟨b, hb⟩ : ∃ b, b = n % 64 := ⟨_, rfl⟩
     rw [← ha, ← hb] at he
     have HR := Lib.hid (own8 w [192 + a, 128 + b] (by simp))
     rw [he]
     have e1 : (192 + a) % 256 = 192 + a := by omega
     have e2 : (128 + b) % 256 = 128 + b := by omega
     have a1 : 0 ≤ a ∧ a ≤ 32 := by omega
     have b1 : 0 ≤ b ∧ b ≤ 63 := by omega
     have ha' : n / 64 = a := ha.symm
     have hb' : n % 64 = b := hb.symm
     clear he ha hb
     go_enter Tryz.func265, Tryz.ntmps265
     go_wp2
     go_ret
     exact ⟨_, rfl, HR.out, (Below.refl _ _).alloc (Nat.le_refl _) _⟩
   · by_cases c3 : n < 65536
     · have he : encR n = [224 + n / 4096, 128 + n / 64 % 64, 128 + n % 64] := by unfold encR; rw [if_neg c1, if_neg c2, if_pos c3]
       obtain ⟨a, ha⟩ : ∃ a, a = n / 4096 := ⟨_, rfl⟩
       obtain ⟨d, hd⟩ : ∃ d, d = n / 64 := ⟨_, rfl⟩
       obtain ⟨b, hb⟩ : ∃ b, b = n % 64 := ⟨_, rfl⟩
       rw [← ha, ← hd, ← hb] at he
       obtain ⟨f, hf⟩ : ∃ f, f = d % 64 := ⟨_, rfl⟩
       rw [← hf] at he
       have HR := Lib.hid (own8 w [224 + a, 128 + f, 128 + b] (by simp))
       rw [he]
       have e1 : (224 + a) % 256 = 224 + a := by omega
       have e2 : (128 + b) % 256 = 128 + b := by omega
       have e3 : (128 + f) % 256 = 128 + f := by omega
       have a1 : 0 ≤ a ∧ a ≤ 16 := by omega
       have b1 : 0 ≤ b ∧ b ≤ 63 := by omega
       have f1 : 0 ≤ f ∧ f ≤ 63 := by omega
       have d1 : 0 ≤ d ∧ d ≤ 1024 := by omega
       have ha' : n / 4096 = a := ha.symm
       have hd' : n / 64 = d := hd.symm
       have hb' : n % 64 = b := hb.symm
       have hf' : d % 64 = f := hf.symm
       clear he ha hb hd hf
       go_enter Tryz.func265, Tryz.ntmps265
       go_wp2
       go_ret
       exact ⟨_, rfl, HR.out, (Below.refl _ _).alloc (Nat.le_refl _) _⟩
     · have he : encR n = [240 + n / 262144, 128 + n / 4096 % 64, 128 + n / 64 % 64, 128 + n % 64] := by unfold encR; rw [if_neg c1, if_neg c2, if_neg c3]
       obtain ⟨a, ha⟩ : ∃ a, a = n / 262144 := ⟨_, rfl⟩
       obtain ⟨g, hg⟩ : ∃ g, g = n / 4096 := ⟨_, rfl⟩
       obtain ⟨d, hd⟩ : ∃ d, d = n / 64 := ⟨_, rfl⟩
       obtain ⟨b, hb⟩ : ∃ b, b = n % 64 := ⟨_, rfl⟩
       rw [← ha, ← hg, ← hd, ← hb] at he
       obtain ⟨f, hf⟩ : ∃ f, f = d % 64 := ⟨_, rfl⟩
       obtain ⟨i, hi⟩ : ∃ i, i = g % 64 := ⟨_, rfl⟩
       rw [← hf, ← hi] at he
       have HR := Lib.hid (own8 w [240 + a, 128 + i, 128 + f, 128 + b] (by simp))
       rw [he]
       have e1 : (240 + a) % 256 = 240 + a := by omega
       have e2 : (128 + b) % 256 = 128 + b := by omega
       have e3 : (128 + f) % 256 = 128 + f := by omega
       have e4 : (128 + i) % 256 = 128 + i := by omega
       have a1 : 0 ≤ a ∧ a ≤ 5 := by omega
       have b1 : 0 ≤ b ∧ b ≤ 63 := by omega
       have f1 : 0 ≤ f ∧ f ≤ 63 := by omega
       have i1 : 0 ≤ i ∧ i ≤ 63 := by omega
       have g1 : 0 ≤ g ∧ g ≤ 300 := by omega
       have d1 : 0 ≤ d ∧ d ≤ 20000 := by omega
       have ha' : n / 262144 = a := ha.symm
       have hg' : n / 4096 = g := hg.symm
       have hd' : n / 64 = d := hd.symm
       have hb' : n % 64 = b := hb.symm
       have hf' : d % 64 = f := hf.symm
       have hi' : g % 64 = i := hi.symm
       clear he ha hb hd hf hg hi
       go_enter Tryz.func265, Tryz.ntmps265
       go_wp2
       go_ret
       exact ⟨_, rfl, HR.out, (Below.refl _ _).alloc (Nat.le_refl _) _⟩
def facc (L : List Int) (n : Int) : Nat → Int
 | 0 => n
 | i + 1 => facc L n i * 64 + L.getD (i + 1) 0 % 64
theorem facc_bd {L : List Int} (h : okO L) {n : Int} (h0 : 0 ≤ n) (h1 : n ≤ 255) : (0 ≤ facc L n 1 ∧ facc L n 1 ≤ 20000) ∧ (0 ≤ facc L n 2 ∧ facc L n 2 ≤ 2000000) ∧ (0 ≤ facc L n 3 ∧ facc L n 3 ≤ 200000000) := by
 have b1 := okO_getD h 1
 have b2 := okO_getD h 2
 have b3 := okO_getD h 3
 simp only [facc]
 omega
theorem facc_le {L : List Int} (h : okO L) {n : Int} (h0 : 0 ≤ n) (h1 : n ≤ 255) (i : Nat) (hi : i ≤ 3) : 0 ≤ facc L n i ∧ facc L n i ≤ 200000000 := by
 have := facc_bd h h0 h1
 rcases i with _ | _ | _ | _ | i
 · simp only [facc]; omega
 · exact ⟨this.1.1, Int.le_trans this.1.2 (by decide)⟩
 · exact ⟨this.2.1.1, Int.le_trans this.2.1.2 (by decide)⟩
 · exact this.2.2
 · omega
def fcls (c : Int) : Int × Nat := if 240 ≤ c then (c - 240, 4) else if 224 ≤ c then (c - 224, 3) else if 192 ≤ c then (c - 192, 2) else (c, 1)
theorem first_all {L : List Int} (hb : okO L) (hne : L ≠ []) : firstR L = if (fcls (L.getD 0 0)).2 ≤ L.length ∧ rune (facc L (fcls (L.getD 0 0)).1 ((fcls (L.getD 0 0)).2 - 1)) ∧ encR (facc L (fcls (L.getD 0 0)).1 ((fcls (L.getD 0 0)).2 - 1)) = L.take (fcls (L.getD 0 0)).2 then (facc L (fcls (L.getD 0 0)).1 ((fcls (L.getD 0 0)).2 - 1), ((fcls (L.getD 0 0)).2 : Int)) else (0, 0) := by
 have e : firstR L = if 0 ≤ dc L then (dc L, (dn L : Int)) else (0, 0) := by unfold firstR; simp [hne]
 rw [e, ← first_spec hb hne _ _ ?_]
 intro c hc hL
 have := hc.2.1
 unfold fcls
 by_cases c4 : 240 ≤ L.getD 0 0
 · rw [if_pos c4]
   show c = (((L.getD 0 0 - 240) * 64 + L.getD 1 0 % 64) * 64 + L.getD 2 0 % 64) * 64 + L.getD 3 0 % 64 ∧ (encR c).length = 4
   rcases heads hL with h | h | h | h <;> omega
 rw [if_neg c4]
 by_cases c3 : 224 ≤ L.getD 0 0
 · rw [if_pos c3]
   show c = ((L.getD 0 0 - 224) * 64 + L.getD 1 0 % 64) * 64 + L.getD 2 0 % 64 ∧ (encR c).length = 3
   rcases heads hL with h | h | h | h <;> omega
 rw [if_neg c3]
 by_cases c2 : 192 ≤ L.getD 0 0
 · rw [if_pos c2]
   show c = (L.getD 0 0 - 192) * 64 + L.getD 1 0 % 64 ∧ (encR c).length = 2
   rcases heads hL with h | h | h | h <;> omega
 rw [if_neg c2]
 show c = L.getD 0 0 ∧ (encR c).length = 1
 rcases heads hL with h | h | h | h <;> omega
theorem fcls_bd {c : Int} (h : 0 ≤ c ∧ c < 256) : 0 ≤ (fcls c).1 ∧ (fcls c).1 ≤ 255 ∧ 1 ≤ (fcls c).2 ∧ (fcls c).2 ≤ 4 := by
 unfold fcls
 split
 · simp; omega
 · split
   · simp; omega
   · split <;> simp <;> omega
set_option maxHeartbeats 4000000 in
theorem first_any (s : ByteArray) (w : World) (hs : s.size ≤ 1073741824) : Calls Tryz.prog 263 #[.string s] w fun e w' => e = .returned (.tuple #[.int .i64 (firstR (bytesOf s)).1, .int .i64 (firstR (bytesOf s)).2]) ∧ Below w.heap.size w w' := by
 have hb := okO_bytesOf s
 have hlen := bytesOf_length s
 by_cases h0 : s.size = 0
 · have hr : firstR (bytesOf s) = (0, 0) := by
    unfold firstR
    rw [if_neg]
    rintro ⟨h, _⟩
    exact h (List.eq_nil_of_length_eq_zero (by omega))
   have HR := Lib.hid hr
   have g0 : ((s.size : Int) == 0) = true := by rw [h0]; rfl
   clear hr h0 hb hlen
   rw [HR.out]
   go_enter Tryz.func263, Tryz.ntmps263
   go_wp2
   go_ret2
   exact ⟨rfl, Below.refl _ _⟩
 have hne : bytesOf s ≠ [] := by intro e; rw [e] at hlen; simp at hlen; omega
 have hFA := first_all hb hne
 have hc := okO_getD hb 0
 have hbd := fcls_bd hc
 obtain ⟨r, hr⟩ : ∃ r, r = firstR (bytesOf s) := ⟨_, rfl⟩
 rw [← hr] at hFA ⊢
 have HAT : Hid (∀ i : Nat, i < s.size → ∀ h : i < s.size, (((s[i]'h).toNat : Nat) : Int) = (bytesOf s).getD i 0) := Lib.hid (fun i hi h => by rw [← bt_bytes]; exact bt_at s (i : Int) h)
 have HGD := Lib.hid (fun i => okO_getD hb i)
 have HFB := Lib.hid (fun i hi => facc_le hb hbd.1 hbd.2.1 i hi)
 have hc0 := HAT.out 0 (by omega)
 generalize hcc : (bytesOf s).getD 0 0 = c at *
 have HCL : Hid ((240 ≤ c ∧ fcls c = (c - 240, 4)) ∨ (c < 240 ∧ 224 ≤ c ∧ fcls c = (c - 224, 3)) ∨ (c < 224 ∧ 192 ≤ c ∧ fcls c = (c - 192, 2)) ∨ (c < 192 ∧ fcls c = (c, 1))) := Lib.hid (by
  unfold fcls
  by_cases c4 : 240 ≤ c
  · rw [if_pos c4]; exact .inl ⟨c4, rfl⟩
  by_cases c3 : 224 ≤ c
  · rw [if_neg c4, if_pos c3]; exact .inr (.inl ⟨by omega, c3, rfl⟩)
  by_cases c2 : 192 ≤ c
  · rw [if_neg c4, if_neg c3, if_pos c2]; exact .inr (.inr (.inl ⟨by omega, c2, rfl⟩))
  · rw [if_neg c4, if_neg c3, if_neg c2]; exact .inr (.inr (.inr ⟨by omega, rfl⟩)))
 obtain ⟨⟨n0, z⟩, hfc⟩ : ∃ p, p = fcls c := ⟨_, rfl⟩
 rw [← hfc] at hFA hbd HFB HCL
 have HFA := Lib.hid hFA
 simp only at HFA hbd HFB
 have q4 : (0 < s.size) = True := eq_true (by omega)
 have qi4 : (0 < (s.size : Int)) = True := eq_true (by omega)
 have g0 : ((s.size : Int) == 0) = false := by rw [beq_eq_false_iff_ne]; omega
 obtain ⟨hc1, hc2⟩ := hc
 obtain ⟨hn1, hn2, hz1, hz2⟩ := hbd
 clear hFA hr hfc hcc hb hne h0
 go_enter Tryz.func263, Tryz.ntmps263
 go_upto_block 0 with (fail)
 go_cut [5, 6] (fun v5 v6 wc => v5 = .int .i64 n0 ∧ v6 = .int .i64 (z : Int) ∧ wc = w)
 case first =>
  rcases HCL.out with ⟨k1, k2⟩ | ⟨k1, k2, k3⟩ | ⟨k1, k2, k3⟩ | ⟨k1, k2⟩
  · injection k2 with e1 e2
    subst e1 e2
    go_wp2
    go_meet
    case rel => exact ⟨rfl, rfl, rfl⟩
  · injection k3 with e1 e2
    subst e1 e2
    have k1' : ¬ 240 ≤ c := by omega
    go_wp2
    go_meet
    case rel => exact ⟨rfl, rfl, rfl⟩
  · injection k3 with e1 e2
    subst e1 e2
    have k1' : ¬ 240 ≤ c := by omega
    have k2' : ¬ 224 ≤ c := by omega
    go_wp2
    go_meet
    case rel => exact ⟨rfl, rfl, rfl⟩
  · injection k2 with e1 e2
    subst e1 e2
    have k1' : ¬ 240 ≤ n0 := by omega
    have k2' : ¬ 224 ≤ n0 := by omega
    have k3' : ¬ 192 ≤ n0 := by omega
    go_wp2
    go_meet
    case rel => exact ⟨rfl, rfl, rfl⟩
 case rest =>
  obtain ⟨rfl, rfl, rfl⟩ := hcut
  clear hc0 HCL g0 q4 qi4
  by_cases hz : s.size < z
  · have HR : Hid (r = (0, 0)) := Lib.hid (by rw [HFA.out, if_neg (by rw [hlen]; omega)])
    have e1 : (s.size : Int) < (z : Int) := by omega
    go_wp2
    go_ret2
    exact ⟨by rw [HR.out]; rfl, Below.refl _ _⟩
  · have e1 : ¬ (s.size : Int) < (z : Int) := by omega
    go_wp2
    go_loopw [5, 7] (fun v5 v7 wr => ∃ i : Nat, i + 1 ≤ z ∧ v7 = .int .i64 ((i + 1 : Nat) : Int) ∧ v5 = .int .i64 (facc (bytesOf s) n0 i) ∧ wr = wc) (fun v5 v7 _ => z - (intOf v7).toNat)
    case atStart => exact ⟨0, hz1, rfl, rfl, rfl⟩
    case round =>
     obtain ⟨i, hi, rfl, rfl, rfl⟩ := hrel
     have hfb := HFB.out i (by omega)
     by_cases hlt : i + 1 < z
     · have hlt2 : ((i + 1 : Nat) : Int) < (z : Int) := by omega
       have hlt3 : ((i + 1 : Nat) : Int) < (s.size : Int) := by omega
       have hi0 : (0 : Int) ≤ ((i + 1 : Nat) : Int) := by omega
       have hg := HGD.out (i + 1)
       have hat := HAT.out (i + 1) (by omega)
       have HS : Hid (facc (bytesOf s) n0 (i + 1) = facc (bytesOf s) n0 i * 64 + (bytesOf s).getD (i + 1) 0 % 64) := Lib.hid rfl
       obtain ⟨hg1, hg2⟩ := hg
       obtain ⟨hf1, hf2⟩ := hfb
       have q5 : (i + 1 < s.size) = True := eq_true (by omega)
       have q6 : (((i + 1 : Nat) : Int) < (s.size : Int)) = True := eq_true (by omega)
       generalize (bytesOf s).getD (i + 1) 0 = y at *
       generalize facc (bytesOf s) n0 i = f at *
       go_wp2
       go_roundw
       case rel => exact ⟨i + 1, by omega, by go_num, by rw [HS.out], by first | rfl | trivial⟩
       case measure => simp [intOf]; omega
     · obtain rfl : z = i + 1 := by omega
       have hlt2 : ¬ ((i + 1 : Nat) : Int) < ((i + 1 : Nat) : Int) := by omega
       obtain ⟨n, hn⟩ : ∃ n, n = facc (bytesOf s) n0 i := ⟨_, rfl⟩
       rw [show i + 1 - 1 = i from rfl, ← hn] at HFA
       rw [← hn]
       have hsl1 : (0 : Int) ≤ ((i + 1 : Nat) : Int) := by omega
       have hsl2 : ((i + 1 : Nat) : Int) ≤ (s.size : Int) := by omega
       have hsl3 : (0 : Int) ≤ (i : Int) + 1 := by omega
       have hsl4 : (i : Int) + 1 ≤ (s.size : Int) := by omega
       have HM := Lib.hid (may_any n wr)
       clear hn hfb HFB HGD HAT
       by_cases hru : rune n
       · have HOC := Lib.hid (fun W => octets_any n W hru)
         rw [decide_eq_true hru] at HM
         have HEQ : Hid ((strOfNums (encR n)).toList = (s.extract 0 (i + 1)).toList ↔ encR n = (bytesOf s).take (i + 1)) := Lib.hid (by rw [str_eq (encR_okO hru), bytesOf_cut]; simp)
         by_cases he : encR n = (bytesOf s).take (i + 1)
         · have HR : Hid (r = (n, ((i + 1 : Nat) : Int))) := Lib.hid (by rw [HFA.out, if_pos ⟨by rw [hlen]; omega, hru, he⟩])
           have hq : ((strOfNums (encR n)).toList != (s.extract 0 (i + 1)).toList) = false := bne_eq_false_iff_eq.2 (HEQ.out.2 he)
           have hq2 : ((strOfNums (encR n)).toList == (s.extract 0 (i + 1)).toList) = true := beq_iff_eq.2 (HEQ.out.2 he)
           clear he HEQ
           have HBc : Hid (Below wr.heap.size wr wr.drew) := Lib.hid (below_drew (Below.refl _ _))
           go_upto_region 17 with (fail)
           refine wp_region_any (by kernel_rfl) ?_
           change wpAny _ _ _ _ _ _ _ (World.drew _)
           refine tq 0 (h := ?_)
           simp only [lst]
           refine one 1 rfl (by kernel_rfl) (by rfl) fun K_ hK_ => ?_
           simp only [lgt]
           go_simp
           refine (may_any n _).mono ?_
           rintro e_ w5_ ⟨rfl, hw5_⟩
           obtain rfl := hw5_.symm
           rw [decide_eq_true hru]
           simp only [Oper.upon]
           refine hK_ _ _ ?_
           clear hK_ K_
           refine tq 2 (h := ?_)
           refine tq 3 (h := ?_)
           simp only [lst]
           refine tq 4 (h := ?_)
           refine tq 7 (h := ?_)
           simp only [lst]
           refine tq 8 (h := ?_)
           refine tq 9 (h := ?_)
           simp only [lst]
           refine one 5 rfl (by kernel_rfl) (by rfl) fun K_ hK_ => ?_
           simp only [lgt]
           go_simp
           refine (HOC.out _).mono ?_
           rintro e_ w6 ⟨v6, rfl, hR6, hB6⟩
           obtain ⟨G6, g6, rfl⟩ := Kd.R_slice hR6
           have HR6 := Lib.hid hR6
           have HBc := Lib.hid (HBc.out.trans (hB6.mono HBc.out.size))
           clear hB6 hR6
           simp only [Oper.upon]
           refine hK_ _ _ ?_
           clear hK_ K_
           refine one 6 rfl (by kernel_rfl) (by rfl) fun K_ hK_ => ?_
           have hcv := own_string (P := Tryz.prog) Tryz.underlying247 Tryz.underlying5 Tryz.underlying9 (Kd.own_of_R HR6.out)
           simp only [lgt]
           go_simp
           clear hcv
           refine hK_ _ _ ?_
           clear hK_ K_
           refine tq 10 (h := ?_)
           refine tq 11 (h := ?_)
           refine wpAny_done (by kernel_rfl) ?_ _
           simp only [lst]
           rotate_left
           all_goals
            go_wp2_with fail
            go_ret2
            exact ⟨by rw [HR.out]; rfl, HBc.out⟩
         · have HR : Hid (r = (0, 0)) := Lib.hid (by rw [HFA.out, if_neg (fun h => he h.2.2)])
           have hq : ((strOfNums (encR n)).toList != (s.extract 0 (i + 1)).toList) = true := bne_iff_ne.2 (fun h => he (HEQ.out.1 h))
           have hq2 : ((strOfNums (encR n)).toList == (s.extract 0 (i + 1)).toList) = false := beq_eq_false_iff_ne.2 (fun h => he (HEQ.out.1 h))
           clear he HEQ
           have HBc : Hid (Below wr.heap.size wr wr.drew) := Lib.hid (below_drew (Below.refl _ _))
           go_upto_region 17 with (fail)
           refine wp_region_any (by kernel_rfl) ?_
           change wpAny _ _ _ _ _ _ _ (World.drew _)
           refine tq 0 (h := ?_)
           simp only [lst]
           refine one 1 rfl (by kernel_rfl) (by rfl) fun K_ hK_ => ?_
           simp only [lgt]
           go_simp
           refine (may_any n _).mono ?_
           rintro e_ w5_ ⟨rfl, hw5_⟩
           obtain rfl := hw5_.symm
           rw [decide_eq_true hru]
           simp only [Oper.upon]
           refine hK_ _ _ ?_
           clear hK_ K_
           refine tq 2 (h := ?_)
           refine tq 3 (h := ?_)
           simp only [lst]
           refine tq 4 (h := ?_)
           refine tq 7 (h := ?_)
           simp only [lst]
           refine tq 8 (h := ?_)
           refine tq 9 (h := ?_)
           simp only [lst]
           refine one 5 rfl (by kernel_rfl) (by rfl) fun K_ hK_ => ?_
           simp only [lgt]
           go_simp
           refine (HOC.out _).mono ?_
           rintro e_ w6 ⟨v6, rfl, hR6, hB6⟩
           obtain ⟨G6, g6, rfl⟩ := Kd.R_slice hR6
           have HR6 := Lib.hid hR6
           have HBc := Lib.hid (HBc.out.trans (hB6.mono HBc.out.size))
           clear hB6 hR6
           simp only [Oper.upon]
           refine hK_ _ _ ?_
           clear hK_ K_
           refine one 6 rfl (by kernel_rfl) (by rfl) fun K_ hK_ => ?_
           have hcv := own_string (P := Tryz.prog) Tryz.underlying247 Tryz.underlying5 Tryz.underlying9 (Kd.own_of_R HR6.out)
           simp only [lgt]
           go_simp
           clear hcv
           refine hK_ _ _ ?_
           clear hK_ K_
           refine tq 10 (h := ?_)
           refine tq 11 (h := ?_)
           refine wpAny_done (by kernel_rfl) ?_ _
           simp only [lst]
           rotate_left
           all_goals
            go_wp2_with fail
            go_ret2
            exact ⟨by rw [HR.out]; rfl, HBc.out⟩
       · have HR : Hid (r = (0, 0)) := Lib.hid (by rw [HFA.out, if_neg (fun h => hru h.2.1)])
         rw [decide_eq_false hru] at HM
         have HBc : Hid (Below wr.heap.size wr wr.drew) := Lib.hid (below_drew (Below.refl _ _))
         go_upto_region 17 with (fail)
         refine wp_region_any (by kernel_rfl) ?_
         change wpAny _ _ _ _ _ _ _ (World.drew _)
         refine tq 0 (h := ?_)
         simp only [lst]
         refine one 1 rfl (by kernel_rfl) (by rfl) fun K_ hK_ => ?_
         simp only [lgt]
         go_simp
         refine (may_any n _).mono ?_
         rintro e_ w5_ ⟨rfl, hw5_⟩
         obtain rfl := hw5_.symm
         rw [decide_eq_false hru]
         simp only [Oper.upon]
         refine hK_ _ _ ?_
         clear hK_ K_
         refine tq 2 (h := ?_)
         refine tq 3 (h := ?_)
         simp only [lst]
         refine sq 4 (h := ?_)
         refine sq 5 (h := ?_)
         simp only [lst]
         refine sq 6 (h := ?_)
         refine sq 7 (h := ?_)
         simp only [lst]
         refine sq 8 (h := ?_)
         refine sq 9 (h := ?_)
         simp only [lst]
         refine sq 10 (h := ?_)
         refine tq 11 (h := ?_)
         refine wpAny_done (by kernel_rfl) ?_ _
         simp only [lst]
         rotate_left
         all_goals
          go_wp2_with fail
          go_ret2
          exact ⟨by rw [HR.out]; rfl, HBc.out⟩
def t4 (s : ByteArray) : Int := if checkL (uitems s s.size 0) = none then 0 else 61
theorem txt_eq {s : ByteArray} (h : s.size ≤ 1073741824) : txt s = if t4 s ≠ 0 then 61 else if 16384 < (s.size : Int) then 5 else 0 := by
 unfold txt t4 value_letters.f utf_Check.f
 rw [if_pos (by omega)]
 cases hc : checkL (uitems s s.size 0) with
 | none =>
  by_cases hs : 16384 < (s.size : Int)
  · simp
    rw [if_pos hs, if_pos hs]; rfl
  · simp
    rw [if_neg hs, if_neg hs]; rfl
 | some p => simp
def R4Post (r : Int) (w : World) (e : Ending) (w' : World) : Prop := ∃ p : Int, e = .returned (.tuple #[.int .i64 p, .int .i64 r]) ∧ Below w.heap.size w w'
set_option maxHeartbeats 2000000 in
theorem r4_any (s : ByteArray) (w : World) (hs : s.size ≤ 1073741824) : Calls Tryz.prog 244 #[.string s] w (R4Post (t4 s) w) := by
 have HT : Hid (t4 s = if checkL (uitems s s.size 0) = none then 0 else 61) := Lib.hid rfl
 obtain ⟨r, hr⟩ : ∃ r, r = t4 s := ⟨_, rfl⟩
 rw [← hr] at HT ⊢
 clear hr
 go_enter Tryz.func244, Tryz.ntmps244
 go_wp2
 go_loopw [4] (fun va wr => ∃ p : Nat, p ≤ s.size ∧ va = .int .i64 p ∧ Hid (∃ f, s.size - p ≤ f ∧ checkL (uitems s s.size 0) = checkL (uitems s f p)) ∧ Hid (Below w.heap.size w wr)) (fun va _ => s.size - (intOf va).toNat)
 case atStart => exact ⟨0, Nat.zero_le _, rfl, Lib.hid ⟨s.size, by omega, rfl⟩, Lib.hid (Below.refl _ _)⟩
 case round =>
  obtain ⟨p, hp, rfl, HF, HB⟩ := hrel
  by_cases hlt : p < s.size
  · have hlt2 : (p : Int) < (s.size : Int) := by omega
    have hle2 : (p : Int) ≤ (s.size : Int) := by omega
    have hp0 : (0 : Int) ≤ (p : Int) := by omega
    obtain ⟨f, hf, hck⟩ := HF.out
    obtain ⟨g, rfl⟩ : ∃ g, f = g + 1 := ⟨f - 1, by omega⟩
    have hui : uitems s (g + 1) p = (p, uc s p) :: uitems s g (p + un s p) := by rw [uitems, if_pos hlt]
    rw [hui, checkL] at hck
    have hsz : (s.extract p s.size).size ≤ 1073741824 := by rw [ByteArray.size_extract]; omega
    have HFI := Lib.hid (first_any (s.extract p s.size) wr hsz)
    rw [cut_bytes] at HFI
    have hun := un_le s p hlt
    have hup := un_pos s p
    rw [uc_dc, un_dn] at hck
    rw [un_dn] at hun hup
    by_cases hd : 0 ≤ dc ((bytesOf s).drop p)
    · rw [firstR_ne (drop_ne hlt) hd] at HFI
      rw [if_neg (by omega)] at hck
      have HF2 : Hid (∃ f, s.size - (p + dn ((bytesOf s).drop p)) ≤ f ∧ checkL (uitems s s.size 0) = checkL (uitems s f (p + dn ((bytesOf s).drop p)))) := Lib.hid ⟨g, by omega, hck⟩
      simp only at HFI
      generalize dc ((bytesOf s).drop p) = cc at *
      generalize dn ((bytesOf s).drop p) = u at *
      have hu0 : ((u : Int) == 0) = false := by rw [beq_eq_false_iff_ne]; omega
      have hu1 : (0 : Int) ≤ (u : Int) := by omega
      clear HF hck hui hf
      go_wp2_with (go_at_call 263; (with_reducible refine (HFI.out).mono ?_); rintro e w5 ⟨rfl, hB5⟩; have HB5 := Lib.hid (HB.out.trans (hB5.mono HB.out.size)); clear hB5)
      go_roundw
      case rel => exact ⟨p + u, hun, congrArg (Value.int .i64) (by omega), HF2, HB5⟩
      case measure => show s.size - ((p : Int) + (u : Int)).toNat < s.size - p; omega
    · rw [firstR_bad hd] at HFI
      rw [if_pos (by omega)] at hck
      have HR : Hid (r = 61) := Lib.hid (by rw [HT.out, if_neg (by rw [hck]; simp)])
      simp only at HFI
      clear HF hck hui hf hd hun hup
      go_wp2_with (go_at_call 263; (with_reducible refine (HFI.out).mono ?_); rintro e w5 ⟨rfl, hB5⟩; have HB5 := Lib.hid (HB.out.trans (hB5.mono HB.out.size)); clear hB5)
      go_ret2
      exact ⟨_, by rw [HR.out]; rfl, HB5.out⟩
  · obtain rfl : p = s.size := by omega
    have hlt2 : ¬ (s.size : Int) < (s.size : Int) := by omega
    have HR : Hid (r = 0) := Lib.hid (by
     obtain ⟨f, _, hck⟩ := HF.out
     rw [HT.out, hck, if_pos]
     cases f with
     | zero => rfl
     | succ g => rw [uitems, if_neg (by omega)]; rfl)
    go_wp2
    go_ret2
    exact ⟨_, by rw [HR.out]; rfl, HB.out⟩
set_option maxHeartbeats 1000000 in
theorem rtext_any (s : ByteArray) (w : World) (hs : s.size ≤ 1073741824) : Calls Tryz.prog 195 #[.string s] w fun e w' => e = .returned (.int .i64 (txt s)) ∧ Below w.heap.size w w' := by
 have HX := Lib.hid (txt_eq hs)
 have H4 := Lib.hid (r4_any s w hs)
 generalize txt s = r at *
 generalize t4 s = t at *
 by_cases h0 : t = 0
 · subst h0
   by_cases h1 : 16384 < (s.size : Int)
   · have HR : Hid (r = 5) := Lib.hid (by rw [HX.out, if_neg (by simp), if_pos h1])
     have h2 : decide (16384 < s.size) = true := by simp; omega
     go_enter Tryz.func195, Tryz.ntmps195
     go_wp2_with (go_at_call 244; (with_reducible refine (H4.out).mono ?_); rintro e w5 ⟨p, rfl, hB5⟩; have HB5 := Lib.hid hB5; clear hB5)
     go_ret
     exact ⟨by rw [HR.out]; rfl, HB5.out⟩
   · have HR : Hid (r = 0) := Lib.hid (by rw [HX.out, if_neg (by simp), if_neg h1])
     have h2 : decide (16384 < s.size) = false := by simp; omega
     go_enter Tryz.func195, Tryz.ntmps195
     go_wp2_with (go_at_call 244; (with_reducible refine (H4.out).mono ?_); rintro e w5 ⟨p, rfl, hB5⟩; have HB5 := Lib.hid hB5; clear hB5)
     go_ret
     exact ⟨by rw [HR.out]; rfl, HB5.out⟩
 · have HR : Hid (r = 61) := Lib.hid (by rw [HX.out, if_pos h0])
   have h1 : (t != 0) = true := by simpa using h0
   go_enter Tryz.func195, Tryz.ntmps195
   go_wp2_with (go_at_call 244; (with_reducible refine (H4.out).mono ?_); rintro e w5 ⟨p, rfl, hB5⟩; have HB5 := Lib.hid hB5; clear hB5)
   go_ret
   exact ⟨by rw [HR.out]; rfl, HB5.out⟩
theorem vtextsUp_stop (v : V) {k : Nat} (h : vtextsUp v k ≠ 0) : ∀ n, k ≤ n → n ≤ v.f4.length → vtextsUp v n = vtextsUp v k := by
 intro n
 induction n with
 | zero =>
  intro hk _
  obtain rfl : k = 0 := by omega
  rfl
 | succ n ih =>
  intro hk hn
  rcases Nat.lt_or_ge n k with hlt | hge
  · obtain rfl : k = n + 1 := by omega
    rfl
  · rw [vtextsUp_succ v n (by omega), ih hge (by omega), orL, if_neg h]
theorem vtextsUp_next (v : V) {k : Nat} (h : vtextsUp v k = 0) (hk : k < v.f4.length) : vtextsUp v (k + 1) = txt (rdOf ByteArray.empty v.f4 (k : Int)) := by
 rw [vtextsUp_succ v k hk, orL, if_pos h, orL]
 split
 · rename_i h2; rw [h2]; rfl
 · rfl
theorem pos_dec (n : Nat) : decide (0 < n) = !decide (n = 0) := by cases n <;> simp
def zD : D := ⟨false, [], 0⟩
theorem same_zD (d : D) : same d zD = (!d.f0 && d.f1.length == 0 && d.f2 == 0) := by
 rw [Bool.eq_iff_iff, same_iff]
 obtain ⟨a, b, c⟩ := d
 unfold zD
 simp only [S24.mk.injEq]
 cases a <;> cases b <;> simp
set_option maxHeartbeats 4000000 in
theorem rown_any (x : V) (cs : List Value) (w : World) (hK : k28.K w x cs) (hO : OkV x) :
 Calls Tryz.prog 154 #[.agg cs.toArray] w fun e w' => e = .returned (.int .i64 (vown x)) ∧ Below w.heap.size w w' := by
 obtain ⟨A2, c2, A5, c5, A6, c6, rfl, l2, g2, l5, g5, l6, g6⟩ := k28_open hK
 have HX2 := Lib.hid g2
 have HX6 := Lib.hid g6
 have hl5 := g5.2.1
 have hl6 := g6.2.1
 have HO := Lib.hid hO
 clear hK g2 g5 g6 l2 l5 l6 hO
 have HV : Hid (vown x = if x.f0 < 0 ∨ 6 < x.f0 then 23 else if vtexts x ≠ 0 then vtexts x else if 4096 < max x.f3.length x.f4.length then 5 else if vnumbers x && vused x && vrises x.f4 then 0 else 9) := Lib.hid rfl
 obtain ⟨r, hr⟩ : ∃ r, r = vown x := ⟨_, rfl⟩
 rw [← hr] at HV ⊢
 clear hr
 obtain ⟨W1, hW1⟩ : ∃ W1, W1 = w.alloc (.cells #[.int .i64 x.f0, .bool x.f1.f0, .slice A2 x.f1.f1.length c2, .int .i64 x.f1.f2, .string x.f2, .slice A5 x.f3.length c5, .slice A6 x.f4.length c6] 28) := ⟨_, rfl⟩
 have hb1 : Below w.heap.size w W1 := by rw [hW1]; exact (Below.refl _ _).alloc (Nat.le_refl _) _
 have hx1 : W1.heap[w.heap.size]? = some (.cells #[.int .i64 x.f0, .bool x.f1.f0, .slice A2 x.f1.f1.length c2, .int .i64 x.f1.f2, .string x.f2, .slice A5 x.f3.length c5, .slice A6 x.f4.length c6] 28 (0, 0)) := by rw [hW1]; exact blk_new _ _
 have HW1 := Lib.hid hW1
 have HB1 := Lib.hid hb1
 have HX1 := Lib.hid hx1
 obtain ⟨hcx, hfx⟩ := bcells hx1 (Below.refl _ _)
 clear hW1 hb1 hx1
 by_cases hk0 : x.f0 < 0
 · have HR : Hid (r = 23) := Lib.hid (by rw [HV.out, if_pos (.inl hk0)])
   go_enter Tryz.func154, Tryz.ntmps154
   go_upto_region 1 with (fail)
   rw [← HW1.out]
   go_wp2
   go_ret
   exact ⟨by rw [HR.out]; rfl, HB1.out⟩
 by_cases hk6 : 6 < x.f0
 · have HR : Hid (r = 23) := Lib.hid (by rw [HV.out, if_pos (.inr hk6)])
   go_enter Tryz.func154, Tryz.ntmps154
   go_upto_region 1 with (fail)
   rw [← HW1.out]
   go_wp2
   go_ret
   exact ⟨by rw [HR.out]; rfl, HB1.out⟩
 have HV2 : Hid (r = if vtexts x ≠ 0 then vtexts x else if 4096 < max x.f3.length x.f4.length then 5 else if vnumbers x && vused x && vrises x.f4 then 0 else 9) := Lib.hid (by rw [HV.out, if_neg (by omega)])
 have HT0 := Lib.hid (fun W => rtext_any x.f2 W HO.out.text)
 have hd0 : decide (x.f0 < 0) = false := decide_eq_false hk0
 have hd6 : decide (6 < x.f0) = false := decide_eq_false hk6
 have e0 : Hid (vtextsUp x 0 = txt x.f2) := Lib.hid rfl
 go_enter Tryz.func154, Tryz.ntmps154
 go_upto_region 1 with (fail)
 rw [← HW1.out]
 go_wp2_with (go_at_call 195; (with_reducible refine (HT0.out _).mono ?_); rintro e w2 ⟨rfl, hB2⟩; have HB2 := Lib.hid hB2; clear hB2)
 clear hcx hfx HT0 HW1 hd0 hd6
 go_loopw [3, 4] (fun ve vi wr => ∃ k : Nat, k ≤ x.f4.length ∧ vi = .int .i64 k ∧ ve = .int .i64 (vtextsUp x k) ∧ Hid (Below W1.heap.size W1 wr)) (fun ve vi _ => x.f4.length - (intOf vi).toNat)
 case atStart => exact ⟨0, Nat.zero_le _, rfl, by rw [e0.out], HB2⟩
 case round =>
  obtain ⟨k, hk, rfl, rfl, HB⟩ := hrel
  have HBW := Lib.hid (HB1.out.trans (HB.out.mono HB1.out.size))
  obtain ⟨hcx, hfx⟩ := bcells HX1.out HB.out
  have hkk : (0 : Int) ≤ (k : Int) := by omega
  by_cases hlt : k < x.f4.length
  · have hlt2 : (k : Int) < (x.f4.length : Int) := by omega
    have hlt3 : decide (k < x.f4.length) = true := by simpa using hlt
    by_cases ht : vtextsUp x k = 0
    · obtain ⟨ad, rfl, hx⟩ := Kd.at_string (Kd.C_below HX6.out HBW.out) (k : Int) (by omega) (by omega)
      rw [Int.toNat_natCast] at hx
      have hsz : (rdOf ByteArray.empty x.f4 (k : Int)).size ≤ 1073741824 := HO.out.keys _ (by unfold rdOf; simp [hlt])
      have HTX := Lib.hid (rtext_any (rdOf ByteArray.empty x.f4 (k : Int)) wr hsz)
      have HN := Lib.hid (vtextsUp_next x ht hlt)
      rw [ht]
      generalize rdOf ByteArray.empty x.f4 (k : Int) = s at *
      clear ht hsz
      go_wp2_with (go_at_call 195; (with_reducible refine (HTX.out).mono ?_); rintro e w3 ⟨rfl, hB3⟩; have HB3 := Lib.hid (HB.out.trans (hB3.mono HB.out.size)); clear hB3)
      go_roundw
      case rel => exact ⟨k + 1, by omega, by go_num, by rw [HN.out], HB3⟩
      case measure => simp [intOf]; omega
    · have ht2 : ((vtextsUp x k) == 0) = false := by simpa using ht
      have ht3 : ((vtextsUp x k) != 0) = true := by simpa using ht
      have HR : Hid (r = vtextsUp x k) := Lib.hid (by
       have e := vtextsUp_stop x ht x.f4.length (by omega) (Nat.le_refl _)
       have e2 : vtexts x = vtextsUp x k := e
       rw [HV2.out, e2, if_pos ht])
      generalize vtextsUp x k = te at *
      clear ht
      go_wp2
      go_ret
      exact ⟨by rw [HR.out]; rfl, HBW.out⟩
  · obtain rfl : k = x.f4.length := by omega
    have hlt2 : ¬ (x.f4.length : Int) < (x.f4.length : Int) := by omega
    have hlt3 : decide (x.f4.length < x.f4.length) = false := by simp
    have HV3 : Hid (r = if vtextsUp x x.f4.length ≠ 0 then vtextsUp x x.f4.length else if 4096 < max x.f3.length x.f4.length then 5 else if vnumbers x && vused x && vrises x.f4 then 0 else 9) := HV2
    by_cases ht : vtextsUp x x.f4.length = 0
    rotate_left
    · have ht3 : ((vtextsUp x x.f4.length) != 0) = true := by simpa using ht
      have HR : Hid (r = vtextsUp x x.f4.length) := Lib.hid (by rw [HV3.out, if_pos ht])
      generalize vtextsUp x x.f4.length = te at *
      clear ht
      go_wp2
      go_ret
      exact ⟨by rw [HR.out]; rfl, HBW.out⟩
    rw [ht]
    have HV4 : Hid (r = if 4096 < max x.f3.length x.f4.length then 5 else if vnumbers x && vused x && vrises x.f4 then 0 else 9) := Lib.hid (by rw [HV3.out, if_neg (by rw [ht]; simp)])
    clear ht hlt HV HV2 HV3 e0
    by_cases h3 : 4096 < x.f3.length
    · have HR : Hid (r = 5) := Lib.hid (by rw [HV4.out, if_pos (by omega)])
      have h3' : (4096 : Int) < (x.f3.length : Int) := by omega
      have h3'' : decide (4096 < x.f3.length) = true := by simpa using h3
      go_wp2
      go_ret
      exact ⟨by rw [HR.out]; rfl, HBW.out⟩
    have h3' : ¬ (4096 : Int) < (x.f3.length : Int) := by omega
    have h3'' : decide (4096 < x.f3.length) = false := by simpa using h3
    by_cases h4 : 4096 < x.f4.length
    · have HR : Hid (r = 5) := Lib.hid (by rw [HV4.out, if_pos (by omega)])
      have h4' : (4096 : Int) < (x.f4.length : Int) := by omega
      have h4'' : decide (4096 < x.f4.length) = true := by simpa using h4
      go_wp2
      go_ret
      exact ⟨by rw [HR.out]; rfl, HBW.out⟩
    have h4' : ¬ (4096 : Int) < (x.f4.length : Int) := by omega
    have h4'' : decide (4096 < x.f4.length) = false := by simpa using h4
    have HV5 : Hid (r = if vnumbers x && vused x && vrises x.f4 then 0 else 9) := Lib.hid (by rw [HV4.out, if_neg (by omega)])
    have HNM : Hid (vnumbers x = if x.f0 = 3 then dchk x.f1 == 0 else same x.f1 zD) := Lib.hid (by unfold vnumbers; rw [same_zD])
    have HCK := Lib.hid (fun W (hW : Below w.heap.size w W) => rdchk_any x.f1 A2 c2 W (Kd.C_below HX2.out hW) HO.out.dec)
    have HSM : Hid (∀ W, Below w.heap.size w W → Calls Tryz.prog 64 #[.agg #[.bool x.f1.f0, .slice A2 x.f1.f1.length c2, .int .i64 x.f1.f2], .agg #[.bool false, .slice none 0 0, .int .i64 0]] W fun e w' => e = .returned (.bool (same x.f1 zD)) ∧ Below W.heap.size W w') := Lib.hid (fun W hW => dsame_any x.f1 zD A2 c2 none 0 W (Kd.C_below HX2.out hW) (Kd.C_nil _ _))
    obtain ⟨b1, hb1⟩ : ∃ b, b = vnumbers x := ⟨_, rfl⟩
    obtain ⟨b2, hb2⟩ : ∃ b, b = vused x := ⟨_, rfl⟩
    rw [← hb1] at HNM
    rw [← hb1, ← hb2] at HV5
    have HUS := Lib.hid hb2
    clear hb1 hb2 HV4 h3 h4
    go_upto_region 12 with (fail)
    go_cut [49] (fun v wc => v = .bool (!b1) ∧ Hid (Below W1.heap.size W1 wc))
    case first =>
     by_cases hk3 : x.f0 = 3
     · have g1 : (x.f0 == 3) = true := by simp [hk3]
       have g2 : (x.f0 != 3) = false := by simp [hk3]
       have hn := HNM.out
       rw [if_pos hk3] at hn
       have HN := Lib.hid hn
       generalize dchk x.f1 = dk at *
       clear hn hk3 HNM
       go_wp2_with (go_at_call 196; (with_reducible refine (HCK.out _ HBW.out).mono ?_); rintro e w3 ⟨rfl, hB3⟩; have HB3 := Lib.hid (HB.out.trans (hB3.mono HB.out.size)); clear hB3)
       go_meet
       case rel => exact ⟨by rw [HN.out]; rfl, HB3⟩
     · have g1 : (x.f0 == 3) = false := by simp [hk3]
       have g2 : (x.f0 != 3) = true := by simp [hk3]
       have hn := HNM.out
       rw [if_neg hk3] at hn
       rw [← hn] at HSM
       clear hn hk3 HNM
       cases b1 with
       | true =>
        go_wp2_with (go_at_call 64; (with_reducible refine (HSM.out _ HBW.out).mono ?_); rintro e w3 ⟨rfl, hB3⟩; have HB3 := Lib.hid (HB.out.trans (hB3.mono HB.out.size)); clear hB3; obtain ⟨hcx3, hfx3⟩ := bcells HX1.out HB3.out)
        go_meet
        case rel => exact ⟨rfl, HB3⟩
       | false =>
        go_wp2_with (go_at_call 64; (with_reducible refine (HSM.out _ HBW.out).mono ?_); rintro e w3 ⟨rfl, hB3⟩; have HB3 := Lib.hid (HB.out.trans (hB3.mono HB.out.size)); clear hB3; obtain ⟨hcx3, hfx3⟩ := bcells HX1.out HB3.out)
        go_meet
        case rel => exact ⟨rfl, HB3⟩
    case rest =>
     obtain ⟨rfl, HBc⟩ := hcut
     clear hcx hfx
     obtain ⟨hcx, hfx⟩ := bcells HX1.out HBc.out
     have HBX := Lib.hid (HB1.out.trans (HBc.out.mono HB1.out.size))
     cases b1 with
     | false =>
      have HR : Hid (r = 9) := Lib.hid (by rw [HV5.out]; rfl)
      go_wp2
      go_ret
      exact ⟨by rw [HR.out]; rfl, HBX.out⟩
     | true =>
      go_upto_region 14 with (fail)
      go_cut [71] (fun v wc2 => v = .bool (!b2) ∧ wc2 = wc)
      case first =>
       have hu := HUS.out
       unfold vused at hu
       obtain ⟨bt, ht⟩ : ∃ b, x.f2.toList.isEmpty = b := ⟨_, rfl⟩
       rw [ht] at hu
       have hn3 : ((x.f3.length : Int) == 0) = decide (x.f3.length = 0) := by rw [Bool.eq_iff_iff]; simp
       have hp3 : decide (0 < x.f3.length) = !decide (x.f3.length = 0) := pos_dec _
       have hp4 : decide (0 < x.f4.length) = !decide (x.f4.length = 0) := pos_dec _
       have hq4 : ((x.f4.length : Int) == 0) = decide (x.f4.length = 0) := by rw [Bool.eq_iff_iff]; simp
       have hqq : ((x.f4.length : Int) == (x.f3.length : Int)) = decide (x.f4.length = x.f3.length) := by rw [Bool.eq_iff_iff]; simp; omega
       have hqn : ((x.f4.length : Int) != (x.f3.length : Int)) = !decide (x.f4.length = x.f3.length) := by rw [bne, hqq]
       rw [hn3] at hu
       by_cases hk6' : x.f0 = 6
       · have g1 : (x.f0 == 6) = true := by simp [hk6']
         have g2 : (x.f0 != 6) = false := by simp [hk6']
         have g3 : (x.f0 != 4) = true := by simp [hk6']
         have g4 : (x.f0 == 4) = false := by simp [hk6']
         have g5 : decide (x.f0 < 5) = false := by simp [hk6']
         have g6 : decide (5 ≤ x.f0) = true := by simp [hk6']
         rw [g4, g6, if_pos g1, hqq] at hu
         obtain ⟨bq, hbq⟩ : ∃ b, decide (x.f4.length = x.f3.length) = b := ⟨_, rfl⟩
         rw [hbq] at hu hqn hqq
         have HU := Lib.hid hu
         clear hu hn3 hp3 hp4 hq4 hbq hk6' HUS
         cases bt <;> cases bq <;>
         · go_wp2
           go_meet
           case rel => exact ⟨by rw [HU.out]; rfl, rfl⟩
       · have g1 : (x.f0 == 6) = false := by simp [hk6']
         have g2 : (x.f0 != 6) = true := by simp [hk6']
         obtain ⟨b4, h4⟩ : ∃ b, (x.f0 == 4) = b := ⟨_, rfl⟩
         have h4n : (x.f0 != 4) = !b4 := by rw [bne, h4]
         obtain ⟨b5, h5⟩ : ∃ b, decide (x.f0 < 5) = b := ⟨_, rfl⟩
         have h5n : decide (5 ≤ x.f0) = !b5 := by rw [← h5, Bool.eq_iff_iff]; simp
         rw [h4, h5n, if_neg (by rw [g1]; simp), hq4] at hu
         obtain ⟨b3, hb3⟩ : ∃ b, decide (x.f3.length = 0) = b := ⟨_, rfl⟩
         obtain ⟨bk, hbk⟩ : ∃ b, decide (x.f4.length = 0) = b := ⟨_, rfl⟩
         rw [hb3] at hu hp3
         rw [hbk] at hu hp4
         have HU := Lib.hid hu
         clear hu hn3 hq4 hqq hqn hb3 hbk hk6' HUS h5n
         cases b4 <;> cases b5 <;> cases bt <;> cases b3 <;> cases bk <;>
         · go_wp2
           go_meet
           case rel => exact ⟨by rw [HU.out]; rfl, rfl⟩
      case rest =>
       obtain ⟨rfl, rfl⟩ := hcut
       cases b2 with
       | false =>
        have HR : Hid (r = 9) := Lib.hid (by rw [HV5.out]; rfl)
        go_wp2
        go_ret
        exact ⟨by rw [HR.out]; rfl, HBX.out⟩
       | true =>
        have HV6 : Hid (r = if vrises x.f4 then 0 else 9) := Lib.hid (by rw [HV5.out]; rfl)
        clear HV5 HUS
        go_wp2
        go_loopw [5] (fun vi wr2 => ∃ k : Nat, 1 ≤ k ∧ (k ≤ x.f4.length ∨ x.f4.length = 0) ∧ vi = .int .i64 k ∧ Hid (k ≤ x.f4.length → vrisesUp x.f4 k = true) ∧ Hid (Below W1.heap.size W1 wr2)) (fun vi _ => x.f4.length - (intOf vi).toNat)
        case atStart => exact ⟨1, Nat.le_refl _, by omega, rfl, Lib.hid (fun _ => rfl), HBc⟩
        case round =>
         clear hcx hfx
         obtain ⟨k, hk1, hk2, rfl, hu, HBr⟩ := hrel
         have HBW2 := Lib.hid (HB1.out.trans (HBr.out.mono HB1.out.size))
         obtain ⟨hcx, hfx⟩ := bcells HX1.out HBr.out
         have hkk : (0 : Int) ≤ (k : Int) := by omega
         by_cases hlt : k < x.f4.length
         · obtain ⟨j, hj⟩ : ∃ j, j + 1 = k := ⟨k - 1, by omega⟩
           obtain ⟨ad, rfl, hx⟩ := Kd.at_string (Kd.C_below HX6.out HBW2.out) (k : Int) (by omega) (by omega)
           obtain ⟨ad', he, hy⟩ := Kd.at_string (Kd.C_below HX6.out HBW2.out) (j : Int) (by omega) (by omega)
           obtain rfl := Option.some.inj he
           rw [Int.toNat_natCast] at hx hy
           have e1 : rdOf ByteArray.empty x.f4 (k : Int) = x.f4.getD k ByteArray.empty := by unfold rdOf; rw [Int.toNat_natCast]
           have e2 : rdOf ByteArray.empty x.f4 (j : Int) = x.f4.getD j ByteArray.empty := by unfold rdOf; rw [Int.toNat_natCast]
           rw [e1] at hx
           rw [e2] at hy
           have hs := vrisesUp_succ x.f4 k
           rw [hu.out (by omega), show (k == 0) = false by simp; omega, show k - 1 = j by omega] at hs
           obtain ⟨a, ha⟩ : ∃ a, a = x.f4.getD k ByteArray.empty := ⟨_, rfl⟩
           obtain ⟨b, hb⟩ : ∃ b, b = x.f4.getD j ByteArray.empty := ⟨_, rfl⟩
           rw [← ha] at hx
           rw [← hb] at hy
           rw [← ha, ← hb] at hs
           have g3 : (k : Int) < (x.f4.length : Int) := by omega
           have g5 : IntKind.i64.wrap ((k : Int) - 1) = (j : Int) := by rw [wrap_in _ (by omega)]; omega
           have g6 : (j : Int) < (x.f4.length : Int) := by omega
           have hw : wrap64 ((k : Int) + 1) = ((k + 1 : Nat) : Int) := by unfold wrap64; omega
           clear ha hb hu e1 e2 hj
           cases hle : strLe a b with
           | true =>
            rw [hle] at hs
            have HR : Hid (r = 9) := Lib.hid (by rw [HV6.out, show vrises x.f4 = false from vrisesUp_false x.f4 (by rw [hs]; rfl) _ (by omega)]; rfl)
            have hle' : (Op.bytesLess a.toList b.toList || a.toList == b.toList) = true := hle
            clear hs hle
            go_wp2
            go_quiet (fail)
            go_wp2
            go_ret
            exact ⟨by rw [HR.out]; rfl, pw_below_drewN HBW2.out _⟩
           | false =>
            rw [hle] at hs
            have HS : Hid (k + 1 ≤ x.f4.length → vrisesUp x.f4 (k + 1) = true) := Lib.hid (fun _ => hs)
            have hle' : (Op.bytesLess a.toList b.toList || a.toList == b.toList) = false := hle
            clear hs hle
            go_wp2
            go_quiet (fail)
            go_wp2
            go_roundw
            case rel => exact ⟨k + 1, by omega, by omega, by go_num, HS, Lib.hid (pw_below_drewN HBr.out _)⟩
            case measure => simp [intOf]; omega
         · have HR : Hid (r = 0) := Lib.hid (by
            rcases hk2 with h | h
            · obtain rfl : k = x.f4.length := by omega
              rw [HV6.out, show vrises x.f4 = true from hu.out (Nat.le_refl _)]; rfl
            · have e : x.f4 = [] := List.eq_nil_of_length_eq_zero h
              rw [HV6.out, e]; rfl)
           have g3 : ¬ (k : Int) < (x.f4.length : Int) := by omega
           clear hu
           go_wp2
           go_ret
           exact ⟨by rw [HR.out]; rfl, HBW2.out⟩
theorem orL_cat : ∀ (l r : List Int), orL (l ++ r) = if orL l = 0 then orL r else orL l
 | [], r => by simp [orL]
 | x :: l, r => by
  rw [List.cons_append, orL, orL, orL_cat l r]
  by_cases h : x = 0
  · rw [if_pos h, if_pos h]
  · rw [if_neg h, if_neg h, if_neg h]
def vallE (x : V) : Int := orL ((vall x).map vown)
def vallUp (x : V) (k : Nat) : Int := orL ((x :: valls (x.f3.take k)).map vown)
theorem vallUp_zero (x : V) : vallUp x 0 = vown x := by
 unfold vallUp
 rw [List.take_zero, valls, List.map_cons, List.map_nil, orL, orL]
 split
 · rename_i h; rw [h]
 · rfl
theorem vallUp_all (x : V) : vallUp x x.f3.length = vallE x := by
 unfold vallUp vallE
 rw [List.take_length, vall_eq]
theorem vallUp_succ (x : V) {k : Nat} (h : k < x.f3.length) : vallUp x (k + 1) = if vallUp x k = 0 then vallE (rd_T28 x.f3 (k : Int)) else vallUp x k := by
 unfold vallUp vallE
 have e : rd_T28 x.f3 (k : Int) = x.f3[k] := by unfold rd_T28; simp [h]
 rw [List.take_succ_eq_append_getElem h, valls_app, valls_one, e, ← List.cons_append, List.map_append, orL_cat]
theorem vallUp_stop (x : V) {k : Nat} (h : vallUp x k ≠ 0) : ∀ n, k ≤ n → n ≤ x.f3.length → vallUp x n = vallUp x k := by
 intro n
 induction n with
 | zero =>
  intro hk _
  obtain rfl : k = 0 := by omega
  rfl
 | succ n ih =>
  intro hk hn
  rcases Nat.lt_or_ge n k with hlt | hge
  · obtain rfl : k = n + 1 := by omega
    rfl
  · rw [vallUp_succ x (by omega), ih hge (by omega), if_neg h]
theorem vchk_eq (v : V) : vchk v = if 64 < vdeep 1000 v then 42 else if 16384 < vsize v then 3 else vallE v := rfl
set_option maxHeartbeats 2000000 in
theorem rall_any : ∀ (x : V) (cs : List Value) (w : World), k28.K w x cs → OkV x →
 Calls Tryz.prog 113 #[.agg cs.toArray] w fun e w' => e = .returned (.int .i64 (vallE x)) ∧ Below w.heap.size w w' := by
 refine V.ind fun x ih => ?_
 intro cs w hK hO
 obtain ⟨A2, c2, A5, c5, A6, c6, rfl, l2, g2, l5, g5, l6, g6⟩ := k28_open hK
 have HK := Lib.hid hK
 have HC := Lib.hid g5
 have hlen := g5.2.1
 have IH := Lib.hid ih
 have HO := Lib.hid hO
 clear g2 l2 l5 g5 l6 g6 hK ih hO
 have HE := Lib.hid (vallUp_all x)
 have HZ := Lib.hid (vallUp_zero x)
 have HST := Lib.hid (fun k (h : vallUp x k ≠ 0) (hk : k ≤ x.f3.length) => vallUp_stop x h x.f3.length hk (Nat.le_refl _))
 have HSC := Lib.hid (fun k (h : k < x.f3.length) => vallUp_succ x h)
 obtain ⟨W1, hW1⟩ : ∃ W1, W1 = w.alloc (.cells #[.int .i64 x.f0, .bool x.f1.f0, .slice A2 x.f1.f1.length c2, .int .i64 x.f1.f2, .string x.f2, .slice A5 x.f3.length c5, .slice A6 x.f4.length c6] 28) := ⟨_, rfl⟩
 have hb1 : Below w.heap.size w W1 := by rw [hW1]; exact (Below.refl _ _).alloc (Nat.le_refl _) _
 have hx1 : W1.heap[w.heap.size]? = some (.cells #[.int .i64 x.f0, .bool x.f1.f0, .slice A2 x.f1.f1.length c2, .int .i64 x.f1.f2, .string x.f2, .slice A5 x.f3.length c5, .slice A6 x.f4.length c6] 28 (0, 0)) := by rw [hW1]; exact blk_new _ _
 have HW1 := Lib.hid hW1
 have HB1 := Lib.hid hb1
 have HX1 := Lib.hid hx1
 have HOWN := Lib.hid (rown_any x _ W1 (k28.K_below hb1 HK.out) HO.out)
 obtain ⟨hcx, hfx⟩ := bcells hx1 (Below.refl _ _)
 clear hW1 hb1 hx1
 go_enter Tryz.func113, Tryz.ntmps113
 go_upto_region 1 with (fail)
 rw [← HW1.out]
 go_wp2_with (go_at_call 154; (with_reducible refine (HOWN.out).mono ?_); rintro e w2 ⟨rfl, hB2⟩; have HB2 := Lib.hid hB2; clear hB2)
 clear hcx hfx HW1 HOWN
 go_loopw [3, 4] (fun ve vi wr => ∃ k : Nat, k ≤ x.f3.length ∧ vi = .int .i64 k ∧ ve = .int .i64 (vallUp x k) ∧ Hid (Below W1.heap.size W1 wr)) (fun ve vi _ => x.f3.length - (intOf vi).toNat)
 case atStart => exact ⟨0, Nat.zero_le _, rfl, by rw [HZ.out], HB2⟩
 case round =>
  obtain ⟨k, hk, rfl, rfl, HB⟩ := hrel
  have HBW := Lib.hid (HB1.out.trans (HB.out.mono HB1.out.size))
  obtain ⟨hcx, hfx⟩ := bcells HX1.out HB.out
  have hkk : (0 : Int) ≤ (k : Int) := by omega
  by_cases hlt : k < x.f3.length
  · have hlt2 : (k : Int) < (x.f3.length : Int) := by omega
    have hlt3 : decide (k < x.f3.length) = true := by simpa using hlt
    have hs := HSC.out k hlt
    by_cases ht : vallUp x k = 0
    · rw [if_pos ht] at hs
      obtain ⟨ad, a0, a1, a2, a3, a4, a5, a6, rfl, hKa, p0, p1, p2, p3, p4, p5, p6⟩ := at_V HC.out HBW.out k hlt
      have hmem : rd_T28 x.f3 (k : Int) ∈ x.f3 := by unfold rd_T28; simp [hlt]
      have HCC := Lib.hid (IH.out _ hmem [a0, a1, a2, a3, a4, a5, a6] wr (k28.K_below HBW.out hKa) (HO.out.kids _ hmem))
      have HS := Lib.hid hs
      rw [ht]
      generalize vallE (rd_T28 x.f3 (k : Int)) = ee at *
      clear hs ht hKa hmem
      go_wp2_with (go_at_call 113; (with_reducible refine (HCC.out).mono ?_); rintro e w3 ⟨rfl, hB3⟩; have HB3 := Lib.hid (HB.out.trans (hB3.mono HB.out.size)); clear hB3)
      go_roundw
      case rel => exact ⟨k + 1, by omega, by go_num, by rw [HS.out], HB3⟩
      case measure => simp [intOf]; omega
    · have ht2 : ((vallUp x k) == 0) = false := by simpa using ht
      have HR : Hid (vallE x = vallUp x k) := Lib.hid (by rw [← HE.out]; exact HST.out k ht hk)
      generalize vallUp x k = te at *
      clear ht hs
      go_wp2
      go_ret
      exact ⟨by rw [HR.out]; rfl, HBW.out⟩
  · obtain rfl : k = x.f3.length := by omega
    have hlt2 : ¬ (x.f3.length : Int) < (x.f3.length : Int) := by omega
    have hlt3 : decide (x.f3.length < x.f3.length) = false := by simp
    go_wp2
    go_ret
    exact ⟨by rw [← HE.out]; rfl, HBW.out⟩
set_option maxHeartbeats 1000000 in
theorem rCheck_any (x : V) (cs : List Value) (w : World) (hK : k28.K w x cs) (hO : OkV x) :
 Calls Tryz.prog 72 #[.agg cs.toArray] w fun e w' => e = .returned (.int .i64 (vchk x)) ∧ Below w.heap.size w w' := by
 obtain ⟨A2, c2, A5, c5, A6, c6, rfl, -⟩ := k28_open hK
 have HD := Lib.hid (fun W (hW : Below w.heap.size w W) => rDeep_any x _ W (k28.K_below hW hK))
 have HS := Lib.hid (fun W (hW : Below w.heap.size w W) => rSize_any x _ W (k28.K_below hW hK))
 have HA := Lib.hid (fun W (hW : Below w.heap.size w W) => rall_any x _ W (k28.K_below hW hK) hO)
 have HE := Lib.hid (vchk_eq x)
 obtain ⟨W1, hW1⟩ : ∃ W1, W1 = w.alloc (.cells #[.int .i64 x.f0, .bool x.f1.f0, .slice A2 x.f1.f1.length c2, .int .i64 x.f1.f2, .string x.f2, .slice A5 x.f3.length c5, .slice A6 x.f4.length c6] 28) := ⟨_, rfl⟩
 have hb1 : Below w.heap.size w W1 := by rw [hW1]; exact (Below.refl _ _).alloc (Nat.le_refl _) _
 have hx1 : W1.heap[w.heap.size]? = some (.cells #[.int .i64 x.f0, .bool x.f1.f0, .slice A2 x.f1.f1.length c2, .int .i64 x.f1.f2, .string x.f2, .slice A5 x.f3.length c5, .slice A6 x.f4.length c6] 28 (0, 0)) := by rw [hW1]; exact blk_new _ _
 have HW1 := Lib.hid hW1
 have HB1 := Lib.hid hb1
 have HX1 := Lib.hid hx1
 obtain ⟨hcx, hfx⟩ := bcells hx1 (Below.refl _ _)
 generalize vchk x = r at *
 generalize vdeep 1000 x = d at *
 generalize vsize x = s at *
 generalize vallE x = ee at *
 clear hW1 hb1 hx1 hK hO
 by_cases h1 : 64 < d
 · have HR : Hid (r = 42) := Lib.hid (by rw [HE.out, if_pos h1])
   have h1' : (64 : Int) < (d : Int) := by omega
   have h1'' : decide (64 < d) = true := by simpa using h1
   go_enter Tryz.func72, Tryz.ntmps72
   go_upto_block 0 with (fail)
   rw [← HW1.out]
   go_wp2_with (go_at_call 112; (with_reducible refine (HD.out _ HB1.out).mono ?_); rintro e w2 ⟨rfl, hB2⟩; have HB2 := Lib.hid (HB1.out.trans (hB2.mono HB1.out.size)); clear hB2)
   go_ret
   exact ⟨by rw [HR.out]; rfl, HB2.out⟩
 have h1' : ¬ (64 : Int) < (d : Int) := by omega
 have h1'' : decide (64 < d) = false := by simpa using h1
 by_cases h2 : 16384 < s
 · have HR : Hid (r = 3) := Lib.hid (by rw [HE.out, if_neg h1, if_pos h2])
   have h2' : (16384 : Int) < (s : Int) := by omega
   have h2'' : decide (16384 < s) = true := by simpa using h2
   clear h1
   go_enter Tryz.func72, Tryz.ntmps72
   go_upto_block 0 with (fail)
   rw [← HW1.out]
   go_wp2_with (first
    | (go_at_call 112; (with_reducible refine (HD.out _ HB1.out).mono ?_); rintro e w2 ⟨rfl, hB2⟩; obtain ⟨hcx2, hfx2⟩ := bcells HX1.out hB2; have HB2 := Lib.hid (HB1.out.trans (hB2.mono HB1.out.size)); clear hB2)
    | (go_at_call 57; (with_reducible refine (HS.out _ HB2.out).mono ?_); rintro e w3 ⟨rfl, hB3⟩; have HB3 := Lib.hid (HB2.out.trans (hB3.mono HB2.out.size)); clear hB3))
   go_ret
   exact ⟨by rw [HR.out]; rfl, HB3.out⟩
 · have HR : Hid (r = ee) := Lib.hid (by rw [HE.out, if_neg h1, if_neg h2])
   have h2' : ¬ (16384 : Int) < (s : Int) := by omega
   have h2'' : decide (16384 < s) = false := by simpa using h2
   clear h1 h2
   go_enter Tryz.func72, Tryz.ntmps72
   go_upto_block 0 with (fail)
   rw [← HW1.out]
   go_wp2_with (first
    | (go_at_call 112; (with_reducible refine (HD.out _ HB1.out).mono ?_); rintro e w2 ⟨rfl, hB2⟩; obtain ⟨hcx2, hfx2⟩ := bcells HX1.out hB2; have HX2 := Lib.hid (blk_below2 HX1.out hB2); have HB2 := Lib.hid (HB1.out.trans (hB2.mono HB1.out.size)); clear hB2)
    | (go_at_call 57; (with_reducible refine (HS.out _ HB2.out).mono ?_); rintro e w3 ⟨rfl, hB3⟩; obtain ⟨hcx3, hfx3⟩ := bcells HX2.out hB3; have HB3 := Lib.hid (HB2.out.trans (hB3.mono HB2.out.size)); clear hB3)
    | (go_at_call 113; (with_reducible refine (HA.out _ HB3.out).mono ?_); rintro e w4 ⟨rfl, hB4⟩; have HB4 := Lib.hid (HB3.out.trans (hB4.mono HB3.out.size)); clear hB4))
   go_ret
   exact ⟨by rw [HR.out]; rfl, HB4.out⟩
set_option maxHeartbeats 1000000 in
theorem rChecks_any (l : List V) (A : Option Addr) (c : Nat) (w : World) (hA : k28.C w A l.length l) (hO : ∀ x ∈ l, OkV x) :
 Calls Tryz.prog 121 #[.slice A l.length c] w fun e w' => e = .returned (.int .i64 (vchks l)) ∧ Below w.heap.size w w' := by
 have HA := Lib.hid hA
 have HO := Lib.hid hO
 have hlen := hA.2.1
 have HALL := Lib.hid (vchks_all l)
 have HAT := Lib.hid (vchks_at l)
 clear hA hO
 go_enter Tryz.func121, Tryz.ntmps121
 go_wp2
 go_loopw [3] (fun vi wr => ∃ k : Nat, k ≤ l.length ∧ vi = .int .i64 k ∧ Hid (∀ i, i < k → vchk (rd_T28 l (i : Int)) = 0) ∧ Hid (Below w.heap.size w wr)) (fun vi _ => l.length - (intOf vi).toNat)
 case atStart => exact ⟨0, Nat.zero_le _, rfl, Lib.hid (fun i h => absurd h (by omega)), Lib.hid (Below.refl _ _)⟩
 case round =>
  obtain ⟨k, hk, rfl, HU, HB⟩ := hrel
  have hkk : (0 : Int) ≤ (k : Int) := by omega
  by_cases hlt : k < l.length
  · have hlt2 : (k : Int) < (l.length : Int) := by omega
    obtain ⟨ad, a0, a1, a2, a3, a4, a5, a6, rfl, hKa, p0, p1, p2, p3, p4, p5, p6⟩ := at_V HA.out HB.out k hlt
    have hmem : rd_T28 l (k : Int) ∈ l := by unfold rd_T28; simp [hlt]
    have HCC := Lib.hid (rCheck_any _ [a0, a1, a2, a3, a4, a5, a6] wr (k28.K_below HB.out hKa) (HO.out _ hmem))
    have HA1 : Hid (vchk (rd_T28 l (k : Int)) ≠ 0 → vchks l = vchk (rd_T28 l (k : Int))) := Lib.hid (fun h => HAT.out k hlt HU.out h)
    have HA2 : Hid (vchk (rd_T28 l (k : Int)) = 0 → ∀ i, i < k + 1 → vchk (rd_T28 l (i : Int)) = 0) := Lib.hid (fun h i hi => by
     rcases Nat.lt_or_ge i k with h' | h'
     · exact HU.out i h'
     · obtain rfl : i = k := by omega
       exact h)
    generalize vchk (rd_T28 l (k : Int)) = e0 at *
    clear hKa hmem
    by_cases h0 : e0 = 0
    · subst h0
      have HU2 := Lib.hid (HA2.out rfl)
      go_wp2_with (go_at_call 72; (with_reducible refine (HCC.out).mono ?_); rintro e w3 ⟨rfl, hB3⟩; have HB3 := Lib.hid (HB.out.trans (hB3.mono HB.out.size)); clear hB3)
      go_roundw
      case rel => exact ⟨k + 1, by omega, by go_num, HU2, HB3⟩
      case measure => simp [intOf]; omega
    · have h1 : (e0 != 0) = true := by simpa using h0
      have HR := Lib.hid (HA1.out h0)
      clear h0
      go_wp2_with (go_at_call 72; (with_reducible refine (HCC.out).mono ?_); rintro e w3 ⟨rfl, hB3⟩; have HB3 := Lib.hid (HB.out.trans (hB3.mono HB.out.size)); clear hB3)
      go_ret
      exact ⟨by rw [HR.out]; rfl, HB3.out⟩
  · obtain rfl : k = l.length := by omega
    have hlt2 : ¬ (l.length : Int) < (l.length : Int) := by omega
    have HR := Lib.hid (HALL.out HU.out)
    go_wp2
    go_ret
    exact ⟨by rw [HR.out]; rfl, HB.out⟩
theorem lask_eq (l ks : List V) : lask l ks = if vchks l ≠ 0 then vchks l else if vchks ks ≠ 0 then vchks ks else if l.length ≠ ks.length then 3 else 0 := by
 unfold lask
 by_cases h1 : vchks l = 0
 · by_cases h2 : vchks ks = 0
   · simp [orL, h1, h2]
   · simp [orL, h1, h2]
 · simp [orL, h1]
set_option maxHeartbeats 1000000 in
theorem rask_any (l ks : List V) (A B : Option Addr) (c d : Nat) (w : World) (hA : k28.C w A l.length l) (hB : k28.C w B ks.length ks) (hO : ∀ x ∈ l, OkV x) (hO2 : ∀ x ∈ ks, OkV x) :
 Calls Tryz.prog 79 #[.slice A l.length c, .slice B ks.length d] w fun e w' => e = .returned (.int .i64 (lask l ks)) ∧ Below w.heap.size w w' := by
 have HC1 := Lib.hid (rChecks_any l A c w hA hO)
 have HC2 := Lib.hid (fun W (hW : Below w.heap.size w W) => rChecks_any ks B d W (Kd.C_below hB hW) hO2)
 have HE := Lib.hid (lask_eq l ks)
 generalize lask l ks = r at *
 generalize vchks l = a at *
 generalize vchks ks = b at *
 clear hA hB hO hO2
 by_cases ha : a = 0
 · subst ha
   by_cases hb : b = 0
   · subst hb
     by_cases hl : l.length = ks.length
     · have HR : Hid (r = 0) := Lib.hid (by rw [HE.out, if_neg (by simp), if_neg (by simp), if_neg (by simpa using hl)])
       have hg : (((l.length : Nat) : Int) != ((ks.length : Nat) : Int)) = false := by simp [hl]
       clear hl
       go_enter Tryz.func79, Tryz.ntmps79
       go_wp2_with (go_at_call 121; first
        | ((with_reducible refine (HC1.out).mono ?_); rintro e w1 ⟨rfl, hB1⟩; have HB1 := Lib.hid hB1; clear hB1)
        | ((with_reducible refine (HC2.out _ HB1.out).mono ?_); rintro e w2 ⟨rfl, hB2⟩; have HB2 := Lib.hid (HB1.out.trans (hB2.mono HB1.out.size)); clear hB2))
       go_ret
       exact ⟨by rw [HR.out]; rfl, HB2.out⟩
     · have HR : Hid (r = 3) := Lib.hid (by rw [HE.out, if_neg (by simp), if_neg (by simp), if_pos hl])
       have hg : (((l.length : Nat) : Int) != ((ks.length : Nat) : Int)) = true := by simp; omega
       clear hl
       go_enter Tryz.func79, Tryz.ntmps79
       go_wp2_with (go_at_call 121; first
        | ((with_reducible refine (HC1.out).mono ?_); rintro e w1 ⟨rfl, hB1⟩; have HB1 := Lib.hid hB1; clear hB1)
        | ((with_reducible refine (HC2.out _ HB1.out).mono ?_); rintro e w2 ⟨rfl, hB2⟩; have HB2 := Lib.hid (HB1.out.trans (hB2.mono HB1.out.size)); clear hB2))
       go_ret
       exact ⟨by rw [HR.out]; rfl, HB2.out⟩
   · have HR : Hid (r = b) := Lib.hid (by rw [HE.out, if_neg (by simp), if_pos hb])
     have hb1 : (b == 0) = false := by simpa using hb
     clear hb
     go_enter Tryz.func79, Tryz.ntmps79
     go_wp2_with (go_at_call 121; first
      | ((with_reducible refine (HC1.out).mono ?_); rintro e w1 ⟨rfl, hB1⟩; have HB1 := Lib.hid hB1; clear hB1)
      | ((with_reducible refine (HC2.out _ HB1.out).mono ?_); rintro e w2 ⟨rfl, hB2⟩; have HB2 := Lib.hid (HB1.out.trans (hB2.mono HB1.out.size)); clear hB2))
     go_ret
     exact ⟨by rw [HR.out]; rfl, HB2.out⟩
 · have HR : Hid (r = a) := Lib.hid (by rw [HE.out, if_pos ha])
   have ha1 : (a == 0) = false := by simpa using ha
   clear ha
   go_enter Tryz.func79, Tryz.ntmps79
   go_wp2_with (go_at_call 121; ((with_reducible refine (HC1.out).mono ?_); rintro e w1 ⟨rfl, hB1⟩; have HB1 := Lib.hid hB1; clear hB1))
   go_ret
   exact ⟨by rw [HR.out]; rfl, HB1.out⟩
theorem plc_at {W : World} {base n cap : Nat} {A : Option Addr} {o : List Nat} (h : Kd.R (Kd.int .i64) 3 W base (fun _ => True) (.slice A n cap) (ni o)) (j : Nat) (hj : j < n) : ∃ ad, A = some ad ∧ W.cell? (ad.add j) = some (.int .i64 ((o.getD j 0 : Nat) : Int)) := by
 obtain ⟨hl, _, hC⟩ := Kd.R_reads' h
 obtain ⟨ad, ha, hx⟩ := Kd.at_int hC (j : Int) (by omega) (by omega)
 refine ⟨ad, ha, ?_⟩
 rw [Int.toNat_natCast] at hx
 rw [hx, ← ni_getD]
 show some (Value.int .i64 ((ni o).getD (j : Int).toNat 0)) = _
 rw [Int.toNat_natCast]
set_option maxHeartbeats 4000000 in
theorem rsortBy_any (l ks : List V) (A B : Option Addr) (c d : Nat) (w : World) (hA : k28.C w A l.length l) (hB : k28.C w B ks.length ks) (hO : ∀ x ∈ l, OkV x) (hO2 : ∀ x ∈ ks, OkV x) (h1 : ks.length ≤ 1048576) :
 Calls Tryz.prog 38 #[.slice A l.length c, .slice B ks.length d] w (SortDone l ks w) := by
 have hask := rask_any l ks A B c d w hA hB hO hO2
 by_cases h0 : lask l ks = 0
 · obtain ⟨hN1, hN2, hlen⟩ := lask_zero h0
   rw [h0] at hask
   have HASK := Lib.hid hask
   have HPL : Hid (∀ W, Below w.heap.size w W → Calls Tryz.prog 80 #[.slice B ks.length d] W (PlacesPost ks W)) := Lib.hid (fun W hW => places_any ks B d W (Kd.C_below hB hW) hN2 h1)
   have HPP : Hid (∀ (v : Value) (ys : List V) (W : World) (b : Nat), w.heap.size ≤ b → Sorted ks l ys → k28.R 28 W b (fun _ => True) v ys → Below w.heap.size w W → SortDone l ks w (.returned (.tuple #[v, .int .i64 0])) W) := Lib.hid (fun v ys W b hb h2 h3 h4 => ⟨.inr ⟨h0, v, ys, rfl, h2, Kd.R_lower h3 hb⟩, h4⟩)
   have HA := Lib.hid hA
   have HO := Lib.hid hO
   obtain ⟨n, hn⟩ : ∃ n, n = ks.length := ⟨_, rfl⟩
   have hln : l.length = n := by omega
   have HN := Lib.hid hn
   have HLN := Lib.hid hln
   rw [← hn] at HPL h1
   rw [hln, ← hn] at HASK
   rw [← hn, hln]
   clear hask hA hB hO hO2 hN1 hN2 hlen h0 hn hln
   go_enter Tryz.func38, Tryz.ntmps38
   go_wp2_with (first
    | (go_at_call 79; (with_reducible refine (HASK.out).mono ?_); rintro e w1 ⟨rfl, hB1⟩; have HB1 := Lib.hid hB1; clear hB1)
    | (go_at_call 80; (with_reducible refine (HPL.out _ HB1.out).mono ?_); rintro e w2 ⟨v2, o, rfl, hP, hR2, hB2⟩; obtain ⟨A2, c2, rfl⟩ := Kd.R_slice hR2; have HB2 := Lib.hid (HB1.out.trans (hB2.mono HB1.out.size)); rw [ni_len, hP.len, ← HN.out] at hR2 ⊢; rw [← HN.out] at hP; have HP := Lib.hid hP; have HR2 := Lib.hid hR2; clear hB2 hP hR2))
   obtain ⟨ys, hys⟩ : ∃ ys, ys = o.map fun j => rd_T28 l ((j : Nat) : Int) := ⟨_, rfl⟩
   have HS : Hid (Sorted ks l ys) := Lib.hid (by rw [hys]; exact Plc.sorted (by rw [← HN.out]; exact HP.out))
   have HYL : Hid (ys.length = n) := Lib.hid (by rw [hys, List.length_map, HP.out.len])
   have HYK : Hid (∀ k, k < n → o.getD k 0 < n ∧ ys.take k ++ [rd_T28 l ((o.getD k 0 : Nat) : Int)] = ys.take (k + 1)) := Lib.hid (fun k hk => by
    have hko : k < o.length := by rw [HP.out.len]; exact hk
    have e : o.getD k 0 = o[k] := by rw [List.getD_eq_getElem?_getD, List.getElem?_eq_getElem hko]; rfl
    refine ⟨by rw [e]; exact HP.out.lt _ (List.getElem_mem hko), ?_⟩
    rw [List.take_succ_eq_append_getElem (by rw [HYL.out]; exact hk), e]
    subst hys
    rw [List.getElem_map])
   clear hys
   go_loopw [7, 9] (fun vo vi wr => ∃ k : Nat, k ≤ n ∧ vi = .int .i64 k ∧ Hid (k28.R 28 wr w2.heap.size (fun _ => True) vo (ys.take k)) ∧ Hid (Below w2.heap.size w2 wr)) (fun _ vi _ => n - (intOf vi).toNat)
   case atStart => exact ⟨0, Nat.zero_le _, rfl, Lib.hid (by rw [List.take_zero]; exact Kd.R_nil _ _ _ _ _), Lib.hid (Below.refl _ _)⟩
   case round =>
    obtain ⟨k, hk, rfl, HR, HB⟩ := hrel
    have HBW := Lib.hid (HB2.out.trans (HB.out.mono HB2.out.size))
    have hsz := HB.out.size
    by_cases hlt : k < n
    · obtain ⟨y, hy⟩ : ∃ y, y = o.getD k 0 := ⟨_, rfl⟩
      obtain ⟨hyn, hk1⟩ := HYK.out k hlt
      rw [← hy] at hyn hk1
      obtain ⟨bd, rfl, hcy⟩ := plc_at (Kd.R_below HR2.out HB.out) k hlt
      rw [← hy] at hcy
      obtain ⟨ad, a0, a1, a2, a3, a4, a5, a6, rfl, hKa, p0, p1, p2, p3, p4, p5, p6⟩ := at_V HA.out HBW.out y (by rw [HLN.out]; omega)
      have HC := Lib.hid (Own_any _ [a0, a1, a2, a3, a4, a5, a6] wr (k28.K_below HBW.out hKa) (HO.out _ (rd_mem (by rw [HLN.out]; omega))))
      have hyn2 : (y : Int) < (n : Int) := by omega
      have hy0 : (0 : Int) ≤ (y : Int) := by omega
      have HK1 := Lib.hid hk1
      have HTL : Hid ((ys.take k).length ≤ 1048576) := Lib.hid (by rw [List.length_take]; omega)
      clear hKa hk1 hy
      go_wp2_with (first
       | (go_at_call 52; refine HC.out.mono ?_; rintro e w5 ⟨cs5, rfl, hM5, hB5⟩; have hMF := M_for HR.out hM5 hsz; have hR5 := Kd.R_below HR.out hB5; have hsz5 : w2.heap.size ≤ w5.heap.size := Nat.le_trans hsz hB5.size; obtain ⟨v2, v5, v6, rfl, r2, r5, r6⟩ := k28_openM hM5; obtain ⟨E2, s2, rfl⟩ := Kd.R_slice r2; obtain ⟨E5, s5, rfl⟩ := Kd.R_slice r5; obtain ⟨E6, s6, rfl⟩ := Kd.R_slice r6)
       | (at_builtin; refine Kd.R_append k28 (w0 := w5) w2.heap.size rfl (.tmp 24) (.tmp 33) 25 28 (.agg #[.int .i64 0, .bool false, .slice none 0 0, .int .i64 0, .string ⟨#[]⟩, .slice none 0 0, .slice none 0 0]) 112 rfl Tryz.underlying25 infoV_ rfl (by decide) (by omega) _ _ _ _ (fun _ => True) _ rfl rfl hMF (fun _ hk => hk) (fun _ _ => trivial) hR5 (Below.refl _ _) hsz5 (by have := HTL.out; omega) ?_; intro v1 w7 hR7 hB7 hg7 hat7; rw [HK1.out] at hR7; have HR7 := Lib.hid hR7; have HB8 := Lib.hid (HB.out.trans ((hB5.mono hsz).trans hB7)); clear hR7 hB7 hg7 hat7 hMF hM5 hB5 r2 r5 r6 hR5 hsz5))
      go_roundw
      case rel => exact ⟨k + 1, hlt, by go_num, HR7, HB8⟩
      case measure => simp [intOf]; omega
    · obtain rfl : k = n := by omega
      have hr := HR.out
      rw [List.take_of_length_le (by rw [HYL.out]; exact Nat.le_refl _)] at hr
      clear HR
      go_wp2
      go_ret2
      exact HPP.out _ ys _ _ HB2.out.size HS.out hr HBW.out
 · have HASK := Lib.hid hask
   have HPP : Hid (∀ W, Below w.heap.size w W → SortDone l ks w (.returned (.tuple #[.slice none 0 0, .int .i64 (lask l ks)])) W) := Lib.hid (fun W h4 => ⟨.inl ⟨h0, rfl⟩, h4⟩)
   generalize lask l ks = r at *
   have hr0 : (r != 0) = true := by simp [h0]
   have hr1 : (r == 0) = false := by simp [h0]
   clear hask hA hB hO hO2
   go_enter Tryz.func38, Tryz.ntmps38
   go_wp2_with (go_at_call 79; (with_reducible refine (HASK.out).mono ?_); rintro e w1 ⟨rfl, hB1⟩; have HB1 := Lib.hid hB1; clear hB1)
   go_ret2
   exact HPP.out _ HB1.out
theorem rsort_any (l : List V) (A : Option Addr) (c : Nat) (w : World) (hA : k28.C w A l.length l) (hO : ∀ x ∈ l, OkV x) (h1 : l.length ≤ 1048576) :
 Calls Tryz.prog 34 #[.slice A l.length c] w (SortDone l l w) := by
 have HS := Lib.hid (rsortBy_any l l A A c c w hA hA hO hO h1)
 clear hA hO
 go_enter Tryz.func34, Tryz.ntmps34
 go_wp2_with (go_at_call 38; (with_reducible refine (HS.out).mono ?_); rintro e w1 ⟨(⟨h0, rfl⟩ | ⟨h0, v, ys, rfl, hs, hr⟩), hB⟩)
 · go_ret2
   exact ⟨.inl ⟨h0, rfl⟩, hB⟩
 · go_ret2
   exact ⟨.inr ⟨h0, v, ys, rfl, hs, hr⟩, hB⟩
end Go.Proofs.YthigbklhngihkaaGreatDoor.P

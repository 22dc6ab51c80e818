/- Texts of this claim, one behind the other. -/
import Derived.Test.YtmfpakolfpoamaaGreatDoorMOrderGroupsj
import Derived.Test.YtmfpakolfpoamaaGreatDoorMOrderGroupsl
import Derived.Lib.Hide
namespace Go.Proofs.YtmfpakolfpoamaaGreatDoor.P
set_option linter.unusedVariables false
set_option linter.unusedSimpArgs false
open Go.RowKit Go.Proofs.YtmfpakolfpoamaaGreatDoorW.PrintWords Go.Proofs.YtmfpakolfpoamaaGreatDoorW.PrintMore Go.Proofs.YtmfpakolfpoamaaGreatDoorW.PrintLast
theorem infoI_ : (Tryz.prog.info? 3).map (fun i => (i.zero, i.size, i.bytes)) = some (some (.int .i64 0), (Kd.int .i64).sz, 8) := by kernel_rfl
theorem dval_snoc (o : List Int) (x : Int) : dval (o ++ [x]) = dval o + 10 ^ o.length * x.toNat := by rw [dval_app]; simp [dval]
def TimesTo (T b : Nat) (rest : List Int) (o : List Int) (mo : Nat) : Prop := okD o ∧ dval o + 10 ^ o.length * (mo + b * dval rest) = T
theorem TimesTo.step {T b : Nat} {x : Int} {rest o : List Int} {mo : Nat} (h : TimesTo T b (x :: rest) o mo) (hx : 0 ≤ x) : TimesTo T b rest (o ++ [(((mo + b * x.toNat) % 10 : Nat) : Int)]) ((mo + b * x.toNat) / 10) := by
 obtain ⟨h1, h2⟩ := h
 refine ⟨okD_app.2 ⟨h1, fun y hy => by rw [List.mem_singleton.1 hy]; omega⟩, ?_⟩
 rw [dval_snoc, List.length_append, List.length_singleton, Nat.pow_succ, ← h2, dval, Int.toNat_natCast, Nat.mul_add b, ← Nat.add_assoc, Nat.mul_left_comm b 10]
 generalize mo + b * x.toNat = s
 generalize b * dval rest = q
 have : s + 10 * q = s % 10 + 10 * (s / 10 + q) := by omega
 rw [this, Nat.mul_add (10 ^ o.length), Nat.mul_assoc (10 ^ o.length) 10]
 omega
theorem TimesTo.more {T b : Nat} {o : List Int} {mo : Nat} (h : TimesTo T b [] o mo) : TimesTo T b [] (o ++ [((mo % 10 : Nat) : Int)]) (mo / 10) := by
 obtain ⟨h1, h2⟩ := h
 refine ⟨okD_app.2 ⟨h1, fun y hy => by rw [List.mem_singleton.1 hy]; omega⟩, ?_⟩
 rw [dval_snoc, List.length_append, List.length_singleton, Nat.pow_succ, ← h2, Int.toNat_natCast]
 simp only [dval, Nat.mul_zero, Nat.add_zero]
 have : mo = mo % 10 + 10 * (mo / 10) := by omega
 generalize hq : mo / 10 = q at *
 generalize hr : mo % 10 = r at *
 rw [this, Nat.mul_add (10 ^ o.length), Nat.mul_assoc (10 ^ o.length) 10]
 omega
def LastOk (o : List Int) : Prop := ∀ h : o ≠ [], o.getLast h ≠ 0
theorem TimesTo.done {T b : Nat} {o : List Int} (h : TimesTo T b [] o 0) (hl : LastOk o) : o = decs T := by
 obtain ⟨h1, h2⟩ := h
 simp only [dval, Nat.mul_zero, Nat.add_zero] at h2
 have := dcanon_of_last h1 hl
 rw [← h2]
 exact this.symm
theorem lastOk_snoc {o : List Int} {x : Int} (h : x ≠ 0) : LastOk (o ++ [x]) := fun hn => by rw [List.getLast_concat]; exact h
theorem times_mid {m b more : Nat} {o : List Int} {mo : Nat} (hb : 10 ≤ b) (h : TimesTo (m * b + more) b [] o mo) (ho : o.length = (decs m).length) : 0 < mo ∨ LastOk o := by
 obtain ⟨h1, h2⟩ := h
 simp only [dval, Nat.mul_zero, Nat.add_zero] at h2
 by_cases h0 : decs m = []
 · right
   rw [h0] at ho
   have : o = [] := List.eq_nil_of_length_eq_zero ho
   intro hn
   exact absurd this hn
 · left
   have hlt := dval_lt h1
   have hge := dcanon_ge (dcanon_decs m) h0
   rw [dval_decs] at hge
   rcases Nat.eq_zero_or_pos mo with hz | hz
   · rw [hz, Nat.mul_zero, Nat.add_zero] at h2
     rw [ho] at hlt
     have hpos : 0 < (decs m).length := List.length_pos_iff.2 h0
     have : 10 ^ (decs m).length = 10 ^ ((decs m).length - 1) * 10 := by rw [← Nat.pow_succ]; congr 1; omega
     have h3 : 10 ^ ((decs m).length - 1) * 10 ≤ m * b := Nat.mul_le_mul hge hb
     omega
   · exact hz
set_option maxHeartbeats 4000000 in
set_option maxRecDepth 100000 in
theorem times_any (m more : Nat) (b : Int) (A : Option Addr) (c : Nat) (w : World) (hC : Kd.C (Kd.int .i64) w A (decs m).length (decs m)) (hl : (decs m).length ≤ 1048576) (hb : b = 4294967296) (hm : more < 4294967296) :
 Calls Tryz.prog 121 #[.slice A (decs m).length c, .int .i64 b, .int .i64 more] w fun e w' => ∃ v : Value, e = .returned v ∧ Kd.R (Kd.int .i64) 3 w' w.heap.size (fun _ => True) v (decs (m * 4294967296 + more)) ∧ Below w.heap.size w w' := by
 have hlenT : (decs (m * 4294967296 + more)).length ≤ (decs m).length + 10 := decs_len (by
  have h1 := dval_lt (okD_decs m)
  rw [dval_decs] at h1
  rw [Nat.pow_add]
  have h2 : (m + 1) * 4294967296 ≤ 10 ^ (decs m).length * 4294967296 := Nat.mul_le_mul_right _ h1
  have h3 : 10 ^ (decs m).length * 4294967296 ≤ 10 ^ (decs m).length * 10 ^ 10 := Nat.mul_le_mul_left _ (by decide)
  omega)
 obtain ⟨T, hT⟩ : ∃ T, T = m * 4294967296 + more := ⟨_, rfl⟩
 obtain ⟨ds, hds⟩ : ∃ ds, ds = decs m := ⟨_, rfl⟩
 obtain ⟨n, hn⟩ : ∃ n, n = ds.length := ⟨_, rfl⟩
 have h0 : TimesTo T 4294967296 ds [] more := ⟨okD_nil, by rw [hT, hds, dval_decs]; simp [dval]; omega⟩
 have HMID : Hid (∀ o mo, TimesTo T 4294967296 [] o mo → o.length = n → 0 < mo ∨ LastOk o) := Lib.hid (fun o mo h ho => times_mid (m := m) (b := 4294967296) (more := more) (by decide) (by rw [← hT]; exact h) (by rw [ho, hn, hds]))
 rw [← hT]
 have HOK : Hid (okD ds) := Lib.hid (by rw [hds]; exact okD_decs m)
 rw [← hds] at hC hl hlenT
 rw [← hds, ← hn]
 rw [← hn] at hC hl hlenT
 rw [← hT] at hlenT
 have HC := Lib.hid hC
 have HN := Lib.hid hn
 have HB := Lib.hid hb
 have H0 := Lib.hid h0
 have HM := Lib.hid hm
 have HLT := Lib.hid hlenT
 have hmc : (0 : Int) ≤ (more : Int) := by omega
 clear hC hn hb h0 hm hlenT hT hds
 go_enter Tryz.func121, Tryz.ntmps121
 go_wp2
 go_loopw [2, 7, 8] (fun vm vo vi wr => ∃ (i mo : Nat) (o : List Int) (G : Option Addr) (cap : Nat), i ≤ n ∧ vi = .int .i64 i ∧ vm = .int .i64 mo ∧ vo = .slice G i cap ∧ Hid (o.length = i ∧ mo ≤ 4294967296 ∧ TimesTo T 4294967296 (ds.drop i) o mo) ∧ Hid (Kd.R (Kd.int .i64) 3 wr w.heap.size (fun _ => True) (.slice G i cap) o ∧ Below w.heap.size w wr)) (fun vm vo vi _ => n - (intOf vi).toNat)
 case atStart => exact ⟨0, more, [], none, 0, Nat.zero_le _, rfl, rfl, rfl, Lib.hid ⟨rfl, Nat.le_of_lt HM.out, by rw [List.drop_zero]; exact H0.out⟩, Lib.hid ⟨Kd.R_nil _ _ _ _ _, Below.refl _ _⟩⟩
 case round =>
  obtain ⟨i, mo, o, G, cap, hi, rfl, rfl, rfl, HT, HR⟩ := hrel
  by_cases hlt : i < n
  · have hlt2 : (i : Int) < (n : Int) := by omega
    obtain ⟨ad, rfl, hx⟩ := Kd.at_int (Kd.C_below HC.out HR.out.2) (i : Int) (by omega) (by omega)
    rw [Int.toNat_natCast] at hx
    obtain ⟨x, hxe⟩ : ∃ x, x = rd ds (i : Int) := ⟨_, rfl⟩
    have hxd : ds.drop i = x :: ds.drop (i + 1) := by
     rw [List.drop_eq_getElem_cons (by rw [← HN.out]; exact hlt), hxe]
     unfold rd
     rw [Int.toNat_natCast, List.getD_eq_getElem?_getD, List.getElem?_eq_getElem (by rw [← HN.out]; exact hlt)]
     rfl
    have hxr : 0 ≤ x ∧ x < 10 := HOK.out x (List.mem_of_mem_drop (by rw [hxd]; exact List.mem_cons_self))
    rw [← hxe] at hx
    obtain ⟨s, hs⟩ : ∃ s : Nat, s = mo + 4294967296 * x.toNat := ⟨_, rfl⟩
    have HST : Hid ((o ++ [(s : Int) % 10]).length = i + 1 ∧ s / 10 ≤ 4294967296 ∧ TimesTo T 4294967296 (ds.drop (i + 1)) (o ++ [(s : Int) % 10]) (s / 10)) := Lib.hid (by
     obtain ⟨h1, h2, h3⟩ := HT.out
     rw [hxd] at h3
     have h4 := h3.step hxr.1
     rw [← hs, show ((s % 10 : Nat) : Int) = (s : Int) % 10 by omega] at h4
     exact ⟨by simp [h1], by omega, h4⟩)
    have e1 : wrap64 (x * b) = x * b := by rw [HB.out]; unfold wrap64; omega
    have e2 : wrap64 ((mo : Int) + x * b) = (s : Int) := by have := HT.out.2.1; rw [HB.out, hs]; unfold wrap64; omega
    have hs0 : (0 : Int) ≤ (s : Int) := by omega
    have HE3 : Hid (wrap64 ((s : Int) / 10) = ((s / 10 : Nat) : Int)) := Lib.hid (by have := HST.out.2.1; unfold wrap64; omega)
    have HSZ : Hid (w.heap.size ≤ wr.heap.size) := Lib.hid HR.out.2.size
    have hol : o.length ≤ 1048576 := by rw [HT.out.1]; omega
    clear hxe hxd hxr hs
    go_wp2_with (at_builtin; refine Kd.R_append (Kd.int .i64) (w0 := w) w.heap.size rfl (.tmp 23) (.tmp 26) 40 3 (.int .i64 0) 8 rfl Tryz.underlying40 infoI_ rfl (by decide) (by decide) (.slice G i cap) o _ _ (fun _ => True) (fun _ => False) rfl rfl rfl (fun _ h => h.elim) (fun _ _ => trivial) HR.out.1 HR.out.2 HSZ.out (by omega) ?_; intro v1 w7 hR7 hB7 hg7 hat7)
    obtain ⟨G7, cap7, rfl⟩ := Kd.R_slice hR7
    have hl7 : (o ++ [(s : Int) % 10]).length = i + 1 := by rw [List.length_append, HT.out.1]; rfl
    rw [hl7] at hR7
    have HR7 := Lib.hid (And.intro hR7 hB7)
    clear hR7 hB7 hg7 hat7 hol e1 e2
    go_roundw
    case rel => exact ⟨i + 1, s / 10, o ++ [(s : Int) % 10], G7, cap7, hlt, by go_num, congrArg (Value.int .i64) HE3.out, by rw [← hl7, List.length_append], HST, HR7⟩
    case measure => simp [intOf]; omega
  · obtain rfl : i = n := by omega
    have hlt2 : ¬ (i : Int) < (i : Int) := by omega
    have HT2 : Hid (mo ≤ 4294967296 ∧ TimesTo T 4294967296 [] o mo ∧ (0 < mo ∨ LastOk o)) := Lib.hid (by
     obtain ⟨h1, h2, h3⟩ := HT.out
     rw [HN.out, List.drop_length] at h3
     exact ⟨h2, h3, HMID.out o mo h3 h1⟩)
    have HLO := Lib.hid HT.out.1
    clear HT
    go_wp2
    go_loopw [2, 7] (fun vm vo w3 => ∃ (mo : Nat) (o : List Int) (G : Option Addr) (cap : Nat), vm = .int .i64 mo ∧ vo = .slice G o.length cap ∧ Hid (mo ≤ 4294967296 ∧ TimesTo T 4294967296 [] o mo ∧ (0 < mo ∨ LastOk o)) ∧ Hid (Kd.R (Kd.int .i64) 3 w3 w.heap.size (fun _ => True) (.slice G o.length cap) o ∧ Below w.heap.size w w3)) (fun vm vo _ => (intOf vm).toNat)
    case atStart => exact ⟨mo, o, G, cap, rfl, by rw [HLO.out], HT2, Lib.hid (by rw [HLO.out]; exact HR.out)⟩
    case round =>
     clear HR HT2 HLO
     obtain ⟨mo, o, G, cap, rfl, rfl, HT, HR⟩ := hrel
     have hm0 : (0 : Int) ≤ (mo : Int) := by omega
     by_cases hz : mo = 0
     · subst hz
       have hzz : ¬ (0 : Int) < ((0 : Nat) : Int) := by omega
       have HD : Hid (o = decs T) := Lib.hid (HT.out.2.1.done (HT.out.2.2.resolve_left (by omega)))
       go_wp2
       go_ret
       exact ⟨_, rfl, by rw [← HD.out]; exact HR.out.1, HR.out.2⟩
     · have hzz : (0 : Int) < (mo : Int) := by omega
       have HST : Hid (mo / 10 ≤ 4294967296 ∧ TimesTo T 4294967296 [] (o ++ [(mo : Int) % 10]) (mo / 10) ∧ (0 < mo / 10 ∨ LastOk (o ++ [(mo : Int) % 10]))) := Lib.hid (by
        obtain ⟨h1, h2, h3⟩ := HT.out
        have h4 := h2.more
        rw [show ((mo % 10 : Nat) : Int) = (mo : Int) % 10 by omega] at h4
        refine ⟨by omega, h4, ?_⟩
        by_cases h5 : 0 < mo / 10
        · exact .inl h5
        · exact .inr (lastOk_snoc (by omega)))
       have HE3 : Hid (wrap64 ((mo : Int) / 10) = ((mo / 10 : Nat) : Int)) := Lib.hid (by have := HT.out.1; unfold wrap64; omega)
       have hol : o.length ≤ 1048586 := by
        have h1 := HT.out.2.1.1
        have h2 := HT.out.2.1.2
        simp only [dval, Nat.mul_zero, Nat.add_zero] at h2
        have h3 : 10 ^ o.length ≤ T := by
         have : 10 ^ o.length * 1 ≤ 10 ^ o.length * mo := Nat.mul_le_mul_left _ (by omega)
         omega
        have h4 := HLT.out
        have h5 := dval_lt (okD_decs T)
        rw [dval_decs] at h5
        have h6 : 10 ^ o.length < 10 ^ (decs T).length := Nat.lt_of_le_of_lt h3 h5
        have h7 := (Nat.pow_lt_pow_iff_right (by decide : 1 < 10)).1 h6
        omega
       have HSZ : Hid (w.heap.size ≤ wr.heap.size) := Lib.hid HR.out.2.size
       clear hz
       go_wp2_with (at_builtin; refine Kd.R_append (Kd.int .i64) (w0 := w) w.heap.size rfl (.tmp 32) (.tmp 35) 40 3 (.int .i64 0) 8 rfl Tryz.underlying40 infoI_ rfl (by decide) (by decide) (.slice G o.length cap) o _ _ (fun _ => True) (fun _ => False) rfl rfl rfl (fun _ h => h.elim) (fun _ _ => trivial) HR.out.1 HR.out.2 HSZ.out (by omega) ?_; intro v1 w7 hR7 hB7 hg7 hat7)
       obtain ⟨G7, cap7, rfl⟩ := Kd.R_slice hR7
       have HR7 := Lib.hid (And.intro hR7 hB7)
       clear hR7 hB7 hg7 hat7 hol
       have hmd : mo / 10 < mo := by omega
       go_roundw
       case rel => exact ⟨mo / 10, o ++ [(mo : Int) % 10], G7, cap7, congrArg (Value.int .i64) HE3.out, by rw [List.length_append], HST, HR7⟩
       case measure => rw [HE3.out]; exact hmd
theorem val_drop {a : List Int} {k : Nat} (h : k < a.length) : val (a.drop k) = (rd a (k : Int)).toNat + 4294967296 * val (a.drop (k + 1)) := by
 rw [List.drop_eq_getElem_cons h, val]
 unfold rd
 rw [Int.toNat_natCast, List.getD_eq_getElem?_getD, List.getElem?_eq_getElem h]
 rfl
set_option maxHeartbeats 2000000 in
set_option maxRecDepth 100000 in
theorem Digits_any (a : List Int) (A : Option Addr) (c : Nat) (w : World) (hC : Kd.C (Kd.int .u32) w A a.length a) (hl : a.length ≤ 256) (hok : okL a) :
 Calls Tryz.prog 98 #[.slice A a.length c] w fun e w' => ∃ v : Value, e = .returned v ∧ Kd.R (Kd.int .i64) 3 w' w.heap.size (fun _ => True) v (decs (val a)) ∧ Below w.heap.size w w' := by
 obtain ⟨n, hn⟩ : ∃ n, n = a.length := ⟨_, rfl⟩
 have HL : Hid (∀ k, (decs (val (a.drop k))).length ≤ 1048576) := Lib.hid (fun k => Nat.le_trans (decs_256 (fun x hx => hok x (List.mem_of_mem_drop hx)) (by rw [List.length_drop]; omega)) (by decide))
 have HC := Lib.hid hC
 have HN := Lib.hid hn
 have HOK := Lib.hid hok
 rw [← hn]
 rw [← hn] at hl HC
 clear hC hn hok
 go_enter Tryz.func98, Tryz.ntmps98
 go_wp2
 go_loopw [3, 4] (fun vd vi wr => ∃ (k m : Nat) (G : Option Addr) (cap : Nat), k ≤ n ∧ vi = .int .i64 ((k : Int) - 1) ∧ vd = .slice G m cap ∧ Hid (m = (decs (val (a.drop k))).length ∧ Kd.R (Kd.int .i64) 3 wr w.heap.size (fun _ => True) (.slice G m cap) (decs (val (a.drop k))) ∧ Below w.heap.size w wr)) (fun vd vi _ => (intOf vi + 1).toNat)
 case atStart => exact ⟨n, 0, none, 0, Nat.le_refl _, rfl, rfl, Lib.hid (by rw [HN.out, List.drop_length, val, decs_zero]; exact ⟨rfl, Kd.R_nil _ _ _ _ _, Below.refl _ _⟩)⟩
 case round =>
  obtain ⟨k, m, G, cap, hk, rfl, rfl, HR⟩ := hrel
  by_cases hz : k = 0
  · subst hz
    go_wp2
    go_ret
    exact ⟨_, rfl, by have := HR.out.2.1; rw [List.drop_zero] at this; exact this, HR.out.2.2⟩
  · obtain ⟨j, rfl⟩ : ∃ j, k = j + 1 := ⟨k - 1, by omega⟩
    have hj1 : (((j + 1 : Nat) : Int) - 1) = (j : Int) := by omega
    rw [hj1]
    have hj0 : (0 : Int) ≤ (j : Int) := by omega
    have hjn : (j : Int) < (n : Int) := by omega
    obtain ⟨ad, rfl, hx⟩ := Kd.at_int (Kd.C_below HC.out HR.out.2.2) (j : Int) (by omega) (by omega)
    rw [Int.toNat_natCast] at hx
    have hv := val_drop (a := a) (k := j) (by rw [← HN.out]; omega)
    have hxr : 0 ≤ rd a (j : Int) ∧ rd a (j : Int) < 4294967296 := by
     have : rd a (j : Int) ∈ a := by unfold rd; rw [Int.toNat_natCast, List.getD_eq_getElem?_getD, List.getElem?_eq_getElem (by rw [← HN.out]; omega)]; exact List.getElem_mem _
     exact HOK.out _ this
    obtain ⟨x, hxe⟩ : ∃ x : Nat, rd a (j : Int) = (x : Int) := ⟨(rd a (j : Int)).toNat, by omega⟩
    rw [hxe] at hx hv hxr
    rw [Int.toNat_natCast] at hv
    have HT : Hid (Calls Tryz.prog 121 #[.slice G m cap, .int .i64 4294967296, .int .i64 x] wr fun e w' => ∃ v : Value, e = .returned v ∧ Kd.R (Kd.int .i64) 3 w' wr.heap.size (fun _ => True) v (decs (val (a.drop j))) ∧ Below wr.heap.size wr w') := Lib.hid (by
     obtain ⟨h1, h2, h3⟩ := HR.out
     subst h1
     have ht := times_any (val (a.drop (j + 1))) x 4294967296 G cap wr (Kd.R_reads' h2).2.2 (HL.out _) rfl (by omega)
     rw [show val (a.drop (j + 1)) * 4294967296 + x = val (a.drop j) by omega] at ht
     exact ht)
    have e1 : wrap64 (x : Int) = (x : Int) := by unfold wrap64; omega
    have hx0 : (0 : Int) ≤ (x : Int) := by omega
    have HXR := Lib.hid hxr
    clear hxe hv hxr hj1 hz
    go_wp2_with (go_at_call 121; (with_reducible refine (HT.out).mono ?_); rintro e w2 ⟨v2, rfl, hR2, hB2⟩; obtain ⟨G2, cap2, rfl⟩ := Kd.R_slice hR2; have HR2 : Hid (_ ∧ _) := Lib.hid (And.intro (Kd.R_lower hR2 HR.out.2.2.size) (HR.out.2.2.trans (hB2.mono HR.out.2.2.size))); clear hR2 hB2)
    go_roundw
    case rel => exact ⟨j, _, G2, cap2, by omega, by go_num, rfl, Lib.hid ⟨rfl, HR2.out.1, HR2.out.2⟩⟩
    case measure => simp [intOf]
set_option maxHeartbeats 2000000 in
set_option maxRecDepth 100000 in
theorem Trim_any (d : List Int) (A : Option Addr) (c : Nat) (w : World) (hC : Kd.C (Kd.int .i64) w A d.length d) (hc : d.length ≤ c) (hl : d.length ≤ 1048576) (hok : okD d) :
 Calls Tryz.prog 107 #[.slice A d.length c] w fun e w' => e = .returned (.slice A (decs (dval d)).length c) ∧ w' = w ∧ d.take (decs (dval d)).length = decs (dval d) ∧ (decs (dval d)).length ≤ d.length := by
 have HTK := fun (j : Nat) (hj : j ≤ d.length) => (print_take_int (P := Tryz.prog) (k := .i64) 40 3 Tryz.underlying40 (i := (Tryz.prog.info? 3).get (by kernel_rfl)) (by kernel_rfl) (by kernel_rfl) A c d (j : Int) (by omega) (by omega) hc).1
 obtain ⟨n, hn⟩ : ∃ n, n = d.length := ⟨_, rfl⟩
 have HD : Hid (∀ m, m ≤ n → dval (d.take m) = dval d → (m = 0 ∨ d.getD (m - 1) 0 ≠ 0) → d.take m = decs (dval d)) := Lib.hid (fun m hm h1 h2 => dtrim_done hok (by omega) h1 h2)
 have HTS : Hid (∀ m, m + 1 ≤ n → dval (d.take (m + 1)) = dval d → d.getD m 0 = 0 → dval (d.take m) = dval d) := Lib.hid (fun m hm h1 h2 => dtrim_step (by omega) h1 h2)
 have HT2 : Hid (∀ (j : Nat), j ≤ n → ∀ W : World, (Instr.slice 40 (.slice A n c) none (some (.int .i64 (j : Int))) none).run Tryz.prog W = .ok (.slice A j c) W) := Lib.hid (fun j hj W => by
  have := HTK j (by omega) W
  rw [Int.toNat_natCast, List.length_take, Nat.min_eq_left (by omega), ← hn] at this
  exact this)
 have HC := Lib.hid hC
 have HN := Lib.hid hn
 rw [← hn]
 rw [← hn] at hc hl HC
 clear hC hn hok HTK
 go_enter Tryz.func107, Tryz.ntmps107
 go_wp2
 go_loopw [3] (fun vi wr => ∃ m : Nat, m ≤ n ∧ vi = .int .i64 m ∧ Hid (dval (d.take m) = dval d) ∧ wr = w) (fun vi _ => (intOf vi).toNat)
 case atStart => exact ⟨n, Nat.le_refl _, rfl, Lib.hid (by rw [HN.out, List.take_length]), rfl⟩
 case round =>
  obtain ⟨m, hm, rfl, HV, rfl⟩ := hrel
  by_cases hz : m = 0
  · subst hz
    have hzz : ¬ (0 : Int) < ((0 : Nat) : Int) := by omega
    have hcut := HT2.out 0 (by omega) wr
    have HE := Lib.hid (HD.out 0 (by omega) HV.out (.inl rfl))
    have hlen : (decs (dval d)).length = 0 := by rw [← HE.out]; rfl
    have HLN := Lib.hid hlen
    clear hlen
    go_wp2
    go_ret
    exact ⟨by rw [HLN.out]; rfl, rfl, by rw [HLN.out, ← HE.out], by rw [HLN.out]; omega⟩
  · obtain ⟨j, rfl⟩ : ∃ j, m = j + 1 := ⟨m - 1, by omega⟩
    have hzz : (0 : Int) < ((j + 1 : Nat) : Int) := by omega
    have hjj : (((j + 1 : Nat) : Int) - 1) = (j : Int) := by omega
    have hj0 : (0 : Int) ≤ (j : Int) := by omega
    have hjn : (j : Int) < (n : Int) := by omega
    obtain ⟨ad, rfl, hx⟩ := Kd.at_int HC.out (j : Int) (by omega) (by omega)
    rw [Int.toNat_natCast] at hx
    have hxe : rd d (j : Int) = d.getD j 0 := by unfold rd; rw [Int.toNat_natCast]
    obtain ⟨x, hxx⟩ : ∃ x, x = d.getD j 0 := ⟨_, rfl⟩
    rw [hxe, ← hxx] at hx
    by_cases h0 : x = 0
    · have hb0 : (x == 0) = true := by simp [h0]
      have HV2 := Lib.hid (HTS.out j hm HV.out (by rw [← hxx]; exact h0))
      clear hxe hxx h0 hz
      go_wp2
      go_roundw
      case rel => exact ⟨j, by omega, by first | rfl | (congr 1; omega), HV2, by first | rfl | trivial⟩
      case measure => simp [intOf]
    · have hb0 : (x == 0) = false := by simpa using h0
      have HE := Lib.hid (HD.out (j + 1) hm HV.out (.inr (by rw [Nat.add_sub_cancel, ← hxx]; exact h0)))
      have hcut := HT2.out (j + 1) hm wr
      have HLN : Hid ((decs (dval d)).length = j + 1) := Lib.hid (by rw [← HE.out, List.length_take, ← HN.out, Nat.min_eq_left hm])
      clear hxe hxx h0 hz
      go_wp2
      go_ret
      exact ⟨by rw [HLN.out]; rfl, rfl, by rw [HLN.out]; exact HE.out, by rw [HLN.out]; exact hm⟩
set_option maxHeartbeats 4000000 in
set_option maxRecDepth 100000 in
theorem carry_any (d : List Int) (A : Option Addr) (c : Nat) (w : World) (hC : Kd.C (Kd.int .i64) w A d.length d) (hl : d.length ≤ 1000000) (hd : ∀ x ∈ d, 0 ≤ x ∧ x ≤ 18) :
 Calls Tryz.prog 106 #[.slice A d.length c] w fun e w' => ∃ v : Value, e = .returned v ∧ Kd.R (Kd.int .i64) 3 w' w.heap.size (fun _ => True) v (decs (dval d)) ∧ Below w.heap.size w w' := by
 obtain ⟨n, hn⟩ : ∃ n, n = d.length := ⟨_, rfl⟩
 obtain ⟨T, hT⟩ : ∃ T, T = dval d := ⟨_, rfl⟩
 have h0 : TimesTo T 1 d [] 0 := ⟨okD_nil, by rw [hT]; simp [dval]⟩
 rw [← hT]
 have HC := Lib.hid hC
 have HN := Lib.hid hn
 have HD := Lib.hid hd
 have H0 := Lib.hid h0
 rw [← hn]
 rw [← hn] at hl HC
 clear hC hn hd h0 hT
 go_enter Tryz.func106, Tryz.ntmps106
 go_wp2
 go_loopw [3, 4, 5] (fun vo vm vi wr => ∃ (i mo : Nat) (o : List Int) (G : Option Addr) (cap : Nat), i ≤ n ∧ vi = .int .i64 i ∧ vm = .int .i64 mo ∧ vo = .slice G i cap ∧ mo ≤ 2 ∧ Hid (o.length = i ∧ TimesTo T 1 (d.drop i) o mo) ∧ Hid (Kd.R (Kd.int .i64) 3 wr w.heap.size (fun _ => True) (.slice G i cap) o ∧ Below w.heap.size w wr)) (fun vo vm vi _ => n - (intOf vi).toNat)
 case atStart => exact ⟨0, 0, [], none, 0, Nat.zero_le _, rfl, rfl, rfl, by omega, Lib.hid ⟨rfl, by rw [List.drop_zero]; exact H0.out⟩, Lib.hid ⟨Kd.R_nil _ _ _ _ _, Below.refl _ _⟩⟩
 case round =>
  obtain ⟨i, mo, o, G, cap, hi, rfl, rfl, rfl, hmo, HT, HR⟩ := hrel
  by_cases hlt : i < n
  · have hlt2 : (i : Int) < (n : Int) := by omega
    obtain ⟨ad, rfl, hx⟩ := Kd.at_int (Kd.C_below HC.out HR.out.2) (i : Int) (by omega) (by omega)
    rw [Int.toNat_natCast] at hx
    obtain ⟨x, hxe⟩ : ∃ x, x = rd d (i : Int) := ⟨_, rfl⟩
    have hxd : d.drop i = x :: d.drop (i + 1) := by
     rw [List.drop_eq_getElem_cons (by rw [← HN.out]; exact hlt), hxe]
     unfold rd
     rw [Int.toNat_natCast, List.getD_eq_getElem?_getD, List.getElem?_eq_getElem (by rw [← HN.out]; exact hlt)]
     rfl
    have hxr : 0 ≤ x ∧ x ≤ 18 := HD.out x (List.mem_of_mem_drop (by rw [hxd]; exact List.mem_cons_self))
    rw [← hxe] at hx
    obtain ⟨x', rfl⟩ : ∃ x' : Nat, x = (x' : Int) := ⟨x.toNat, by omega⟩
    have HST : Hid ((o ++ [((mo : Int) + x') % 10]).length = i + 1 ∧ (mo + x') / 10 ≤ 2 ∧ TimesTo T 1 (d.drop (i + 1)) (o ++ [((mo : Int) + x') % 10]) ((mo + x') / 10)) := Lib.hid (by
     obtain ⟨h1, h3⟩ := HT.out
     rw [hxd] at h3
     have h4 := h3.step hxr.1
     rw [Int.toNat_natCast, Nat.one_mul, show (((mo + x') % 10 : Nat) : Int) = ((mo : Int) + x') % 10 by omega] at h4
     exact ⟨by simp [h1], by omega, h4⟩)
    have hx1 : (0 : Int) ≤ (x' : Int) := by omega
    have hx2 : (x' : Int) ≤ 18 := by omega
    have hm1 : (0 : Int) ≤ (mo : Int) := by omega
    have hm2 : (mo : Int) ≤ 2 := by omega
    have HSZ : Hid (w.heap.size ≤ wr.heap.size) := Lib.hid HR.out.2.size
    have hol : o.length ≤ 1048576 := by rw [HT.out.1]; omega
    clear hxe hxd hxr
    go_wp2_with (at_builtin; refine Kd.R_append (Kd.int .i64) (w0 := w) w.heap.size rfl (.tmp 18) (.tmp 21) 40 3 (.int .i64 0) 8 rfl Tryz.underlying40 infoI_ rfl (by decide) (by decide) (.slice G i cap) o _ _ (fun _ => True) (fun _ => False) rfl rfl rfl (fun _ h => h.elim) (fun _ _ => trivial) HR.out.1 HR.out.2 HSZ.out (by omega) ?_; intro v1 w7 hR7 hB7 hg7 hat7)
    obtain ⟨G7, cap7, rfl⟩ := Kd.R_slice hR7
    have hl7 : (o ++ [((mo : Int) + x') % 10]).length = i + 1 := HST.out.1
    rw [hl7] at hR7
    have HR7 := Lib.hid (And.intro hR7 hB7)
    clear hR7 hB7 hg7 hat7 hol
    go_roundw
    case rel => exact ⟨i + 1, (mo + x') / 10, o ++ [((mo : Int) + x') % 10], G7, cap7, hlt, by go_num, congrArg (Value.int .i64) (by omega), by rw [← hl7, List.length_append], HST.out.2.1, Lib.hid ⟨HST.out.1, HST.out.2.2⟩, HR7⟩
    case measure => simp [intOf]; omega
  · obtain rfl : i = n := by omega
    have hlt2 : ¬ (i : Int) < (i : Int) := by omega
    have HT2 : Hid (o.length ≤ 1000000 ∧ TimesTo T 1 [] o mo) := Lib.hid (by
     obtain ⟨h1, h3⟩ := HT.out
     rw [HN.out, List.drop_length] at h3
     exact ⟨by omega, h3⟩)
    have HLO := Lib.hid HT.out.1
    clear HT
    go_wp2
    go_loopw [3, 4] (fun vo vm w3 => ∃ (mo : Nat) (o : List Int) (G : Option Addr) (cap : Nat), vm = .int .i64 mo ∧ vo = .slice G o.length cap ∧ mo ≤ 2 ∧ Hid (o.length + mo ≤ 1000002 ∧ TimesTo T 1 [] o mo) ∧ Hid (Kd.R (Kd.int .i64) 3 w3 w.heap.size (fun _ => True) (.slice G o.length cap) o ∧ Below w.heap.size w w3)) (fun vo vm _ => (intOf vm).toNat)
    case atStart => exact ⟨mo, o, G, cap, rfl, by rw [HLO.out], hmo, Lib.hid ⟨by have := HT2.out.1; omega, HT2.out.2⟩, Lib.hid (by rw [HLO.out]; exact HR.out)⟩
    case round =>
     clear HR HT2 HLO
     obtain ⟨mo, o, G, cap, rfl, rfl, hmo, HT, HR⟩ := hrel
     have hm0 : (0 : Int) ≤ (mo : Int) := by omega
     have hm2 : (mo : Int) ≤ 2 := by omega
     by_cases hz : mo = 0
     · subst hz
       have hzz : ¬ (0 : Int) < ((0 : Nat) : Int) := by omega
       have hv : dval o = T := by have := HT.out.2.2; simpa [dval] using this
       have hr := Kd.R_reads' HR.out.1
       have ht := Trim_any o G cap wr hr.2.2 hr.2.1 (by have := HT.out.1; omega) HT.out.2.1
       rw [hv] at ht
       have HTR := Lib.hid ht
       clear hv hr ht
       go_wp2_with (go_at_call 107; (with_reducible refine (HTR.out).mono ?_); rintro e w5 ⟨rfl, rfl, hT1, hT2⟩; have HTK := Lib.hid (And.intro hT1 hT2); clear hT1 hT2)
       go_ret
       exact ⟨_, rfl, by have := Kd.R_take HR.out.1 HTK.out.2; rw [HTK.out.1] at this; exact this, HR.out.2⟩
     · have hzz : (0 : Int) < (mo : Int) := by omega
       have HST : Hid (TimesTo T 1 [] (o ++ [(mo : Int) % 10]) (mo / 10)) := Lib.hid (by
        have h4 := HT.out.2.more
        rw [show ((mo % 10 : Nat) : Int) = (mo : Int) % 10 by omega] at h4
        exact h4)
       have hol : o.length ≤ 1048586 := by have := HT.out.1; omega
       have hol2 : Hid (o.length + mo ≤ 1000002) := Lib.hid HT.out.1
       have HSZ : Hid (w.heap.size ≤ wr.heap.size) := Lib.hid HR.out.2.size
       clear hz
       go_wp2_with (at_builtin; refine Kd.R_append (Kd.int .i64) (w0 := w) w.heap.size rfl (.tmp 27) (.tmp 30) 40 3 (.int .i64 0) 8 rfl Tryz.underlying40 infoI_ rfl (by decide) (by decide) (.slice G o.length cap) o _ _ (fun _ => True) (fun _ => False) rfl rfl rfl (fun _ h => h.elim) (fun _ _ => trivial) HR.out.1 HR.out.2 HSZ.out (by omega) ?_; intro v1 w7 hR7 hB7 hg7 hat7)
       obtain ⟨G7, cap7, rfl⟩ := Kd.R_slice hR7
       have HR7 := Lib.hid (And.intro hR7 hB7)
       clear hR7 hB7 hg7 hat7 hol
       have hmd : mo / 10 < mo := by omega
       go_roundw
       case rel => exact ⟨mo / 10, o ++ [(mo : Int) % 10], G7, cap7, congrArg (Value.int .i64) (by omega), by rw [List.length_append], by omega, Lib.hid ⟨by have := hol2.out; rw [List.length_append, List.length_singleton]; omega, HST.out⟩, HR7⟩
       case measure => simp [intOf]; omega
structure LimbAt (k : Nat) (j rest : Nat) (ys : List Int) : Prop where
 len : ys.length = (decs k).length
 le : j ≤ ys.length
 head : ys.take j = (decs k).take j
 ok : okD ys
 rest : rest = dval ((decs k).drop j) % 4294967296
 quo : dval (ys.drop j) = dval ((decs k).drop j) / 4294967296
theorem LimbAt.step {k j rest : Nat} {ys : List Int} (h : LimbAt k (j + 1) rest ys) : 0 ≤ ys.getD j 0 ∧ ys.getD j 0 ≤ 9 ∧ LimbAt k j ((rest * 10 + (ys.getD j 0).toNat) % 4294967296) (ys.set j (((rest * 10 + (ys.getD j 0).toNat) / 4294967296 : Nat) : Int)) := by
 have hj : j < ys.length := h.le
 have hx := okD_getD h.ok j
 have hxe : ys.getD j 0 = (decs k).getD j 0 := by
  have h1 : (ys.take (j + 1))[j]? = ((decs k).take (j + 1))[j]? := by rw [h.head]
  rw [List.getElem?_take_of_lt (by omega), List.getElem?_take_of_lt (by omega)] at h1
  rw [List.getD_eq_getElem?_getD, List.getD_eq_getElem?_getD, h1]
 have hj2 : j < (decs k).length := by rw [← h.len]; exact hj
 have hd : dval ((decs k).drop j) = (ys.getD j 0).toNat + 10 * dval ((decs k).drop (j + 1)) := by
  rw [hxe, List.drop_eq_getElem_cons hj2, dval, List.getD_eq_getElem?_getD, List.getElem?_eq_getElem hj2]
  rfl
 have hr := h.rest
 have hq := h.quo
 have hrl : rest < 4294967296 := by rw [hr]; exact Nat.mod_lt _ (by decide)
 have hx9 : (ys.getD j 0).toNat ≤ 9 := by omega
 have hxx : 0 ≤ ys.getD j 0 ∧ ys.getD j 0 ≤ 9 := by omega
 generalize (ys.getD j 0).toNat = x at *
 generalize dval ((decs k).drop (j + 1)) = t at *
 refine ⟨hxx.1, hxx.2, by simp [h.len], by simp; omega, ?_, ?_, ?_, ?_⟩
 · rw [List.take_set_of_le (Nat.le_refl _)]
   have h1 := congrArg (List.take j) h.head
   rw [List.take_take, List.take_take, Nat.min_eq_left (by omega)] at h1
   exact h1
 · intro y hy
   rcases List.mem_or_eq_of_mem_set hy with hy | rfl
   · exact h.ok y hy
   · have : (rest * 10 + x) / 4294967296 ≤ 9 := by omega
     omega
 · rw [hd, hr]; omega
 · have h1 : (ys.set j (((rest * 10 + x) / 4294967296 : Nat) : Int)).drop j = (((rest * 10 + x) / 4294967296 : Nat) : Int) :: ys.drop (j + 1) := by
    rw [List.drop_eq_getElem_cons (by rw [List.length_set]; exact hj), List.getElem_set_self, List.drop_set_of_lt (by omega)]
   rw [h1, dval, Int.toNat_natCast, hq, hd, hr]
   omega
theorem shl_back (s : Nat) (h : s < 42949672970) : wrap64 ((s : Int) - wrap64 (((s / 4294967296 : Nat) : Int) * 4294967296)) = ((s % 4294967296 : Nat) : Int) := by
 have h1 : s = s / 4294967296 * 4294967296 + s % 4294967296 := by omega
 have h2 : s % 4294967296 < 4294967296 := by omega
 have h3 : s / 4294967296 ≤ 10 := by omega
 generalize s / 4294967296 = q at *
 generalize s % 4294967296 = r at *
 have e1 : wrap64 ((q : Int) * 4294967296) = (q : Int) * 4294967296 := by unfold wrap64; omega
 rw [e1]
 have e2 : (s : Int) - (q : Int) * 4294967296 = (r : Int) := by omega
 rw [e2]
 unfold wrap64
 omega
theorem limb_sum (rest x : Nat) (h1 : rest < 4294967296) (h2 : x ≤ 9) : wrap64 (wrap64 ((rest : Int) * 10) + (x : Int)) = ((rest * 10 + x : Nat) : Int) := by
 have e1 : wrap64 ((rest : Int) * 10) = (rest : Int) * 10 := by unfold wrap64; omega
 rw [e1]
 unfold wrap64
 omega
set_option maxHeartbeats 4000000 in
set_option maxRecDepth 100000 in
theorem Limbs_any (m : Nat) (A : Option Addr) (c : Nat) (w : World) (hC : Kd.C (Kd.int .i64) w A (decs m).length (decs m)) (hl : (decs m).length ≤ 1000000) :
 Calls Tryz.prog 108 #[.slice A (decs m).length c] w fun e w' => ∃ v : Value, e = .returned v ∧ Kd.R (Kd.int .u32) 90 w' w.heap.size (fun _ => True) v (limbs m) ∧ Below w.heap.size w w' := by
 have HLM : Hid (∀ k, k ≤ m → (decs k).length ≤ 1000000) := Lib.hid (fun k hk => Nat.le_trans (decs_len (Nat.lt_of_le_of_lt hk (by have := dval_lt (okD_decs m); rw [dval_decs] at this; exact this))) hl)
 have HLO : Hid (∀ o k, o ++ limbs k = limbs m → o.length ≤ 1000000) := Lib.hid (fun o k h => by
  have h1 : (limbs m).length ≤ (decs m).length := limbs_len (by
   have h1 := dval_lt (okD_decs m)
   rw [dval_decs] at h1
   exact Nat.lt_of_lt_of_le h1 (Nat.pow_le_pow_left (by decide) _))
  have := congrArg List.length h
  rw [List.length_append] at this
  omega)
 obtain ⟨n, hn⟩ : ∃ n, n = (decs m).length := ⟨_, rfl⟩
 have HC := Lib.hid hC
 have HN := Lib.hid hn
 rw [← hn]
 rw [← hn] at HC hl
 clear hC hn
 go_enter Tryz.func108, Tryz.ntmps108
 go_wp2_with (at_builtin; refine Kd.R_append_row (Value.int .i64) (0 : Int) w.heap.size rfl (.tmp 7) (.tmp 8) 40 3 (.int .i64 0) 8 rfl Tryz.underlying40 infoI_ rfl (by decide) _ [] _ _ _ _ (fun _ => True) rfl rfl (fun _ _ => trivial) (Kd.R_nil _ _ _ _ _) HC.out (Below.refl _ _) (Nat.le_refl _) (by simp; omega) ?_; intro v1 w1 hR1 hB1 hg1 hat1; obtain ⟨G1, d1, rfl⟩ := Kd.R_slice hR1)
 simp only [List.nil_append, ← HN.out] at hR1 ⊢
 have HR1 := Lib.hid (And.intro hR1 hB1)
 clear hR1 hB1 hg1 hat1
 go_loopg [3, 4] m (fun k vo vw wr => ∃ (o : List Int) (G : Option Addr) (cap : Nat) (B : Option Addr) (ln d : Nat), vo = .slice G o.length cap ∧ vw = .slice B ln d ∧ k ≤ m ∧ Hid (ln = (decs k).length ∧ Kd.R (Kd.int .i64) 3 wr w.heap.size (fun _ => True) (.slice B ln d) (decs k)) ∧ Hid (Kd.R (Kd.int .u32) 90 wr w.heap.size (fun _ => True) (.slice G o.length cap) o ∧ Below w.heap.size w wr) ∧ Hid (o ++ limbs k = limbs m))
 case atStart => exact ⟨[], none, 0, G1, n, d1, rfl, rfl, Nat.le_refl _, Lib.hid ⟨HN.out, HR1.out.1⟩, Lib.hid ⟨Kd.R_nil _ _ _ _ _, HR1.out.2⟩, Lib.hid rfl⟩
 case round =>
  obtain ⟨o, G, cap, B, ln, d, rfl, rfl, hk, HW, HO, HE⟩ := hrel
  by_cases hz : gk = 0
  · subst hz
    have hl0 : ln = 0 := by rw [HW.out.1, decs_zero]; rfl
    subst hl0
    have HEE : Hid (o = limbs m) := Lib.hid (by have := HE.out; rw [limbs_zero, List.append_nil] at this; exact this)
    go_wp2
    go_ret
    exact ⟨_, rfl, by rw [← HEE.out]; exact HO.out.1, HO.out.2⟩
  · have hlp : 0 < ln := by rw [HW.out.1, decs_pos hz]; simp
    obtain ⟨g, d2, e, -⟩ := Kd.R_form HW.out.2 (by rw [← HW.out.1]; exact hlp)
    injection e with e1 e2 e3
    subst e1 e3
    clear e2
    have hlm : ln ≤ 1000000 := by rw [HW.out.1]; exact HLM.out gk hk
    have HZ := Lib.hid hz
    have HG : Hid (w.heap.size ≤ g) := Lib.hid (Kd.R_base HW.out.2 g rfl)
    clear hz
    go_wp2
    go_loopw [5, 6] (fun vr vi w3 => ∃ (j rest : Nat) (ys : List Int), vi = .int .i64 ((j : Int) - 1) ∧ vr = .int .i64 rest ∧ j ≤ ln ∧ Hid (rest < 4294967296 ∧ ys.length = ln ∧ LimbAt gk j rest ys) ∧ Hid (Kd.R (Kd.int .i64) 3 w3 w.heap.size (fun _ => True) (.slice (some ⟨g, 0, none⟩) ln d) ys ∧ Kd.R (Kd.int .u32) 90 w3 w.heap.size (fun _ => True) (.slice G o.length cap) o ∧ Below w.heap.size w w3)) (fun vr vi _ => (intOf vi + 1).toNat)
    case atStart => exact ⟨ln, 0, decs gk, rfl, rfl, Nat.le_refl _, Lib.hid ⟨by decide, HW.out.1.symm, ⟨rfl, by rw [HW.out.1]; exact Nat.le_refl _, rfl, okD_decs _, by rw [HW.out.1, List.drop_length]; rfl, by rw [HW.out.1, List.drop_length]; rfl⟩⟩, Lib.hid ⟨HW.out.2, HO.out.1, HO.out.2⟩⟩
    case round =>
     obtain ⟨j, rest, ys, rfl, rfl, hj, HL, HR⟩ := hrel
     by_cases hj0 : j = 0
     · subst hj0
       have hT := HL.out.2.2
       have hv : dval ys = gk / 4294967296 := by have := hT.quo; rw [List.drop_zero, List.drop_zero, dval_decs] at this; exact this
       have hr : rest = gk % 4294967296 := by have := hT.rest; rw [List.drop_zero, dval_decs] at this; exact this
       have hca := Lib.hid (fun W (hW : Kd.R (Kd.int .i64) 3 W w.heap.size (fun _ => True) (.slice (some ⟨g, 0, none⟩) ln d) ys) => carry_any ys (some ⟨g, 0, none⟩) d W (Kd.R_reads' hW).2.2 (by rw [HL.out.2.1]; exact hlm) (fun y hy => by have := hT.ok y hy; omega))
       have HNX : Hid ((o ++ [(rest : Int) % 4294967296]) ++ limbs (gk / 4294967296) = limbs m) := Lib.hid (by rw [← HE.out, limbs_pos HZ.out, hr, show ((gk % 4294967296 : Nat) : Int) % 4294967296 = ((gk % 4294967296 : Nat) : Int) by omega]; simp)
       have hol : o.length ≤ 1000000 := HLO.out o gk HE.out
       have HLT : Hid (gk / 4294967296 < gk) := Lib.hid (by have := HZ.out; omega)
       have HYL := Lib.hid HL.out.2.1
       have HRB := Lib.hid HL.out.1
       have HSZ : Hid (w.heap.size ≤ wr.heap.size) := Lib.hid HR.out.2.2.size
       have hr0 : (0 : Int) ≤ (rest : Int) := by omega
       rw [hv] at hca
       clear hT hv hr HL HE
       go_wp2_with (first
        | (at_builtin; refine Kd.R_append (Kd.int .u32) (w0 := w) w.heap.size rfl (.tmp 39) (.tmp 42) 29 90 (.int .u32 0) 4 rfl Tryz.underlying29 infoU rfl (by decide) (by decide) (.slice G o.length cap) o _ _ (fun _ => True) (fun _ => False) rfl rfl rfl (fun _ h => h.elim) (fun _ _ => trivial) HR.out.2.1 HR.out.2.2 HSZ.out (by omega) ?_; intro v1 w7 hR7 hB7 hg7 hat7; obtain ⟨G7, cap7, rfl⟩ := Kd.R_slice hR7; have HO7 := Lib.hid hR7; have HW7 := Lib.hid (Kd.R_over' HR.out.1 (Kd.R_typed HR.out.2.1) (by decide) hg7); have HB7 := Lib.hid hB7; clear hR7 hB7 hg7 hat7)
        | (go_at_call 106; have hcc := hca.out _ HW7.out; rw [HYL.out] at hcc; refine hcc.mono ?_; rintro e w8 ⟨v8, rfl, hR8, hB8⟩; obtain ⟨B8, d8, rfl⟩ := Kd.R_slice hR8; have HR8 := Lib.hid (Kd.R_lower hR8 HB7.out.size); have HO8 := Lib.hid (And.intro (Kd.R_below HO7.out hB8) (HB7.out.trans (hB8.mono HB7.out.size))); clear hR8 hB8 hcc))
       have hkm : gk / 4294967296 ≤ m := by have := HLT.out; omega
       go_roundg (gk / 4294967296)
       case measure => exact HLT.out
       case rel => exact ⟨o ++ [(rest : Int) % 4294967296], G7, cap7, B8, _, d8, by rw [List.length_append]; rfl, rfl, hkm, Lib.hid ⟨rfl, HR8.out⟩, HO8, HNX⟩
     · obtain ⟨i, rfl⟩ : ∃ i, j = i + 1 := ⟨j - 1, by omega⟩
       obtain ⟨hx0, hx9, hst⟩ := HL.out.2.2.step
       obtain ⟨hcx, hfx⟩ := Kd.R_celln (0 : Int) HR.out.1 (i : Int) (by omega) (by omega)
       rw [Int.toNat_natCast] at hcx hfx
       have hxe : rdOf (0 : Int) ys (i : Int) = ys.getD i 0 := by unfold rdOf; rw [Int.toNat_natCast]
       rw [hxe] at hcx
       obtain ⟨x, hx⟩ : ∃ x : Nat, ys.getD i 0 = (x : Int) := ⟨(ys.getD i 0).toNat, by omega⟩
       rw [hx, Int.toNat_natCast] at hst
       rw [hx] at hcx hx9
       have hii : (((i + 1 : Nat) : Int) - 1) = (i : Int) := by omega
       rw [hii]
       have hi0 : (0 : Int) ≤ (i : Int) := by omega
       have hin : (i : Int) < (ln : Int) := by omega
       clear hxe hx hx0 hii hj0
       go_wp2
       have hrb := HL.out.1
       obtain ⟨s, hs⟩ : ∃ s, s = rest * 10 + x := ⟨_, rfl⟩
       have E1 : wrap64 (wrap64 ((rest : Int) * 10) + (x : Int)) = (s : Int) := by rw [hs]; exact limb_sum rest x hrb (by omega)
       have E2 : (s : Int) / 4294967296 = ((s / 4294967296 : Nat) : Int) := by omega
       have E3 := shl_back s (by omega)
       rw [E1, E2, E3]
       rw [← hs] at hst
       have hp := Kd.R_putn HR.out.1 (i : Int) ((s / 4294967296 : Nat) : Int)
       rw [Int.toNat_natCast] at hp
       refine ⟨⟨i, s % 4294967296, _, rfl, rfl, by omega, Lib.hid ⟨Nat.mod_lt _ (by decide), by rw [List.length_set]; exact HL.out.2.1, hst⟩, Lib.hid ⟨hp, ?_, HR.out.2.2.setCell (p := ⟨g, i, none⟩) HG.out _⟩⟩, by show ((i : Int) - 1 + 1).toNat < ((i : Int) + 1).toNat; omega⟩
       obtain ⟨cells, hcg⟩ := Kd.R_typed HR.out.1 g rfl
       exact Kd.R_set HR.out.2.1 hcg (by decide) i _
end Go.Proofs.YtmfpakolfpoamaaGreatDoor.P

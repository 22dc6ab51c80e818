/- nat's div: contract. -/
import Derived.Test.YtdbnpaloalhciaaPk
namespace Go.Proofs.Ytdbnpaloalhciaa.P
set_option linter.unusedVariables false
set_option linter.unusedSimpArgs false
open Go.RowKit Go.Shelf Go.Proofs.YtdbnpaloalhciaaW.PrintWords Go.Proofs.YtdbnpaloalhciaaW.PrintMore Go.Proofs.YtdbnpaloalhciaaW.PrintLast
attribute [local go_sem] Oper.semAt_some
def nat_num_div.f (l0 l1 : List Int) : Option (List Int × List Int) := if (canon l0 ∧ canon l1) ∧ l1 ≠ [] ∧ l0.length ≤ 268435456 ∧ l1.length ≤ 268435456 then some (limbs (val l0 / val l1), limbs (val l0 % val l1)) else none
set_option maxHeartbeats 4000000 in
set_option maxRecDepth 100000 in
theorem div_less (A B : Option Addr) (ca cb : Nat) (a b : List Int) (w : World) (hCa : Kd.C (Kd.int .u32) w A a.length a) (hca : a.length ≤ ca) (hCb : Kd.C (Kd.int .u32) w B b.length b) (hcb : b.length ≤ cb) (hab : canon a ∧ canon b) (hz : a.length ≤ 268435456) (hzb : b.length ≤ 268435456) (hlt : val a < val b) :
    Calls Try.prog 61 #[.slice A a.length ca, .slice B b.length cb] w fun e w' => ∃ v0_ v1_ : Value, e = .returned (.tuple #[v0_, v1_]) ∧ Kd.R (Kd.int .u32) 59 w' w.heap.size (fun k_ => some k_ ≠ (v1_ : Value).ownBlock) v0_ (limbs (val a / val b)) ∧ Kd.R (Kd.int .u32) 59 w' w.heap.size (fun k_ => some k_ ≠ (v0_ : Value).ownBlock) v1_ (limbs (val a % val b)) ∧ Below w.heap.size w w' := by
  have HCa := Lib.hid hCa
  have HCb := Lib.hid hCb
  have HF : Hid (nat_num_compare.f a b = some (-1)) := Lib.hid (by unfold nat_num_compare.f; rw [if_pos ⟨hab, by omega, by omega⟩]; unfold cmpI; rw [if_pos (by omega)])
  have HE : Hid (slices_Clone_num_uint32.f a = some a) := Lib.hid (by unfold slices_Clone_num_uint32.f; rw [if_pos (by omega)])
  have hq : limbs (val a / val b) = [] := by rw [Nat.div_eq_of_lt hlt, limbs_zero]
  have hr : limbs (val a % val b) = a := by rw [Nat.mod_eq_of_lt hlt]; exact hab.1
  clear hCa hCb
  go_enter Try.func61, Try.ntmps61
  go_wp2_with fail
  refine (nat_num_compare.calls A ca a B cb b _ _ HCa.out hca HCb.out hcb HF.out).mono ?_
  rintro e w1 ⟨rfl, hb1⟩
  have HB1 := Lib.hid hb1
  clear hb1
  go_wp2_with fail
  refine (slices_Clone_num_uint32.calls A ca a a _ (Kd.C_below HCa.out HB1.out) hca HE.out).mono ?_
  rintro e w2 ⟨v, rfl, hR, hb2⟩
  have HR := Lib.hid hR
  have HB2 := Lib.hid hb2
  clear hb2 hR
  go_wp2
  go_ret2
  refine ⟨_, _, rfl, ?_, ?_, HB1.out.trans (HB2.out.mono HB1.out.size)⟩
  · rw [hq]; exact Kd.R_nil _ _ _ _ _
  · rw [hr]; exact Kd.R_mono (Kd.R_lower HR.out HB1.out.size) (fun k _ => by simp [Value.ownBlock])
theorem R_other {w : World} {base : Nat} {v : Value} {l : List Int} {ok : Nat → Prop} (h : Kd.R (Kd.int .u32) 59 w base ok v l) : Kd.R (Kd.int .u32) 59 w base (fun k => ok k ∧ base ≤ k ∧ k < w.heap.size) v l := Kd.R_mono (Kd.R_bound h) (fun k hk => ⟨hk.1, hk.2.1, hk.2.2.1⟩)
set_option maxHeartbeats 4000000 in
set_option maxRecDepth 100000 in
theorem div_one (A B : Option Addr) (ca cb : Nat) (a : List Int) (y : Int) (w : World) (hCa : Kd.C (Kd.int .u32) w A a.length a) (hca : a.length ≤ ca) (hCb : Kd.C (Kd.int .u32) w B [y].length [y]) (hcb : [y].length ≤ cb) (hab : canon a ∧ canon [y]) (hz : a.length ≤ 268435456) (hge : ¬ val a < val [y]) :
    Calls Try.prog 61 #[.slice A a.length ca, .slice B [y].length cb] w fun e w' => ∃ v0_ v1_ : Value, e = .returned (.tuple #[v0_, v1_]) ∧ Kd.R (Kd.int .u32) 59 w' w.heap.size (fun k_ => some k_ ≠ (v1_ : Value).ownBlock) v0_ (limbs (val a / val [y])) ∧ Kd.R (Kd.int .u32) 59 w' w.heap.size (fun k_ => some k_ ≠ (v0_ : Value).ownBlock) v1_ (limbs (val a % val [y])) ∧ Below w.heap.size w w' := by
  have hy := canon_okL hab.2
  rw [okL_cons] at hy
  have hy0 : y ≠ 0 := by have := canon_last hab.2 (by simp); simpa using this
  have hvy : val [y] = y.toNat := by simp [val]
  obtain ⟨c, hc, hc0⟩ : ∃ c : Int, cmpI (val a) (val [y]) = c ∧ ¬ c < 0 := ⟨_, rfl, by unfold cmpI; rw [if_neg (by omega)]; split <;> omega⟩
  have HF : Hid (nat_num_compare.f a [y] = some c) := Lib.hid (by unfold nat_num_compare.f; rw [if_pos ⟨hab, by omega, by simp⟩, hc])
  have HS : Hid (nat_num_small.f a y = some (limbs (val a / val [y]), ((val a % val [y] : Nat) : Int))) := Lib.hid (by unfold nat_num_small.f; rw [if_pos ⟨canon_okL hab.1, by omega, by omega, by omega⟩, hvy])
  have hmb : val a % val [y] < 4294967296 := Nat.lt_trans (Nat.mod_lt _ (by rw [hvy]; omega)) (by rw [hvy]; omega)
  have HOK : Hid (okL [((val a % val [y] : Nat) : Int)]) := Lib.hid (by rw [okL_cons]; exact ⟨by omega, okL_nil⟩)
  have HV : Hid (val [((val a % val [y] : Nat) : Int)] = val a % val [y]) := Lib.hid (by generalize val a % val [y] = z; simp [val])
  obtain ⟨ad, rfl, hx⟩ := Kd.at_int hCb (0 : Int) (by omega) (by simp)
  have hxy : rd [y] 0 = y := rfl
  rw [hxy] at hx
  have had : ad.add (Int.toNat 0) = ad := by simp [Addr.add]
  rw [had] at hx
  have HX := Lib.hid hx
  have HCa := Lib.hid hCa
  have HCb := Lib.hid hCb
  generalize val a % val [y] = r at *
  generalize limbs (val a / val [y]) = qs at *
  clear hCa hCb hx hxy hc hge hy hy0 hvy
  simp only [List.length_cons, List.length_nil, Nat.zero_add] at *
  go_enter Try.func61, Try.ntmps61
  go_wp2_with fail
  refine (nat_num_compare.calls A ca a (some ad) cb [y] _ _ HCa.out hca HCb.out hcb HF.out).mono ?_
  rintro e w1 ⟨rfl, hb1⟩
  have HB1 := Lib.hid hb1
  have hx1 : w1.cell? ad = some (.int .u32 y) := pw_cell_below hb1 HX.out
  clear hb1
  go_wp2_with fail
  refine (nat_num_small.calls A ca a y _ _ _ (Kd.C_below HCa.out HB1.out) hca HS.out).mono ?_
  rintro e w2 ⟨v, rfl, hR, hb2⟩
  have HR := Lib.hid (R_other hR)
  have HB2 := Lib.hid hb2
  clear hb2 hR
  go_wp2_with fail
  have ho : (w2.alloc (.cells #[.int .u32 (r : Int)] 59)).ownsRow w2.heap.size 59 1 (.slice (some ⟨w2.heap.size, 0, none⟩) 1 1) 1 (nums .u32 [(r : Int)]) := own_lit w2 w2.heap.size 59 .u32 [(r : Int)] (Nat.le_refl _) (by simp)
  have hR1 : Kd.R (Kd.int .u32) 59 (w2.alloc (.cells #[.int .u32 (r : Int)] 59)) w2.heap.size (fun k => w2.heap.size ≤ k) (.slice (some ⟨w2.heap.size, 0, none⟩) [(r : Int)].length 1) [(r : Int)] := Kd.R_of_own (enc := Value.int .u32) ho (fun k hk => by simp [Value.ownBlock] at hk; omega)
  have HR1 := Lib.hid hR1
  clear ho hR1
  refine (trim_det (some ⟨w2.heap.size, 0, none⟩) 1 [(r : Int)] _ (Kd.R_reads' HR1.out).2.2 (Nat.le_refl _) HOK.out (by simp)).mono ?_
  rintro e w3 ⟨rfl, rfl⟩
  go_wp2
  go_ret2
  have hb1 := HB1.out
  have hb2 := HB2.out
  have hs1 := hb1.size
  have hs2 := hb2.size
  refine ⟨v, _, rfl, ?_, ?_, (hb1.trans (hb2.mono hs1)).alloc (by omega) _⟩
  · refine Kd.R_mono (Kd.R_alloc (Kd.R_lower HR.out hs1) _) fun k hk => ?_
    unfold trimV
    split
    · simp [Value.ownBlock]
    · simp [Value.ownBlock]; omega
  · obtain ⟨t1, t2⟩ := limbs_take HOK.out
    have := trimV_R HR1.out HOK.out t1 t2
    rw [HV.out] at this
    refine Kd.R_mono (Kd.R_lower this (by omega)) fun k hk he => ?_
    have := HR.out.1 k he.symm
    omega
/-- What is made of the divisor and the dividend. -/
structure Norm (a b : List Int) (s : Nat) (us vl vs : List Int) : Prop where
  lead : bits_LeadingZeros32.f (b.getD (b.length - 1) 0) = some (s : Int)
  lt : s < 32
  uf : nat_num_left.f a s = some us
  uok : okL us
  ulen : us.length = a.length + 1
  uval : val us = val a * 2 ^ s
  vf : nat_num_left.f b s = some vl
  vok : okL vl
  vllen : vl.length = b.length + 1
  vlim : limbs (val vl) = vs
  vsok : okL vs
  vslen : vs.length = b.length
  vstop : 2147483648 ≤ vs.getD (vs.length - 1) 0
  vsval : val vs = val b * 2 ^ s
  below : val us < val vs * 4294967296 ^ (us.length - vs.length)
theorem norm_of {a b : List Int} (ha : canon a) (hb : canon b) (hlen : 2 ≤ b.length) (hz : a.length ≤ 268435456) (hzb : b.length ≤ 268435456) (hge : val b ≤ val a) : ∃ s us vl vs, Norm a b s us vl vs := by
  have hbo := canon_okL hb
  have hao := canon_okL ha
  have hbn : b ≠ [] := by intro e; rw [e] at hlen; simp at hlen
  obtain ⟨L, hL⟩ : ∃ L, b.length = L + 1 := ⟨b.length - 1, by omega⟩
  have htb := okL_getD hbo L
  obtain ⟨x, hx⟩ : ∃ x : Nat, b.getD L 0 = x := ⟨(b.getD L 0).toNat, by omega⟩
  have hx0 : 0 < x := by
    have := canon_last hb hbn
    rw [getLast_getD hbn, hL, Nat.add_sub_cancel, hx] at this
    omega
  rw [hx] at htb
  obtain ⟨s, h1, h2, h3, h4⟩ := lead_f x hx0 (by omega)
  obtain ⟨us, u1, u2, u3, u4⟩ := left_val hao h2 (by omega)
  obtain ⟨vl, v1, v2, v3, v4⟩ := left_val hbo h2 (by omega)
  have hbv := val_split b (i := L) (by omega)
  rw [val_drop_step (by omega), hx, List.drop_of_length_le (by omega), val, Nat.mul_zero, Nat.add_zero, Int.toNat_natCast] at hbv
  have hblo : val (b.take L) < 4294967296 ^ L := by
    have := val_lt (okL_take hbo L)
    rw [List.length_take, Nat.min_eq_left (by omega)] at this
    exact this
  have hp := Nat.two_pow_pos s
  have hW : 0 < 4294967296 ^ L := Nat.pow_pos (by omega)
  have hlo : 4294967296 ^ L * (x * 2 ^ s) ≤ val b * 2 ^ s := by rw [← Nat.mul_assoc]; exact Nat.mul_le_mul_right _ (by omega)
  have hxs : (x + 1) * 2 ^ s ≤ 4294967296 := by
    have hd : 4294967296 = 2 ^ (32 - s) * 2 ^ s := by rw [← Nat.pow_add, show 32 - s + s = 32 by omega]
    rw [hd] at h4 ⊢
    exact Nat.mul_le_mul_right _ (Nat.lt_of_mul_lt_mul_right h4)
  have hhi : val b * 2 ^ s < 4294967296 ^ (L + 1) := by
    have e1 : val b < 4294967296 ^ L * (x + 1) := by rw [Nat.mul_add, Nat.mul_one]; omega
    have e2 := Nat.mul_lt_mul_of_pos_right e1 hp
    rw [Nat.mul_assoc] at e2
    have e3 := Nat.mul_le_mul_left (4294967296 ^ L) hxs
    rw [← Nat.pow_succ] at e3
    omega
  have hvlen : (limbs (val vl)).length = b.length := by
    rw [v4, hL]
    refine Nat.le_antisymm (limbs_len hhi) ?_
    rcases Nat.lt_or_ge L (limbs (val b * 2 ^ s)).length with h | h
    · exact h
    · exfalso
      have := val_lt (okL_limbs (val b * 2 ^ s))
      rw [val_limbs] at this
      have h5 := Nat.pow_le_pow_right (show 0 < 4294967296 by omega) h
      have h6 := Nat.mul_le_mul_left (4294967296 ^ L) (show 1 ≤ x * 2 ^ s by omega)
      rw [Nat.mul_one] at h6
      omega
  have hvv : val (limbs (val vl)) = val b * 2 ^ s := by rw [val_limbs, v4]
  have hvo := okL_limbs (val vl)
  have htop : 2147483648 ≤ (limbs (val vl)).getD ((limbs (val vl)).length - 1) 0 := by
    rw [hvlen, hL, Nat.add_sub_cancel]
    have hsv := val_split (limbs (val vl)) (i := L) (by omega)
    rw [val_drop_step (by omega), List.drop_of_length_le (by omega), val, Nat.mul_zero, Nat.add_zero, hvv] at hsv
    have hl : val ((limbs (val vl)).take L) < 4294967296 ^ L := by
      have := val_lt (okL_take hvo L)
      rw [List.length_take, Nat.min_eq_left (by omega)] at this
      exact this
    have hg := okL_getD hvo L
    generalize (limbs (val vl)).getD L 0 = t at *
    rcases Int.lt_or_le t 2147483648 with h | h
    · exfalso
      have h7 := Nat.mul_le_mul_left (4294967296 ^ L) (show t.toNat + 1 ≤ x * 2 ^ s by omega)
      rw [Nat.mul_add, Nat.mul_one] at h7
      omega
    · exact h
  have hle : b.length ≤ a.length := canon_len hb (Nat.lt_of_le_of_lt hge (val_lt hao))
  refine ⟨s, us, vl, limbs (val vl), by rw [hL, Nat.add_sub_cancel, hx]; exact h1, h2, u1, u2, u3, u4, v1, v2, v3, rfl, hvo, hvlen, htop, hvv, ?_⟩
  rw [hvv, u4, u3, hvlen]
  have ha1 := val_lt hao
  have hb1 := canon_ge hb hbn
  rw [hL, Nat.add_sub_cancel] at hb1
  have e1 : 4294967296 ^ L * 4294967296 ^ (a.length + 1 - b.length) = 4294967296 ^ a.length := by rw [← Nat.pow_add, show L + (a.length + 1 - b.length) = a.length by omega]
  have e2 := Nat.mul_le_mul_right (4294967296 ^ (a.length + 1 - b.length)) hb1
  rw [e1] at e2
  rw [Nat.mul_right_comm]
  exact Nat.mul_lt_mul_of_pos_right (by omega) hp
set_option maxRecDepth 100000 in
set_option maxHeartbeats 8000000 in
theorem div_long (n : Nat) (hn : 8 ≤ n) (A B : Option Addr) (ca cb : Nat) (a b : List Int) (w : World) (hCa : Kd.C (Kd.int .u32) w A a.length a) (hca : a.length ≤ ca) (hCb : Kd.C (Kd.int .u32) w B b.length b) (hcb : b.length ≤ cb) (hab : canon a ∧ canon b) (hz : a.length ≤ 268435456) (hzb : b.length ≤ 268435456) (hlen : 2 ≤ b.length) (hge : ¬ val a < val b)
    (s : Nat) (us vl vs : List Int) (hN : Norm a b s us vl vs) :
    CallsIn Fence.wide n Try.prog 61 #[.slice A a.length ca, .slice B b.length cb] w fun e w' => ∃ v0_ v1_ : Value, e = .returned (.tuple #[v0_, v1_]) ∧ Kd.R (Kd.int .u32) 59 w' w.heap.size (fun k_ => some k_ ≠ (v1_ : Value).ownBlock) v0_ (limbs (val a / val b)) ∧ Kd.R (Kd.int .u32) 59 w' w.heap.size (fun k_ => some k_ ≠ (v0_ : Value).ownBlock) v1_ (limbs (val a % val b)) ∧ Below w.heap.size w w' := by
  have h1 : 1 ≤ n := by omega
  obtain ⟨i0, hi, hz0, hz1, hz2⟩ := info_parts infoU
  obtain ⟨c, hc, hc0⟩ : ∃ c : Int, cmpI (val a) (val b) = c ∧ ¬ c < 0 := ⟨_, rfl, by unfold cmpI; rw [if_neg (by omega)]; split <;> omega⟩
  have HF : Hid (nat_num_compare.f a b = some c) := Lib.hid (by unfold nat_num_compare.f; rw [if_pos ⟨hab, by omega, by omega⟩, hc])
  have HN := Lib.hid hN
  obtain ⟨adb, rfl, hxb⟩ := Kd.at_int hCb ((b.length : Int) - 1) (by omega) (by omega)
  rw [show ((b.length : Int) - 1).toNat = b.length - 1 by omega] at hxb
  have hrb : rd b ((b.length : Int) - 1) = b.getD (b.length - 1) 0 := by rw [show ((b.length : Int) - 1) = ((b.length - 1 : Nat) : Int) by omega, rd_nat]
  rw [hrb] at hxb
  have hlead := hN.lead
  have hle : vs.length ≤ us.length := by
    have := canon_len hab.2 (Nat.lt_of_le_of_lt (Nat.le_of_not_lt hge) (val_lt (canon_okL hab.1)))
    rw [hN.vslen, hN.ulen]; omega
  have hul : us.length ≤ 268435457 := by rw [hN.ulen]; omega
  have hvl2 : 2 ≤ vs.length := by rw [hN.vslen]; exact hlen
  obtain ⟨tb, htb⟩ : ∃ t, b.getD (b.length - 1) 0 = t := ⟨_, rfl⟩
  rw [htb] at hxb hlead
  have HLD := Lib.hid hlead
  have HXB := Lib.hid hxb
  have HCa := Lib.hid hCa
  have HCb := Lib.hid hCb
  have HAB := Lib.hid hab
  clear hlead htb
  have hbl : (b.length == 1) = false := by rw [beq_eq_false_iff_ne]; omega
  have hw1 : IntKind.i64.wrap ((b.length : Int) - 1) = (b.length : Int) - 1 := wrap_in _ (by omega)
  clear hCa hCb hc hge hN hxb hrb hab
  refine callsIn_of_wp_marks Try.func61 rfl trivial ?_ rfl
  simp only [Try.ntmps61, List.size_toArray, List.length_cons, List.length_nil, Nat.reduceAdd, Nat.reduceSub, Array.replicate_succ, Array.replicate_zero, List.push_toArray, List.append_toArray, List.nil_append, List.cons_append]
  gi_wp2_with fail
  refine ⟨trivial, ?_⟩
  refine (callsIn_wide.2 (nat_num_compare.calls A ca a (some adb) cb b _ _ HCa.out hca HCb.out hcb HF.out)).mono ?_
  rintro e w1 ⟨rfl, hb1⟩
  have HB1 := Lib.hid hb1
  have hx1 : w1.cell? (adb.add (b.length - 1)) = some (.int .u32 tb) := pw_cell_below hb1 HXB.out
  clear hb1
  gi_wp2_with fail
  refine ⟨trivial, ?_⟩
  refine (callsIn_wide.2 (bits_LeadingZeros32.calls tb s _ HLD.out)).mono ?_
  rintro e w2 ⟨rfl, nd, rfl⟩
  have HB2 : Hid (Below w.heap.size w (w1.drewN nd)) := Lib.hid (pw_below_drewN HB1.out nd)
  clear hx1
  generalize w1.drewN nd = w2 at *
  gi_wp2_with fail
  refine ⟨trivial, ?_⟩
  refine (callsIn_wide.2 (nat_num_left.calls A ca a s us _ (Kd.C_below HCa.out HB2.out) hca HN.out.uf)).mono ?_
  rintro e w3 ⟨vu, rfl, hRu, hb3⟩
  have HRU := Lib.hid (R_other hRu)
  have HB3 := Lib.hid hb3
  have hs2 := HB2.out.size
  have hs3 := hb3.size
  clear hRu hb3
  gi_wp2_with fail
  refine ⟨trivial, ?_⟩
  refine (callsIn_wide.2 (nat_num_left.calls (some adb) cb b s vl _ (Kd.C_below HCb.out (HB2.out.trans (HB3.out.mono hs2))) hcb HN.out.vf)).mono ?_
  rintro e w4 ⟨vv, rfl, hRv, hb4⟩
  have HRV := Lib.hid (R_other hRv)
  have HB4 := Lib.hid hb4
  have hs4 := hb4.size
  clear hRv hb4
  obtain ⟨Av, cv, rfl⟩ := Kd.R_slice HRV.out
  gi_wp2_with fail
  refine ⟨trivial, ?_⟩
  refine (callsIn_wide.2 (trim_det Av cv vl w4 (Kd.R_reads' HRV.out).2.2 (Kd.R_reads' HRV.out).2.1 HN.out.vok (by have := HN.out.vllen; omega))).mono ?_
  rintro e w5 ⟨rfl, rfl⟩
  have htl := limbs_take HN.out.vok
  have hRt := trimV_R HRV.out HN.out.vok htl.1 htl.2
  rw [HN.out.vlim] at hRt
  have HRT := Lib.hid hRt
  clear hRt htl
  obtain ⟨vt, hvt⟩ : ∃ v, trimV Av cv vl = v := ⟨_, rfl⟩
  rw [hvt] at HRT ⊢
  clear hvt
  -- the rows of the call's own
  have ho1 := Kd.own_of_R HRU.out
  have ho2 := Kd.own_of_R HRT.out
  obtain ⟨Ub, cu, rfl, hub, hul⟩ := ho1.form (by have := HN.out.ulen; omega)
  obtain ⟨Vb, cv2, rfl, hvb, hvl⟩ := ho2.form (by have := HN.out.vslen; omega)
  obtain ⟨m, hm⟩ : ∃ m, m = us.length - vs.length := ⟨_, rfl⟩
  have hm1 : m + vs.length = us.length := by omega
  have hwm : wrap64 ((us.length : Int) - (vs.length : Int)) = (m : Int) := by rw [w64 _ (by omega)]; omega
  have hwm2 : (us.length : Int) - (vs.length : Int) = (m : Int) := by omega
  have HM1 := Lib.hid hm1
  have hm2 : m ≤ 268435457 := by omega
  clear hm hm1
  obtain ⟨w6, hrun, hown, hgrow⟩ := run_make_full (P := Try.prog) (((w5.alloc (.cells #[.slice (some ⟨Ub, 0, none⟩) us.length cu] 62)).alloc (.cells #[.slice (some ⟨Vb, 0, none⟩) vs.length cv2] 62)).alloc (.cells #[.int .i64 vs.length] 3)) w.heap.size 62 59 i0 (.int .u32 0) 1 Try.underlying62 hi hz0 hz1 .i64 .i64 m (by rw [hz2]; omega) (by unfold maxLen; omega) (by simp; omega)
  simp only [World.size_alloc] at hrun hown
  have bu := ((Boxed.new w5 62 (.slice (some ⟨Ub, 0, none⟩) us.length cu)).alloc (.cells #[.slice (some ⟨Vb, 0, none⟩) vs.length cv2] 62)).alloc (.cells #[.int .i64 vs.length] 3)
  have bv := (Boxed.new (w5.alloc (.cells #[.slice (some ⟨Ub, 0, none⟩) us.length cu] 62)) 62 (.slice (some ⟨Vb, 0, none⟩) vs.length cv2)).alloc (.cells #[.int .i64 vs.length] 3)
  have bn := Boxed.new ((w5.alloc (.cells #[.slice (some ⟨Ub, 0, none⟩) us.length cu] 62)).alloc (.cells #[.slice (some ⟨Vb, 0, none⟩) vs.length cv2] 62)) 3 (.int .i64 vs.length)
  simp only [World.size_alloc] at bv bn
  have bu6 := bu.kept hgrow (by simp)
  have bv6 := bv.kept hgrow (by simp)
  have bn6 := bn.kept hgrow (by simp)
  have bu6c := (bu6.alloc (.cells #[.slice (some ⟨w5.heap.size + 1 + 1 + 1, 0, none⟩) m m] 62)).cell
  have BU := Lib.hid bu6
  have BV := Lib.hid bv6
  have BN := Lib.hid bn6
  have HO6 := Lib.hid hown
  have HG6 := Lib.hid hgrow
  clear bu bv bn bu6 bv6 bn6 hown hgrow
  gi_wp2_with (refine ⟨trivial, ?_⟩; gi_at_call 67; refine (backward_in (n - 1) _ _ _ _).mono ?_; rintro e w' ⟨rfl, rfl⟩)
  clear bu6c hrun
  obtain ⟨Qb, hQb⟩ : ∃ q, q = w5.heap.size + 1 + 1 + 1 := ⟨_, rfl⟩
  rw [← hQb] at HO6 ⊢
  have hs6 : w5.heap.size + 3 ≤ w6.heap.size := by have := HG6.out.size; simp at this; omega
  have hq6 : Qb < w6.heap.size := by
    rcases HO6.out.2 with ⟨h, _⟩ | ⟨g, cap, cur, h, _, hgb, _⟩
    · cases h
    · injection h with h1; injection h1 with h1; injection h1 with h1
      subst h1
      exact (Array.getElem?_eq_some_iff.1 hgb).1
  -- the world ahead of the rounds
  have hBw5 : Below w.heap.size w w5 := (HB2.out.trans (HB3.out.mono hs2)).trans (HB4.out.mono (by omega))
  have hB6 : Below w.heap.size w w6 := (((hBw5.alloc (by omega) (.cells #[.slice (some ⟨Ub, 0, none⟩) us.length cu] 62)).alloc (by simp; omega) (.cells #[.slice (some ⟨Vb, 0, none⟩) vs.length cv2] 62)).alloc (by simp; omega) (.cells #[.int .i64 vs.length] 3)).grown HG6.out (by simp; omega) (fun k e => by cases e)
  have hB0 := (hB6.alloc (by omega) (.cells #[.slice (some ⟨Qb, 0, none⟩) m m] 62)).alloc (by simp; omega) (.cells #[.slice (some ⟨Qb, 0, none⟩) m m] 62)
  have ou5 : w5.ownsRow w.heap.size 59 1 (.slice (some ⟨Ub, 0, none⟩) us.length cu) us.length (us.map (Value.int .u32)) := pw_own_below (own_weaken ho1 (by omega)) (HB4.out)
  have ov5 : w5.ownsRow w.heap.size 59 1 (.slice (some ⟨Vb, 0, none⟩) vs.length cv2) vs.length (vs.map (Value.int .u32)) := own_weaken ho2 (by omega)
  have ou6 := own_other (((ou5.alloc (.cells #[.slice (some ⟨Ub, 0, none⟩) us.length cu] 62)).alloc (.cells #[.slice (some ⟨Vb, 0, none⟩) vs.length cv2] 62)).alloc (.cells #[.int .i64 vs.length] 3)) HG6.out (.inr (by simp [Value.ownBlock]))
  have ov6 := own_other (((ov5.alloc (.cells #[.slice (some ⟨Ub, 0, none⟩) us.length cu] 62)).alloc (.cells #[.slice (some ⟨Vb, 0, none⟩) vs.length cv2] 62)).alloc (.cells #[.int .i64 vs.length] 3)) HG6.out (.inr (by simp [Value.ownBlock]))
  have ou := (ou6.alloc (.cells #[.slice (some ⟨Qb, 0, none⟩) m m] 62)).alloc (.cells #[.slice (some ⟨Qb, 0, none⟩) m m] 62)
  have ov := (ov6.alloc (.cells #[.slice (some ⟨Qb, 0, none⟩) m m] 62)).alloc (.cells #[.slice (some ⟨Qb, 0, none⟩) m m] 62)
  have oq := (HO6.out.alloc (.cells #[.slice (some ⟨Qb, 0, none⟩) m m] 62)).alloc (.cells #[.slice (some ⟨Qb, 0, none⟩) m m] 62)
  rw [made_zero m] at oq
  have bU := (BU.out.alloc (.cells #[.slice (some ⟨Qb, 0, none⟩) m m] 62)).alloc (.cells #[.slice (some ⟨Qb, 0, none⟩) m m] 62)
  have bV := (BV.out.alloc (.cells #[.slice (some ⟨Qb, 0, none⟩) m m] 62)).alloc (.cells #[.slice (some ⟨Qb, 0, none⟩) m m] 62)
  have bN := (BN.out.alloc (.cells #[.slice (some ⟨Qb, 0, none⟩) m m] 62)).alloc (.cells #[.slice (some ⟨Qb, 0, none⟩) m m] 62)
  have bQ := (Boxed.new w6 62 (.slice (some ⟨Qb, 0, none⟩) m m)).alloc (.cells #[.slice (some ⟨Qb, 0, none⟩) m m] 62)
  have bI := Boxed.new (w6.alloc (.cells #[.slice (some ⟨Qb, 0, none⟩) m m] 62)) 62 (.slice (some ⟨Qb, 0, none⟩) m m)
  simp only [World.size_alloc] at bI
  obtain ⟨W0, hW0⟩ : ∃ W0, W0 = (w6.alloc (.cells #[.slice (some ⟨Qb, 0, none⟩) m m] 62)).alloc (.cells #[.slice (some ⟨Qb, 0, none⟩) m m] 62) := ⟨_, rfl⟩
  have hzz : W0.heap.size = w6.heap.size + 2 := by rw [hW0]; simp
  rw [← hW0] at hB0 ou ov oq bU bV bN bQ bI ⊢
  have hr0 : Readable (some ⟨Qb, 0, none⟩) m W0 := by
    rintro ad e j hj
    injection e with e
    subst e
    refine ⟨0, ?_⟩
    rw [add_plain, oq.cellAt j (by omega)]
    rw [List.getElem?_map, List.getElem?_replicate, if_pos hj]
    rfl
  obtain ⟨bu, hbu⟩ : ∃ x, x = w5.heap.size := ⟨_, rfl⟩
  obtain ⟨bq, hbq⟩ : ∃ x, x = w6.heap.size := ⟨_, rfl⟩
  rw [← hbu] at bU bV bN ⊢
  rw [← hbq] at bQ bI ⊢
  -- which blocks are which
  have HD : Hid ((w.heap.size ≤ Ub ∧ Ub < Vb ∧ Vb < bu ∧ bu + 3 = Qb ∧ Qb < bq ∧ bq + 2 = W0.heap.size)) := Lib.hid ⟨by omega, by omega, by omega, by omega, by omega, by omega⟩
  have HB0 := Lib.hid hB0
  have BI := Lib.hid bI
  have HR0 := Lib.hid hr0
  clear hW0 hzz hQb hs6 hq6 hBw5 hB6 ou5 ov5 ou6 ov6 hbu hbq ho1 ho2 hub hul hvb hvl hs2 hs3 hs4 HO6 HG6 BU BV BN HRU HRV HRT
  have dv0 : dvF us vs m [] = (us, List.replicate m 0) := rfl
  refine wpIn_rangeFunc_ownG rfl h1 (gf := 80) (lb := #[.pointer (some ⟨bq + 1, 0, none⟩)]) rfl trivial (enters_of Try.func80 (by kernel_rfl) rfl)
    (backward_stops (n - 1) (by omega) (bq + 1) w.heap.size (some ⟨Qb, 0, none⟩) m m (by omega) W0 BI.out.cell (fun _ => ⟨_, rfl⟩) HR0.out) kpB_t (kpB_b HB0.out.size (by have := HD.out; omega) HR0.out) (Below.refl _ _) (fun _ => rfl)
    (fun (pre : List (BIt m)) W => (((((∃ v, Boxed W bu 62 v ∧ W.ownsRow w.heap.size 59 1 v us.length ((dvF us vs m (plc pre)).1.map (Value.int .u32)) ∧ v = .slice (some ⟨Ub, 0, none⟩) us.length cu) ∧ (∃ v, Boxed W (bu + 1) 62 v ∧ W.ownsRow w.heap.size 59 1 v vs.length (vs.map (Value.int .u32)) ∧ v = .slice (some ⟨Vb, 0, none⟩) vs.length cv2)) ∧ (∃ v, Boxed W bq 62 v ∧ W.ownsRow w.heap.size 59 1 v m ((dvF us vs m (plc pre)).2.map (Value.int .u32)) ∧ v = .slice (some ⟨Qb, 0, none⟩) m m)) ∧ Boxed W (bu + 1 + 1) 3 (.int .i64 vs.length)) ∧ Boxed W (bq + 1) 62 (.slice (some ⟨Qb, 0, none⟩) m m)) ∧ Below w.heap.size w W)
    (fun _ _ _ => False)
    (OwnFrom.and (OwnFrom.and (OwnFrom.and (OwnFrom.and (OwnFrom.and
      (Own.from (holdsRow_own w.heap.size bu 62 59 1 (fun pre => us.length) (fun pre => (dvF us vs m (plc pre)).1.map (Value.int .u32)) (fun _ v => v = .slice (some ⟨Ub, 0, none⟩) us.length cu)) _)
      (Own.from (holdsRow_own w.heap.size (bu + 1) 62 59 1 (fun pre => vs.length) (fun pre => vs.map (Value.int .u32)) (fun _ v => v = .slice (some ⟨Vb, 0, none⟩) vs.length cv2)) _))
      (Own.from (holdsRow_own w.heap.size bq 62 59 1 (fun pre => m) (fun pre => (dvF us vs m (plc pre)).2.map (Value.int .u32)) (fun _ v => v = .slice (some ⟨Qb, 0, none⟩) m m)) _))
      (Own.from (boxed_own _ _ _) _)) (Own.from (boxed_own _ _ _) _)) (ownFrom_below (Nat.le_refl _) (by have := HB0.out.size; exact this)))
    (fun _ _ _ _ _ hs _ _ => hs)
    ⟨⟨⟨⟨⟨⟨_, bU, ou, rfl⟩, ⟨_, bV, ov, rfl⟩⟩, ⟨_, bQ, oq, rfl⟩⟩, bN⟩, BI.out⟩, HB0.out⟩
    (fun x => { tmps := #[.slice A a.length ca, .slice (some adb) b.length cb, undef, undef, .slice none 0 0, .slice none 0 0, undef, undef, .int .i64 s, .pointer (some ⟨bu, 0, none⟩), .pointer (some ⟨bu + 1, 0, none⟩), .pointer (some ⟨bu + 1 + 1, 0, none⟩), .pointer (some ⟨bq, 0, none⟩), .int .i64 x.1.1, undef, .bool (decide (c < 0)), .slice A a.length ca, .slice (some adb) b.length cb, .int .i64 c, .bool (decide (c < 0)), undef, undef, .bool false, .slice (some adb) b.length cb, .int .i64 b.length, .bool false, undef, undef, undef, undef, undef, undef, undef, undef, undef, undef, undef, undef, .slice (some adb) b.length cb, .slice (some adb) b.length cb, .int .i64 b.length, .int .i64 ((b.length : Int) - 1), .pointer (some (adb.add (b.length - 1))), .int .u32 tb, .int .i64 s, .slice A a.length ca, .int .i64 s, .slice (some ⟨Ub, 0, none⟩) us.length cu, .slice (some adb) b.length cb, .int .i64 s, .slice Av vl.length cv, .slice (some ⟨Vb, 0, none⟩) vs.length cv2, .slice (some ⟨Vb, 0, none⟩) vs.length cv2, .int .i64 vs.length, .slice (some ⟨Ub, 0, none⟩) us.length cu, .int .i64 us.length, .int .i64 vs.length, .int .i64 m, .slice (some ⟨Qb, 0, none⟩) m m, .slice (some ⟨Qb, 0, none⟩) m m, .func (.func 80) #[] #[.pointer (some ⟨bq + 1, 0, none⟩)], .int .i64 x.1.1, .int .u32 x.1.2, undef, undef, undef, undef, undef, undef, undef, undef, undef, undef, undef, undef, undef, undef, undef, undef, undef, undef, undef, undef, undef, undef, undef, undef, undef, undef, undef, undef, undef, undef, undef, undef, undef, undef, undef, undef, undef, undef, undef, undef, undef, undef, undef, undef, undef, undef, undef, undef, undef, undef, undef, undef, undef, undef, undef, undef], defers := [] }) ?assign ?body ?done ?stop
  case assign =>
    intro l x W K hK
    gi_wp2
    exact hK
  case body =>
    rintro l pre x W ⟨⟨⟨⟨⟨⟨_, hbU, hoU, rfl⟩, ⟨_, hbV, hoV, rfl⟩⟩, ⟨_, hbQ, hoQ, rfl⟩⟩, hbN⟩, hbI⟩, hBW⟩ hlt
    have hxl := x.2
    have hd : 1 ≤ n - 1 - 1 := by omega
    have hmx : Try.prog.follows .mixedOrders = true := by kernel_rfl
    have hdv := dvF_ok HN.out.uok HN.out.vsok HN.out.vstop m (plc pre)
    have hgs := gs_rng hdv.1 HN.out.vsok HN.out.vstop x.1.1
    have HSN := Lib.hid (dvF_snoc us vs m (plc pre) x.1.1)
    unfold dvS at HSN
    obtain ⟨u1, hu1⟩ : ∃ u, (dvF us vs m (plc pre)).1 = u := ⟨_, rfl⟩
    obtain ⟨q1, hq1⟩ : ∃ u, (dvF us vs m (plc pre)).2 = u := ⟨_, rfl⟩
    rw [hu1] at hdv hgs HSN hoU
    rw [hq1] at hdv HSN hoQ
    clear hu1 hq1
    have hm1 := HM1.out
    have cU : ∀ j, j < us.length → W.cell? ⟨Ub, j, none⟩ = some (.int .u32 (u1.getD j 0)) := fun j hj => by
      rw [hoU.cellAt j (by omega)]; exact rowInt _ _ (by rw [hdv.2.1]; exact hj)
    have cV : ∀ j, j < vs.length → W.cell? ⟨Vb, j, none⟩ = some (.int .u32 (vs.getD j 0)) := fun j hj => by
      rw [hoV.cellAt j (by omega)]; exact rowInt _ _ hj
    obtain ⟨i, hi'⟩ : ∃ i, x.1.1 = i := ⟨_, rfl⟩
    have c0 := cU (i + vs.length) (by omega)
    have c1 := cU (i + vs.length - 1) (by omega)
    have c2 := cU (i + vs.length - 2) (by omega)
    have c3 := cV (vs.length - 1) (by omega)
    have c4 := cV (vs.length - 2) (by omega)
    rw [hi'] at hgs HSN hxl ⊢
    have hw1 : IntKind.i64.wrap ((i : Int) + (vs.length : Int)) = ((i + vs.length : Nat) : Int) := by rw [wrap_in _ (by omega)]; omega
    have hw2 : IntKind.i64.wrap (((i + vs.length : Nat) : Int) - 1) = ((i + vs.length - 1 : Nat) : Int) := by rw [wrap_in _ (by omega)]; omega
    have hw3 : IntKind.i64.wrap (((i + vs.length : Nat) : Int) - 2) = ((i + vs.length - 2 : Nat) : Int) := by rw [wrap_in _ (by omega)]; omega
    have hw4 : IntKind.i64.wrap ((vs.length : Int) - 1) = ((vs.length - 1 : Nat) : Int) := by rw [wrap_in _ (by omega)]; omega
    have hw5 : IntKind.i64.wrap ((vs.length : Int) - 2) = ((vs.length - 2 : Nat) : Int) := by rw [wrap_in _ (by omega)]; omega
    have hn0 : i + vs.length < us.length := by omega
    have hn1 : i + vs.length - 1 < us.length := by omega
    have hn2 : i + vs.length - 2 < us.length := by omega
    have hn3 : vs.length - 1 < vs.length := by omega
    have hn4 : vs.length - 2 < vs.length := by omega
    have bc1 := hbU.cell
    have bc2 := hbV.cell
    have bc3 := hbN.cell
    have bc4 := hbQ.cell
    have HDV := Lib.hid hdv
    have HGS := Lib.hid hgs
    have HOU := Lib.hid hoU
    have HOV := Lib.hid hoV
    have HOQ := Lib.hid hoQ
    have HBW := Lib.hid hBW
    have HCU := Lib.hid cU
    have HCV := Lib.hid cV
    clear hdv hgs hoU hoV hoQ hBW cU cV hm1 hlt
    generalize u1.getD (i + vs.length) 0 = y0 at *
    generalize u1.getD (i + vs.length - 1) 0 = y1 at *
    generalize u1.getD (i + vs.length - 2) 0 = y2 at *
    generalize vs.getD (vs.length - 1) 0 = y3 at *
    generalize vs.getD (vs.length - 2) 0 = y4 at *
    gi_wp2
    refine region_quiet_round (by kernel_rfl) (by assumption) (by kernel_rfl) ?_
    repeat (gi_big_quiet_step (fail))
    refine BigFrame.wpQuietIn_want (fun _ _ _ _ => trivial) rfl ?_
    intro K hK
    gi_big_quiet_op
    gi_big_quiet_call (first | (gi_at_call 76; exact quiet_of_drawn (CallsIn.inRound l (callsIn_wide.2 (nat_guess.calls 10 _ _ _ _ _ _ _ HGS.out.1)))))
    repeat (gi_big_quiet_step (fail))
    refine wpQuietIn_nil ?_
    rintro w' ⟨nq, rfl⟩
    clear c0 c1 c2 c3 c4 hw1 hw2 hw3 hw4 hw5 hn0 hn1 hn2 hn3 hn4
    have hcu := own_le HOU.out
    have hiu : i < us.length := by have := HM1.out; omega
    have hcut : ∀ W : World, (Instr.slice 62 (.slice (some ⟨Ub, 0, none⟩) us.length cu) (some (.int .i64 (i : Int))) none none).run Try.prog W = .ok (.slice (some ⟨Ub, i, none⟩) (us.length - i) (cu - i)) W := fun W => by
      have := cut_from (P := Try.prog) 62 59 .i64 Try.underlying62 hi 1 hz1 (some ⟨Ub, 0, none⟩) us.length cu (i : Int) (by omega) (by omega) W
      rw [Int.toNat_natCast, if_neg (by omega), Nat.mul_one, Option.map_some, add_plain] at this
      exact this
    gi_wp2
    refine region_tail_round 5 (by assumption) (by kernel_rfl) ?_
    simp only [List.toList_toArray, List.take_succ_cons, List.take_zero]
    repeat (gi_big_quiet_step (fail))
    refine wpQuietIn_nil ?_
    rintro w' ⟨nq2, rfl⟩
    simp only [World.drewN_drewN]
    refine wpAnyIn_ready (rs := [5]) (by kernel_rfl) (by decide) (BigFrame.allReadyIn_want rfl rfl (fun K hK => ?_) AllReadyIn.nil)
    have HFIN : Hid (∀ (W2 : World) (u2 : List Int), W2.ownsRow w.heap.size 59 1 (.slice (some ⟨Ub, 0, none⟩) us.length cu) us.length (u2.map (Value.int .u32)) → W.grownBy W2 (some Ub) → u2 = dvU u1 vs i →
        KeepsFrom W0.heap.size W (W2.setCell ⟨Qb, i, none⟩ (.int .u32 (dvQ u1 vs i))) ∧ KpB w.heap.size (bq + 1) (some ⟨Qb, 0, none⟩) m W (W2.setCell ⟨Qb, i, none⟩ (.int .u32 (dvQ u1 vs i))) ∧
        ((((((∃ v, Boxed (W2.setCell ⟨Qb, i, none⟩ (.int .u32 (dvQ u1 vs i))) bu 62 v ∧ (W2.setCell ⟨Qb, i, none⟩ (.int .u32 (dvQ u1 vs i))).ownsRow w.heap.size 59 1 v us.length ((dvF us vs m (plc (pre ++ [x]))).1.map (Value.int .u32)) ∧ v = .slice (some ⟨Ub, 0, none⟩) us.length cu) ∧ (∃ v, Boxed (W2.setCell ⟨Qb, i, none⟩ (.int .u32 (dvQ u1 vs i))) (bu + 1) 62 v ∧ (W2.setCell ⟨Qb, i, none⟩ (.int .u32 (dvQ u1 vs i))).ownsRow w.heap.size 59 1 v vs.length (vs.map (Value.int .u32)) ∧ v = .slice (some ⟨Vb, 0, none⟩) vs.length cv2)) ∧ (∃ v, Boxed (W2.setCell ⟨Qb, i, none⟩ (.int .u32 (dvQ u1 vs i))) bq 62 v ∧ (W2.setCell ⟨Qb, i, none⟩ (.int .u32 (dvQ u1 vs i))).ownsRow w.heap.size 59 1 v m ((dvF us vs m (plc (pre ++ [x]))).2.map (Value.int .u32)) ∧ v = .slice (some ⟨Qb, 0, none⟩) m m)) ∧ Boxed (W2.setCell ⟨Qb, i, none⟩ (.int .u32 (dvQ u1 vs i))) (bu + 1 + 1) 3 (.int .i64 vs.length)) ∧ Boxed (W2.setCell ⟨Qb, i, none⟩ (.int .u32 (dvQ u1 vs i))) (bq + 1) 62 (.slice (some ⟨Qb, 0, none⟩) m m)) ∧ Below w.heap.size w (W2.setCell ⟨Qb, i, none⟩ (.int .u32 (dvQ u1 vs i))))) := Lib.hid (by
      intro W2 u2 hu2 hg he
      obtain ⟨d1, d2, d3, d4, d5, d6⟩ := HD.out
      have ne : ∀ {x y : Nat}, x ≠ y → (some x : Option Nat) ≠ some y := fun h e => by injection e with e; exact h e
      have bu2 := hbU.kept hg (ne (by omega))
      have bv2 := hbV.kept hg (ne (by omega))
      have bq2 := hbQ.kept hg (ne (by omega))
      have bn2 := hbN.kept hg (ne (by omega))
      have bi2 := hbI.kept hg (ne (by omega))
      have ov2 := own_other HOV.out hg (.inr (by simp [Value.ownBlock]; omega))
      have oq2 := own_other HOQ.out hg (.inr (by simp [Value.ownBlock]; omega))
      obtain ⟨oq3, hg3⟩ := World.ownsRow.stored oq2 i (.int .u32 (dvQ u1 vs i))
      have bu3 := bu2.kept hg3 (ne (by omega))
      have bv3 := bv2.kept hg3 (ne (by omega))
      have bq3 := bq2.kept hg3 (ne (by omega))
      have bn3 := bn2.kept hg3 (ne (by omega))
      have bi3 := bi2.kept hg3 (ne (by omega))
      have ou3 := own_other hu2 hg3 (.inr (by simp [Value.ownBlock]; omega))
      have ov3 := own_other ov2 hg3 (.inr (by simp [Value.ownBlock]; omega))
      rw [← List.map_set] at oq3
      have hbel : ∀ (X : World), Below w.heap.size X W → Below w.heap.size X (W2.setCell ⟨Qb, i, none⟩ (.int .u32 (dvQ u1 vs i))) := fun X hX => by
        have h2 := hX.grown hg (by have := HBW.out.size; exact this) (fun k e => by injection e with e; omega)
        exact h2.grown hg3 (by have := HBW.out.size; have := hg.size; omega) (fun k e => by injection e with e; omega)
      refine ⟨(KeepsFrom.of_grownBy hg (fun j e => by injection e with e; omega)).trans (KeepsFrom.of_grownBy hg3 (fun j e => by injection e with e; omega)), ⟨hbel W (Below.refl _ _), ?_, fun _ => ?_⟩, ⟨⟨⟨⟨⟨_, bu3, ?_, rfl⟩, ⟨_, bv3, ov3, rfl⟩⟩, ⟨_, bq3, ?_, rfl⟩⟩, bn3⟩, bi3⟩, hbel w HBW.out⟩
      · rw [bi3.cell, hbI.cell]
      · rintro ad e j hj
        injection e with e
        subst e
        refine ⟨(q1.set i (dvQ u1 vs i)).getD j 0, ?_⟩
        rw [add_plain, oq3.cellAt j (by omega)]
        exact rowInt _ _ (by rw [List.length_set, HDV.out.2.2.2]; exact hj)
      · rw [plc_snoc, hi', HSN.out, ← he]; exact ou3
      · rw [plc_snoc, hi', HSN.out]; exact oq3)
    gi_wp2_with fail
    refine ⟨trivial, ?_⟩
    refine (CallsIn.inRound l (callsIn_wide.2 (takeOff_in w.heap.size Ub us.length cu i Vb cv2 u1 vs (gs u1 vs i) _ (pw_own_drewN HOU.out _) HDV.out.2.1 (fun j hj => HCV.out j hj) (by have := HD.out; omega) HDV.out.1 HN.out.vsok HGS.out.2 (by have := HM1.out; omega) (by omega)))).mono ?_
    rintro e w1' ⟨rfl, ho1, hg1⟩
    have hgw : W.grownBy w1' (some Ub) := (grown_drewN W (nq + nq2) _).trans hg1
    have hdt : toEnd u1 vs (gs u1 vs i) i = dvT u1 vs i := rfl
    rw [hdt] at ho1 ⊢
    have ne : ∀ {x y : Nat}, x ≠ y → (some x : Option Nat) ≠ some y := fun h e => by injection e with e; exact h e
    have hbU1 := hbU.kept hgw (ne (by have := HD.out; omega))
    have hbV1 := hbV.kept hgw (ne (by have := HD.out; omega))
    have hbQ1 := hbQ.kept hgw (ne (by have := HD.out; omega))
    have hoq1 := own_other HOQ.out hgw (.inr (by have := HD.out; simp [Value.ownBlock]; omega))
    have HO1 := Lib.hid ho1
    have HG1 := Lib.hid hgw
    have be1 := hbU1.cell
    have be2 := hbV1.cell
    have be3 := hbQ1.cell
    have HBU1 := Lib.hid hbU1
    have HBV1 := Lib.hid hbV1
    have HBQ1 := Lib.hid hbQ1
    have HOQ1 := Lib.hid hoq1
    clear ho1 hgw hg1 bc1 bc2 bc3 bc4 hdt hbU1 hbV1 hbQ1 hoq1
    by_cases hbor : (dvT u1 vs i).2 > 0
    · have hu2 : pbEnd (dvT u1 vs i).1 vs i = dvU u1 vs i := by unfold dvU; rw [if_pos hbor]
      have hq2 : IntKind.u64.wrap (gs u1 vs i - 1) % 4294967296 = dvQ u1 vs i := by unfold dvQ; rw [if_pos hbor]
      have HQ2 := Lib.hid hq2
      have HU2 := Lib.hid hu2
      clear hq2 hu2
      gi_wp2
      refine wpAnyIn_ready (rs := [6]) (by kernel_rfl) (by decide) (BigFrame.allReadyIn_want rfl rfl (fun K hK => ?_) AllReadyIn.nil)
      gi_wp2
      refine wpAnyIn_done (by kernel_rfl) ?_ _
      gi_wp2
      refine region_tail_round 4 (by assumption) (by kernel_rfl) ?_
      simp only [List.toList_toArray, List.take_succ_cons, List.take_zero]
      repeat (gi_big_quiet_step (fail))
      refine wpQuietIn_nil ?_
      rintro w' ⟨nq3, rfl⟩
      refine wpAnyIn_ready (rs := [4]) (by kernel_rfl) (by decide) (BigFrame.allReadyIn_want rfl rfl (fun K hK => ?_) AllReadyIn.nil)
      gi_wp2_with fail
      refine ⟨trivial, ?_⟩
      have hd4 := dvU_ok HDV.out.1 HN.out.vsok HN.out.vstop i
      refine (CallsIn.inRound l (callsIn_wide.2 (putBack_in w.heap.size Ub us.length cu i Vb cv2 (dvT u1 vs i).1 vs _ (pw_own_drewN HO1.out _) (by rw [hd4.2.2.2]; exact HDV.out.2.1) (fun j hj => HG1.out.cell (HCV.out j hj) (ne (show Vb ≠ Ub by have := HD.out; omega))) (by have := HD.out; omega) hd4.2.2.1 HN.out.vsok (by have := HM1.out; omega) (by omega)))).mono ?_
      rintro e w2' ⟨rfl, ho2, hg2⟩
      have hgw2 : W.grownBy w2' (some Ub) := (HG1.out.trans (grown_drewN w1' nq3 _)).trans hg2
      rw [HU2.out] at ho2
      have hbQ2 := hbQ.kept hgw2 (ne (by have := HD.out; omega))
      have hoq2 := own_other HOQ.out hgw2 (.inr (by have := HD.out; simp [Value.ownBlock]; omega))
      have hcell : w2'.cell? ⟨Qb, i, none⟩ = some (.int .u32 (q1.getD i 0)) := by
        rw [hoq2.cellAt i (by omega)]; exact rowInt _ _ (by rw [HDV.out.2.2.2]; exact hxl)
      have hfrz := hoq2.frozenAt i
      have hfin := HFIN.out w2' _ ho2 hgw2 rfl
      have HF2 := Lib.hid hfin
      have be4 := hbQ2.cell
      clear hfin ho2 hg2 hgw2 hoq2 hbQ2 be1 be2 be3
      gi_wp2
      refine wpAnyIn_done (by kernel_rfl) ?_ _
      gi_wp2
      rw [HQ2.out]
      exact HF2.out
    · have hu2 : (dvT u1 vs i).1 = dvU u1 vs i := by unfold dvU; rw [if_neg hbor]
      have hq2 : gs u1 vs i % 4294967296 = dvQ u1 vs i := by unfold dvQ; rw [if_neg hbor]
      have hcell : w1'.cell? ⟨Qb, i, none⟩ = some (.int .u32 (q1.getD i 0)) := by
        rw [HOQ1.out.cellAt i (by omega)]; exact rowInt _ _ (by rw [HDV.out.2.2.2]; exact hxl)
      have hfrz := HOQ1.out.frozenAt i
      have hfin := HFIN.out w1' _ HO1.out HG1.out hu2
      have HF2 := Lib.hid hfin
      clear hfin
      gi_wp2
      refine wpAnyIn_ready (rs := [6]) (by kernel_rfl) (by decide) (BigFrame.allReadyIn_want rfl rfl (fun K hK => ?_) AllReadyIn.nil)
      gi_wp2
      refine wpAnyIn_done (by kernel_rfl) ?_ _
      gi_wp2
      rw [hq2]
      exact HF2.out
  case done =>
    rintro D ys W hD hys ⟨⟨⟨⟨⟨⟨_, hbU, hoU, rfl⟩, ⟨_, hbV, hoV, rfl⟩⟩, ⟨_, hbQ, hoQ, rfl⟩⟩, hbN⟩, hbI⟩, hBW⟩ hK
    have bc1 := hbU.cell
    have bc2 := hbQ.cell
    have hmx : Try.prog.follows .mixedOrders = true := by kernel_rfl
    have hdn : plc ys = down m := hys
    rw [hdn] at hoU hoQ
    have hdv := dvF_ok HN.out.uok HN.out.vsok HN.out.vstop m (down m)
    have hvl := dv_val HN.out.uok HN.out.vsok hvl2 HN.out.vstop m HM1.out (by have := HN.out.below; rw [show us.length - vs.length = m by have := HM1.out; omega] at this; exact this)
    rw [HN.out.uval, HN.out.vsval, Nat.mul_mod_mul_right, Nat.mul_div_mul_right _ _ (Nat.two_pow_pos s)] at hvl
    obtain ⟨u1, hu1⟩ : ∃ u, (dvF us vs m (down m)).1 = u := ⟨_, rfl⟩
    obtain ⟨q1, hq1⟩ : ∃ u, (dvF us vs m (down m)).2 = u := ⟨_, rfl⟩
    rw [hu1] at hdv hvl hoU
    rw [hq1] at hdv hvl hoQ
    clear hu1 hq1 hys hdn hbV hoV hbN hbI
    have hRQ : Kd.R (Kd.int .u32) 59 W w.heap.size (fun _ => True) (.slice (some ⟨Qb, 0, none⟩) q1.length m) q1 := Kd.R_of_own (enc := Value.int .u32) (by rw [hdv.2.2.2]; exact hoQ) (fun _ _ => trivial)
    have hRU : Kd.R (Kd.int .u32) 59 W w.heap.size (fun _ => True) (.slice (some ⟨Ub, 0, none⟩) u1.length cu) u1 := Kd.R_of_own (enc := Value.int .u32) (by rw [hdv.2.1]; exact hoU) (fun _ _ => trivial)
    have hTQ : Hid (∀ k, Calls Try.prog 43 #[.slice (some ⟨Qb, 0, none⟩) m m] (W.drewN k) fun e w' => e = .returned (trimV (some ⟨Qb, 0, none⟩) m q1) ∧ w' = W.drewN k) := Lib.hid (fun k => by
      have := trim_det (some ⟨Qb, 0, none⟩) m q1 (W.drewN k) (Kd.C_drewN (Kd.R_reads' hRQ).2.2 k) (by omega) hdv.2.2.1 (by omega)
      rw [hdv.2.2.2] at this
      exact this)
    have hTU : Hid (∀ k, Calls Try.prog 43 #[.slice (some ⟨Ub, 0, none⟩) us.length cu] (W.drewN k) fun e w' => e = .returned (trimV (some ⟨Ub, 0, none⟩) cu u1) ∧ w' = W.drewN k) := Lib.hid (fun k => by
      have := trim_det (some ⟨Ub, 0, none⟩) cu u1 (W.drewN k) (Kd.C_drewN (Kd.R_reads' hRU).2.2 k) (Kd.R_reads' hRU).2.1 hdv.1 (by omega)
      rw [hdv.2.1] at this
      exact this)
    have hlq := limbs_take hdv.2.2.1
    have hlu := limbs_take hdv.1
    have hRT := trimV_R hRU hdv.1 hlu.1 hlu.2
    obtain ⟨Au, cu2, hAu⟩ := Kd.R_slice hRT
    rw [hAu] at hRT hTU
    have hrt : Hid (nat_num_right.f ((limbs (val u1)).length + 1) (limbs (val u1)) (s : Int) = some (limbs (val a % val b))) := Lib.hid (by
      have := right_f (limbs (val u1)) (okL_limbs _) s HN.out.lt (by omega) ((limbs (val u1)).length + 1) (Nat.le_refl _)
      rw [this, val_limbs, hvl.1, Nat.mul_div_cancel _ (Nat.two_pow_pos s)])
    have HRT := Lib.hid hRT
    have HRQ := Lib.hid hRQ
    have HOQ := Lib.hid hoQ
    have HBW := Lib.hid hBW
    have HK := Lib.hid hK
    have HDV := Lib.hid hdv
    have HVL := Lib.hid hvl
    have HLQ := Lib.hid hlq
    clear hRQ hRU hRT hoU hoQ hBW hK hdv hvl hlq hlu hbU hbQ
    gi_wp2
    refine region_tail_round 5 (by assumption) (by kernel_rfl) ?_
    simp only [List.toList_toArray, List.take_succ_cons, List.take_zero]
    repeat (gi_big_quiet_step (fail))
    refine BigFrame.wpQuietIn_want (fun _ _ _ _ => trivial) rfl ?_
    intro K hK
    gi_big_quiet_op
    gi_big_quiet_call (first | (gi_at_call 43; exact CallsIn.quiet_of_same (callsIn_wide.2 (hTQ.out _))))
    repeat (gi_big_quiet_step (fail))
    refine BigFrame.wpQuietIn_want (fun _ _ _ _ => trivial) rfl ?_
    intro K hK
    gi_big_quiet_op
    gi_big_quiet_call (first | (gi_at_call 43; exact CallsIn.quiet_of_same (callsIn_wide.2 (hTU.out _))))
    repeat (gi_big_quiet_step (fail))
    refine wpQuietIn_nil ?_
    rintro w' ⟨nq, rfl⟩
    refine wpAnyIn_ready (rs := [5]) (by kernel_rfl) (by decide) (BigFrame.allReadyIn_want rfl rfl (fun K hK => ?_) AllReadyIn.nil)
    gi_wp2_with fail
    refine ⟨trivial, ?_⟩
    refine (callsIn_wide.2 (nat_num_right.calls ((limbs (val u1)).length + 1) Au cu2 (limbs (val u1)) s _ (W.drewN nq) (Kd.C_drewN (Kd.R_reads' HRT.out).2.2 nq) (Kd.R_reads' HRT.out).2.1 hrt.out)).mono ?_
    rintro e w7 ⟨vr, rfl, hRr, hb7⟩
    have HRR := Lib.hid hRr
    have HB7 := Lib.hid hb7
    have hK7 : w7.heap[D]? = some (.deferred (some [])) := (hb7.block D (Array.getElem?_eq_some_iff.1 HK.out).1).trans HK.out
    have HK7 := Lib.hid hK7
    clear hRr hb7 hK7
    gi_wp2
    refine wpAnyIn_ready (rs := [6]) (by kernel_rfl) (by decide) (BigFrame.allReadyIn_want rfl rfl (fun K hK => ?_) AllReadyIn.nil)
    gi_wp2
    refine wpAnyIn_ready (rs := [7]) (by kernel_rfl) (by decide) (BigFrame.allReadyIn_want rfl rfl (fun K hK => ?_) AllReadyIn.nil)
    gi_wp2
    refine wpAnyIn_done (by kernel_rfl) ?_ _
    gi_wp2
    have hb7 : Below W.heap.size W w7 := (pw_below_drewN (Below.refl _ _) nq).trans HB7.out
    have hwW := HBW.out.size
    have hqW : Qb < W.heap.size := own_lt HOQ.out Qb (by simp [Value.ownBlock])
    refine ⟨by simp, .inl ⟨_, _, rfl, run_takeDeferred (show w7.heap[D]? = _ from HK7.out), ?_⟩⟩
    have hoq7 : (w7.putObj D (.deferred none)).ownsRow w.heap.size 59 1 (.slice (some ⟨Qb, 0, none⟩) m m) m (q1.map (Value.int .u32)) := ownsRow_putObj (pw_own_below HOQ.out hb7) (.deferred none) HK7.out rfl
    have hor7 := ownsRow_putObj (Kd.own_of_R HRR.out) (.deferred none) HK7.out rfl
    have hRQ7 : Kd.R (Kd.int .u32) 59 (w7.putObj D (.deferred none)) w.heap.size (fun k => k = Qb) (.slice (some ⟨Qb, 0, none⟩) q1.length m) q1 := Kd.R_of_own (enc := Value.int .u32) (by rw [HDV.out.2.2.2]; exact hoq7) (fun k hk => by simp [Value.ownBlock] at hk; exact hk.symm)
    have hRV7 : Kd.R (Kd.int .u32) 59 (w7.putObj D (.deferred none)) w.heap.size (fun k => W.heap.size ≤ k) vr (limbs (val a % val b)) := Kd.R_of_own (enc := Value.int .u32) (own_weaken hor7 hwW) (fun k hk => own_base hor7 k hk)
    have ht := trimV_R hRQ7 HDV.out.2.2.1 HLQ.out.1 HLQ.out.2
    rw [HVL.out.2] at ht
    refine ⟨_, results_tmp2 rfl _ _ _, _, _, rfl, Kd.R_mono ht (fun k hk he => ?_), Kd.R_mono hRV7 (fun k hk he => ?_), (HBW.out.trans (hb7.mono hwW)).trans (belowK_b (w := w) (Nat.le_refl _) _ D _ _ (by have := HB0.out.size; omega) HK7.out rfl rfl)⟩
    · have := own_base hor7 k he.symm
      subst hk
      have : W.heap.size ≤ k := this
      omega
    · have hk2 := ht.1 k he.symm
      subst hk2
      omega
  case stop =>
    rintro D c pre W _ _ h _
    exact h.elim
theorem nat_num_div.calls (A0 : Option Addr) (c0 : Nat) (l0 : List Int) (A1 : Option Addr) (c1 : Nat) (l1 : List Int) (r1 : List Int) (r2 : List Int) (w : World) (hr0 : Kd.C (Kd.int .u32) w A0 l0.length l0) (hc0 : l0.length ≤ c0) (hr1 : Kd.C (Kd.int .u32) w A1 l1.length l1) (hc1 : l1.length ≤ c1) (h : nat_num_div.f l0 l1 = some (r1, r2)) :
    Calls Try.prog 61 #[.slice A0 l0.length c0, .slice A1 l1.length c1] w fun e w' => ∃ v0_ v1_ : Value, e = .returned (.tuple #[v0_, v1_]) ∧ Kd.R (Kd.int .u32) 59 w' w.heap.size (fun k_ => some k_ ≠ (v1_ : Value).ownBlock) v0_ r1 ∧ Kd.R (Kd.int .u32) 59 w' w.heap.size (fun k_ => some k_ ≠ (v0_ : Value).ownBlock) v1_ r2 ∧ Below w.heap.size w w' := by
  unfold nat_num_div.f at h
  by_cases hc : (canon l0 ∧ canon l1) ∧ l1 ≠ [] ∧ l0.length ≤ 268435456 ∧ l1.length ≤ 268435456
  case neg => rw [if_neg hc] at h; cases h
  rw [if_pos hc] at h
  simp only [Option.some.injEq, Prod.mk.injEq] at h
  obtain ⟨rfl, rfl⟩ := h
  obtain ⟨hab, hne, h1, h2⟩ := hc
  by_cases hlt : val l0 < val l1
  · exact div_less A0 A1 c0 c1 l0 l1 w hr0 hc0 hr1 hc1 hab h1 h2 hlt
  · by_cases hlen : 2 ≤ l1.length
    · obtain ⟨s, us, vl, vs, hN⟩ := norm_of hab.1 hab.2 hlen h1 h2 (by omega)
      exact callsIn_wide.1 (div_long 8 (Nat.le_refl _) A0 A1 c0 c1 l0 l1 w hr0 hc0 hr1 hc1 hab h1 h2 hlen hlt s us vl vs hN)
    · obtain ⟨y, rfl⟩ : ∃ y, l1 = [y] := by
        rcases l1 with _ | ⟨y, _ | ⟨z, l⟩⟩
        · exact absurd rfl hne
        · exact ⟨y, rfl⟩
        · simp at hlen
      exact div_one A0 A1 c0 c1 l0 y w hr0 hc0 hr1 hc1 hab h1 hlt
end Go.Proofs.Ytdbnpaloalhciaa.P

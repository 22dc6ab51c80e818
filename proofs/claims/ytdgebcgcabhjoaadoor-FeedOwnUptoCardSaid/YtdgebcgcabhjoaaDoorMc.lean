/- Texts of this claim, one behind the other. -/
import Derived.Test.YtdgebcgcabhjoaaDoorMb
import Derived.Test.YtdgebcgcabhjoaaDoorMa
/- nat's div: contract. -/
namespace Go.Proofs.YtdgebcgcabhjoaaDoor.P
set_option linter.unusedVariables false
set_option linter.unusedSimpArgs false
open Go.RowKit Go.Shelf Go.Proofs.YtdgebcgcabhjoaaDoorW.PrintWords Go.Proofs.YtdgebcgcabhjoaaDoorW.PrintMore Go.Proofs.YtdgebcgcabhjoaaDoorW.PrintLast
attribute [local go_sem] Oper.semAt_some
def nat_num_div.f (l0 l1 : List Int) : Option (List Int × List Int) := if (canon l0 ∧ canon l1) ∧ l1 ≠ [] ∧ l0.length ≤ 268435456 ∧ l1.length ≤ 268435456 then some (limbs (val l0 / val l1), limbs (val l0 % val l1)) else none
set_option maxHeartbeats 4000000 in
set_option maxRecDepth 100000 in
theorem div_less (A B : Option Addr) (ca cb : Nat) (a b : List Int) (w : World) (hCa : Kd.C (Kd.int .u32) w A a.length a) (hca : a.length ≤ ca) (hCb : Kd.C (Kd.int .u32) w B b.length b) (hcb : b.length ≤ cb) (hab : canon a ∧ canon b) (hz : a.length ≤ 268435456) (hzb : b.length ≤ 268435456) (hlt : val a < val b) :
    Calls Tryd.prog 59 #[.slice A a.length ca, .slice B b.length cb] w fun e w' => ∃ v0_ v1_ : Value, e = .returned (.tuple #[v0_, v1_]) ∧ Kd.R (Kd.int .u32) 63 w' w.heap.size (fun k_ => some k_ ≠ (v1_ : Value).ownBlock) v0_ (limbs (val a / val b)) ∧ Kd.R (Kd.int .u32) 63 w' w.heap.size (fun k_ => some k_ ≠ (v0_ : Value).ownBlock) v1_ (limbs (val a % val b)) ∧ Below w.heap.size w w' := by
  have HCa := Lib.hid hCa
  have HCb := Lib.hid hCb
  have HF : Hid (nat_num_compare.f a b = some (-1)) := Lib.hid (by unfold nat_num_compare.f; rw [if_pos ⟨hab, by omega, by omega⟩]; unfold cmpI; rw [if_pos (by omega)])
  have HE : Hid (slices_Clone_num_uint32.f a = some a) := Lib.hid (by unfold slices_Clone_num_uint32.f; rw [if_pos (by omega)])
  have hq : limbs (val a / val b) = [] := by rw [Nat.div_eq_of_lt hlt, limbs_zero]
  have hr : limbs (val a % val b) = a := by rw [Nat.mod_eq_of_lt hlt]; exact hab.1
  clear hCa hCb
  go_enter Tryd.func59, Tryd.ntmps59
  go_wp2_with fail
  refine (nat_num_compare.calls A ca a B cb b _ _ HCa.out hca HCb.out hcb HF.out).mono ?_
  rintro e w1 ⟨rfl, hb1⟩
  have HB1 := Lib.hid hb1
  clear hb1
  go_wp2_with fail
  refine (slices_Clone_num_uint32.calls A ca a a _ (Kd.C_below HCa.out HB1.out) hca HE.out).mono ?_
  rintro e w2 ⟨v, rfl, hR, hb2⟩
  have HR := Lib.hid hR
  have HB2 := Lib.hid hb2
  clear hb2 hR
  go_wp2
  go_ret2
  refine ⟨_, _, rfl, ?_, ?_, HB1.out.trans (HB2.out.mono HB1.out.size)⟩
  · rw [hq]; exact Kd.R_nil _ _ _ _ _
  · rw [hr]; exact Kd.R_mono (Kd.R_lower HR.out HB1.out.size) (fun k _ => by simp [Value.ownBlock])
theorem R_other {w : World} {base : Nat} {v : Value} {l : List Int} {ok : Nat → Prop} (h : Kd.R (Kd.int .u32) 63 w base ok v l) : Kd.R (Kd.int .u32) 63 w base (fun k => ok k ∧ base ≤ k ∧ k < w.heap.size) v l := Kd.R_mono (Kd.R_bound h) (fun k hk => ⟨hk.1, hk.2.1, hk.2.2.1⟩)
set_option maxHeartbeats 4000000 in
set_option maxRecDepth 100000 in
theorem div_one (A B : Option Addr) (ca cb : Nat) (a : List Int) (y : Int) (w : World) (hCa : Kd.C (Kd.int .u32) w A a.length a) (hca : a.length ≤ ca) (hCb : Kd.C (Kd.int .u32) w B [y].length [y]) (hcb : [y].length ≤ cb) (hab : canon a ∧ canon [y]) (hz : a.length ≤ 268435456) (hge : ¬ val a < val [y]) :
    Calls Tryd.prog 59 #[.slice A a.length ca, .slice B [y].length cb] w fun e w' => ∃ v0_ v1_ : Value, e = .returned (.tuple #[v0_, v1_]) ∧ Kd.R (Kd.int .u32) 63 w' w.heap.size (fun k_ => some k_ ≠ (v1_ : Value).ownBlock) v0_ (limbs (val a / val [y])) ∧ Kd.R (Kd.int .u32) 63 w' w.heap.size (fun k_ => some k_ ≠ (v0_ : Value).ownBlock) v1_ (limbs (val a % val [y])) ∧ Below w.heap.size w w' := by
  have hy := canon_okL hab.2
  rw [okL_cons] at hy
  have hy0 : y ≠ 0 := by have := canon_last hab.2 (by simp); simpa using this
  have hvy : val [y] = y.toNat := by simp [val]
  obtain ⟨c, hc, hc0⟩ : ∃ c : Int, cmpI (val a) (val [y]) = c ∧ ¬ c < 0 := ⟨_, rfl, by unfold cmpI; rw [if_neg (by omega)]; split <;> omega⟩
  have HF : Hid (nat_num_compare.f a [y] = some c) := Lib.hid (by unfold nat_num_compare.f; rw [if_pos ⟨hab, by omega, by simp⟩, hc])
  have HS : Hid (nat_num_small.f a y = some (limbs (val a / val [y]), ((val a % val [y] : Nat) : Int))) := Lib.hid (by unfold nat_num_small.f; rw [if_pos ⟨canon_okL hab.1, by omega, by omega, by omega⟩, hvy])
  have hmb : val a % val [y] < 4294967296 := Nat.lt_trans (Nat.mod_lt _ (by rw [hvy]; omega)) (by rw [hvy]; omega)
  have HOK : Hid (okL [((val a % val [y] : Nat) : Int)]) := Lib.hid (by rw [okL_cons]; exact ⟨by omega, okL_nil⟩)
  have HV : Hid (val [((val a % val [y] : Nat) : Int)] = val a % val [y]) := Lib.hid (by generalize val a % val [y] = z; simp [val])
  obtain ⟨ad, rfl, hx⟩ := Kd.at_int hCb (0 : Int) (by omega) (by simp)
  have hxy : rd [y] 0 = y := rfl
  rw [hxy] at hx
  have had : ad.add (Int.toNat 0) = ad := by simp [Addr.add]
  rw [had] at hx
  have HX := Lib.hid hx
  have HCa := Lib.hid hCa
  have HCb := Lib.hid hCb
  generalize val a % val [y] = r at *
  generalize limbs (val a / val [y]) = qs at *
  clear hCa hCb hx hxy hc hge hy hy0 hvy
  simp only [List.length_cons, List.length_nil, Nat.zero_add] at *
  go_enter Tryd.func59, Tryd.ntmps59
  go_wp2_with fail
  refine (nat_num_compare.calls A ca a (some ad) cb [y] _ _ HCa.out hca HCb.out hcb HF.out).mono ?_
  rintro e w1 ⟨rfl, hb1⟩
  have HB1 := Lib.hid hb1
  have hx1 : w1.cell? ad = some (.int .u32 y) := pw_cell_below hb1 HX.out
  clear hb1
  go_wp2_with fail
  refine (nat_num_small.calls A ca a y _ _ _ (Kd.C_below HCa.out HB1.out) hca HS.out).mono ?_
  rintro e w2 ⟨v, rfl, hR, hb2⟩
  have HR := Lib.hid (R_other hR)
  have HB2 := Lib.hid hb2
  clear hb2 hR
  go_wp2_with fail
  have ho : (w2.alloc (.cells #[.int .u32 (r : Int)] 63)).ownsRow w2.heap.size 63 1 (.slice (some ⟨w2.heap.size, 0, none⟩) 1 1) 1 (nums .u32 [(r : Int)]) := own_lit w2 w2.heap.size 63 .u32 [(r : Int)] (Nat.le_refl _) (by simp)
  have hR1 : Kd.R (Kd.int .u32) 63 (w2.alloc (.cells #[.int .u32 (r : Int)] 63)) w2.heap.size (fun k => w2.heap.size ≤ k) (.slice (some ⟨w2.heap.size, 0, none⟩) [(r : Int)].length 1) [(r : Int)] := Kd.R_of_own (enc := Value.int .u32) ho (fun k hk => by simp [Value.ownBlock] at hk; omega)
  have HR1 := Lib.hid hR1
  clear ho hR1
  refine (trim_det (some ⟨w2.heap.size, 0, none⟩) 1 [(r : Int)] _ (Kd.R_reads' HR1.out).2.2 (Nat.le_refl _) HOK.out (by simp)).mono ?_
  rintro e w3 ⟨rfl, rfl⟩
  go_wp2
  go_ret2
  have hb1 := HB1.out
  have hb2 := HB2.out
  have hs1 := hb1.size
  have hs2 := hb2.size
  refine ⟨v, _, rfl, ?_, ?_, (hb1.trans (hb2.mono hs1)).alloc (by omega) _⟩
  · refine Kd.R_mono (Kd.R_alloc (Kd.R_lower HR.out hs1) _) fun k hk => ?_
    unfold trimV
    split
    · simp [Value.ownBlock]
    · simp [Value.ownBlock]; omega
  · obtain ⟨t1, t2⟩ := limbs_take HOK.out
    have := trimV_R HR1.out HOK.out t1 t2
    rw [HV.out] at this
    refine Kd.R_mono (Kd.R_lower this (by omega)) fun k hk he => ?_
    have := HR.out.1 k he.symm
    omega
/-- What is made of the divisor and the dividend. -/
structure Norm (a b : List Int) (s : Nat) (us vl vs : List Int) : Prop where
  lead : bits_LeadingZeros32.f (b.getD (b.length - 1) 0) = some (s : Int)
  lt : s < 32
  uf : nat_num_left.f a s = some us
  uok : okL us
  ulen : us.length = a.length + 1
  uval : val us = val a * 2 ^ s
  vf : nat_num_left.f b s = some vl
  vok : okL vl
  vllen : vl.length = b.length + 1
  vlim : limbs (val vl) = vs
  vsok : okL vs
  vslen : vs.length = b.length
  vstop : 2147483648 ≤ vs.getD (vs.length - 1) 0
  vsval : val vs = val b * 2 ^ s
  below : val us < val vs * 4294967296 ^ (us.length - vs.length)
theorem norm_of {a b : List Int} (ha : canon a) (hb : canon b) (hlen : 2 ≤ b.length) (hz : a.length ≤ 268435456) (hzb : b.length ≤ 268435456) (hge : val b ≤ val a) : ∃ s us vl vs, Norm a b s us vl vs := by
  have hbo := canon_okL hb
  have hao := canon_okL ha
  have hbn : b ≠ [] := by intro e; rw [e] at hlen; simp at hlen
  obtain ⟨L, hL⟩ : ∃ L, b.length = L + 1 := ⟨b.length - 1, by omega⟩
  have htb := okL_getD hbo L
  obtain ⟨x, hx⟩ : ∃ x : Nat, b.getD L 0 = x := ⟨(b.getD L 0).toNat, by omega⟩
  have hx0 : 0 < x := by
    have := canon_last hb hbn
    rw [getLast_getD hbn, hL, Nat.add_sub_cancel, hx] at this
    omega
  rw [hx] at htb
  obtain ⟨s, h1, h2, h3, h4⟩ := lead_f x hx0 (by omega)
  obtain ⟨us, u1, u2, u3, u4⟩ := left_val hao h2 (by omega)
  obtain ⟨vl, v1, v2, v3, v4⟩ := left_val hbo h2 (by omega)
  have hbv := val_split b (i := L) (by omega)
  rw [val_drop_step (by omega), hx, List.drop_of_length_le (by omega), val, Nat.mul_zero, Nat.add_zero, Int.toNat_natCast] at hbv
  have hblo : val (b.take L) < 4294967296 ^ L := by
    have := val_lt (okL_take hbo L)
    rw [List.length_take, Nat.min_eq_left (by omega)] at this
    exact this
  have hp := Nat.two_pow_pos s
  have hW : 0 < 4294967296 ^ L := Nat.pow_pos (by omega)
  have hlo : 4294967296 ^ L * (x * 2 ^ s) ≤ val b * 2 ^ s := by rw [← Nat.mul_assoc]; exact Nat.mul_le_mul_right _ (by omega)
  have hxs : (x + 1) * 2 ^ s ≤ 4294967296 := by
    have hd : 4294967296 = 2 ^ (32 - s) * 2 ^ s := by rw [← Nat.pow_add, show 32 - s + s = 32 by omega]
    rw [hd] at h4 ⊢
    exact Nat.mul_le_mul_right _ (Nat.lt_of_mul_lt_mul_right h4)
  have hhi : val b * 2 ^ s < 4294967296 ^ (L + 1) := by
    have e1 : val b < 4294967296 ^ L * (x + 1) := by rw [Nat.mul_add, Nat.mul_one]; omega
    have e2 := Nat.mul_lt_mul_of_pos_right e1 hp
    rw [Nat.mul_assoc] at e2
    have e3 := Nat.mul_le_mul_left (4294967296 ^ L) hxs
    rw [← Nat.pow_succ] at e3
    omega
  have hvlen : (limbs (val vl)).length = b.length := by
    rw [v4, hL]
    refine Nat.le_antisymm (limbs_len hhi) ?_
    rcases Nat.lt_or_ge L (limbs (val b * 2 ^ s)).length with h | h
    · exact h
    · exfalso
      have := val_lt (okL_limbs (val b * 2 ^ s))
      rw [val_limbs] at this
      have h5 := Nat.pow_le_pow_right (show 0 < 4294967296 by omega) h
      have h6 := Nat.mul_le_mul_left (4294967296 ^ L) (show 1 ≤ x * 2 ^ s by omega)
      rw [Nat.mul_one] at h6
      omega
  have hvv : val (limbs (val vl)) = val b * 2 ^ s := by rw [val_limbs, v4]
  have hvo := okL_limbs (val vl)
  have htop : 2147483648 ≤ (limbs (val vl)).getD ((limbs (val vl)).length - 1) 0 := by
    rw [hvlen, hL, Nat.add_sub_cancel]
    have hsv := val_split (limbs (val vl)) (i := L) (by omega)
    rw [val_drop_step (by omega), List.drop_of_length_le (by omega), val, Nat.mul_zero, Nat.add_zero, hvv] at hsv
    have hl : val ((limbs (val vl)).take L) < 4294967296 ^ L := by
      have := val_lt (okL_take hvo L)
      rw [List.length_take, Nat.min_eq_left (by omega)] at this
      exact this
    have hg := okL_getD hvo L
    generalize (limbs (val vl)).getD L 0 = t at *
    rcases Int.lt_or_le t 2147483648 with h | h
    · exfalso
      have h7 := Nat.mul_le_mul_left (4294967296 ^ L) (show t.toNat + 1 ≤ x * 2 ^ s by omega)
      rw [Nat.mul_add, Nat.mul_one] at h7
      omega
    · exact h
  have hle : b.length ≤ a.length := canon_len hb (Nat.lt_of_le_of_lt hge (val_lt hao))
  refine ⟨s, us, vl, limbs (val vl), by rw [hL, Nat.add_sub_cancel, hx]; exact h1, h2, u1, u2, u3, u4, v1, v2, v3, rfl, hvo, hvlen, htop, hvv, ?_⟩
  rw [hvv, u4, u3, hvlen]
  have ha1 := val_lt hao
  have hb1 := canon_ge hb hbn
  rw [hL, Nat.add_sub_cancel] at hb1
  have e1 : 4294967296 ^ L * 4294967296 ^ (a.length + 1 - b.length) = 4294967296 ^ a.length := by rw [← Nat.pow_add, show L + (a.length + 1 - b.length) = a.length by omega]
  have e2 := Nat.mul_le_mul_right (4294967296 ^ (a.length + 1 - b.length)) hb1
  rw [e1] at e2
  rw [Nat.mul_right_comm]
  exact Nat.mul_lt_mul_of_pos_right (by omega) hp
set_option maxRecDepth 100000 in
set_option maxHeartbeats 8000000 in
theorem div_long (n : Nat) (hn : 8 ≤ n) (A B : Option Addr) (ca cb : Nat) (a b : List Int) (w : World) (hCa : Kd.C (Kd.int .u32) w A a.length a) (hca : a.length ≤ ca) (hCb : Kd.C (Kd.int .u32) w B b.length b) (hcb : b.length ≤ cb) (hab : canon a ∧ canon b) (hz : a.length ≤ 268435456) (hzb : b.length ≤ 268435456) (hlen : 2 ≤ b.length) (hge : ¬ val a < val b)
    (s : Nat) (us vl vs : List Int) (hN : Norm a b s us vl vs) :
    CallsIn Fence.wide n Tryd.prog 59 #[.slice A a.length ca, .slice B b.length cb] w fun e w' => ∃ v0_ v1_ : Value, e = .returned (.tuple #[v0_, v1_]) ∧ Kd.R (Kd.int .u32) 63 w' w.heap.size (fun k_ => some k_ ≠ (v1_ : Value).ownBlock) v0_ (limbs (val a / val b)) ∧ Kd.R (Kd.int .u32) 63 w' w.heap.size (fun k_ => some k_ ≠ (v0_ : Value).ownBlock) v1_ (limbs (val a % val b)) ∧ Below w.heap.size w w' := by
  have h1 : 1 ≤ n := by omega
  obtain ⟨i0, hi, hz0, hz1, hz2⟩ := info_parts infoU
  obtain ⟨c, hc, hc0⟩ : ∃ c : Int, cmpI (val a) (val b) = c ∧ ¬ c < 0 := ⟨_, rfl, by unfold cmpI; rw [if_neg (by omega)]; split <;> omega⟩
  have HF : Hid (nat_num_compare.f a b = some c) := Lib.hid (by unfold nat_num_compare.f; rw [if_pos ⟨hab, by omega, by omega⟩, hc])
  have HN := Lib.hid hN
  obtain ⟨adb, rfl, hxb⟩ := Kd.at_int hCb ((b.length : Int) - 1) (by omega) (by omega)
  rw [show ((b.length : Int) - 1).toNat = b.length - 1 by omega] at hxb
  have hrb : rd b ((b.length : Int) - 1) = b.getD (b.length - 1) 0 := by rw [show ((b.length : Int) - 1) = ((b.length - 1 : Nat) : Int) by omega, rd_nat]
  rw [hrb] at hxb
  have hlead := hN.lead
  have hle : vs.length ≤ us.length := by
    have := canon_len hab.2 (Nat.lt_of_le_of_lt (Nat.le_of_not_lt hge) (val_lt (canon_okL hab.1)))
    rw [hN.vslen, hN.ulen]; omega
  have hul : us.length ≤ 268435457 := by rw [hN.ulen]; omega
  have hvl2 : 2 ≤ vs.length := by rw [hN.vslen]; exact hlen
  obtain ⟨tb, htb⟩ : ∃ t, b.getD (b.length - 1) 0 = t := ⟨_, rfl⟩
  rw [htb] at hxb hlead
  have HLD := Lib.hid hlead
  have HXB := Lib.hid hxb
  have HCa := Lib.hid hCa
  have HCb := Lib.hid hCb
  have HAB := Lib.hid hab
  clear hlead htb
  have hbl : (b.length == 1) = false := by rw [beq_eq_false_iff_ne]; omega
  have hw1 : IntKind.i64.wrap ((b.length : Int) - 1) = (b.length : Int) - 1 := wrap_in _ (by omega)
  clear hCa hCb hc hge hN hxb hrb hab
  refine callsIn_of_wp_marks Tryd.func59 rfl trivial ?_ rfl
  simp only [Tryd.ntmps59, List.size_toArray, List.length_cons, List.length_nil, Nat.reduceAdd, Nat.reduceSub, Array.replicate_succ, Array.replicate_zero, List.push_toArray, List.append_toArray, List.nil_append, List.cons_append]
  gi_wp2_with fail
  refine ⟨trivial, ?_⟩
  refine (callsIn_wide.2 (nat_num_compare.calls A ca a (some adb) cb b _ _ HCa.out hca HCb.out hcb HF.out)).mono ?_
  rintro e w1 ⟨rfl, hb1⟩
  have HB1 := Lib.hid hb1
  have hx1 : w1.cell? (adb.add (b.length - 1)) = some (.int .u32 tb) := pw_cell_below hb1 HXB.out
  clear hb1
  gi_wp2_with fail
  refine ⟨trivial, ?_⟩
  refine (callsIn_wide.2 (bits_LeadingZeros32.calls tb s _ HLD.out)).mono ?_
  rintro e w2 ⟨rfl, nd, rfl⟩
  have HB2 : Hid (Below w.heap.size w (w1.drewN nd)) := Lib.hid (pw_below_drewN HB1.out nd)
  clear hx1
  generalize w1.drewN nd = w2 at *
  gi_wp2_with fail
  refine ⟨trivial, ?_⟩
  refine (callsIn_wide.2 (nat_num_left.calls A ca a s us _ (Kd.C_below HCa.out HB2.out) hca HN.out.uf)).mono ?_
  rintro e w3 ⟨vu, rfl, hRu, hb3⟩
  have HRU := Lib.hid (R_other hRu)
  have HB3 := Lib.hid hb3
  have hs2 := HB2.out.size
  have hs3 := hb3.size
  clear hRu hb3
  gi_wp2_with fail
  refine ⟨trivial, ?_⟩
  refine (callsIn_wide.2 (nat_num_left.calls (some adb) cb b s vl _ (Kd.C_below HCb.out (HB2.out.trans (HB3.out.mono hs2))) hcb HN.out.vf)).mono ?_
  rintro e w4 ⟨vv, rfl, hRv, hb4⟩
  have HRV := Lib.hid (R_other hRv)
  have HB4 := Lib.hid hb4
  have hs4 := hb4.size
  clear hRv hb4
  obtain ⟨Av, cv, rfl⟩ := Kd.R_slice HRV.out
  gi_wp2_with fail
  refine ⟨trivial, ?_⟩
  refine (callsIn_wide.2 (trim_det Av cv vl w4 (Kd.R_reads' HRV.out).2.2 (Kd.R_reads' HRV.out).2.1 HN.out.vok (by have := HN.out.vllen; omega))).mono ?_
  rintro e w5 ⟨rfl, rfl⟩
  have htl := limbs_take HN.out.vok
  have hRt := trimV_R HRV.out HN.out.vok htl.1 htl.2
  rw [HN.out.vlim] at hRt
  have HRT := Lib.hid hRt
  clear hRt htl
  obtain ⟨vt, hvt⟩ : ∃ v, trimV Av cv vl = v := ⟨_, rfl⟩
  rw [hvt] at HRT ⊢
  clear hvt
  -- the rows of the call's own
  have ho1 := Kd.own_of_R HRU.out
  have ho2 := Kd.own_of_R HRT.out
  obtain ⟨Ub, cu, rfl, hub, hul⟩ := ho1.form (by have := HN.out.ulen; omega)
  obtain ⟨Vb, cv2, rfl, hvb, hvl⟩ := ho2.form (by have := HN.out.vslen; omega)
  obtain ⟨m, hm⟩ : ∃ m, m = us.length - vs.length := ⟨_, rfl⟩
  have hm1 : m + vs.length = us.length := by omega
  have hwm : wrap64 ((us.length : Int) - (vs.length : Int)) = (m : Int) := by rw [w64 _ (by omega)]; omega
  have hwm2 : (us.length : Int) - (vs.length : Int) = (m : Int) := by omega
  have HM1 := Lib.hid hm1
  have hm2 : m ≤ 268435457 := by omega
  clear hm hm1
  obtain ⟨w6, hrun, hown, hgrow⟩ := run_make_full (P := Tryd.prog) (((w5.alloc (.cells #[.slice (some ⟨Ub, 0, none⟩) us.length cu] 97)).alloc (.cells #[.slice (some ⟨Vb, 0, none⟩) vs.length cv2] 97)).alloc (.cells #[.int .i64 vs.length] 3)) w.heap.size 97 63 i0 (.int .u32 0) 1 Tryd.underlying97 hi hz0 hz1 .i64 .i64 m (by rw [hz2]; omega) (by unfold maxLen; omega) (by simp; omega)
  simp only [World.size_alloc] at hrun hown
  have bu := ((Boxed.new w5 97 (.slice (some ⟨Ub, 0, none⟩) us.length cu)).alloc (.cells #[.slice (some ⟨Vb, 0, none⟩) vs.length cv2] 97)).alloc (.cells #[.int .i64 vs.length] 3)
  have bv := (Boxed.new (w5.alloc (.cells #[.slice (some ⟨Ub, 0, none⟩) us.length cu] 97)) 97 (.slice (some ⟨Vb, 0, none⟩) vs.length cv2)).alloc (.cells #[.int .i64 vs.length] 3)
  have bn := Boxed.new ((w5.alloc (.cells #[.slice (some ⟨Ub, 0, none⟩) us.length cu] 97)).alloc (.cells #[.slice (some ⟨Vb, 0, none⟩) vs.length cv2] 97)) 3 (.int .i64 vs.length)
  simp only [World.size_alloc] at bv bn
  have bu6 := bu.kept hgrow (by simp)
  have bv6 := bv.kept hgrow (by simp)
  have bn6 := bn.kept hgrow (by simp)
  have bu6c := (bu6.alloc (.cells #[.slice (some ⟨w5.heap.size + 1 + 1 + 1, 0, none⟩) m m] 97)).cell
  have BU := Lib.hid bu6
  have BV := Lib.hid bv6
  have BN := Lib.hid bn6
  have HO6 := Lib.hid hown
  have HG6 := Lib.hid hgrow
  clear bu bv bn bu6 bv6 bn6 hown hgrow
  gi_wp2_with (refine ⟨trivial, ?_⟩; gi_at_call 68; refine (backward_in (n - 1) _ _ _ _).mono ?_; rintro e w' ⟨rfl, rfl⟩)
  clear bu6c hrun
  obtain ⟨Qb, hQb⟩ : ∃ q, q = w5.heap.size + 1 + 1 + 1 := ⟨_, rfl⟩
  rw [← hQb] at HO6 ⊢
  have hs6 : w5.heap.size + 3 ≤ w6.heap.size := by have := HG6.out.size; simp at this; omega
  have hq6 : Qb < w6.heap.size := by
    rcases HO6.out.2 with ⟨h, _⟩ | ⟨g, cap, cur, h, _, hgb, _⟩
    · cases h
    · injection h with h1; injection h1 with h1; injection h1 with h1
      subst h1
      exact (Array.getElem?_eq_some_iff.1 hgb).1
  -- the world ahead of the rounds
  have hBw5 : Below w.heap.size w w5 := (HB2.out.trans (HB3.out.mono hs2)).trans (HB4.out.mono (by omega))
  have hB6 : Below w.heap.size w w6 := (((hBw5.alloc (by omega) (.cells #[.slice (some ⟨Ub, 0, none⟩) us.length cu] 97)).alloc (by simp; omega) (.cells #[.slice (some ⟨Vb, 0, none⟩) vs.length cv2] 97)).alloc (by simp; omega) (.cells #[.int .i64 vs.length] 3)).grown HG6.out (by simp; omega) (fun k e => by cases e)
  have hB0 := (hB6.alloc (by omega) (.cells #[.slice (some ⟨Qb, 0, none⟩) m m] 97)).alloc (by simp; omega) (.cells #[.slice (some ⟨Qb, 0, none⟩) m m] 97)
  have ou5 : w5.ownsRow w.heap.size 63 1 (.slice (some ⟨Ub, 0, none⟩) us.length cu) us.length (us.map (Value.int .u32)) := pw_own_below (own_weaken ho1 (by omega)) (HB4.out)
  have ov5 : w5.ownsRow w.heap.size 63 1 (.slice (some ⟨Vb, 0, none⟩) vs.length cv2) vs.length (vs.map (Value.int .u32)) := own_weaken ho2 (by omega)
  have ou6 := own_other (((ou5.alloc (.cells #[.slice (some ⟨Ub, 0, none⟩) us.length cu] 97)).alloc (.cells #[.slice (some ⟨Vb, 0, none⟩) vs.length cv2] 97)).alloc (.cells #[.int .i64 vs.length] 3)) HG6.out (.inr (by simp [Value.ownBlock]))
  have ov6 := own_other (((ov5.alloc (.cells #[.slice (some ⟨Ub, 0, none⟩) us.length cu] 97)).alloc (.cells #[.slice (some ⟨Vb, 0, none⟩) vs.length cv2] 97)).alloc (.cells #[.int .i64 vs.length] 3)) HG6.out (.inr (by simp [Value.ownBlock]))
  have ou := (ou6.alloc (.cells #[.slice (some ⟨Qb, 0, none⟩) m m] 97)).alloc (.cells #[.slice (some ⟨Qb, 0, none⟩) m m] 97)
  have ov := (ov6.alloc (.cells #[.slice (some ⟨Qb, 0, none⟩) m m] 97)).alloc (.cells #[.slice (some ⟨Qb, 0, none⟩) m m] 97)
  have oq := (HO6.out.alloc (.cells #[.slice (some ⟨Qb, 0, none⟩) m m] 97)).alloc (.cells #[.slice (some ⟨Qb, 0, none⟩) m m] 97)
  rw [made_zero m] at oq
  have bU := (BU.out.alloc (.cells #[.slice (some ⟨Qb, 0, none⟩) m m] 97)).alloc (.cells #[.slice (some ⟨Qb, 0, none⟩) m m] 97)
  have bV := (BV.out.alloc (.cells #[.slice (some ⟨Qb, 0, none⟩) m m] 97)).alloc (.cells #[.slice (some ⟨Qb, 0, none⟩) m m] 97)
  have bN := (BN.out.alloc (.cells #[.slice (some ⟨Qb, 0, none⟩) m m] 97)).alloc (.cells #[.slice (some ⟨Qb, 0, none⟩) m m] 97)
  have bQ := (Boxed.new w6 97 (.slice (some ⟨Qb, 0, none⟩) m m)).alloc (.cells #[.slice (some ⟨Qb, 0, none⟩) m m] 97)
  have bI := Boxed.new (w6.alloc (.cells #[.slice (some ⟨Qb, 0, none⟩) m m] 97)) 97 (.slice (some ⟨Qb, 0, none⟩) m m)
  simp only [World.size_alloc] at bI
  obtain ⟨W0, hW0⟩ : ∃ W0, W0 = (w6.alloc (.cells #[.slice (some ⟨Qb, 0, none⟩) m m] 97)).alloc (.cells #[.slice (some ⟨Qb, 0, none⟩) m m] 97) := ⟨_, rfl⟩
  have hzz : W0.heap.size = w6.heap.size + 2 := by rw [hW0]; simp
  rw [← hW0] at hB0 ou ov oq bU bV bN bQ bI ⊢
  have hr0 : Readable (some ⟨Qb, 0, none⟩) m W0 := by
    rintro ad e j hj
    injection e with e
    subst e
    refine ⟨0, ?_⟩
    rw [add_plain, oq.cellAt j (by omega)]
    rw [List.getElem?_map, List.getElem?_replicate, if_pos hj]
    rfl
  obtain ⟨bu, hbu⟩ : ∃ x, x = w5.heap.size := ⟨_, rfl⟩
  obtain ⟨bq, hbq⟩ : ∃ x, x = w6.heap.size := ⟨_, rfl⟩
  rw [← hbu] at bU bV bN ⊢
  rw [← hbq] at bQ bI ⊢
  -- which blocks are which
  have HD : Hid ((w.heap.size ≤ Ub ∧ Ub < Vb ∧ Vb < bu ∧ bu + 3 = Qb ∧ Qb < bq ∧ bq + 2 = W0.heap.size)) := Lib.hid ⟨by omega, by omega, by omega, by omega, by omega, by omega⟩
  have HB0 := Lib.hid hB0
  have BI := Lib.hid bI
  have HR0 := Lib.hid hr0
  clear hW0 hzz hQb hs6 hq6 hBw5 hB6 ou5 ov5 ou6 ov6 hbu hbq ho1 ho2 hub hul hvb hvl hs2 hs3 hs4 HO6 HG6 BU BV BN HRU HRV HRT
  have dv0 : dvF us vs m [] = (us, List.replicate m 0) := rfl
  refine wpIn_rangeFunc_ownG rfl h1 (gf := 77) (lb := #[.pointer (some ⟨bq + 1, 0, none⟩)]) rfl trivial (enters_of Tryd.func77 (by kernel_rfl) rfl)
    (backward_stops (n - 1) (by omega) (bq + 1) w.heap.size (some ⟨Qb, 0, none⟩) m m (by omega) W0 BI.out.cell (fun _ => ⟨_, rfl⟩) HR0.out) kpB_t (kpB_b HB0.out.size (by have := HD.out; omega) HR0.out) (Below.refl _ _) (fun _ => rfl)
    (fun (pre : List (BIt m)) W => (((((∃ v, Boxed W bu 97 v ∧ W.ownsRow w.heap.size 63 1 v us.length ((dvF us vs m (plc pre)).1.map (Value.int .u32)) ∧ v = .slice (some ⟨Ub, 0, none⟩) us.length cu) ∧ (∃ v, Boxed W (bu + 1) 97 v ∧ W.ownsRow w.heap.size 63 1 v vs.length (vs.map (Value.int .u32)) ∧ v = .slice (some ⟨Vb, 0, none⟩) vs.length cv2)) ∧ (∃ v, Boxed W bq 97 v ∧ W.ownsRow w.heap.size 63 1 v m ((dvF us vs m (plc pre)).2.map (Value.int .u32)) ∧ v = .slice (some ⟨Qb, 0, none⟩) m m)) ∧ Boxed W (bu + 1 + 1) 3 (.int .i64 vs.length)) ∧ Boxed W (bq + 1) 97 (.slice (some ⟨Qb, 0, none⟩) m m)) ∧ Below w.heap.size w W)
    (fun _ _ _ => False)
    (OwnFrom.and (OwnFrom.and (OwnFrom.and (OwnFrom.and (OwnFrom.and
      (Own.from (holdsRow_own w.heap.size bu 97 63 1 (fun pre => us.length) (fun pre => (dvF us vs m (plc pre)).1.map (Value.int .u32)) (fun _ v => v = .slice (some ⟨Ub, 0, none⟩) us.length cu)) _)
      (Own.from (holdsRow_own w.heap.size (bu + 1) 97 63 1 (fun pre => vs.length) (fun pre => vs.map (Value.int .u32)) (fun _ v => v = .slice (some ⟨Vb, 0, none⟩) vs.length cv2)) _))
      (Own.from (holdsRow_own w.heap.size bq 97 63 1 (fun pre => m) (fun pre => (dvF us vs m (plc pre)).2.map (Value.int .u32)) (fun _ v => v = .slice (some ⟨Qb, 0, none⟩) m m)) _))
      (Own.from (boxed_own _ _ _) _)) (Own.from (boxed_own _ _ _) _)) (ownFrom_below (Nat.le_refl _) (by have := HB0.out.size; exact this)))
    (fun _ _ _ _ _ hs _ _ => hs)
    ⟨⟨⟨⟨⟨⟨_, bU, ou, rfl⟩, ⟨_, bV, ov, rfl⟩⟩, ⟨_, bQ, oq, rfl⟩⟩, bN⟩, BI.out⟩, HB0.out⟩
    (fun x => { tmps := #[.slice A a.length ca, .slice (some adb) b.length cb, undef, undef, .slice none 0 0, .slice none 0 0, undef, undef, .int .i64 s, .pointer (some ⟨bu, 0, none⟩), .pointer (some ⟨bu + 1, 0, none⟩), .pointer (some ⟨bu + 1 + 1, 0, none⟩), .pointer (some ⟨bq, 0, none⟩), .int .i64 x.1.1, undef, .bool (decide (c < 0)), .slice A a.length ca, .slice (some adb) b.length cb, .int .i64 c, .bool (decide (c < 0)), undef, undef, .bool false, .slice (some adb) b.length cb, .int .i64 b.length, .bool false, undef, undef, undef, undef, undef, undef, undef, undef, undef, undef, undef, undef, .slice (some adb) b.length cb, .slice (some adb) b.length cb, .int .i64 b.length, .int .i64 ((b.length : Int) - 1), .pointer (some (adb.add (b.length - 1))), .int .u32 tb, .int .i64 s, .slice A a.length ca, .int .i64 s, .slice (some ⟨Ub, 0, none⟩) us.length cu, .slice (some adb) b.length cb, .int .i64 s, .slice Av vl.length cv, .slice (some ⟨Vb, 0, none⟩) vs.length cv2, .slice (some ⟨Vb, 0, none⟩) vs.length cv2, .int .i64 vs.length, .slice (some ⟨Ub, 0, none⟩) us.length cu, .int .i64 us.length, .int .i64 vs.length, .int .i64 m, .slice (some ⟨Qb, 0, none⟩) m m, .slice (some ⟨Qb, 0, none⟩) m m, .func (.func 77) #[] #[.pointer (some ⟨bq + 1, 0, none⟩)], .int .i64 x.1.1, .int .u32 x.1.2, undef, undef, undef, undef, undef, undef, undef, undef, undef, undef, undef, undef, undef, undef, undef, undef, undef, undef, undef, undef, undef, undef, undef, undef, undef, undef, undef, undef, undef, undef, undef, undef, undef, undef, undef, undef, undef, undef, undef, undef, undef, undef, undef, undef, undef, undef, undef, undef, undef, undef, undef, undef, undef, undef, undef, undef], defers := [] }) ?assign ?body ?done ?stop
  case assign =>
    intro l x W K hK
    gi_wp2
    exact hK
  case body =>
    rintro l pre x W ⟨⟨⟨⟨⟨⟨_, hbU, hoU, rfl⟩, ⟨_, hbV, hoV, rfl⟩⟩, ⟨_, hbQ, hoQ, rfl⟩⟩, hbN⟩, hbI⟩, hBW⟩ hlt
    have hxl := x.2
    have hd : 1 ≤ n - 1 - 1 := by omega
    have hmx : Tryd.prog.follows .mixedOrders = true := by kernel_rfl
    have hdv := dvF_ok HN.out.uok HN.out.vsok HN.out.vstop m (plc pre)
    have hgs := gs_rng hdv.1 HN.out.vsok HN.out.vstop x.1.1
    have HSN := Lib.hid (dvF_snoc us vs m (plc pre) x.1.1)
    unfold dvS at HSN
    obtain ⟨u1, hu1⟩ : ∃ u, (dvF us vs m (plc pre)).1 = u := ⟨_, rfl⟩
    obtain ⟨q1, hq1⟩ : ∃ u, (dvF us vs m (plc pre)).2 = u := ⟨_, rfl⟩
    rw [hu1] at hdv hgs HSN hoU
    rw [hq1] at hdv HSN hoQ
    clear hu1 hq1
    have hm1 := HM1.out
    have cU : ∀ j, j < us.length → W.cell? ⟨Ub, j, none⟩ = some (.int .u32 (u1.getD j 0)) := fun j hj => by
      rw [hoU.cellAt j (by omega)]; exact rowInt _ _ (by rw [hdv.2.1]; exact hj)
    have cV : ∀ j, j < vs.length → W.cell? ⟨Vb, j, none⟩ = some (.int .u32 (vs.getD j 0)) := fun j hj => by
      rw [hoV.cellAt j (by omega)]; exact rowInt _ _ hj
    obtain ⟨i, hi'⟩ : ∃ i, x.1.1 = i := ⟨_, rfl⟩
    have c0 := cU (i + vs.length) (by omega)
    have c1 := cU (i + vs.length - 1) (by omega)
    have c2 := cU (i + vs.length - 2) (by omega)
    have c3 := cV (vs.length - 1) (by omega)
    have c4 := cV (vs.length - 2) (by omega)
    rw [hi'] at hgs HSN hxl ⊢
    have hw1 : IntKind.i64.wrap ((i : Int) + (vs.length : Int)) = ((i + vs.length : Nat) : Int) := by rw [wrap_in _ (by omega)]; omega
    have hw2 : IntKind.i64.wrap (((i + vs.length : Nat) : Int) - 1) = ((i + vs.length - 1 : Nat) : Int) := by rw [wrap_in _ (by omega)]; omega
    have hw3 : IntKind.i64.wrap (((i + vs.length : Nat) : Int) - 2) = ((i + vs.length - 2 : Nat) : Int) := by rw [wrap_in _ (by omega)]; omega
    have hw4 : IntKind.i64.wrap ((vs.length : Int) - 1) = ((vs.length - 1 : Nat) : Int) := by rw [wrap_in _ (by omega)]; omega
    have hw5 : IntKind.i64.wrap ((vs.length : Int) - 2) = ((vs.length - 2 : Nat) : Int) := by rw [wrap_in _ (by omega)]; omega
    have hn0 : i + vs.length < us.length := by omega
    have hn1 : i + vs.length - 1 < us.length := by omega
    have hn2 : i + vs.length - 2 < us.length := by omega
    have hn3 : vs.length - 1 < vs.length := by omega
    have hn4 : vs.length - 2 < vs.length := by omega
    have bc1 := hbU.cell
    have bc2 := hbV.cell
    have bc3 := hbN.cell
    have bc4 := hbQ.cell
    have HDV := Lib.hid hdv
    have HGS := Lib.hid hgs
    have HOU := Lib.hid hoU
    have HOV := Lib.hid hoV
    have HOQ := Lib.hid hoQ
    have HBW := Lib.hid hBW
    have HCU := Lib.hid cU
    have HCV := Lib.hid cV
    clear hdv hgs hoU hoV hoQ hBW cU cV hm1 hlt
    generalize u1.getD (i + vs.length) 0 = y0 at *
    generalize u1.getD (i + vs.length - 1) 0 = y1 at *
    generalize u1.getD (i + vs.length - 2) 0 = y2 at *
    generalize vs.getD (vs.length - 1) 0 = y3 at *
    generalize vs.getD (vs.length - 2) 0 = y4 at *
    gi_wp2
    refine region_quiet_round (by kernel_rfl) (by assumption) (by kernel_rfl) ?_
    repeat (gi_big_quiet_step (fail))
    refine BigFrame.wpQuietIn_want (fun _ _ _ _ => trivial) rfl ?_
    intro K hK
    gi_big_quiet_op
    gi_big_quiet_call (first | (gi_at_call 69; exact quiet_of_drawn (CallsIn.inRound l (callsIn_wide.2 (nat_guess.calls 10 _ _ _ _ _ _ _ HGS.out.1)))))
    repeat (gi_big_quiet_step (fail))
    refine wpQuietIn_nil ?_
    rintro w' ⟨nq, rfl⟩
    clear c0 c1 c2 c3 c4 hw1 hw2 hw3 hw4 hw5 hn0 hn1 hn2 hn3 hn4
    have hcu := own_le HOU.out
    have hiu : i < us.length := by have := HM1.out; omega
    have hcut : ∀ W : World, (Instr.slice 97 (.slice (some ⟨Ub, 0, none⟩) us.length cu) (some (.int .i64 (i : Int))) none none).run Tryd.prog W = .ok (.slice (some ⟨Ub, i, none⟩) (us.length - i) (cu - i)) W := fun W => by
      have := cut_from (P := Tryd.prog) 97 63 .i64 Tryd.underlying97 hi 1 hz1 (some ⟨Ub, 0, none⟩) us.length cu (i : Int) (by omega) (by omega) W
      rw [Int.toNat_natCast, if_neg (by omega), Nat.mul_one, Option.map_some, add_plain] at this
      exact this
    gi_wp2
    refine region_tail_round 5 (by assumption) (by kernel_rfl) ?_
    simp only [List.toList_toArray, List.take_succ_cons, List.take_zero]
    repeat (gi_big_quiet_step (fail))
    refine wpQuietIn_nil ?_
    rintro w' ⟨nq2, rfl⟩
    simp only [World.drewN_drewN]
    refine wpAnyIn_ready (rs := [5]) (by kernel_rfl) (by decide) (BigFrame.allReadyIn_want rfl rfl (fun K hK => ?_) AllReadyIn.nil)
    have HFIN : Hid (∀ (W2 : World) (u2 : List Int), W2.ownsRow w.heap.size 63 1 (.slice (some ⟨Ub, 0, none⟩) us.length cu) us.length (u2.map (Value.int .u32)) → W.grownBy W2 (some Ub) → u2 = dvU u1 vs i →
        KeepsFrom W0.heap.size W (W2.setCell ⟨Qb, i, none⟩ (.int .u32 (dvQ u1 vs i))) ∧ KpB w.heap.size (bq + 1) (some ⟨Qb, 0, none⟩) m W (W2.setCell ⟨Qb, i, none⟩ (.int .u32 (dvQ u1 vs i))) ∧
        ((((((∃ v, Boxed (W2.setCell ⟨Qb, i, none⟩ (.int .u32 (dvQ u1 vs i))) bu 97 v ∧ (W2.setCell ⟨Qb, i, none⟩ (.int .u32 (dvQ u1 vs i))).ownsRow w.heap.size 63 1 v us.length ((dvF us vs m (plc (pre ++ [x]))).1.map (Value.int .u32)) ∧ v = .slice (some ⟨Ub, 0, none⟩) us.length cu) ∧ (∃ v, Boxed (W2.setCell ⟨Qb, i, none⟩ (.int .u32 (dvQ u1 vs i))) (bu + 1) 97 v ∧ (W2.setCell ⟨Qb, i, none⟩ (.int .u32 (dvQ u1 vs i))).ownsRow w.heap.size 63 1 v vs.length (vs.map (Value.int .u32)) ∧ v = .slice (some ⟨Vb, 0, none⟩) vs.length cv2)) ∧ (∃ v, Boxed (W2.setCell ⟨Qb, i, none⟩ (.int .u32 (dvQ u1 vs i))) bq 97 v ∧ (W2.setCell ⟨Qb, i, none⟩ (.int .u32 (dvQ u1 vs i))).ownsRow w.heap.size 63 1 v m ((dvF us vs m (plc (pre ++ [x]))).2.map (Value.int .u32)) ∧ v = .slice (some ⟨Qb, 0, none⟩) m m)) ∧ Boxed (W2.setCell ⟨Qb, i, none⟩ (.int .u32 (dvQ u1 vs i))) (bu + 1 + 1) 3 (.int .i64 vs.length)) ∧ Boxed (W2.setCell ⟨Qb, i, none⟩ (.int .u32 (dvQ u1 vs i))) (bq + 1) 97 (.slice (some ⟨Qb, 0, none⟩) m m)) ∧ Below w.heap.size w (W2.setCell ⟨Qb, i, none⟩ (.int .u32 (dvQ u1 vs i))))) := Lib.hid (by
      intro W2 u2 hu2 hg he
      obtain ⟨d1, d2, d3, d4, d5, d6⟩ := HD.out
      have ne : ∀ {x y : Nat}, x ≠ y → (some x : Option Nat) ≠ some y := fun h e => by injection e with e; exact h e
      have bu2 := hbU.kept hg (ne (by omega))
      have bv2 := hbV.kept hg (ne (by omega))
      have bq2 := hbQ.kept hg (ne (by omega))
      have bn2 := hbN.kept hg (ne (by omega))
      have bi2 := hbI.kept hg (ne (by omega))
      have ov2 := own_other HOV.out hg (.inr (by simp [Value.ownBlock]; omega))
      have oq2 := own_other HOQ.out hg (.inr (by simp [Value.ownBlock]; omega))
      obtain ⟨oq3, hg3⟩ := World.ownsRow.stored oq2 i (.int .u32 (dvQ u1 vs i))
      have bu3 := bu2.kept hg3 (ne (by omega))
      have bv3 := bv2.kept hg3 (ne (by omega))
      have bq3 := bq2.kept hg3 (ne (by omega))
      have bn3 := bn2.kept hg3 (ne (by omega))
      have bi3 := bi2.kept hg3 (ne (by omega))
      have ou3 := own_other hu2 hg3 (.inr (by simp [Value.ownBlock]; omega))
      have ov3 := own_other ov2 hg3 (.inr (by simp [Value.ownBlock]; omega))
      rw [← List.map_set] at oq3
      have hbel : ∀ (X : World), Below w.heap.size X W → Below w.heap.size X (W2.setCell ⟨Qb, i, none⟩ (.int .u32 (dvQ u1 vs i))) := fun X hX => by
        have h2 := hX.grown hg (by have := HBW.out.size; exact this) (fun k e => by injection e with e; omega)
        exact h2.grown hg3 (by have := HBW.out.size; have := hg.size; omega) (fun k e => by injection e with e; omega)
      refine ⟨(KeepsFrom.of_grownBy hg (fun j e => by injection e with e; omega)).trans (KeepsFrom.of_grownBy hg3 (fun j e => by injection e with e; omega)), ⟨hbel W (Below.refl _ _), ?_, fun _ => ?_⟩, ⟨⟨⟨⟨⟨_, bu3, ?_, rfl⟩, ⟨_, bv3, ov3, rfl⟩⟩, ⟨_, bq3, ?_, rfl⟩⟩, bn3⟩, bi3⟩, hbel w HBW.out⟩
      · rw [bi3.cell, hbI.cell]
      · rintro ad e j hj
        injection e with e
        subst e
        refine ⟨(q1.set i (dvQ u1 vs i)).getD j 0, ?_⟩
        rw [add_plain, oq3.cellAt j (by omega)]
        exact rowInt _ _ (by rw [List.length_set, HDV.out.2.2.2]; exact hj)
      · rw [plc_snoc, hi', HSN.out, ← he]; exact ou3
      · rw [plc_snoc, hi', HSN.out]; exact oq3)
    gi_wp2_with fail
    refine ⟨trivial, ?_⟩
    refine (CallsIn.inRound l (callsIn_wide.2 (takeOff_in w.heap.size Ub us.length cu i Vb cv2 u1 vs (gs u1 vs i) _ (pw_own_drewN HOU.out _) HDV.out.2.1 (fun j hj => HCV.out j hj) (by have := HD.out; omega) HDV.out.1 HN.out.vsok HGS.out.2 (by have := HM1.out; omega) (by omega)))).mono ?_
    rintro e w1' ⟨rfl, ho1, hg1⟩
    have hgw : W.grownBy w1' (some Ub) := (grown_drewN W (nq + nq2) _).trans hg1
    have hdt : toEnd u1 vs (gs u1 vs i) i = dvT u1 vs i := rfl
    rw [hdt] at ho1 ⊢
    have ne : ∀ {x y : Nat}, x ≠ y → (some x : Option Nat) ≠ some y := fun h e => by injection e with e; exact h e
    have hbU1 := hbU.kept hgw (ne (by have := HD.out; omega))
    have hbV1 := hbV.kept hgw (ne (by have := HD.out; omega))
    have hbQ1 := hbQ.kept hgw (ne (by have := HD.out; omega))
    have hoq1 := own_other HOQ.out hgw (.inr (by have := HD.out; simp [Value.ownBlock]; omega))
    have HO1 := Lib.hid ho1
    have HG1 := Lib.hid hgw
    have be1 := hbU1.cell
    have be2 := hbV1.cell
    have be3 := hbQ1.cell
    have HBU1 := Lib.hid hbU1
    have HBV1 := Lib.hid hbV1
    have HBQ1 := Lib.hid hbQ1
    have HOQ1 := Lib.hid hoq1
    clear ho1 hgw hg1 bc1 bc2 bc3 bc4 hdt hbU1 hbV1 hbQ1 hoq1
    by_cases hbor : (dvT u1 vs i).2 > 0
    · have hu2 : pbEnd (dvT u1 vs i).1 vs i = dvU u1 vs i := by unfold dvU; rw [if_pos hbor]
      have hq2 : IntKind.u64.wrap (gs u1 vs i - 1) % 4294967296 = dvQ u1 vs i := by unfold dvQ; rw [if_pos hbor]
      have HQ2 := Lib.hid hq2
      have HU2 := Lib.hid hu2
      clear hq2 hu2
      gi_wp2
      refine wpAnyIn_ready (rs := [6]) (by kernel_rfl) (by decide) (BigFrame.allReadyIn_want rfl rfl (fun K hK => ?_) AllReadyIn.nil)
      gi_wp2
      refine wpAnyIn_done (by kernel_rfl) ?_ _
      gi_wp2
      refine region_tail_round 4 (by assumption) (by kernel_rfl) ?_
      simp only [List.toList_toArray, List.take_succ_cons, List.take_zero]
      repeat (gi_big_quiet_step (fail))
      refine wpQuietIn_nil ?_
      rintro w' ⟨nq3, rfl⟩
      refine wpAnyIn_ready (rs := [4]) (by kernel_rfl) (by decide) (BigFrame.allReadyIn_want rfl rfl (fun K hK => ?_) AllReadyIn.nil)
      gi_wp2_with fail
      refine ⟨trivial, ?_⟩
      have hd4 := dvU_ok HDV.out.1 HN.out.vsok HN.out.vstop i
      refine (CallsIn.inRound l (callsIn_wide.2 (putBack_in w.heap.size Ub us.length cu i Vb cv2 (dvT u1 vs i).1 vs _ (pw_own_drewN HO1.out _) (by rw [hd4.2.2.2]; exact HDV.out.2.1) (fun j hj => HG1.out.cell (HCV.out j hj) (ne (show Vb ≠ Ub by have := HD.out; omega))) (by have := HD.out; omega) hd4.2.2.1 HN.out.vsok (by have := HM1.out; omega) (by omega)))).mono ?_
      rintro e w2' ⟨rfl, ho2, hg2⟩
      have hgw2 : W.grownBy w2' (some Ub) := (HG1.out.trans (grown_drewN w1' nq3 _)).trans hg2
      rw [HU2.out] at ho2
      have hbQ2 := hbQ.kept hgw2 (ne (by have := HD.out; omega))
      have hoq2 := own_other HOQ.out hgw2 (.inr (by have := HD.out; simp [Value.ownBlock]; omega))
      have hcell : w2'.cell? ⟨Qb, i, none⟩ = some (.int .u32 (q1.getD i 0)) := by
        rw [hoq2.cellAt i (by omega)]; exact rowInt _ _ (by rw [HDV.out.2.2.2]; exact hxl)
      have hfrz := hoq2.frozenAt i
      have hfin := HFIN.out w2' _ ho2 hgw2 rfl
      have HF2 := Lib.hid hfin
      have be4 := hbQ2.cell
      clear hfin ho2 hg2 hgw2 hoq2 hbQ2 be1 be2 be3
      gi_wp2
      refine wpAnyIn_done (by kernel_rfl) ?_ _
      gi_wp2
      rw [HQ2.out]
      exact HF2.out
    · have hu2 : (dvT u1 vs i).1 = dvU u1 vs i := by unfold dvU; rw [if_neg hbor]
      have hq2 : gs u1 vs i % 4294967296 = dvQ u1 vs i := by unfold dvQ; rw [if_neg hbor]
      have hcell : w1'.cell? ⟨Qb, i, none⟩ = some (.int .u32 (q1.getD i 0)) := by
        rw [HOQ1.out.cellAt i (by omega)]; exact rowInt _ _ (by rw [HDV.out.2.2.2]; exact hxl)
      have hfrz := HOQ1.out.frozenAt i
      have hfin := HFIN.out w1' _ HO1.out HG1.out hu2
      have HF2 := Lib.hid hfin
      clear hfin
      gi_wp2
      refine wpAnyIn_ready (rs := [6]) (by kernel_rfl) (by decide) (BigFrame.allReadyIn_want rfl rfl (fun K hK => ?_) AllReadyIn.nil)
      gi_wp2
      refine wpAnyIn_done (by kernel_rfl) ?_ _
      gi_wp2
      rw [hq2]
      exact HF2.out
  case done =>
    rintro D ys W hD hys ⟨⟨⟨⟨⟨⟨_, hbU, hoU, rfl⟩, ⟨_, hbV, hoV, rfl⟩⟩, ⟨_, hbQ, hoQ, rfl⟩⟩, hbN⟩, hbI⟩, hBW⟩ hK
    have bc1 := hbU.cell
    have bc2 := hbQ.cell
    have hmx : Tryd.prog.follows .mixedOrders = true := by kernel_rfl
    have hdn : plc ys = down m := hys
    rw [hdn] at hoU hoQ
    have hdv := dvF_ok HN.out.uok HN.out.vsok HN.out.vstop m (down m)
    have hvl := dv_val HN.out.uok HN.out.vsok hvl2 HN.out.vstop m HM1.out (by have := HN.out.below; rw [show us.length - vs.length = m by have := HM1.out; omega] at this; exact this)
    rw [HN.out.uval, HN.out.vsval, Nat.mul_mod_mul_right, Nat.mul_div_mul_right _ _ (Nat.two_pow_pos s)] at hvl
    obtain ⟨u1, hu1⟩ : ∃ u, (dvF us vs m (down m)).1 = u := ⟨_, rfl⟩
    obtain ⟨q1, hq1⟩ : ∃ u, (dvF us vs m (down m)).2 = u := ⟨_, rfl⟩
    rw [hu1] at hdv hvl hoU
    rw [hq1] at hdv hvl hoQ
    clear hu1 hq1 hys hdn hbV hoV hbN hbI
    have hRQ : Kd.R (Kd.int .u32) 63 W w.heap.size (fun _ => True) (.slice (some ⟨Qb, 0, none⟩) q1.length m) q1 := Kd.R_of_own (enc := Value.int .u32) (by rw [hdv.2.2.2]; exact hoQ) (fun _ _ => trivial)
    have hRU : Kd.R (Kd.int .u32) 63 W w.heap.size (fun _ => True) (.slice (some ⟨Ub, 0, none⟩) u1.length cu) u1 := Kd.R_of_own (enc := Value.int .u32) (by rw [hdv.2.1]; exact hoU) (fun _ _ => trivial)
    have hTQ : Hid (∀ k, Calls Tryd.prog 60 #[.slice (some ⟨Qb, 0, none⟩) m m] (W.drewN k) fun e w' => e = .returned (trimV (some ⟨Qb, 0, none⟩) m q1) ∧ w' = W.drewN k) := Lib.hid (fun k => by
      have := trim_det (some ⟨Qb, 0, none⟩) m q1 (W.drewN k) (Kd.C_drewN (Kd.R_reads' hRQ).2.2 k) (by omega) hdv.2.2.1 (by omega)
      rw [hdv.2.2.2] at this
      exact this)
    have hTU : Hid (∀ k, Calls Tryd.prog 60 #[.slice (some ⟨Ub, 0, none⟩) us.length cu] (W.drewN k) fun e w' => e = .returned (trimV (some ⟨Ub, 0, none⟩) cu u1) ∧ w' = W.drewN k) := Lib.hid (fun k => by
      have := trim_det (some ⟨Ub, 0, none⟩) cu u1 (W.drewN k) (Kd.C_drewN (Kd.R_reads' hRU).2.2 k) (Kd.R_reads' hRU).2.1 hdv.1 (by omega)
      rw [hdv.2.1] at this
      exact this)
    have hlq := limbs_take hdv.2.2.1
    have hlu := limbs_take hdv.1
    have hRT := trimV_R hRU hdv.1 hlu.1 hlu.2
    obtain ⟨Au, cu2, hAu⟩ := Kd.R_slice hRT
    rw [hAu] at hRT hTU
    have hrt : Hid (nat_num_right.f ((limbs (val u1)).length + 1) (limbs (val u1)) (s : Int) = some (limbs (val a % val b))) := Lib.hid (by
      have := right_f (limbs (val u1)) (okL_limbs _) s HN.out.lt (by omega) ((limbs (val u1)).length + 1) (Nat.le_refl _)
      rw [this, val_limbs, hvl.1, Nat.mul_div_cancel _ (Nat.two_pow_pos s)])
    have HRT := Lib.hid hRT
    have HRQ := Lib.hid hRQ
    have HOQ := Lib.hid hoQ
    have HBW := Lib.hid hBW
    have HK := Lib.hid hK
    have HDV := Lib.hid hdv
    have HVL := Lib.hid hvl
    have HLQ := Lib.hid hlq
    clear hRQ hRU hRT hoU hoQ hBW hK hdv hvl hlq hlu hbU hbQ
    gi_wp2
    refine region_tail_round 5 (by assumption) (by kernel_rfl) ?_
    simp only [List.toList_toArray, List.take_succ_cons, List.take_zero]
    repeat (gi_big_quiet_step (fail))
    refine BigFrame.wpQuietIn_want (fun _ _ _ _ => trivial) rfl ?_
    intro K hK
    gi_big_quiet_op
    gi_big_quiet_call (first | (gi_at_call 60; exact CallsIn.quiet_of_same (callsIn_wide.2 (hTQ.out _))))
    repeat (gi_big_quiet_step (fail))
    refine BigFrame.wpQuietIn_want (fun _ _ _ _ => trivial) rfl ?_
    intro K hK
    gi_big_quiet_op
    gi_big_quiet_call (first | (gi_at_call 60; exact CallsIn.quiet_of_same (callsIn_wide.2 (hTU.out _))))
    repeat (gi_big_quiet_step (fail))
    refine wpQuietIn_nil ?_
    rintro w' ⟨nq, rfl⟩
    refine wpAnyIn_ready (rs := [5]) (by kernel_rfl) (by decide) (BigFrame.allReadyIn_want rfl rfl (fun K hK => ?_) AllReadyIn.nil)
    gi_wp2_with fail
    refine ⟨trivial, ?_⟩
    refine (callsIn_wide.2 (nat_num_right.calls ((limbs (val u1)).length + 1) Au cu2 (limbs (val u1)) s _ (W.drewN nq) (Kd.C_drewN (Kd.R_reads' HRT.out).2.2 nq) (Kd.R_reads' HRT.out).2.1 hrt.out)).mono ?_
    rintro e w7 ⟨vr, rfl, hRr, hb7⟩
    have HRR := Lib.hid hRr
    have HB7 := Lib.hid hb7
    have hK7 : w7.heap[D]? = some (.deferred (some [])) := (hb7.block D (Array.getElem?_eq_some_iff.1 HK.out).1).trans HK.out
    have HK7 := Lib.hid hK7
    clear hRr hb7 hK7
    gi_wp2
    refine wpAnyIn_ready (rs := [6]) (by kernel_rfl) (by decide) (BigFrame.allReadyIn_want rfl rfl (fun K hK => ?_) AllReadyIn.nil)
    gi_wp2
    refine wpAnyIn_ready (rs := [7]) (by kernel_rfl) (by decide) (BigFrame.allReadyIn_want rfl rfl (fun K hK => ?_) AllReadyIn.nil)
    gi_wp2
    refine wpAnyIn_done (by kernel_rfl) ?_ _
    gi_wp2
    have hb7 : Below W.heap.size W w7 := (pw_below_drewN (Below.refl _ _) nq).trans HB7.out
    have hwW := HBW.out.size
    have hqW : Qb < W.heap.size := own_lt HOQ.out Qb (by simp [Value.ownBlock])
    refine ⟨by simp, .inl ⟨_, _, rfl, run_takeDeferred (show w7.heap[D]? = _ from HK7.out), ?_⟩⟩
    have hoq7 : (w7.putObj D (.deferred none)).ownsRow w.heap.size 63 1 (.slice (some ⟨Qb, 0, none⟩) m m) m (q1.map (Value.int .u32)) := ownsRow_putObj (pw_own_below HOQ.out hb7) (.deferred none) HK7.out rfl
    have hor7 := ownsRow_putObj (Kd.own_of_R HRR.out) (.deferred none) HK7.out rfl
    have hRQ7 : Kd.R (Kd.int .u32) 63 (w7.putObj D (.deferred none)) w.heap.size (fun k => k = Qb) (.slice (some ⟨Qb, 0, none⟩) q1.length m) q1 := Kd.R_of_own (enc := Value.int .u32) (by rw [HDV.out.2.2.2]; exact hoq7) (fun k hk => by simp [Value.ownBlock] at hk; exact hk.symm)
    have hRV7 : Kd.R (Kd.int .u32) 63 (w7.putObj D (.deferred none)) w.heap.size (fun k => W.heap.size ≤ k) vr (limbs (val a % val b)) := Kd.R_of_own (enc := Value.int .u32) (own_weaken hor7 hwW) (fun k hk => own_base hor7 k hk)
    have ht := trimV_R hRQ7 HDV.out.2.2.1 HLQ.out.1 HLQ.out.2
    rw [HVL.out.2] at ht
    refine ⟨_, results_tmp2 rfl _ _ _, _, _, rfl, Kd.R_mono ht (fun k hk he => ?_), Kd.R_mono hRV7 (fun k hk he => ?_), (HBW.out.trans (hb7.mono hwW)).trans (belowK_b (w := w) (Nat.le_refl _) _ D _ _ (by have := HB0.out.size; omega) HK7.out rfl rfl)⟩
    · have := own_base hor7 k he.symm
      subst hk
      have : W.heap.size ≤ k := this
      omega
    · have hk2 := ht.1 k he.symm
      subst hk2
      omega
  case stop =>
    rintro D c pre W _ _ h _
    exact h.elim
theorem nat_num_div.calls (A0 : Option Addr) (c0 : Nat) (l0 : List Int) (A1 : Option Addr) (c1 : Nat) (l1 : List Int) (r1 : List Int) (r2 : List Int) (w : World) (hr0 : Kd.C (Kd.int .u32) w A0 l0.length l0) (hc0 : l0.length ≤ c0) (hr1 : Kd.C (Kd.int .u32) w A1 l1.length l1) (hc1 : l1.length ≤ c1) (h : nat_num_div.f l0 l1 = some (r1, r2)) :
    Calls Tryd.prog 59 #[.slice A0 l0.length c0, .slice A1 l1.length c1] w fun e w' => ∃ v0_ v1_ : Value, e = .returned (.tuple #[v0_, v1_]) ∧ Kd.R (Kd.int .u32) 63 w' w.heap.size (fun k_ => some k_ ≠ (v1_ : Value).ownBlock) v0_ r1 ∧ Kd.R (Kd.int .u32) 63 w' w.heap.size (fun k_ => some k_ ≠ (v0_ : Value).ownBlock) v1_ r2 ∧ Below w.heap.size w w' := by
  unfold nat_num_div.f at h
  by_cases hc : (canon l0 ∧ canon l1) ∧ l1 ≠ [] ∧ l0.length ≤ 268435456 ∧ l1.length ≤ 268435456
  case neg => rw [if_neg hc] at h; cases h
  rw [if_pos hc] at h
  simp only [Option.some.injEq, Prod.mk.injEq] at h
  obtain ⟨rfl, rfl⟩ := h
  obtain ⟨hab, hne, h1, h2⟩ := hc
  by_cases hlt : val l0 < val l1
  · exact div_less A0 A1 c0 c1 l0 l1 w hr0 hc0 hr1 hc1 hab h1 h2 hlt
  · by_cases hlen : 2 ≤ l1.length
    · obtain ⟨s, us, vl, vs, hN⟩ := norm_of hab.1 hab.2 hlen h1 h2 (by omega)
      exact callsIn_wide.1 (div_long 8 (Nat.le_refl _) A0 A1 c0 c1 l0 l1 w hr0 hc0 hr1 hc1 hab h1 h2 hlen hlt s us vl vs hN)
    · obtain ⟨y, rfl⟩ : ∃ y, l1 = [y] := by
        rcases l1 with _ | ⟨y, _ | ⟨z, l⟩⟩
        · exact absurd rfl hne
        · exact ⟨y, rfl⟩
        · simp at hlen
      exact div_one A0 A1 c0 c1 l0 y w hr0 hc0 hr1 hc1 hab h1 hlt
end Go.Proofs.YtdgebcgcabhjoaaDoor.P
-- Written by a program for this claim. Not trusted: Lean checks it.
namespace Go.Proofs.YtdgebcgcabhjoaaDoor.P
open Go.RowKit Go.Proofs.YtdgebcgcabhjoaaDoorW.PrintWords Go.Proofs.YtdgebcgcabhjoaaDoorW.PrintLast Go.Proofs.YtdgebcgcabhjoaaDoorW.PrintMore
attribute [local go_sem] max2_int min2_int max_two min_two max_three min_three max_four min_four   -- for this text's walks alone
set_option linter.unusedVariables false
set_option linter.unusedSimpArgs false

/-! ### nat_Check: function 49 -/
def nat_Check.f (l0 : List Int) : Option (Int) := if (l0.length : Int) > 256 then (some 5) else (if (l0.length : Int) > 0 then (if 0 ≤ (wrap64 ((l0.length : Int) - 1)) then (if (wrap64 ((l0.length : Int) - 1)) < (l0.length : Int) then (if (rd l0 (wrap64 ((l0.length : Int) - 1))) = 0 then (some 9) else (some 0)) else (none)) else (none)) else (some 0))
set_option maxHeartbeats 8000000 in
set_option maxRecDepth 100000 in
theorem nat_Check.calls (A0 : Option Addr) (c0 : Nat) (l0 : List Int) (r : Int) (w : World) (hr0 : Kd.C (Kd.int .u32) w A0 l0.length l0) (hc0 : l0.length ≤ c0) (h : nat_Check.f l0 = some r) :
    Calls Tryd.prog 49 #[.slice A0 l0.length c0] w fun e w' => e = .returned (.int .i64 r) ∧ Drawn0 w w' := by
  have HR0 := Aside0.mk hr0
  have HC0 := Aside0.mk hc0
  clear hr0 hc0
  have H : (if (l0.length : Int) > 256 then (some 5) else (if (l0.length : Int) > 0 then (if 0 ≤ (wrap64 ((l0.length : Int) - 1)) then (if (wrap64 ((l0.length : Int) - 1)) < (l0.length : Int) then (if (rd l0 (wrap64 ((l0.length : Int) - 1))) = 0 then (some 9) else (some 0)) else (none)) else (none)) else (some 0))) = some r := h
  clear h
  by_cases c2 : (l0.length : Int) > 256
  · rw [if_pos c2] at H
    have c2b0 : decide (256 < (l0.length : Int)) = true := decide_eq_true c2
    have c2b1 : decide (256 < l0.length) = true := decide_eq_true (by omega)
    clear c2
    obtain rfl := Option.some.inj H
    go_enter Tryd.func49, Tryd.ntmps49
    go_wp2
    go_ret
    exact ⟨by first | rfl | (simp; done) | (simp [*]; done), by repeat (first | exact Drawn0.refl _ | apply Drawn0.step)⟩
  · rw [if_neg c2] at H
    have c2b0 : decide (256 < (l0.length : Int)) = false := decide_eq_false c2
    have c2b1 : decide (256 < l0.length) = false := decide_eq_false (by omega)
    clear c2
    by_cases c3 : (l0.length : Int) > 0
    · rw [if_pos c3] at H
      have c3b0 : decide (0 < (l0.length : Int)) = true := decide_eq_true c3
      have c3b1 : decide (0 < l0.length) = true := decide_eq_true (by omega)
      clear c3
      obtain ⟨ji4, hji4⟩ : ∃ j_ : Int, (wrap64 ((l0.length : Int) - 1)) = j_ := ⟨_, rfl⟩
      replace H : (if 0 ≤ (ji4) then (if (ji4) < (l0.length : Int) then (if (rd l0 (ji4)) = 0 then (some 9) else (some 0)) else (none)) else (none)) = some r := by first | (rw [hji4] at H; exact H) | (simp only [hji4] at H ⊢; exact H)
      have hji4w : (IntKind.i64.wrap ((l0.length : Int) - 1)) = ji4 := (i64_w _).trans hji4
      by_cases c5 : 0 ≤ (ji4)
      · rw [if_pos c5] at H
        have c5b0 : decide (0 ≤ (ji4)) = true := decide_eq_true c5
        clear c5
        by_cases c6 : (ji4) < (l0.length : Int)
        · rw [if_pos c6] at H
          have c6b0 : decide ((ji4) < (l0.length : Int)) = true := decide_eq_true c6
          clear c6
          by_cases c7 : (rd l0 (ji4)) = 0
          · rw [if_pos c7] at H
            have c7b0 : ((rd l0 (ji4)) == 0) = true := beq_iff_eq.mpr c7
            have c7b1 : ((rd l0 (ji4)) != 0) = false := bne_eq_false_iff_eq.mpr c7
            clear c7
            obtain rfl := Option.some.inj H
            have p121 : 0 ≤ ((ji4) : Int) := of_decide_eq_true (by first | (with_reducible assumption) | assumption)
            have q121 : (ji4) < (l0.length : Int) := of_decide_eq_true (by first | (with_reducible assumption) | assumption)
            obtain ⟨ad121, e121, hx121_0⟩ := Kd.at_int HR0.out (ji4) p121 q121
            cases e121
            replace p121 := eq_true p121
            replace q121 := eq_true q121
            go_enter Tryd.func49, Tryd.ntmps49
            go_wp2
            go_ret
            exact ⟨by first | rfl | (simp; done) | (simp only [← hji4] <;> (first | rfl | simp)) | (simp [*]; done), by repeat (first | exact Drawn0.refl _ | apply Drawn0.step)⟩
          · rw [if_neg c7] at H
            have c7b0 : ((rd l0 (ji4)) == 0) = false := beq_eq_false_iff_ne.mpr c7
            have c7b1 : ((rd l0 (ji4)) != 0) = true := bne_iff_ne.mpr c7
            obtain rfl := Option.some.inj H
            have p121 : 0 ≤ ((ji4) : Int) := of_decide_eq_true (by first | (with_reducible assumption) | assumption)
            have q121 : (ji4) < (l0.length : Int) := of_decide_eq_true (by first | (with_reducible assumption) | assumption)
            obtain ⟨ad121, e121, hx121_0⟩ := Kd.at_int HR0.out (ji4) p121 q121
            cases e121
            replace p121 := eq_true p121
            replace q121 := eq_true q121
            go_enter Tryd.func49, Tryd.ntmps49
            go_wp2
            go_ret
            exact ⟨by first | rfl | (simp; done) | (simp only [← hji4] <;> (first | rfl | simp)) | (simp [*]; done), by repeat (first | exact Drawn0.refl _ | apply Drawn0.step)⟩
        · rw [if_neg c6] at H
          exact absurd H (by simp)
      · rw [if_neg c5] at H
        exact absurd H (by simp)
    · rw [if_neg c3] at H
      have c3b0 : decide (0 < (l0.length : Int)) = false := decide_eq_false c3
      have c3b1 : decide (0 < l0.length) = false := decide_eq_false (by omega)
      clear c3
      obtain rfl := Option.some.inj H
      go_enter Tryd.func49, Tryd.ntmps49
      go_wp2
      go_ret
      exact ⟨by first | rfl | (simp; done) | (simp [*]; done), by repeat (first | exact Drawn0.refl _ | apply Drawn0.step)⟩

/-! ### nat_two: function 58 -/
def nat_two.f (k : Nat) (l0 : List Int) (l1 : List Int) : Option (Int) := (nat_Check.f l0).bind fun t122 => ((nat_Check.f l1).bind fun t123 => ((api_Errno.f k (([t122, t123] : List Int))).bind fun t127 => (some t127)))
theorem nat_two.mono : ∀ a0 a1 k, LeO (nat_two.f k a0 a1) (nat_two.f (k + 1) a0 a1) := by
  intro a0 a1 k
  unfold nat_two.f
  repeat' first
      | (with_reducible exact api_Errno.mono _ _)
      | (with_reducible exact LeO.refl _)
      | (with_reducible exact LeO.none _)
      | (with_reducible refine LeO.ite ?_ ?_)
      | (with_reducible refine LeO.bind ?_ (fun _ => ?_))
      | exact api_Errno.mono _ _
      | exact LeO.none _
      | refine LeO.ite ?_ ?_
      | refine LeO.bind ?_ (fun _ => ?_)
set_option maxHeartbeats 8000000 in
set_option maxRecDepth 100000 in
theorem nat_two.calls (k : Nat) (A0 : Option Addr) (c0 : Nat) (l0 : List Int) (A1 : Option Addr) (c1 : Nat) (l1 : List Int) (r : Int) (w : World) (hr0 : Kd.C (Kd.int .u32) w A0 l0.length l0) (hc0 : l0.length ≤ c0) (hr1 : Kd.C (Kd.int .u32) w A1 l1.length l1) (hc1 : l1.length ≤ c1) (h : nat_two.f k l0 l1 = some r) :
    Calls Tryd.prog 58 #[.slice A0 l0.length c0, .slice A1 l1.length c1] w fun e w' => e = .returned (.int .i64 r) ∧ Below w.heap.size w w' := by
  have HR0 := Aside0.mk hr0
  have HC0 := Aside0.mk hc0
  clear hr0 hc0
  have HR1 := Aside0.mk hr1
  have HC1 := Aside0.mk hc1
  clear hr1 hc1
  have HB := Aside0.mk (Below.refl w.heap.size w)
  have H : ((nat_Check.f l0).bind fun t122 => ((nat_Check.f l1).bind fun t123 => ((api_Errno.f k (([t122, t123] : List Int))).bind fun t127 => (some t127)))) = some r := h
  clear h
  replace H := Option.bind_eq_some_iff.mp H
  obtain ⟨t122, A30, H⟩ := H
  replace H : ((nat_Check.f l1).bind fun t123 => ((api_Errno.f k (([t122, t123] : List Int))).bind fun t127 => (some t127))) = some r := H
  have A3 := Aside0.mk A30
  clear A30
  replace H := Option.bind_eq_some_iff.mp H
  obtain ⟨t123, A40, H⟩ := H
  replace H : ((api_Errno.f k (([t122, t123] : List Int))).bind fun t127 => (some t127)) = some r := H
  have A4 := Aside0.mk A40
  clear A40
  obtain ⟨y124, hy124⟩ : ∃ y_ : List Int, y_ = (([t122, t123] : List Int)) := ⟨_, rfl⟩
  replace H : ((api_Errno.f k y124).bind fun t127 => (some t127)) = some r := by first | (rw [hy124]; with_reducible exact H) | (have H2_ := (Option.bind_some _ _).symm.trans H; rw [hy124]; with_reducible exact H2_) | (have H2_ := (Option.bind_some _ _).symm.trans H; with_reducible exact H2_) | with_reducible exact H | (rw [hy124]; exact H) | exact H
  have Ny124 := Aside0.mk hy124
  clear hy124
  replace H := Option.bind_eq_some_iff.mp H
  obtain ⟨t127, A50, H⟩ := H
  replace H : (some t127) = some r := H
  have A5 := Aside0.mk A50
  clear A50
  obtain rfl := Option.some.inj H
  go_enter Tryd.func58, Tryd.ntmps58
  go_wp2_with (first | ((with_reducible refine gate_callee (f := 49) rfl ?_); refine goesL_ (some 6) rfl rfl Tryd.func49 (by kernel_rfl) rfl #[.slice A0 l0.length c0] rfl (by (try simp only [List.map_toArray, List.map_cons, List.map_nil]); first | done | rfl | (simp only [List.length_drop, List.length_take]; rfl)) ?_; (with_reducible refine (nat_Check.calls _ _ l0 t122 _ ?side1 ?side2 A3.out).mono ?_); (case side1 => repeat (first | exact HR0.out | (with_reducible refine Kd.C_alloc ?_ _) | (with_reducible refine Kd.C_drewN ?_ _) | (with_reducible refine Kd.C_drew ?_))); (case side2 => exact HC0.out); rintro e w' ⟨rfl, ⟨nd, rfl⟩⟩; refine ⟨_, rfl, ?_⟩) | ((with_reducible refine gate_callee (f := 49) rfl ?_); refine goesL_ (some 8) rfl rfl Tryd.func49 (by kernel_rfl) rfl #[.slice A1 l1.length c1] rfl (by (try simp only [List.map_toArray, List.map_cons, List.map_nil]); first | done | rfl | (simp only [List.length_drop, List.length_take]; rfl)) ?_; (with_reducible refine (nat_Check.calls _ _ l1 t123 _ ?side1 ?side2 A4.out).mono ?_); (case side1 => repeat (first | exact HR1.out | (with_reducible refine Kd.C_alloc ?_ _) | (with_reducible refine Kd.C_drewN ?_ _) | (with_reducible refine Kd.C_drew ?_))); (case side2 => exact HC1.out); rintro e w' ⟨rfl, ⟨nd, rfl⟩⟩; refine ⟨_, rfl, ?_⟩) | ((with_reducible refine gate_dst (N := 9) rfl ?_); refine Kd.R_lit (Kd.int .i64) _ 25 ?hg (N := 9) ?hd (xs := ([t122, t123] : List Int)) (inner := [.int .i64 t122, .int .i64 t123]) (ok := fun _ => True) (okp := fun _ => True) ?hr ?hp (fun _ hk => hk) trivial (Below.refl _ _) (Nat.le_refl _) (by simp) ?_; (case hd => rfl); (case hg => rfl); (case hr => first | (go_simp; done) | (go_simp; rfl)); (case hp => exact (Reps.one (show Kd.M (Kd.int .i64) _ _ _ t122 [.int .i64 t122] from rfl) (Reps.one (show Kd.M (Kd.int .i64) _ _ _ t123 [.int .i64 t123] from rfl) (Reps.none _ _)))); intro v125 w6 ho7 hb hg_ hnew_; clear hg_ hnew_; (first | rw [← Ny124.out] at ho7 | (simp only [Int.reduceToNat] at ho7; rw [← Ny124.out] at ho7)); have n0_ := Aside0.mk (Kd.R_lower ho7 (below_size (by repeat (first | (with_reducible first | exact HB.out | apply below_alloc | apply pw_below_drewN | apply below_drew1) | exact HB.out)))); have n1_ := Aside0.mk (below_step (by repeat (first | (with_reducible first | exact HB.out | apply below_alloc | apply pw_below_drewN | apply below_drew1) | exact HB.out)) hb); clear HB; have HO126 := n0_; have HB := n1_; clear n0_ n1_; clear hb ho7; obtain ⟨Ao8, co8, eo8⟩ := Kd.R_slice HO126.out; subst eo8) | ((with_reducible refine gate_callee (f := 45) rfl ?_); refine goesL_ (some 10) rfl rfl Tryd.func45 (by kernel_rfl) rfl #[.slice Ao8 y124.length co8] rfl (by (try simp only [List.map_toArray, List.map_cons, List.map_nil]); first | done | rfl | (simp only [List.length_drop, List.length_take]; rfl)) ?_; (with_reducible refine (api_Errno.calls k _ _ y124 t127 _ ?side1 ?side2 A5.out).mono ?_); (case side1 => repeat (first | exact (Kd.R_reads' HO126.out).2.2 | (with_reducible refine Kd.C_alloc ?_ _) | (with_reducible refine Kd.C_drewN ?_ _) | (with_reducible refine Kd.C_drew ?_))); (case side2 => exact (Kd.R_reads' HO126.out).2.1); rintro e w' ⟨rfl, ⟨nd, rfl⟩⟩; refine ⟨_, rfl, ?_⟩))
  go_ret
  exact ⟨by first | rfl | (simp [errW_none, errW_some] <;> rfl) | (simp [*, errW_none, errW_some] <;> rfl), by repeat (first | (with_reducible first | exact HB.out | apply below_alloc | apply pw_below_drewN | apply below_drew1) | exact HB.out)⟩

end Go.Proofs.YtdgebcgcabhjoaaDoor.P
-- Written by a program for this claim. Not trusted: Lean checks it.
namespace Go.Proofs.YtdgebcgcabhjoaaDoor.P
open Go.RowKit Go.Proofs.YtdgebcgcabhjoaaDoorW.PrintWords Go.Proofs.YtdgebcgcabhjoaaDoorW.PrintLast Go.Proofs.YtdgebcgcabhjoaaDoorW.PrintMore
attribute [local go_sem] max2_int min2_int max_two min_two max_three min_three max_four min_four   -- for this text's walks alone
set_option linter.unusedVariables false
set_option linter.unusedSimpArgs false

/-! ### nat_Div: function 53 -/
def nat_Div.f (k : Nat) (l0 : List Int) (l1 : List Int) : Option (List Int × List Int × Int) := (nat_two.f k l0 l1).bind fun t140 => (if t140 = 0 then (if (l1.length : Int) = 0 then (some (([] : List Int), ([] : List Int), 53)) else ((nat_num_div.f l0 l1).bind fun bt141 => (some (bt141.1, bt141.2, 0)))) else (some (([] : List Int), ([] : List Int), t140)))
theorem nat_Div.mono : ∀ a0 a1 k, LeO (nat_Div.f k a0 a1) (nat_Div.f (k + 1) a0 a1) := by
  intro a0 a1 k
  unfold nat_Div.f
  repeat' first
      | (with_reducible exact nat_two.mono _ _ _)
      | (with_reducible exact LeO.refl _)
      | (with_reducible exact LeO.none _)
      | (with_reducible refine LeO.ite ?_ ?_)
      | (with_reducible refine LeO.bind ?_ (fun _ => ?_))
      | exact nat_two.mono _ _ _
      | exact LeO.none _
      | refine LeO.ite ?_ ?_
      | refine LeO.bind ?_ (fun _ => ?_)
set_option maxHeartbeats 8000000 in
set_option maxRecDepth 100000 in
theorem nat_Div.calls (k : Nat) (A0 : Option Addr) (c0 : Nat) (l0 : List Int) (A1 : Option Addr) (c1 : Nat) (l1 : List Int) (r1 : List Int) (r2 : List Int) (r3 : Int) (w : World) (hr0 : Kd.C (Kd.int .u32) w A0 l0.length l0) (hc0 : l0.length ≤ c0) (hr1 : Kd.C (Kd.int .u32) w A1 l1.length l1) (hc1 : l1.length ≤ c1) (h : nat_Div.f k l0 l1 = some (r1, r2, r3)) :
    Calls Tryd.prog 53 #[.slice A0 l0.length c0, .slice A1 l1.length c1] w fun e w' => ∃ v0_ v1_ : Value, e = .returned (.tuple #[v0_, v1_, .int .i64 r3]) ∧ Kd.R (Kd.int .u32) 63 w' w.heap.size (fun k_ => some k_ ≠ (v1_ : Value).ownBlock) v0_ r1 ∧ Kd.R (Kd.int .u32) 63 w' w.heap.size (fun k_ => some k_ ≠ (v0_ : Value).ownBlock) v1_ r2 ∧ Below w.heap.size w w' := by
  have HR0 := Aside0.mk hr0
  have HC0 := Aside0.mk hc0
  clear hr0 hc0
  have HR1 := Aside0.mk hr1
  have HC1 := Aside0.mk hc1
  clear hr1 hc1
  have HB := Aside0.mk (Below.refl w.heap.size w)
  have H : ((nat_two.f k l0 l1).bind fun t140 => (if t140 = 0 then (if (l1.length : Int) = 0 then (some (([] : List Int), ([] : List Int), 53)) else ((nat_num_div.f l0 l1).bind fun bt141 => (some (bt141.1, bt141.2, 0)))) else (some (([] : List Int), ([] : List Int), t140)))) = some (r1, r2, r3) := h
  clear h
  replace H := Option.bind_eq_some_iff.mp H
  obtain ⟨t140, A30, H⟩ := H
  replace H : (if t140 = 0 then (if (l1.length : Int) = 0 then (some (([] : List Int), ([] : List Int), 53)) else ((nat_num_div.f l0 l1).bind fun bt141 => (some (bt141.1, bt141.2, 0)))) else (some (([] : List Int), ([] : List Int), t140))) = some (r1, r2, r3) := H
  have A3 := Aside0.mk A30
  clear A30
  by_cases c4 : t140 = 0
  · rw [if_pos c4] at H
    have c4b0 : (t140 == 0) = true := beq_iff_eq.mpr c4
    have c4b1 : (t140 != 0) = false := bne_eq_false_iff_eq.mpr c4
    clear c4
    by_cases c5 : (l1.length : Int) = 0
    · rw [if_pos c5] at H
      have c5b0 : ((l1.length : Int) == 0) = true := beq_iff_eq.mpr c5
      have c5b1 : ((l1.length : Int) != 0) = false := bne_eq_false_iff_eq.mpr c5
      clear c5
      simp only [Option.some.injEq, Prod.mk.injEq] at H
      obtain ⟨rfl, rfl, rfl⟩ := H
      go_enter Tryd.func53, Tryd.ntmps53
      go_wp2_with (first | ((with_reducible refine gate_callee (f := 58) rfl ?_); refine goesL_ (some 12) rfl rfl Tryd.func58 (by kernel_rfl) rfl #[.slice A0 l0.length c0, .slice A1 l1.length c1] rfl (by (try simp only [List.map_toArray, List.map_cons, List.map_nil]); first | done | rfl | (simp only [List.length_drop, List.length_take]; rfl)) ?_; (with_reducible refine (nat_two.calls k _ _ l0 _ _ l1 t140 _ ?side1 ?side2 ?side3 ?side4 A3.out).mono ?_); (case side1 => repeat (first | exact HR0.out | (with_reducible refine Kd.C_alloc ?_ _) | (with_reducible refine Kd.C_drewN ?_ _) | (with_reducible refine Kd.C_drew ?_))); (case side2 => exact HC0.out); (case side3 => repeat (first | exact HR1.out | (with_reducible refine Kd.C_alloc ?_ _) | (with_reducible refine Kd.C_drewN ?_ _) | (with_reducible refine Kd.C_drew ?_))); (case side4 => exact HC1.out); rintro e w6 ⟨rfl, hb⟩; refine ⟨_, rfl, ?_⟩; have n0_ := Aside0.mk (below_step (by repeat (first | (with_reducible first | exact HB.out | apply below_alloc | apply pw_below_drewN | apply below_drew1) | exact HB.out)) hb); clear HB; have HB := n0_; clear n0_; (try clear hb); (try clear hb2); (try clear hk); (try clear hi)))
      go_ret3
      exact ⟨_, _, by first | rfl | (simp [errW_none, errW_some] <;> rfl) | (simp [*, errW_none, errW_some] <;> rfl), by first | exact Kd.R_nil _ _ _ _ _ | exact Kd.N_nil _ _ _ _ _ | exact Kd.V_nil _ _ _ _ _ | exact Kd.Q_nil _ _ _ _ _ | exact Kd.S_nil _ _ _ _ _, by first | exact Kd.R_nil _ _ _ _ _ | exact Kd.N_nil _ _ _ _ _ | exact Kd.V_nil _ _ _ _ _ | exact Kd.Q_nil _ _ _ _ _ | exact Kd.S_nil _ _ _ _ _, by repeat (first | (with_reducible first | exact HB.out | apply below_alloc | apply pw_below_drewN | apply below_drew1) | exact HB.out)⟩
    · rw [if_neg c5] at H
      have c5b0 : ((l1.length : Int) == 0) = false := beq_eq_false_iff_ne.mpr c5
      have c5b1 : ((l1.length : Int) != 0) = true := bne_iff_ne.mpr c5
      have c5b2 : ¬ (l1 = []) := fun h_ => c5 (by rw [h_]; rfl)
      replace H := Option.bind_eq_some_iff.mp H
      obtain ⟨⟨t141, t142⟩, A70, H⟩ := H
      replace H : (some (t141, t142, 0)) = some (r1, r2, r3) := H
      have A7 := Aside0.mk A70
      clear A70
      simp only [Option.some.injEq, Prod.mk.injEq] at H
      obtain ⟨rfl, rfl, rfl⟩ := H
      go_enter Tryd.func53, Tryd.ntmps53
      go_wp2_with (first | ((with_reducible refine gate_callee (f := 58) rfl ?_); refine goesL_ (some 12) rfl rfl Tryd.func58 (by kernel_rfl) rfl #[.slice A0 l0.length c0, .slice A1 l1.length c1] rfl (by (try simp only [List.map_toArray, List.map_cons, List.map_nil]); first | done | rfl | (simp only [List.length_drop, List.length_take]; rfl)) ?_; (with_reducible refine (nat_two.calls k _ _ l0 _ _ l1 t140 _ ?side1 ?side2 ?side3 ?side4 A3.out).mono ?_); (case side1 => repeat (first | exact HR0.out | (with_reducible refine Kd.C_alloc ?_ _) | (with_reducible refine Kd.C_drewN ?_ _) | (with_reducible refine Kd.C_drew ?_))); (case side2 => exact HC0.out); (case side3 => repeat (first | exact HR1.out | (with_reducible refine Kd.C_alloc ?_ _) | (with_reducible refine Kd.C_drewN ?_ _) | (with_reducible refine Kd.C_drew ?_))); (case side4 => exact HC1.out); rintro e w8 ⟨rfl, hb⟩; refine ⟨_, rfl, ?_⟩; have n0_ := Aside0.mk (below_step (by repeat (first | (with_reducible first | exact HB.out | apply below_alloc | apply pw_below_drewN | apply below_drew1) | exact HB.out)) hb); clear HB; have HB := n0_; clear n0_; (try clear hb); (try clear hb2); (try clear hk); (try clear hi)) | ((with_reducible refine gate_callee (f := 59) rfl ?_); refine goesL_ (some 22) rfl rfl Tryd.func59 (by kernel_rfl) rfl #[.slice A0 l0.length c0, .slice A1 l1.length c1] rfl (by (try simp only [List.map_toArray, List.map_cons, List.map_nil]); first | done | rfl | (simp only [List.length_drop, List.length_take]; rfl)) ?_; (with_reducible refine (nat_num_div.calls _ _ l0 _ _ l1 t141 t142 _ ?side1 ?side2 ?side3 ?side4 A7.out).mono ?_); (case side1 => repeat (first | exact (Kd.C_below HR0.out HB.out) | (with_reducible refine Kd.C_alloc ?_ _) | (with_reducible refine Kd.C_drewN ?_ _) | (with_reducible refine Kd.C_drew ?_))); (case side2 => exact HC0.out); (case side3 => repeat (first | exact (Kd.C_below HR1.out HB.out) | (with_reducible refine Kd.C_alloc ?_ _) | (with_reducible refine Kd.C_drewN ?_ _) | (with_reducible refine Kd.C_drew ?_))); (case side4 => exact HC1.out); rintro e w9 ⟨v143, v145, rfl, ho0, ho1, hb⟩; refine ⟨_, rfl, ?_⟩; have n0_ := Aside0.mk (Kd.R_lower ho0 (below_size (by repeat (first | (with_reducible first | exact HB.out | apply below_alloc | apply pw_below_drewN | apply below_drew1) | exact HB.out)))); have n1_ := Aside0.mk (Kd.R_lower ho1 (below_size (by repeat (first | (with_reducible first | exact HB.out | apply below_alloc | apply pw_below_drewN | apply below_drew1) | exact HB.out)))); have n2_ := Aside0.mk (below_step (by repeat (first | (with_reducible first | exact HB.out | apply below_alloc | apply pw_below_drewN | apply below_drew1) | exact HB.out)) hb); clear HB; have HO144 := n0_; have HO146 := n1_; have HB := n2_; clear n0_ n1_ n2_; (try clear hb); (try clear hb2); (try clear hk); (try clear hi); (try clear ho0); (try clear ho1)))
      go_ret3
      exact ⟨_, _, by first | rfl | (simp [errW_none, errW_some] <;> rfl) | (simp [*, errW_none, errW_some] <;> rfl), by (with_reducible repeat (first | apply Kd.R_alloc | apply Kd.R_drewN | apply Kd.R_drew)); exact HO144.out, by (with_reducible repeat (first | apply Kd.R_alloc | apply Kd.R_drewN | apply Kd.R_drew)); exact HO146.out, by repeat (first | (with_reducible first | exact HB.out | apply below_alloc | apply pw_below_drewN | apply below_drew1) | exact HB.out)⟩
  · rw [if_neg c4] at H
    have c4b0 : (t140 == 0) = false := beq_eq_false_iff_ne.mpr c4
    have c4b1 : (t140 != 0) = true := bne_iff_ne.mpr c4
    simp only [Option.some.injEq, Prod.mk.injEq] at H
    obtain ⟨rfl, rfl, rfl⟩ := H
    go_enter Tryd.func53, Tryd.ntmps53
    go_wp2_with (first | ((with_reducible refine gate_callee (f := 58) rfl ?_); refine goesL_ (some 12) rfl rfl Tryd.func58 (by kernel_rfl) rfl #[.slice A0 l0.length c0, .slice A1 l1.length c1] rfl (by (try simp only [List.map_toArray, List.map_cons, List.map_nil]); first | done | rfl | (simp only [List.length_drop, List.length_take]; rfl)) ?_; (with_reducible refine (nat_two.calls k _ _ l0 _ _ l1 t140 _ ?side1 ?side2 ?side3 ?side4 A3.out).mono ?_); (case side1 => repeat (first | exact HR0.out | (with_reducible refine Kd.C_alloc ?_ _) | (with_reducible refine Kd.C_drewN ?_ _) | (with_reducible refine Kd.C_drew ?_))); (case side2 => exact HC0.out); (case side3 => repeat (first | exact HR1.out | (with_reducible refine Kd.C_alloc ?_ _) | (with_reducible refine Kd.C_drewN ?_ _) | (with_reducible refine Kd.C_drew ?_))); (case side4 => exact HC1.out); rintro e w10 ⟨rfl, hb⟩; refine ⟨_, rfl, ?_⟩; have n0_ := Aside0.mk (below_step (by repeat (first | (with_reducible first | exact HB.out | apply below_alloc | apply pw_below_drewN | apply below_drew1) | exact HB.out)) hb); clear HB; have HB := n0_; clear n0_; (try clear hb); (try clear hb2); (try clear hk); (try clear hi)))
    go_ret3
    exact ⟨_, _, by first | rfl | (simp [errW_none, errW_some] <;> rfl) | (simp [*, errW_none, errW_some] <;> rfl), by first | exact Kd.R_nil _ _ _ _ _ | exact Kd.N_nil _ _ _ _ _ | exact Kd.V_nil _ _ _ _ _ | exact Kd.Q_nil _ _ _ _ _ | exact Kd.S_nil _ _ _ _ _, by first | exact Kd.R_nil _ _ _ _ _ | exact Kd.N_nil _ _ _ _ _ | exact Kd.V_nil _ _ _ _ _ | exact Kd.Q_nil _ _ _ _ _ | exact Kd.S_nil _ _ _ _ _, by repeat (first | (with_reducible first | exact HB.out | apply below_alloc | apply pw_below_drewN | apply below_drew1) | exact HB.out)⟩

/-! ### nat_From: function 54 -/
def nat_From.f (a0 : Int) : Option (List Int) := (nat_num_trim.f (([(a0) % 4294967296, (a0 / 4294967296) % 4294967296] : List Int))).bind fun t150 => (some t150)
set_option maxHeartbeats 8000000 in
set_option maxRecDepth 100000 in
theorem nat_From.calls (a0 : Int) (r : List Int) (w : World) (h : nat_From.f a0 = some r) :
    Calls Tryd.prog 54 #[.int .u64 a0] w fun e w' => ∃ v0_ : Value, e = .returned (v0_) ∧ Kd.R (Kd.int .u32) 63 w' w.heap.size (fun _ => True) v0_ r ∧ Below w.heap.size w w' := by
  have HB := Aside0.mk (Below.refl w.heap.size w)
  have H : ((nat_num_trim.f (([(a0) % 4294967296, (a0 / 4294967296) % 4294967296] : List Int))).bind fun t150 => (some t150)) = some r := h
  clear h
  obtain ⟨y147, hy147⟩ : ∃ y_ : List Int, y_ = (([(a0) % 4294967296, (a0 / 4294967296) % 4294967296] : List Int)) := ⟨_, rfl⟩
  replace H : ((nat_num_trim.f y147).bind fun t150 => (some t150)) = some r := by first | (rw [hy147]; with_reducible exact H) | (have H2_ := (Option.bind_some _ _).symm.trans H; rw [hy147]; with_reducible exact H2_) | (have H2_ := (Option.bind_some _ _).symm.trans H; with_reducible exact H2_) | with_reducible exact H | (rw [hy147]; exact H) | exact H
  have Ny147 := Aside0.mk hy147
  clear hy147
  replace H := Option.bind_eq_some_iff.mp H
  obtain ⟨t150, A20, H⟩ := H
  replace H : (some t150) = some r := H
  have A2 := Aside0.mk A20
  clear A20
  obtain rfl := Option.some.inj H
  go_enter Tryd.func54, Tryd.ntmps54
  go_wp2_with (first | ((with_reducible refine gate_dst (N := 8) rfl ?_); refine Kd.R_lit (Kd.int .u32) _ 63 ?hg (N := 8) ?hd (xs := ([(a0) % 4294967296, (a0 / 4294967296) % 4294967296] : List Int)) (inner := [.int .u32 ((a0) % 4294967296), .int .u32 ((a0 / 4294967296) % 4294967296)]) (ok := fun _ => True) (okp := fun _ => True) ?hr ?hp (fun _ hk => hk) trivial (Below.refl _ _) (Nat.le_refl _) (by simp) ?_; (case hd => rfl); (case hg => rfl); (case hr => first | (go_simp; done) | (go_simp; rfl)); (case hp => exact (Reps.one (show Kd.M (Kd.int .u32) _ _ _ ((a0) % 4294967296) [.int .u32 ((a0) % 4294967296)] from rfl) (Reps.one (show Kd.M (Kd.int .u32) _ _ _ ((a0 / 4294967296) % 4294967296) [.int .u32 ((a0 / 4294967296) % 4294967296)] from rfl) (Reps.none _ _)))); intro v148 w3 ho4 hb hg_ hnew_; clear hg_ hnew_; (first | rw [← Ny147.out] at ho4 | (simp only [Int.reduceToNat] at ho4; rw [← Ny147.out] at ho4)); have n0_ := Aside0.mk (Kd.R_lower ho4 (below_size (by repeat (first | (with_reducible first | exact HB.out | apply below_alloc | apply pw_below_drewN | apply below_drew1) | exact HB.out)))); have n1_ := Aside0.mk (below_step (by repeat (first | (with_reducible first | exact HB.out | apply below_alloc | apply pw_below_drewN | apply below_drew1) | exact HB.out)) hb); clear HB; have HO149 := n0_; have HB := n1_; clear n0_ n1_; clear hb ho4; obtain ⟨Ao5, co5, eo5⟩ := Kd.R_slice HO149.out; subst eo5) | ((with_reducible refine gate_callee (f := 60) rfl ?_); refine goesL_ (some 9) rfl rfl Tryd.func60 (by kernel_rfl) rfl #[.slice Ao5 y147.length co5] rfl (by (try simp only [List.map_toArray, List.map_cons, List.map_nil]); first | done | rfl | (simp only [List.length_drop, List.length_take]; rfl)) ?_; (with_reducible refine (nat_num_trim.calls (fun k_ => some k_ = (.slice Ao5 y147.length co5 : Value).ownBlock) (.slice Ao5 y147.length co5) y147 t150 w _ ?side1 ?side2 A2.out).mono ?_); (case side1 => repeat (first | (with_reducible first | exact HB.out | apply below_alloc | apply pw_below_drewN | apply below_drew1) | exact HB.out)); (case side2 => exact Kd.R_tight rfl HO149.out); rintro e w6 ⟨v151, rfl, ho0, hb, hkp⟩; refine ⟨_, rfl, ?_⟩; have n0_ := Aside0.mk (Kd.R_mono (ok' := fun k_ => True) ho0 (fun k_ hk_ => trivial)); have n1_ := Aside0.mk (hb); clear HB; clear HO149; have HO152 := n0_; have HB := n1_; clear n0_ n1_; (try clear hb); (try clear hkp); (try clear ho0)))
  go_ret
  exact ⟨_, by first | rfl | (simp [errW_none, errW_some] <;> rfl) | (simp [*, errW_none, errW_some] <;> rfl), by (with_reducible repeat (first | apply Kd.R_alloc | apply Kd.R_drewN | apply Kd.R_drew)); exact HO152.out, by repeat (first | (with_reducible first | exact HB.out | apply below_alloc | apply pw_below_drewN | apply below_drew1) | exact HB.out)⟩

/-! ### dec_ten: function 50 -/
def dec_ten.f (k : Nat) (l0 : List Int) : Option (List Int × Bool) := (nat_From.f 10).bind fun t153 => ((nat_Div.f k l0 t153).bind fun bt156 => (some (bt156.1, ((bt156.2.1.length : Int) == 0))))
theorem dec_ten.mono : ∀ a0 k, LeO (dec_ten.f k a0) (dec_ten.f (k + 1) a0) := by
  intro a0 k
  unfold dec_ten.f
  repeat' first
      | (with_reducible exact nat_Div.mono _ _ _)
      | (with_reducible exact LeO.refl _)
      | (with_reducible exact LeO.none _)
      | (with_reducible refine LeO.ite ?_ ?_)
      | (with_reducible refine LeO.bind ?_ (fun _ => ?_))
      | exact nat_Div.mono _ _ _
      | exact LeO.none _
      | refine LeO.ite ?_ ?_
      | refine LeO.bind ?_ (fun _ => ?_)
set_option maxHeartbeats 8000000 in
set_option maxRecDepth 100000 in
theorem dec_ten.calls (k : Nat) (A0 : Option Addr) (c0 : Nat) (l0 : List Int) (r1 : List Int) (r2 : Bool) (w : World) (hr0 : Kd.C (Kd.int .u32) w A0 l0.length l0) (hc0 : l0.length ≤ c0) (h : dec_ten.f k l0 = some (r1, r2)) :
    Calls Tryd.prog 50 #[.slice A0 l0.length c0] w fun e w' => ∃ v0_ : Value, e = .returned (.tuple #[v0_, .bool r2]) ∧ Kd.R (Kd.int .u32) 63 w' w.heap.size (fun _ => True) v0_ r1 ∧ Below w.heap.size w w' := by
  have HR0 := Aside0.mk hr0
  have HC0 := Aside0.mk hc0
  clear hr0 hc0
  have HB := Aside0.mk (Below.refl w.heap.size w)
  have H : ((nat_From.f 10).bind fun t153 => ((nat_Div.f k l0 t153).bind fun bt156 => (some (bt156.1, ((bt156.2.1.length : Int) == 0))))) = some (r1, r2) := h
  clear h
  replace H := Option.bind_eq_some_iff.mp H
  obtain ⟨t153, A20, H⟩ := H
  replace H : ((nat_Div.f k l0 t153).bind fun bt156 => (some (bt156.1, ((bt156.2.1.length : Int) == 0)))) = some (r1, r2) := H
  have A2 := Aside0.mk A20
  clear A20
  replace H := Option.bind_eq_some_iff.mp H
  obtain ⟨⟨t156, t157, t158⟩, A30, H⟩ := H
  replace H : (some (t156, ((t157.length : Int) == 0))) = some (r1, r2) := H
  have A3 := Aside0.mk A30
  clear A30
  simp only [Option.some.injEq, Prod.mk.injEq] at H
  obtain ⟨rfl, rfl⟩ := H
  go_enter Tryd.func50, Tryd.ntmps50
  go_wp2_with (first | ((with_reducible refine gate_callee (f := 54) rfl ?_); refine goesL_ (some 9) rfl rfl Tryd.func54 (by kernel_rfl) rfl #[.int .u64 10] rfl (by (try simp only [List.map_toArray, List.map_cons, List.map_nil]); first | done | rfl | (simp only [List.length_drop, List.length_take]; rfl)) ?_; (with_reducible refine (nat_From.calls 10 t153 _ A2.out).mono ?_); rintro e w4 ⟨v154, rfl, ho0, hb⟩; refine ⟨_, rfl, ?_⟩; have n0_ := Aside0.mk (Kd.R_lower ho0 (below_size (by repeat (first | (with_reducible first | exact HB.out | apply below_alloc | apply pw_below_drewN | apply below_drew1) | exact HB.out)))); have n1_ := Aside0.mk (below_step (by repeat (first | (with_reducible first | exact HB.out | apply below_alloc | apply pw_below_drewN | apply below_drew1) | exact HB.out)) hb); clear HB; have HO155 := n0_; have HB := n1_; clear n0_ n1_; (try clear hb); (try clear hb2); (try clear hk); (try clear hi); (try clear ho0); obtain ⟨Ao5, co5, eo5⟩ := Kd.R_slice HO155.out; subst eo5) | ((with_reducible refine gate_callee (f := 53) rfl ?_); refine goesL_ (some 10) rfl rfl Tryd.func53 (by kernel_rfl) rfl #[.slice A0 l0.length c0, .slice Ao5 t153.length co5] rfl (by (try simp only [List.map_toArray, List.map_cons, List.map_nil]); first | done | rfl | (simp only [List.length_drop, List.length_take]; rfl)) ?_; (with_reducible refine (nat_Div.calls k _ _ l0 _ _ t153 t156 t157 t158 _ ?side1 ?side2 ?side3 ?side4 A3.out).mono ?_); (case side1 => repeat (first | exact (Kd.C_below HR0.out HB.out) | (with_reducible refine Kd.C_alloc ?_ _) | (with_reducible refine Kd.C_drewN ?_ _) | (with_reducible refine Kd.C_drew ?_))); (case side2 => exact HC0.out); (case side3 => repeat (first | exact (Kd.R_reads' HO155.out).2.2 | (with_reducible refine Kd.C_alloc ?_ _) | (with_reducible refine Kd.C_drewN ?_ _) | (with_reducible refine Kd.C_drew ?_))); (case side4 => exact (Kd.R_reads' HO155.out).2.1); rintro e w6 ⟨v159, v161, rfl, ho0, ho1, hb⟩; refine ⟨_, rfl, ?_⟩; have n0_ := Aside0.mk (Kd.R_mono (Kd.R_told (Kd.R_told (Kd.R_old (by (with_reducible repeat (first | apply Kd.R_alloc | apply Kd.R_drewN | apply Kd.R_drew)); exact HO155.out) hb) (Kd.R_base ho0)) (Kd.R_base ho1)) (fun _ h_ => h_.1)); have n1_ := Aside0.mk (Kd.R_lower (Kd.R_new' ho0 (Kd.R_lt (by (with_reducible repeat (first | apply Kd.R_alloc | apply Kd.R_drewN | apply Kd.R_drew)); exact HO155.out))) (below_size (by repeat (first | (with_reducible first | exact HB.out | apply below_alloc | apply pw_below_drewN | apply below_drew1) | exact HB.out)))); have n2_ := Aside0.mk (Kd.R_lower (Kd.R_new' ho1 (Kd.R_lt (by (with_reducible repeat (first | apply Kd.R_alloc | apply Kd.R_drewN | apply Kd.R_drew)); exact HO155.out))) (below_size (by repeat (first | (with_reducible first | exact HB.out | apply below_alloc | apply pw_below_drewN | apply below_drew1) | exact HB.out)))); have n3_ := Aside0.mk (below_step (by repeat (first | (with_reducible first | exact HB.out | apply below_alloc | apply pw_below_drewN | apply below_drew1) | exact HB.out)) hb); clear HO155; clear HB; have HO155 := n0_; have HO160 := n1_; have HO162 := n2_; have HB := n3_; clear n0_ n1_ n2_ n3_; (try clear hb); (try clear hb2); (try clear hk); (try clear hi); (try clear ho0); (try clear ho1); obtain ⟨Ao7, co7, eo7⟩ := Kd.R_slice HO162.out; subst eo7))
  go_ret2
  exact ⟨_, by first | rfl | (simp [errW_none, errW_some] <;> rfl) | (simp [*, errW_none, errW_some] <;> rfl), by (with_reducible repeat (first | apply Kd.R_alloc | apply Kd.R_drewN | apply Kd.R_drew)); exact Kd.R_mono HO160.out (fun _ hk => trivial), by repeat (first | (with_reducible first | exact HB.out | apply below_alloc | apply pw_below_drewN | apply below_drew1) | exact HB.out)⟩

/-! ### slices_Reverse_byte_byte: function 62 -/
def slices_Reverse_byte_byte.l0 : Nat → List Int → Int → Int → Option (List Int)
  | 0, _, _, _ => none
  | k + 1, x0, x2, x3 => if x2 < x3 then (if 0 ≤ x3 then (if x3 < (x0.length : Int) then (if 0 ≤ x2 then (if x2 < (x0.length : Int) then (slices_Reverse_byte_byte.l0 k ((x0.set (x2 : Int).toNat (rd x0 x3)).set (x3 : Int).toNat (rd x0 x2)) (wrap64 (x2 + 1)) (wrap64 (x3 - 1))) else (none)) else (none)) else (none)) else (none)) else (some x0)
def slices_Reverse_byte_byte.f (k : Nat) (l0 : List Int) : Option (List Int) := slices_Reverse_byte_byte.l0 k l0 0 (wrap64 ((l0.length : Int) - 1))
theorem slices_Reverse_byte_byte.mono_l : ∀ k, (∀ y0 y1 y2, LeO (slices_Reverse_byte_byte.l0 k y0 y1 y2) (slices_Reverse_byte_byte.l0 (k + 1) y0 y1 y2))
  | 0 => fun _ _ _ r h => by simp [slices_Reverse_byte_byte.l0] at h
  | k + 1 => by
    have ih0 := slices_Reverse_byte_byte.mono_l k
    · intro y0 y1 y2
      unfold slices_Reverse_byte_byte.l0
      repeat' first
      | (with_reducible exact ih0 _ _ _)
      | (with_reducible exact LeO.refl _)
      | (with_reducible exact LeO.none _)
      | (with_reducible refine LeO.ite ?_ ?_)
      | (with_reducible refine LeO.bind ?_ (fun _ => ?_))
      | exact ih0 _ _ _
      | exact LeO.none _
      | refine LeO.ite ?_ ?_
      | refine LeO.bind ?_ (fun _ => ?_)
theorem slices_Reverse_byte_byte.mono : ∀ a0 k, LeO (slices_Reverse_byte_byte.f k a0) (slices_Reverse_byte_byte.f (k + 1) a0) := by
  intro a0 k
  have ih0 := slices_Reverse_byte_byte.mono_l k
  unfold slices_Reverse_byte_byte.f
  repeat' first
      | (with_reducible exact ih0 _ _ _)
      | (with_reducible exact LeO.refl _)
      | (with_reducible exact LeO.none _)
      | (with_reducible refine LeO.ite ?_ ?_)
      | (with_reducible refine LeO.bind ?_ (fun _ => ?_))
      | exact ih0 _ _ _
      | exact LeO.none _
      | refine LeO.ite ?_ ?_
      | refine LeO.bind ?_ (fun _ => ?_)
def slices_Reverse_byte_byte.T3 : Bool × List (List Nat × List Nat) := (true, [([], []), ([], []), ([], []), ([], []), ([], []), ([], []), ([4, 5], [4, 5]), ([6], [6]), ([], []), ([], []), ([8, 9], [8, 9]), ([10], [10]), ([0, 1, 0, 1, 4, 5, 6, 7, 11], [0, 1]), ([12, 7, 0, 1, 4, 5, 6, 7, 11], [7, 12]), ([2, 3, 0, 1, 2, 3, 4, 5, 6, 7, 8, 9, 10, 11, 12, 13], [2, 3]), ([14, 11, 13, 0, 1, 2, 3, 4, 5, 6, 7, 8, 9, 10, 11, 12, 13], [11, 14])])
def slices_Reverse_byte_byte.B3 : List Nat := [0, 0, 0, 0, 0, 0, 48, 112, 0, 0, 768, 1792, 4083, 8179, 16383, 32767]
theorem slices_Reverse_byte_byte.tab3 : rtab .any (opsOf Tryd.f62 3) = slices_Reverse_byte_byte.T3 := by kernel_rfl
theorem slices_Reverse_byte_byte.bits3 : waitsOk slices_Reverse_byte_byte.T3.2 slices_Reverse_byte_byte.B3 = true := by kernel_rfl
set_option maxHeartbeats 8000000 in
set_option maxRecDepth 100000 in
theorem slices_Reverse_byte_byte.calls (k : Nat) (P0_ : Nat → Prop) (u9000_ : Value) (l0 : List Int) (r : List Int) (w0 w : World) (hB : Below w0.heap.size w0 w) (ho0 : Kd.R (Kd.int .u8) 5 w w0.heap.size P0_ u9000_ l0) (h : slices_Reverse_byte_byte.f k l0 = some r) :
    Calls Tryd.prog 62 #[u9000_] w fun e w' => e = .returned (.tuple #[]) ∧ Kd.R (Kd.int .u8) 5 w' w0.heap.size (fun k_ => (P0_ k_ ∨ w.heap.size ≤ k_)) u9000_ r ∧ Below w0.heap.size w0 w' ∧ Kept w w' (fun k_ => P0_ k_) := by
  have HO0 := Aside0.mk (show Kd.R (Kd.int .u8) 5 w w0.heap.size (fun k_ => (P0_ k_ ∨ w.heap.size ≤ k_)) u9000_ l0 from Kd.R_mono ho0 (fun k_ hk => (.inl hk)))
  have HK := Aside0.mk (Kept.refl w (fun k_ => P0_ k_))
  have HW0 := Aside0.mk hB.size
  have HB := Aside0.mk hB
  clear hB
  have H : (slices_Reverse_byte_byte.l0 k l0 0 (wrap64 ((l0.length : Int) - 1))) = some r := h
  clear h
  have H' := Aside0.mk H
  clear H
  obtain ⟨Ao2, co2, eo2⟩ := Kd.R_slice HO0.out
  subst eo2
  go_enter Tryd.func62, Tryd.ntmps62
  go_wp2
  go_loopg [2, 3] k (fun kq v2 v3 w' => ∃ (x0_1 : List Int) (x2_1 : Int) (x3_1 : Int), v2 = .int .i64 x2_1 ∧ v3 = .int .i64 x3_1 ∧ Aside0 (slices_Reverse_byte_byte.l0 kq x0_1 x2_1 x3_1 = some r) ∧ Aside0 (kq ≤ k) ∧ Aside0 (Kd.R (Kd.int .u8) 5 w' w0.heap.size (fun k_ => (P0_ k_ ∨ w.heap.size ≤ k_)) (.slice Ao2 l0.length co2) x0_1) ∧ Aside0 (Kept w w' (fun k_ => P0_ k_)) ∧ Aside0 (Below w0.heap.size w0 w'))
  case atStart => exact ⟨(l0), (0), (wrap64 ((l0.length : Int) - 1)), (by first | rfl | (simp; done) | (simp [*]; done)), (by first | rfl | (simp; done) | (simp [*]; done)), H', ⟨Nat.le_refl _⟩, ⟨by (with_reducible repeat (first | apply Kd.R_alloc | apply Kd.R_drewN | apply Kd.R_drew)); exact HO0.out⟩, ⟨by repeat (first | (with_reducible first | exact HK.out | apply Kept.alloc | apply Kept.drewN | apply Kept.drew) | exact HK.out)⟩, ⟨by repeat (first | (with_reducible first | exact HB.out | apply below_alloc | apply pw_below_drewN | apply below_drew1) | exact HB.out)⟩⟩
  case round =>
    clear H'
    try clear p2
    obtain ⟨x0_1, x2_1, x3_1, rfl, rfl, HA, HK1, HO_0, HK, HB⟩ := hrel
    have hl0_1 := (Kd.R_reads' HO_0.out).1
    rw [hl0_1] at HO_0
    (try simp only [hl0_1])
    cases gk with
    | zero => exact absurd HA.out (by simp [slices_Reverse_byte_byte.l0])
    | succ k1 =>
      have H := HA.out
      clear HA
      simp only [slices_Reverse_byte_byte.l0] at H
      by_cases c3 : x2_1 < x3_1
      · rw [if_pos c3] at H
        have c3b0 : decide (x2_1 < x3_1) = true := decide_eq_true c3
        clear c3
        by_cases c4 : 0 ≤ x3_1
        · rw [if_pos c4] at H
          have c4b0 : decide (0 ≤ x3_1) = true := decide_eq_true c4
          clear c4
          by_cases c5 : x3_1 < (x0_1.length : Int)
          · rw [if_pos c5] at H
            have c5b0 : decide (x3_1 < (x0_1.length : Int)) = true := decide_eq_true c5
            clear c5
            by_cases c6 : 0 ≤ x2_1
            · rw [if_pos c6] at H
              have c6b0 : decide (0 ≤ x2_1) = true := decide_eq_true c6
              clear c6
              by_cases c7 : x2_1 < (x0_1.length : Int)
              · rw [if_pos c7] at H
                have c7b0 : decide (x2_1 < (x0_1.length : Int)) = true := decide_eq_true c7
                clear c7
                obtain ⟨y165, hy165⟩ : ∃ y_ : List Int, y_ = (x0_1.set (x2_1 : Int).toNat (rd x0_1 x3_1)) := ⟨_, rfl⟩
                replace H : (slices_Reverse_byte_byte.l0 k1 (y165.set (x3_1 : Int).toNat (rd x0_1 x2_1)) (wrap64 (x2_1 + 1)) (wrap64 (x3_1 - 1))) = some r := by first | (rw [hy165]; with_reducible exact H) | (have H2_ := (Option.bind_some _ _).symm.trans H; rw [hy165]; with_reducible exact H2_) | (have H2_ := (Option.bind_some _ _).symm.trans H; with_reducible exact H2_) | with_reducible exact H | (rw [hy165]; exact H) | exact H
                have Ny165 := Aside0.mk hy165
                clear hy165
                obtain ⟨y166, hy166⟩ : ∃ y_ : List Int, y_ = (y165.set (x3_1 : Int).toNat (rd x0_1 x2_1)) := ⟨_, rfl⟩
                replace H : (slices_Reverse_byte_byte.l0 k1 y166 (wrap64 (x2_1 + 1)) (wrap64 (x3_1 - 1))) = some r := by first | (rw [hy166]; with_reducible exact H) | (have H2_ := (Option.bind_some _ _).symm.trans H; rw [hy166]; with_reducible exact H2_) | (have H2_ := (Option.bind_some _ _).symm.trans H; with_reducible exact H2_) | with_reducible exact H | (rw [hy166]; exact H) | exact H
                have Ny166 := Aside0.mk hy166
                clear hy166
                have H' := Aside0.mk H
                clear H
                try go_wp2
                have n0_ := Aside0.mk (Kd.R_drew HO_0.out)
                have n1_ := Aside0.mk (Kept.drew HK.out)
                have n2_ := Aside0.mk (below_drew1 HB.out)
                clear HO_0
                clear HK
                clear HB
                have HO_0 := n0_
                have HK := n1_
                have HB := n2_
                clear n0_ n1_ n2_
                have p163 : 0 ≤ (x3_1 : Int) := of_decide_eq_true (by first | (with_reducible assumption) | assumption)
                have q163 : x3_1 < (x0_1.length : Int) := of_decide_eq_true (by first | (with_reducible assumption) | assumption)
                obtain ⟨ad163, e163, hx163_0⟩ := Kd.at_int (Kd.R_reads' HO_0.out).2.2 x3_1 p163 q163
                cases e163
                replace p163 := eq_true p163
                replace q163 := eq_true q163
                have p164 : 0 ≤ (x2_1 : Int) := of_decide_eq_true (by first | (with_reducible assumption) | assumption)
                have q164 : x2_1 < (x0_1.length : Int) := of_decide_eq_true (by first | (with_reducible assumption) | assumption)
                obtain ⟨ad164, e164, hx164_0⟩ := Kd.at_int (Kd.R_reads' HO_0.out).2.2 x2_1 p164 q164
                obtain rfl : ad163 = ad164 := (by injection e164)
                replace p164 := eq_true p164
                replace q164 := eq_true q164
                have p8 : 0 ≤ (x2_1 : Int) := of_decide_eq_true (by first | (with_reducible assumption) | assumption)
                have q8 : (x2_1 : Int) < ((x0_1.length : Int) : Int) := of_decide_eq_true (by first | (with_reducible assumption) | assumption)
                obtain ⟨go8, co8, eo8, gb8, gl8, cl8, HG8⟩ := Kd.R_form HO_0.out (by omega)
                (first | cases eo8 | (injection eo8 with ea_ en_ ec_; (first | subst ea_ | (injection ea_ with ea_; subst ea_)); subst ec_; clear en_))
                have GB8 := Aside0.mk gb8
                have GG8 := Aside0.mk HG8
                clear gb8 gl8 HG8
                have HMgo8 := Aside0.mk (show (P0_ go8 ∨ w.heap.size ≤ go8) from (HO_0.out.1 _ rfl))
                (first | simp only [add_plain] at hx163_0 | skip)
                (first | simp only [add_plain] at hx164_0 | skip)
                obtain ⟨hx8_0, hf8_0⟩ := Kd.R_celln 0 HO_0.out (x2_1 : Int) p8 q8
                replace p8 := eq_true p8
                replace q8 := eq_true q8
                have HP11 := Kd.R_putn HO_0.out (x2_1 : Int) (rd x0_1 x3_1)
                rw [← Ny165.out] at HP11
                have HQ11 := Aside0.mk HP11
                clear HP11
                have p9 : 0 ≤ (x3_1 : Int) := of_decide_eq_true (by first | (with_reducible assumption) | assumption)
                have q9 : (x3_1 : Int) < ((x0_1.length : Int) : Int) := of_decide_eq_true (by first | (with_reducible assumption) | assumption)
                obtain ⟨hx9_0, hf9_0⟩ := Kd.R_celln 0 HQ11.out (x3_1 : Int) p9 q9
                replace p9 := eq_true p9
                replace q9 := eq_true q9
                have HP12 := Kd.R_putn HQ11.out (x3_1 : Int) (rd x0_1 x2_1)
                rw [← Ny166.out] at HP12
                have HQ12 := Aside0.mk HP12
                clear HP12
                refine start_ (n := 16) (S := fun w' => w'.cell? ⟨go8, (x3_1).toNat, none⟩ = some (.int .u8 (rd x0_1 x3_1)) ∧ w'.cell? ⟨go8, (x2_1).toNat, none⟩ = some (.int .u8 (rd x0_1 x2_1))) (ds := [13, 15]) #[false, false, false, false, false, false, false, false, false, false, false, false, false, false, false, false] (by kernel_rfl) rfl rfl ⟨hx163_0, hx164_0⟩ (fun hHeld => ?_); refine with_tabW slices_Reverse_byte_byte.tab3 slices_Reverse_byte_byte.bits3 (fun HT_ HW_ => ?_)
                generalize wr.drew = w10 at HO_0 HK HB GG8 HQ11 HQ12 hf8_0 hf9_0 hx163_0 hx164_0 hx8_0 hx9_0 hHeld ⊢
                refine pure_ (i := 0) (N := some 14) (v := ?_) (a' := ?_) #[true, false, false, false, false, false, false, false, false, false, false, false, false, false, false, false] rfl rfl (any_of HT_.out (by kernel_rfl)) (fun _ _ _ h => h) (Or.inl ⟨by rfl, ?_⟩) ?_ ?_
                rotate_left
                · intro w'
                  go_simp
                  with_reducible rfl
                rotate_left
                · simp only [Act.put, List.setIfInBounds_toArray, List.set_cons_zero, List.set_cons_succ, i64_w, i32_w]
                  rfl
                refine pure_ (i := 1) (N := some 15) (v := ?_) (a' := ?_) #[true, true, false, false, false, false, false, false, false, false, false, false, false, false, false, false] rfl rfl (any_of HT_.out (by kernel_rfl)) (fun _ _ _ h => h) (Or.inl ⟨by rfl, ?_⟩) ?_ ?_
                rotate_left
                · intro w'
                  go_simp
                  with_reducible rfl
                rotate_left
                · simp only [Act.put, List.setIfInBounds_toArray, List.set_cons_zero, List.set_cons_succ, i64_w, i32_w]
                  rfl
                refine pure_ (i := 2) (N := some 16) (v := ?_) (a' := ?_) #[true, true, true, false, false, false, false, false, false, false, false, false, false, false, false, false] rfl rfl (any_of HT_.out (by kernel_rfl)) (fun _ _ _ h => h) (Or.inl ⟨by rfl, ?_⟩) ?_ ?_
                rotate_left
                · intro w'
                  go_simp
                  with_reducible rfl
                rotate_left
                · simp only [Act.put, List.setIfInBounds_toArray, List.set_cons_zero, List.set_cons_succ, i64_w, i32_w]
                  rfl
                refine pure_ (i := 3) (N := some 17) (v := ?_) (a' := ?_) #[true, true, true, true, false, false, false, false, false, false, false, false, false, false, false, false] rfl rfl (any_of HT_.out (by kernel_rfl)) (fun _ _ _ h => h) (Or.inl ⟨by rfl, ?_⟩) ?_ ?_
                rotate_left
                · intro w'
                  go_simp
                  with_reducible rfl
                rotate_left
                · simp only [Act.put, List.setIfInBounds_toArray, List.set_cons_zero, List.set_cons_succ, i64_w, i32_w]
                  rfl
                refine pure_ (i := 4) (N := some 18) (v := ?_) (a' := ?_) #[true, true, true, true, true, false, false, false, false, false, false, false, false, false, false, false] rfl rfl (any_of HT_.out (by kernel_rfl)) (fun _ _ _ h => h) (Or.inl ⟨by rfl, ?_⟩) ?_ ?_
                rotate_left
                · intro w'
                  go_simp
                  with_reducible rfl
                rotate_left
                · simp only [Act.put, List.setIfInBounds_toArray, List.set_cons_zero, List.set_cons_succ, i64_w, i32_w]
                  rfl
                refine pure_ (i := 5) (N := some 19) (v := ?_) (a' := ?_) #[true, true, true, true, true, true, false, false, false, false, false, false, false, false, false, false] rfl rfl (any_of HT_.out (by kernel_rfl)) (fun _ _ _ h => h) (Or.inl ⟨by rfl, ?_⟩) ?_ ?_
                rotate_left
                · intro w'
                  go_simp
                  with_reducible rfl
                rotate_left
                · simp only [Act.put, List.setIfInBounds_toArray, List.set_cons_zero, List.set_cons_succ, i64_w, i32_w]
                  rfl
                refine pure_ (i := 6) (N := some 20) (v := ?_) (a' := ?_) #[true, true, true, true, true, true, true, false, false, false, false, false, false, false, false, false] rfl rfl (any_of HT_.out (by kernel_rfl)) (fun _ _ _ h => h) (Or.inl ⟨by rfl, ?_⟩) ?_ ?_
                rotate_left
                · intro w'
                  go_simp
                  with_reducible rfl
                rotate_left
                · simp only [Act.put, List.setIfInBounds_toArray, List.set_cons_zero, List.set_cons_succ, i64_w, i32_w]
                  rfl
                refine pure_ (i := 8) (N := some 22) (v := ?_) (a' := ?_) #[true, true, true, true, true, true, true, false, true, false, false, false, false, false, false, false] rfl rfl (any_of HT_.out (by kernel_rfl)) (fun _ _ _ h => h) (Or.inl ⟨by rfl, ?_⟩) ?_ ?_
                rotate_left
                · intro w'
                  go_simp
                  with_reducible rfl
                rotate_left
                · simp only [Act.put, List.setIfInBounds_toArray, List.set_cons_zero, List.set_cons_succ, i64_w, i32_w]
                  rfl
                refine pure_ (i := 9) (N := some 23) (v := ?_) (a' := ?_) #[true, true, true, true, true, true, true, false, true, true, false, false, false, false, false, false] rfl rfl (any_of HT_.out (by kernel_rfl)) (fun _ _ _ h => h) (Or.inl ⟨by rfl, ?_⟩) ?_ ?_
                rotate_left
                · intro w'
                  go_simp
                  with_reducible rfl
                rotate_left
                · simp only [Act.put, List.setIfInBounds_toArray, List.set_cons_zero, List.set_cons_succ, i64_w, i32_w]
                  rfl
                refine pure_ (i := 10) (N := some 24) (v := ?_) (a' := ?_) #[true, true, true, true, true, true, true, false, true, true, true, false, false, false, false, false] rfl rfl (any_of HT_.out (by kernel_rfl)) (fun _ _ _ h => h) (Or.inl ⟨by rfl, ?_⟩) ?_ ?_
                rotate_left
                · intro w'
                  go_simp
                  with_reducible rfl
                rotate_left
                · simp only [Act.put, List.setIfInBounds_toArray, List.set_cons_zero, List.set_cons_succ, i64_w, i32_w]
                  rfl
                refine take_ (i := 7) (N := some 21) (v := ?_) (a' := ?_) #[true, true, true, true, true, true, true, true, true, true, true, false, false, false, false, false] rfl rfl (take_ofW HT_.out HW_.out (by kernel_rfl)) (fun _ _ _ h => h) (Or.inl ⟨by rfl, ?_⟩) hHeld ?_ ?_
                rotate_left
                · rintro w' ⟨s0, s1⟩
                  go_simp
                  with_reducible rfl
                rotate_left
                · simp only [Act.put, List.setIfInBounds_toArray, List.set_cons_zero, List.set_cons_succ, i64_w, i32_w]
                  rfl
                refine take_ (i := 11) (N := some 25) (v := ?_) (a' := ?_) #[true, true, true, true, true, true, true, true, true, true, true, true, false, false, false, false] rfl rfl (take_ofW HT_.out HW_.out (by kernel_rfl)) (fun _ _ _ h => h) (Or.inl ⟨by rfl, ?_⟩) hHeld ?_ ?_
                rotate_left
                · rintro w' ⟨s0, s1⟩
                  go_simp
                  with_reducible rfl
                rotate_left
                · simp only [Act.put, List.setIfInBounds_toArray, List.set_cons_zero, List.set_cons_succ, i64_w, i32_w]
                  rfl
                refine pure_ (i := 12) (N := some 26) (v := ?_) (a' := ?_) #[true, true, true, true, true, true, true, true, true, true, true, true, true, false, false, false] rfl rfl (any_of HT_.out (by kernel_rfl)) (fun _ _ _ h => h) (Or.inl ⟨by rfl, ?_⟩) ?_ ?_
                rotate_left
                · intro w'
                  go_simp
                  with_reducible rfl
                rotate_left
                · simp only [Act.put, List.setIfInBounds_toArray, List.set_cons_zero, List.set_cons_succ, i64_w, i32_w]
                  rfl
                refine last_ (i := 13) (N := none) #[true, true, true, true, true, true, true, true, true, true, true, true, true, true, false, false] rfl rfl (one_of HT_.out (by kernel_rfl)) (by decide) (fun K hK => ?_)
                refine skip_ (w1 := ?_) (by rfl) rfl ?_ ?_
                rotate_left
                · go_simp
                  rfl
                refine hK.out _ _ ?_
                clear hK K
                refine pure_ (i := 14) (N := some 27) (v := ?_) (a' := ?_) #[true, true, true, true, true, true, true, true, true, true, true, true, true, true, true, false] rfl rfl (any_of HT_.out (by kernel_rfl)) (fun _ _ _ h => h) (Or.inl ⟨by rfl, ?_⟩) ?_ ?_
                rotate_left
                · intro w'
                  go_simp
                  with_reducible rfl
                rotate_left
                · simp only [Act.put, List.setIfInBounds_toArray, List.set_cons_zero, List.set_cons_succ, i64_w, i32_w]
                  rfl
                refine last_ (i := 15) (N := none) #[true, true, true, true, true, true, true, true, true, true, true, true, true, true, true, true] rfl rfl (one_of HT_.out (by kernel_rfl)) (by decide) (fun K hK => ?_)
                refine skip_ (w1 := ?_) (by rfl) rfl ?_ ?_
                rotate_left
                · go_simp
                  rfl
                refine hK.out _ _ ?_
                clear hK K
                refine done_ (done_of HT_.out (by kernel_rfl)) ?_
                try go_wp2
                (try simp only [← hl0_1])
                go_roundg k1
                case measure => have := HK1.out; omega
                case rel => exact ⟨(y166), (wrap64 (x2_1 + 1)), (wrap64 (x3_1 - 1)), (by first | rfl | (simp; done) | (simp [*]; done)), (by first | rfl | (simp; done) | (simp [*]; done)), H', ⟨by have := HK1.out; omega⟩, ⟨by (try simp only [hl0_1]); (with_reducible repeat (first | apply Kd.R_alloc | apply Kd.R_drewN | apply Kd.R_drew)); exact HQ12.out⟩, ⟨by repeat (first | (with_reducible first | exact HK.out | apply Kept.alloc | apply Kept.drewN | apply Kept.drew | refine Kept.setCell ?_ HMgo8.out _ | refine Kept.setCell ?_ HMgo8.out _) | exact HK.out)⟩, ⟨by repeat (first | (with_reducible first | exact HB.out | apply below_alloc | apply pw_below_drewN | apply below_drew1 | refine below_set ?_ GB8.out | refine below_set ?_ GB8.out) | exact HB.out)⟩⟩
              · rw [if_neg c7] at H
                exact absurd H (by simp)
            · rw [if_neg c6] at H
              exact absurd H (by simp)
          · rw [if_neg c5] at H
            exact absurd H (by simp)
        · rw [if_neg c4] at H
          exact absurd H (by simp)
      · rw [if_neg c3] at H
        have c3b0 : decide (x2_1 < x3_1) = false := decide_eq_false c3
        clear c3
        obtain rfl := Option.some.inj H
        go_wp2
        first | go_end0 | ((try simp only [Exit.inBlock, Exit.then]); refine bodyPost_ret (results_none rfl _ _ _) rfl ?_)
        exact ⟨by first | rfl | (simp [errW_none, errW_some] <;> rfl) | (simp [*, errW_none, errW_some] <;> rfl), (by first | exact (by (with_reducible repeat (first | apply Kd.R_alloc | apply Kd.R_drewN | apply Kd.R_drew)); exact HO_0.out) | (simp only [hl0_1]; exact (by (with_reducible repeat (first | apply Kd.R_alloc | apply Kd.R_drewN | apply Kd.R_drew)); exact HO_0.out))), by repeat (first | (with_reducible first | exact HB.out | apply below_alloc | apply pw_below_drewN | apply below_drew1) | exact HB.out), by repeat (first | (with_reducible first | exact HK.out | apply Kept.alloc | apply Kept.drewN | apply Kept.drew) | exact HK.out)⟩

end Go.Proofs.YtdgebcgcabhjoaaDoor.P
-- Written by a program for this claim. Not trusted: Lean checks it.
namespace Go.Proofs.YtdgebcgcabhjoaaDoor.P
open Go.RowKit Go.Proofs.YtdgebcgcabhjoaaDoorW.PrintWords Go.Proofs.YtdgebcgcabhjoaaDoorW.PrintLast Go.Proofs.YtdgebcgcabhjoaaDoorW.PrintMore
attribute [local go_sem] max2_int min2_int max_two min_two max_three min_three max_four min_four   -- for this text's walks alone
set_option linter.unusedVariables false
set_option linter.unusedSimpArgs false

/-! ### nat_Print: function 55 -/
mutual
def nat_Print.l0 : Nat → List Int → List Int → Option (ByteArray × Int)
  | 0, _, _ => none
  | k + 1, x5, x6 => if (x6.length : Int) > 0 then ((nat_num_small.f x6 1000000000).bind fun bt169 => (nat_Print.l1 k x5 bt169.1 bt169.2 0)) else (if (x5.length : Int) = 0 then (some ((⟨#[48]⟩ : ByteArray), 0)) else ((slices_Reverse_byte_byte.f k x5).bind fun t168 => (some (strOfNums t168, 0))))
def nat_Print.l1 : Nat → List Int → List Int → Int → Int → Option (ByteArray × Int)
  | 0, _, _, _, _ => none
  | k + 1, x5, x7, x8, x9 => if x9 < 9 then (if (x7.length : Int) > 0 then (if x5.length < 140737488355328 then (nat_Print.l1 k (x5 ++ [((48 + (Int.tmod x8 10))) % 256]) x7 ((Int.tdiv x8 10) % 4294967296) (wrap64 (x9 + 1))) else (none)) else (if x8 > 0 then (if x5.length < 140737488355328 then (nat_Print.l1 k (x5 ++ [((48 + (Int.tmod x8 10))) % 256]) x7 ((Int.tdiv x8 10) % 4294967296) (wrap64 (x9 + 1))) else (none)) else (nat_Print.l0 k x5 x7))) else (nat_Print.l0 k x5 x7)
end
def nat_Print.f (k : Nat) (l0 : List Int) : Option (ByteArray × Int) := (nat_Check.f l0).bind fun t167 => (if t167 = 0 then (nat_Print.l0 k ([] : List Int) l0) else (some ((⟨#[]⟩ : ByteArray), t167)))
theorem nat_Print.mono_l : ∀ k, (∀ y0 y1, LeO (nat_Print.l0 k y0 y1) (nat_Print.l0 (k + 1) y0 y1)) ∧ (∀ y0 y1 y2 y3, LeO (nat_Print.l1 k y0 y1 y2 y3) (nat_Print.l1 (k + 1) y0 y1 y2 y3))
  | 0 => ⟨fun _ _ r h => by simp [nat_Print.l0] at h, fun _ _ _ _ r h => by simp [nat_Print.l1] at h⟩
  | k + 1 => by
    obtain ⟨ih0, ih1⟩ := nat_Print.mono_l k
    refine ⟨?_, ?_⟩
    · intro y0 y1
      unfold nat_Print.l0
      repeat' first
      | (with_reducible exact ih0 _ _)
      | (with_reducible exact ih1 _ _ _ _)
      | (with_reducible exact slices_Reverse_byte_byte.mono _ _)
      | (with_reducible exact LeO.refl _)
      | (with_reducible exact LeO.none _)
      | (with_reducible refine LeO.ite ?_ ?_)
      | (with_reducible refine LeO.bind ?_ (fun _ => ?_))
      | exact ih0 _ _
      | exact ih1 _ _ _ _
      | exact slices_Reverse_byte_byte.mono _ _
      | exact LeO.none _
      | refine LeO.ite ?_ ?_
      | refine LeO.bind ?_ (fun _ => ?_)
    · intro y0 y1 y2 y3
      unfold nat_Print.l1
      repeat' first
      | (with_reducible exact ih0 _ _)
      | (with_reducible exact ih1 _ _ _ _)
      | (with_reducible exact slices_Reverse_byte_byte.mono _ _)
      | (with_reducible exact LeO.refl _)
      | (with_reducible exact LeO.none _)
      | (with_reducible refine LeO.ite ?_ ?_)
      | (with_reducible refine LeO.bind ?_ (fun _ => ?_))
      | exact ih0 _ _
      | exact ih1 _ _ _ _
      | exact slices_Reverse_byte_byte.mono _ _
      | exact LeO.none _
      | refine LeO.ite ?_ ?_
      | refine LeO.bind ?_ (fun _ => ?_)
theorem nat_Print.mono : ∀ a0 k, LeO (nat_Print.f k a0) (nat_Print.f (k + 1) a0) := by
  intro a0 k
  obtain ⟨ih0, ih1⟩ := nat_Print.mono_l k
  unfold nat_Print.f
  repeat' first
      | (with_reducible exact ih0 _ _)
      | (with_reducible exact ih1 _ _ _ _)
      | (with_reducible exact slices_Reverse_byte_byte.mono _ _)
      | (with_reducible exact LeO.refl _)
      | (with_reducible exact LeO.none _)
      | (with_reducible refine LeO.ite ?_ ?_)
      | (with_reducible refine LeO.bind ?_ (fun _ => ?_))
      | exact ih0 _ _
      | exact ih1 _ _ _ _
      | exact slices_Reverse_byte_byte.mono _ _
      | exact LeO.none _
      | refine LeO.ite ?_ ?_
      | refine LeO.bind ?_ (fun _ => ?_)
set_option maxHeartbeats 8000000 in
set_option maxRecDepth 100000 in
theorem nat_Print.calls (k : Nat) (P0_ : Nat → Prop) (A0 : Option Addr) (c0 : Nat) (l0 : List Int) (r1 : ByteArray) (r2 : Int) (w : World) (hs0 : Kd.V (Kd.int .u32) 63 w w.heap.size (fun k_ => P0_ k_) (.slice A0 l0.length c0) l0) (h : nat_Print.f k l0 = some (r1, r2)) :
    Calls Tryd.prog 55 #[.slice A0 l0.length c0] w fun e w' => e = .returned (.tuple #[.string r1, .int .i64 r2]) ∧ Below w.heap.size w w' := by
  have HO0 := Aside0.mk (show Kd.V (Kd.int .u32) 63 w w.heap.size (fun k_ => (P0_ k_ ∨ w.heap.size ≤ k_)) (.slice A0 l0.length c0) l0 from Kd.V_mono hs0 (fun k_ hk => .inl hk))
  have HB := Aside0.mk (Below.refl w.heap.size w)
  have H : ((nat_Check.f l0).bind fun t167 => (if t167 = 0 then (nat_Print.l0 k ([] : List Int) l0) else (some ((⟨#[]⟩ : ByteArray), t167)))) = some (r1, r2) := h
  clear h
  replace H := Option.bind_eq_some_iff.mp H
  obtain ⟨t167, A20, H⟩ := H
  replace H : (if t167 = 0 then (nat_Print.l0 k ([] : List Int) l0) else (some ((⟨#[]⟩ : ByteArray), t167))) = some (r1, r2) := H
  have A2 := Aside0.mk A20
  clear A20
  by_cases c3 : t167 = 0
  · rw [if_pos c3] at H
    have c3b0 : (t167 == 0) = true := beq_iff_eq.mpr c3
    have c3b1 : (t167 != 0) = false := bne_eq_false_iff_eq.mpr c3
    clear c3
    have H' := Aside0.mk H
    clear H
    go_enter Tryd.func55, Tryd.ntmps55
    go_wp2_with (first | ((with_reducible refine gate_callee (f := 49) rfl ?_); refine goesL_ (some 11) rfl rfl Tryd.func49 (by kernel_rfl) rfl #[.slice A0 l0.length c0] rfl (by (try simp only [List.map_toArray, List.map_cons, List.map_nil]); first | done | rfl | (simp only [List.length_drop, List.length_take]; rfl)) ?_; (with_reducible refine (nat_Check.calls _ _ l0 t167 _ ?side1 ?side2 A2.out).mono ?_); (case side1 => repeat (first | exact (Kd.V_reads' HO0.out).2.2 | (with_reducible refine Kd.C_alloc ?_ _) | (with_reducible refine Kd.C_drewN ?_ _) | (with_reducible refine Kd.C_drew ?_))); (case side2 => exact (Kd.V_reads' HO0.out).2.1); rintro e w' ⟨rfl, ⟨nd, rfl⟩⟩; refine ⟨_, rfl, ?_⟩))
    go_loopg [5, 6] k (fun kq v5 v6 w' => ∃ (x5_1 : List Int) (x6_1 : List Int), Aside0 (nat_Print.l0 kq x5_1 x6_1 = some (r1, r2)) ∧ Aside0 (kq ≤ k) ∧ Aside0 (Kd.R (Kd.int .u8) 5 w' w.heap.size (fun k_ => (w.heap.size ≤ k_)) v5 x5_1) ∧ Aside0 (Kd.V (Kd.int .u32) 63 w' w.heap.size (fun k_ => (P0_ k_ ∨ w.heap.size ≤ k_) ∧ some k_ ≠ (v5 : Value).ownBlock) v6 x6_1) ∧ Aside0 (Below w.heap.size w w'))
    case atStart => exact ⟨(([] : List Int)), (l0), H', ⟨Nat.le_refl _⟩, ⟨by first | exact Kd.R_nil _ _ _ _ _ | exact Kd.N_nil _ _ _ _ _ | exact Kd.V_nil _ _ _ _ _ | exact Kd.Q_nil _ _ _ _ _ | exact Kd.S_nil _ _ _ _ _⟩, ⟨by (with_reducible repeat (first | apply Kd.V_alloc | apply Kd.V_drewN | apply Kd.V_drew)); exact Kd.V_mono HO0.out (fun _ hk => ⟨hk, (by simp [Value.ownBlock])⟩)⟩, ⟨by repeat (first | (with_reducible first | exact HB.out | apply below_alloc | apply pw_below_drewN | apply below_drew1) | exact HB.out)⟩⟩
    case round =>
      clear H'
      try clear p2
      try clear c3
      try clear c3b0
      try clear c3b1
      obtain ⟨x5_1, x6_1, HA, HK1, HO_5, HO_6, HB⟩ := hrel
      cases gk with
      | zero => exact absurd HA.out (by simp [nat_Print.l0])
      | succ k1 =>
        have H := HA.out
        clear HA
        simp only [nat_Print.l0] at H
        by_cases c4 : (x6_1.length : Int) > 0
        · rw [if_pos c4] at H
          have c4b0 : decide (0 < (x6_1.length : Int)) = true := decide_eq_true c4
          have c4b1 : decide (0 < x6_1.length) = true := decide_eq_true (by omega)
          clear c4
          replace H := Option.bind_eq_some_iff.mp H
          obtain ⟨⟨t169, t170⟩, A50, H⟩ := H
          replace H : (nat_Print.l1 k1 x5_1 t169 t170 0) = some (r1, r2) := H
          have A5 := Aside0.mk A50
          clear A50
          have H' := Aside0.mk H
          clear H
          obtain ⟨Ao6, co6, eo6⟩ := Kd.V_slice HO_6.out
          subst eo6
          go_wp2_with (first | ((with_reducible refine gate_callee (f := 61) rfl ?_); refine goesL_ (some 21) rfl rfl Tryd.func61 (by kernel_rfl) rfl #[.slice Ao6 x6_1.length co6, .int .u32 1000000000] rfl (by (try simp only [List.map_toArray, List.map_cons, List.map_nil]); first | done | rfl | (simp only [List.length_drop, List.length_take]; rfl)) ?_; (with_reducible refine (nat_num_small.calls _ _ x6_1 1000000000 t169 t170 _ ?side1 ?side2 A5.out).mono ?_); (case side1 => repeat (first | exact (Kd.V_reads' HO_6.out).2.2 | (with_reducible refine Kd.C_alloc ?_ _) | (with_reducible refine Kd.C_drewN ?_ _) | (with_reducible refine Kd.C_drew ?_))); (case side2 => exact (Kd.V_reads' HO_6.out).2.1); rintro e w7 ⟨v171, rfl, ho0, hb⟩; refine ⟨_, rfl, ?_⟩; have n0_ := Aside0.mk (Kd.R_below (by (with_reducible repeat (first | apply Kd.R_alloc | apply Kd.R_drewN | apply Kd.R_drew)); exact HO_5.out) hb); have n1_ := Aside0.mk (Kd.V_elder' (by (with_reducible repeat (first | apply Kd.V_alloc | apply Kd.V_drewN | apply Kd.V_drew)); exact HO_6.out) (Kd.R_base ho0) hb); have n2_ := Aside0.mk (Kd.R_lower (Kd.R_newM (M := fun k_ => (w.heap.size ≤ k_)) ho0 (below_size (by repeat (first | (with_reducible first | exact HB.out | apply below_alloc | apply pw_below_drewN | apply below_drew1) | exact HB.out))) (fun k_ h_ => h_)) (below_size (by repeat (first | (with_reducible first | exact HB.out | apply below_alloc | apply pw_below_drewN | apply below_drew1) | exact HB.out)))); have n3_ := Aside0.mk (below_step (by repeat (first | (with_reducible first | exact HB.out | apply below_alloc | apply pw_below_drewN | apply below_drew1) | exact HB.out)) hb); clear HO_5; clear HO_6; clear HB; have HO_5 := n0_; have HO_6 := n1_; have HO172 := n2_; have HB := n3_; clear n0_ n1_ n2_ n3_; (try clear hb); (try clear hb2); (try clear hk); (try clear hi); (try clear ho0)))
          go_loopg [5, 8, 9] k1 (fun kq v5 v8 v9 w' => ∃ (x5_2 : List Int) (x8_2 : Int) (x9_2 : Int), v8 = .int .u32 x8_2 ∧ v9 = .int .i64 x9_2 ∧ Aside0 (nat_Print.l1 kq x5_2 t169 x8_2 x9_2 = some (r1, r2)) ∧ Aside0 (kq ≤ k1) ∧ Aside0 (Kd.R (Kd.int .u8) 5 w' w.heap.size (fun k_ => (w.heap.size ≤ k_)) v5 x5_2) ∧ Aside0 (Kd.R (Kd.int .u32) 63 w' w.heap.size (fun k_ => (w.heap.size ≤ k_)) v171 t169) ∧ Aside0 (Below w.heap.size w w'))
          case atStart => exact ⟨(x5_1), (t170), (0), (by first | rfl | (simp; done) | (simp [*]; done)), (by first | rfl | (simp; done) | (simp [*]; done)), H', ⟨Nat.le_refl _⟩, ⟨by (with_reducible repeat (first | apply Kd.R_alloc | apply Kd.R_drewN | apply Kd.R_drew)); exact HO_5.out⟩, ⟨by (with_reducible repeat (first | apply Kd.R_alloc | apply Kd.R_drewN | apply Kd.R_drew)); exact Kd.R_mono HO172.out (fun _ hk => hk.1)⟩, ⟨by repeat (first | (with_reducible first | exact HB.out | apply below_alloc | apply pw_below_drewN | apply below_drew1) | exact HB.out)⟩⟩
          case round =>
            clear H'
            try clear p2
            try clear c3
            try clear c3b0
            try clear c3b1
            try clear c4
            try clear c4b0
            try clear c4b1
            try clear c5
            try clear c6
            try clear p2
            obtain ⟨x5_2, x8_2, x9_2, rfl, rfl, HA, HK2, HO_5, HO_7, HB⟩ := hrel
            cases gk with
            | zero => exact absurd HA.out (by simp [nat_Print.l1])
            | succ k2 =>
              have H := HA.out
              clear HA
              simp only [nat_Print.l1] at H
              by_cases c8 : x9_2 < 9
              · rw [if_pos c8] at H
                have c8b0 : decide (x9_2 < 9) = true := decide_eq_true c8
                clear c8
                by_cases c9 : (t169.length : Int) > 0
                · rw [if_pos c9] at H
                  have c9b0 : decide (0 < (t169.length : Int)) = true := decide_eq_true c9
                  have c9b1 : decide (0 < t169.length) = true := decide_eq_true (by omega)
                  clear c9
                  by_cases c10 : x5_2.length < 140737488355328
                  · rw [if_pos c10] at H
                    have LMc10 := Aside0.mk c10
                    clear c10
                    obtain ⟨y173, hy173⟩ : ∃ y_ : List Int, y_ = (x5_2 ++ [((48 + (Int.tmod x8_2 10))) % 256]) := ⟨_, rfl⟩
                    replace H : (nat_Print.l1 k2 y173 t169 ((Int.tdiv x8_2 10) % 4294967296) (wrap64 (x9_2 + 1))) = some (r1, r2) := by first | (rw [hy173]; with_reducible exact H) | (have H2_ := (Option.bind_some _ _).symm.trans H; rw [hy173]; with_reducible exact H2_) | (have H2_ := (Option.bind_some _ _).symm.trans H; with_reducible exact H2_) | with_reducible exact H | (rw [hy173]; exact H) | exact H
                    have Ny173 := Aside0.mk hy173
                    clear hy173
                    have H' := Aside0.mk H
                    clear H
                    obtain ⟨Ao11, co11, eo11⟩ := Kd.R_slice HO_7.out
                    subst eo11
                    go_wp2_with (first | ((with_reducible refine gate_builtin (b := .append) (xs := #[.tmp 37, .tmp 42]) rfl ?_); (try (refine gate_guard (by rfl) ?_; dsimp only)); at_builtin; refine Kd.R_append (Kd.int .u8) (w0 := w) w.heap.size rfl (.tmp 37) (.tmp 42) 102 5 (.int .u8 0) 1 rfl Tryd.underlying102 info5 rfl (by decide) (by omega) u5 x5_2 (((48 + (Int.tmod x8_2 10))) % 256) [.int .u8 (((48 + (Int.tmod x8_2 10))) % 256)] (fun k_ => (w.heap.size ≤ k_)) (fun _ => False) rfl rfl ?aP (fun _ hk => hk.elim) ?aF ?aO ?aB ?aS ?aL ?_; (case aP => exact rfl); (case aB => exact (by repeat (first | (with_reducible first | exact HB.out | apply below_alloc | apply pw_below_drewN | apply below_drew1) | exact HB.out))); (case aF => exact (fun k_ hk => (Nat.le_trans (below_size (by repeat (first | (with_reducible first | exact HB.out | apply below_alloc | apply pw_below_drewN | apply below_drew1) | exact HB.out))) hk))); (case aO => exact (by (with_reducible repeat (first | apply Kd.R_alloc | apply Kd.R_drewN | apply Kd.R_drew)); exact HO_5.out)); (case aS => exact (below_size (by repeat (first | (with_reducible first | exact HB.out | apply below_alloc | apply pw_below_drewN | apply below_drew1) | exact HB.out)))); (case aL => have := LMc10.out; omega); intro v174 w12 ho hb hg hat; rw [← Ny173.out] at ho; have n0_ := Aside0.mk (Kd.R_over' (by (with_reducible repeat (first | apply Kd.R_alloc | apply Kd.R_drewN | apply Kd.R_drew)); exact HO_7.out) (Kd.R_typed (by (with_reducible repeat (first | apply Kd.R_alloc | apply Kd.R_drewN | apply Kd.R_drew)); exact HO_5.out)) (by decide) hg); have n1_ := Aside0.mk (hb); have n2_ := Aside0.mk (ho); clear HO_7; clear HB; clear HO_5; have HO_7 := n0_; have HB := n1_; have HO175 := n2_; clear n0_ n1_ n2_; clear ho hb hg hat))
                    go_roundg k2
                    case measure => have := HK1.out; have := HK2.out; omega
                    case rel => exact ⟨(y173), ((Int.tdiv x8_2 10) % 4294967296), (wrap64 (x9_2 + 1)), (by first | rfl | (simp; done) | (simp [*]; done)), (by first | rfl | (simp; done) | (simp [*]; done)), H', ⟨by have := HK1.out; have := HK2.out; omega⟩, ⟨by (with_reducible repeat (first | apply Kd.R_alloc | apply Kd.R_drewN | apply Kd.R_drew)); exact HO175.out⟩, ⟨by (with_reducible repeat (first | apply Kd.R_alloc | apply Kd.R_drewN | apply Kd.R_drew)); exact HO_7.out⟩, ⟨by repeat (first | (with_reducible first | exact HB.out | apply below_alloc | apply pw_below_drewN | apply below_drew1) | exact HB.out)⟩⟩
                  · rw [if_neg c10] at H
                    exact absurd H (by simp)
                · rw [if_neg c9] at H
                  have c9b0 : decide (0 < (t169.length : Int)) = false := decide_eq_false c9
                  have c9b1 : decide (0 < t169.length) = false := decide_eq_false (by omega)
                  clear c9
                  by_cases c13 : x8_2 > 0
                  · rw [if_pos c13] at H
                    have c13b0 : decide (0 < x8_2) = true := decide_eq_true c13
                    clear c13
                    by_cases c14 : x5_2.length < 140737488355328
                    · rw [if_pos c14] at H
                      have LMc14 := Aside0.mk c14
                      clear c14
                      obtain ⟨y176, hy176⟩ : ∃ y_ : List Int, y_ = (x5_2 ++ [((48 + (Int.tmod x8_2 10))) % 256]) := ⟨_, rfl⟩
                      replace H : (nat_Print.l1 k2 y176 t169 ((Int.tdiv x8_2 10) % 4294967296) (wrap64 (x9_2 + 1))) = some (r1, r2) := by first | (rw [hy176]; with_reducible exact H) | (have H2_ := (Option.bind_some _ _).symm.trans H; rw [hy176]; with_reducible exact H2_) | (have H2_ := (Option.bind_some _ _).symm.trans H; with_reducible exact H2_) | with_reducible exact H | (rw [hy176]; exact H) | exact H
                      have Ny176 := Aside0.mk hy176
                      clear hy176
                      have H' := Aside0.mk H
                      clear H
                      obtain ⟨Ao15, co15, eo15⟩ := Kd.R_slice HO_7.out
                      subst eo15
                      go_wp2_with (first | ((with_reducible refine gate_builtin (b := .append) (xs := #[.tmp 37, .tmp 42]) rfl ?_); (try (refine gate_guard (by rfl) ?_; dsimp only)); at_builtin; refine Kd.R_append (Kd.int .u8) (w0 := w) w.heap.size rfl (.tmp 37) (.tmp 42) 102 5 (.int .u8 0) 1 rfl Tryd.underlying102 info5 rfl (by decide) (by omega) u5 x5_2 (((48 + (Int.tmod x8_2 10))) % 256) [.int .u8 (((48 + (Int.tmod x8_2 10))) % 256)] (fun k_ => (w.heap.size ≤ k_)) (fun _ => False) rfl rfl ?aP (fun _ hk => hk.elim) ?aF ?aO ?aB ?aS ?aL ?_; (case aP => exact rfl); (case aB => exact (by repeat (first | (with_reducible first | exact HB.out | apply below_alloc | apply pw_below_drewN | apply below_drew1) | exact HB.out))); (case aF => exact (fun k_ hk => (Nat.le_trans (below_size (by repeat (first | (with_reducible first | exact HB.out | apply below_alloc | apply pw_below_drewN | apply below_drew1) | exact HB.out))) hk))); (case aO => exact (by (with_reducible repeat (first | apply Kd.R_alloc | apply Kd.R_drewN | apply Kd.R_drew)); exact HO_5.out)); (case aS => exact (below_size (by repeat (first | (with_reducible first | exact HB.out | apply below_alloc | apply pw_below_drewN | apply below_drew1) | exact HB.out)))); (case aL => have := LMc14.out; omega); intro v177 w16 ho hb hg hat; rw [← Ny176.out] at ho; have n0_ := Aside0.mk (Kd.R_over' (by (with_reducible repeat (first | apply Kd.R_alloc | apply Kd.R_drewN | apply Kd.R_drew)); exact HO_7.out) (Kd.R_typed (by (with_reducible repeat (first | apply Kd.R_alloc | apply Kd.R_drewN | apply Kd.R_drew)); exact HO_5.out)) (by decide) hg); have n1_ := Aside0.mk (hb); have n2_ := Aside0.mk (ho); clear HO_7; clear HB; clear HO_5; have HO_7 := n0_; have HB := n1_; have HO178 := n2_; clear n0_ n1_ n2_; clear ho hb hg hat))
                      go_roundg k2
                      case measure => have := HK1.out; have := HK2.out; omega
                      case rel => exact ⟨(y176), ((Int.tdiv x8_2 10) % 4294967296), (wrap64 (x9_2 + 1)), (by first | rfl | (simp; done) | (simp [*]; done)), (by first | rfl | (simp; done) | (simp [*]; done)), H', ⟨by have := HK1.out; have := HK2.out; omega⟩, ⟨by (with_reducible repeat (first | apply Kd.R_alloc | apply Kd.R_drewN | apply Kd.R_drew)); exact HO178.out⟩, ⟨by (with_reducible repeat (first | apply Kd.R_alloc | apply Kd.R_drewN | apply Kd.R_drew)); exact HO_7.out⟩, ⟨by repeat (first | (with_reducible first | exact HB.out | apply below_alloc | apply pw_below_drewN | apply below_drew1) | exact HB.out)⟩⟩
                    · rw [if_neg c14] at H
                      exact absurd H (by simp)
                  · rw [if_neg c13] at H
                    have c13b0 : decide (0 < x8_2) = false := decide_eq_false c13
                    clear c13
                    have H' := Aside0.mk H
                    clear H
                    obtain ⟨Ao17, co17, eo17⟩ := Kd.R_slice HO_7.out
                    subst eo17
                    go_wp2
                    go_roundg k2
                    case measure => have := HK1.out; have := HK2.out; omega
                    case rel => exact ⟨(x5_2), (t169), H', ⟨by have := HK1.out; have := HK2.out; omega⟩, ⟨by (with_reducible repeat (first | apply Kd.R_alloc | apply Kd.R_drewN | apply Kd.R_drew)); exact HO_5.out⟩, ⟨Kd.V_mono (Kd.R_V (by (with_reducible repeat (first | apply Kd.R_alloc | apply Kd.R_drewN | apply Kd.R_drew)); exact (Kd.R_apart' HO_7.out (Kd.R_typed HO_5.out) (by decide)))) (fun k_ hk => by first | exact ⟨(.inr (hk.1)), hk.2⟩ | exact (.inr (hk)))⟩, ⟨by repeat (first | (with_reducible first | exact HB.out | apply below_alloc | apply pw_below_drewN | apply below_drew1) | exact HB.out)⟩⟩
              · rw [if_neg c8] at H
                have c8b0 : decide (x9_2 < 9) = false := decide_eq_false c8
                clear c8
                have H' := Aside0.mk H
                clear H
                go_wp2
                go_roundg k2
                case measure => have := HK1.out; have := HK2.out; omega
                case rel => exact ⟨(x5_2), (t169), H', ⟨by have := HK1.out; have := HK2.out; omega⟩, ⟨by (with_reducible repeat (first | apply Kd.R_alloc | apply Kd.R_drewN | apply Kd.R_drew)); exact HO_5.out⟩, ⟨Kd.V_mono (Kd.R_V (by (with_reducible repeat (first | apply Kd.R_alloc | apply Kd.R_drewN | apply Kd.R_drew)); exact (Kd.R_apart' HO_7.out (Kd.R_typed HO_5.out) (by decide)))) (fun k_ hk => by first | exact ⟨(.inr (hk.1)), hk.2⟩ | exact (.inr (hk)))⟩, ⟨by repeat (first | (with_reducible first | exact HB.out | apply below_alloc | apply pw_below_drewN | apply below_drew1) | exact HB.out)⟩⟩
        · rw [if_neg c4] at H
          have c4b0 : decide (0 < (x6_1.length : Int)) = false := decide_eq_false c4
          have c4b1 : decide (0 < x6_1.length) = false := decide_eq_false (by omega)
          clear c4
          by_cases c18 : (x5_1.length : Int) = 0
          · rw [if_pos c18] at H
            have c18b0 : ((x5_1.length : Int) == 0) = true := beq_iff_eq.mpr c18
            have c18b1 : ((x5_1.length : Int) != 0) = false := bne_eq_false_iff_eq.mpr c18
            clear c18
            simp only [Option.some.injEq, Prod.mk.injEq] at H
            obtain ⟨rfl, rfl⟩ := H
            obtain ⟨Ao19, co19, eo19⟩ := Kd.V_slice HO_6.out
            subst eo19
            obtain ⟨Ao20, co20, eo20⟩ := Kd.R_slice HO_5.out
            subst eo20
            go_wp2
            go_ret2
            exact ⟨by first | rfl | (simp [errW_none, errW_some] <;> rfl) | (simp [*, errW_none, errW_some] <;> rfl), by repeat (first | (with_reducible first | exact HB.out | apply below_alloc | apply pw_below_drewN | apply below_drew1) | exact HB.out)⟩
          · rw [if_neg c18] at H
            have c18b0 : ((x5_1.length : Int) == 0) = false := beq_eq_false_iff_ne.mpr c18
            have c18b1 : ((x5_1.length : Int) != 0) = true := bne_iff_ne.mpr c18
            have c18b2 : ¬ (x5_1 = []) := fun h_ => c18 (by rw [h_]; rfl)
            replace H := Option.bind_eq_some_iff.mp H
            obtain ⟨t168, A210, H⟩ := H
            replace H : (some (strOfNums t168, 0)) = some (r1, r2) := H
            have A21 := Aside0.mk A210
            clear A210
            simp only [Option.some.injEq, Prod.mk.injEq] at H
            obtain ⟨rfl, rfl⟩ := H
            obtain ⟨Ao22, co22, eo22⟩ := Kd.V_slice HO_6.out
            subst eo22
            obtain ⟨Ao23, co23, eo23⟩ := Kd.R_slice HO_5.out
            subst eo23
            go_wp2_with (first | ((with_reducible refine gate_callee (f := 62) rfl ?_); refine goesL_ (some 51) rfl rfl Tryd.func62 (by kernel_rfl) rfl #[.slice Ao23 x5_1.length co23] rfl (by (try simp only [List.map_toArray, List.map_cons, List.map_nil]); first | done | rfl | (simp only [List.length_drop, List.length_take]; rfl)) ?_; (with_reducible refine (slices_Reverse_byte_byte.calls k1 (fun k_ => some k_ = (.slice Ao23 x5_1.length co23 : Value).ownBlock) (.slice Ao23 x5_1.length co23) x5_1 t168 w _ ?side1 ?side2 A21.out).mono ?_); (case side1 => repeat (first | (with_reducible first | exact HB.out | apply below_alloc | apply pw_below_drewN | apply below_drew1) | exact HB.out)); (case side2 => exact Kd.R_tight rfl HO_5.out); rintro e w24 ⟨rfl, hy0, hb, hkp⟩; refine ⟨_, rfl, ?_⟩; have n0_ := Aside0.mk (Kd.R_reok rfl hy0 (fun k_ e_ => HO_5.out.1 k_ e_)); have n1_ := Aside0.mk (Kd.V_mono (ok' := fun k_ => (P0_ k_ ∨ w.heap.size ≤ k_) ∧ some k_ ≠ (.slice Ao23 x5_1.length co23 : Value).ownBlock) (Kd.V_keptB (HO_6.out) hkp (fun k_ hk_ hs_ => (hk_.2) hs_)) (fun k_ hk_ => ⟨hk_.1.1, hk_.1.2⟩)); have n2_ := Aside0.mk (hb); clear HO_5; clear HO_6; clear HB; have HO_5 := n0_; have HO_6 := n1_; have HB := n2_; clear n0_ n1_ n2_; (try clear hb); (try clear hkp); (try clear hy0); have hcv25 := own_string (P := Tryd.prog) Tryd.underlying102 Tryd.underlying5 Tryd.underlying9 (Kd.own_of_R HO_5.out); have hcm26 := fun m_ : Nat => own_string (P := Tryd.prog) Tryd.underlying102 Tryd.underlying5 Tryd.underlying9 (pw_own_drewN (Kd.own_of_R HO_5.out) m_)))
            go_ret2
            exact ⟨by first | rfl | (simp [errW_none, errW_some] <;> rfl) | (simp [*, errW_none, errW_some] <;> rfl), by repeat (first | (with_reducible first | exact HB.out | apply below_alloc | apply pw_below_drewN | apply below_drew1) | exact HB.out)⟩
  · rw [if_neg c3] at H
    have c3b0 : (t167 == 0) = false := beq_eq_false_iff_ne.mpr c3
    have c3b1 : (t167 != 0) = true := bne_iff_ne.mpr c3
    simp only [Option.some.injEq, Prod.mk.injEq] at H
    obtain ⟨rfl, rfl⟩ := H
    go_enter Tryd.func55, Tryd.ntmps55
    go_wp2_with (first | ((with_reducible refine gate_callee (f := 49) rfl ?_); refine goesL_ (some 11) rfl rfl Tryd.func49 (by kernel_rfl) rfl #[.slice A0 l0.length c0] rfl (by (try simp only [List.map_toArray, List.map_cons, List.map_nil]); first | done | rfl | (simp only [List.length_drop, List.length_take]; rfl)) ?_; (with_reducible refine (nat_Check.calls _ _ l0 t167 _ ?side1 ?side2 A2.out).mono ?_); (case side1 => repeat (first | exact (Kd.V_reads' HO0.out).2.2 | (with_reducible refine Kd.C_alloc ?_ _) | (with_reducible refine Kd.C_drewN ?_ _) | (with_reducible refine Kd.C_drew ?_))); (case side2 => exact (Kd.V_reads' HO0.out).2.1); rintro e w' ⟨rfl, ⟨nd, rfl⟩⟩; refine ⟨_, rfl, ?_⟩))
    go_ret2
    exact ⟨by first | rfl | (simp [errW_none, errW_some] <;> rfl) | (simp [*, errW_none, errW_some] <;> rfl), by repeat (first | (with_reducible first | exact HB.out | apply below_alloc | apply pw_below_drewN | apply below_drew1) | exact HB.out)⟩

/-! ### dec_digits: function 51 -/
def dec_digits.f (k : Nat) (l0 : List Int) : Option (Int) := (nat_Print.f k l0).bind fun bt179 => (if (l0.length : Int) = 0 then (some 0) else (some (bt179.1.size : Int)))
theorem dec_digits.mono : ∀ a0 k, LeO (dec_digits.f k a0) (dec_digits.f (k + 1) a0) := by
  intro a0 k
  unfold dec_digits.f
  repeat' first
      | (with_reducible exact nat_Print.mono _ _)
      | (with_reducible exact LeO.refl _)
      | (with_reducible exact LeO.none _)
      | (with_reducible refine LeO.ite ?_ ?_)
      | (with_reducible refine LeO.bind ?_ (fun _ => ?_))
      | exact nat_Print.mono _ _
      | exact LeO.none _
      | refine LeO.ite ?_ ?_
      | refine LeO.bind ?_ (fun _ => ?_)
set_option maxHeartbeats 8000000 in
set_option maxRecDepth 100000 in
theorem dec_digits.calls (k : Nat) (A0 : Option Addr) (c0 : Nat) (l0 : List Int) (r : Int) (w : World) (hr0 : Kd.C (Kd.int .u32) w A0 l0.length l0) (hc0 : l0.length ≤ c0) (h : dec_digits.f k l0 = some r) :
    Calls Tryd.prog 51 #[.slice A0 l0.length c0] w fun e w' => e = .returned (.int .i64 r) ∧ Below w.heap.size w w' := by
  have HR0 := Aside0.mk hr0
  have HC0 := Aside0.mk hc0
  clear hr0 hc0
  have HB := Aside0.mk (Below.refl w.heap.size w)
  have H : ((nat_Print.f k l0).bind fun bt179 => (if (l0.length : Int) = 0 then (some 0) else (some (bt179.1.size : Int)))) = some r := h
  clear h
  replace H := Option.bind_eq_some_iff.mp H
  obtain ⟨⟨t179, t180⟩, A20, H⟩ := H
  replace H : (if (l0.length : Int) = 0 then (some 0) else (some (t179.size : Int))) = some r := H
  have A2 := Aside0.mk A20
  clear A20
  by_cases c3 : (l0.length : Int) = 0
  · rw [if_pos c3] at H
    have c3b0 : ((l0.length : Int) == 0) = true := beq_iff_eq.mpr c3
    have c3b1 : ((l0.length : Int) != 0) = false := bne_eq_false_iff_eq.mpr c3
    clear c3
    obtain rfl := Option.some.inj H
    go_enter Tryd.func51, Tryd.ntmps51
    go_wp2_with (first | ((with_reducible refine gate_callee (f := 55) rfl ?_); refine goesL_ (some 7) rfl rfl Tryd.func55 (by kernel_rfl) rfl #[.slice A0 l0.length c0] rfl (by (try simp only [List.map_toArray, List.map_cons, List.map_nil]); first | done | rfl | (simp only [List.length_drop, List.length_take]; rfl)) ?_; (with_reducible refine (nat_Print.calls k (fun k_ => k_ < w.heap.size) _ _ l0 t179 t180 _ ?side1 A2.out).mono ?_); (case side1 => exact Kd.V_mk HC0.out (Kd.F_below (Kd.C_F (Kd.heap_int .u32) HR0.out) (by repeat (first | (with_reducible first | exact HB.out | apply below_alloc | apply pw_below_drewN | apply below_drew1) | exact HB.out)))); rintro e w4 ⟨rfl, hb⟩; refine ⟨_, rfl, ?_⟩; have n0_ := Aside0.mk (below_step (by repeat (first | (with_reducible first | exact HB.out | apply below_alloc | apply pw_below_drewN | apply below_drew1) | exact HB.out)) hb); clear HB; have HB := n0_; clear n0_; (try clear hb); (try clear hb2); (try clear hk); (try clear hi)))
    go_ret
    exact ⟨by first | rfl | (simp [errW_none, errW_some] <;> rfl) | (simp [*, errW_none, errW_some] <;> rfl), by repeat (first | (with_reducible first | exact HB.out | apply below_alloc | apply pw_below_drewN | apply below_drew1) | exact HB.out)⟩
  · rw [if_neg c3] at H
    have c3b0 : ((l0.length : Int) == 0) = false := beq_eq_false_iff_ne.mpr c3
    have c3b1 : ((l0.length : Int) != 0) = true := bne_iff_ne.mpr c3
    have c3b2 : ¬ (l0 = []) := fun h_ => c3 (by rw [h_]; rfl)
    obtain rfl := Option.some.inj H
    go_enter Tryd.func51, Tryd.ntmps51
    go_wp2_with (first | ((with_reducible refine gate_callee (f := 55) rfl ?_); refine goesL_ (some 7) rfl rfl Tryd.func55 (by kernel_rfl) rfl #[.slice A0 l0.length c0] rfl (by (try simp only [List.map_toArray, List.map_cons, List.map_nil]); first | done | rfl | (simp only [List.length_drop, List.length_take]; rfl)) ?_; (with_reducible refine (nat_Print.calls k (fun k_ => k_ < w.heap.size) _ _ l0 t179 t180 _ ?side1 A2.out).mono ?_); (case side1 => exact Kd.V_mk HC0.out (Kd.F_below (Kd.C_F (Kd.heap_int .u32) HR0.out) (by repeat (first | (with_reducible first | exact HB.out | apply below_alloc | apply pw_below_drewN | apply below_drew1) | exact HB.out)))); rintro e w5 ⟨rfl, hb⟩; refine ⟨_, rfl, ?_⟩; have n0_ := Aside0.mk (below_step (by repeat (first | (with_reducible first | exact HB.out | apply below_alloc | apply pw_below_drewN | apply below_drew1) | exact HB.out)) hb); clear HB; have HB := n0_; clear n0_; (try clear hb); (try clear hb2); (try clear hk); (try clear hi)))
    go_ret
    exact ⟨by first | rfl | (simp [errW_none, errW_some] <;> rfl) | (simp [*, errW_none, errW_some] <;> rfl), by repeat (first | (with_reducible first | exact HB.out | apply below_alloc | apply pw_below_drewN | apply below_drew1) | exact HB.out)⟩

end Go.Proofs.YtdgebcgcabhjoaaDoor.P
/- What the printed functions of nat that dec calls tell, by value (lines of chapter 01's templates XPe, XPf, XPq). -/
namespace Go.Proofs.YtdgebcgcabhjoaaDoor.P
set_option linter.unusedVariables false
set_option linter.unusedSimpArgs false
open Go.RowKit Go.Proofs.YtdgebcgcabhjoaaDoorW.PrintWords Go.Proofs.YtdgebcgcabhjoaaDoorW.PrintMore
def okD (l : List Int) : Prop := ∀ x ∈ l, 0 ≤ x ∧ x < 10
instance (l : List Int) : Decidable (okD l) := by unfold okD; infer_instance
/-- Their number. -/
def dval : List Int → Nat
  | [] => 0
  | x :: l => x.toNat + 10 * dval l
/-- A number's decs. -/
def decs (n : Nat) : List Int := if h : n = 0 then [] else ((n % 10 : Nat) : Int) :: decs (n / 10)
termination_by n
decreasing_by omega
theorem decs_zero : decs 0 = [] := by rw [decs, dif_pos rfl]
theorem decs_pos {n : Nat} (h : n ≠ 0) : decs n = ((n % 10 : Nat) : Int) :: decs (n / 10) := by rw [decs, dif_neg h]
theorem okD_nil : okD [] := fun x hx => by simp at hx
theorem okD_cons {x : Int} {l : List Int} : okD (x :: l) ↔ (0 ≤ x ∧ x < 10) ∧ okD l := by unfold okD; simp
theorem okD_app {l r : List Int} : okD (l ++ r) ↔ okD l ∧ okD r := by
  unfold okD
  constructor
  · intro h; exact ⟨fun x hx => h x (List.mem_append_left _ hx), fun x hx => h x (List.mem_append_right _ hx)⟩
  · rintro ⟨h, k⟩ x hx; exact (List.mem_append.1 hx).elim (h x) (k x)
theorem okD_take {l : List Int} (h : okD l) (n : Nat) : okD (l.take n) := fun x hx => h x (List.mem_of_mem_take hx)
theorem okD_drop {l : List Int} (h : okD l) (n : Nat) : okD (l.drop n) := fun x hx => h x (List.mem_of_mem_drop hx)
theorem okD_getD {l : List Int} (h : okD l) (i : Nat) : 0 ≤ l.getD i 0 ∧ l.getD i 0 < 10 := by
  rw [List.getD_eq_getElem?_getD]
  by_cases hi : i < l.length
  · rw [List.getElem?_eq_getElem hi]; exact h _ (List.getElem_mem hi)
  · rw [List.getElem?_eq_none (by omega)]; simp
theorem okD_decs : ∀ n, okD (decs n) := by
  intro n
  induction n using Nat.strongRecOn with
  | _ n ih =>
    by_cases h : n = 0
    · subst h; rw [decs_zero]; exact okD_nil
    · rw [decs_pos h, okD_cons]; exact ⟨by omega, ih _ (by omega)⟩
theorem dval_decs : ∀ n, dval (decs n) = n := by
  intro n
  induction n using Nat.strongRecOn with
  | _ n ih =>
    by_cases h : n = 0
    · subst h; rw [decs_zero]; rfl
    · rw [decs_pos h, dval, ih _ (by omega)]; omega
/-- Digits as they may be: the last one not 0. -/
def dcanon (l : List Int) : Prop := decs (dval l) = l
instance (l : List Int) : Decidable (dcanon l) := by unfold dcanon; infer_instance
theorem dcanon_decs (n : Nat) : dcanon (decs n) := by unfold dcanon; rw [dval_decs]
theorem dcanon_okD {l : List Int} (h : dcanon l) : okD l := by have := okD_decs (dval l); rwa [h] at this
theorem dval_app : ∀ (l r : List Int), dval (l ++ r) = dval l + 10 ^ l.length * dval r
  | [], r => by simp [dval]
  | x :: l, r => by
    rw [List.cons_append, dval, dval_app l r, dval, List.length_cons, Nat.pow_succ, Nat.mul_add, Nat.mul_comm (10 ^ l.length) 10, Nat.mul_assoc, Nat.add_assoc]
theorem dval_lt : ∀ {l : List Int}, okD l → dval l < 10 ^ l.length
  | [], _ => by simp [dval]
  | x :: l, h => by
    rw [okD_cons] at h
    have := dval_lt h.2
    rw [dval, List.length_cons, Nat.pow_succ]
    omega
theorem dval_zero : ∀ {l : List Int}, okD l → (dval l = 0 ↔ ∀ x ∈ l, x = 0)
  | [], _ => by simp [dval]
  | x :: l, h => by
    rw [okD_cons] at h
    have := dval_zero h.2
    rw [dval]
    constructor
    · intro hv y hy
      rcases List.mem_cons.1 hy with rfl | hy
      · omega
      · exact (this.1 (by omega)) y hy
    · intro hv
      have h1 := hv x List.mem_cons_self
      have h2 := this.2 fun y hy => hv y (List.mem_cons_of_mem _ hy)
      rw [h1, h2]; rfl
/-- Digits whose last one is not 0 are their number's. -/
theorem dcanon_of_last : ∀ {l : List Int}, okD l → (∀ h : l ≠ [], l.getLast h ≠ 0) → dcanon l
  | [], _, _ => by unfold dcanon; rw [dval, decs_zero]
  | [x], h, hl => by
    rw [okD_cons] at h
    have := hl (by simp)
    simp at this
    unfold dcanon
    have hv : dval [x] = x.toNat := by simp [dval]
    rw [hv, decs_pos (by omega), show x.toNat / 10 = 0 by omega, decs_zero, show ((x.toNat % 10 : Nat) : Int) = x by omega]
  | x :: y :: l, h, hl => by
    have h0 := okD_cons.1 h
    have ih := dcanon_of_last (l := y :: l) h0.2 (fun hn => by have := hl (by simp); rwa [List.getLast_cons hn] at this)
    have hp : dval (y :: l) ≠ 0 := by
      intro e
      unfold dcanon at ih
      rw [e, decs_zero] at ih
      simp at ih
    unfold dcanon at ih ⊢
    rw [dval, decs_pos (by omega), show (x.toNat + 10 * dval (y :: l)) % 10 = x.toNat by omega, show (x.toNat + 10 * dval (y :: l)) / 10 = dval (y :: l) by omega, ih, show ((x.toNat : Nat) : Int) = x by omega]
theorem dcanon_last {l : List Int} (h : dcanon l) (hn : l ≠ []) : l.getLast hn ≠ 0 := by
  have key : ∀ n (hn : decs n ≠ []), (decs n).getLast hn ≠ 0 := by
    intro n
    induction n using Nat.strongRecOn with
    | _ n ih =>
      intro hn
      have h0 : n ≠ 0 := by intro e; subst e; exact hn decs_zero
      by_cases h1 : n / 10 = 0
      · have e : decs n = [((n % 10 : Nat) : Int)] := by rw [decs_pos h0, h1, decs_zero]
        simp only [e, List.getLast_singleton]
        omega
      · have hm : decs (n / 10) ≠ [] := by rw [decs_pos h1]; simp
        have := ih (n / 10) (by omega) hm
        simp only [decs_pos h0]
        rw [List.getLast_cons hm]
        exact this
  have e : decs (dval l) = l := h
  have hm : decs (dval l) ≠ [] := by rw [e]; exact hn
  have := key (dval l) hm
  simp only [e] at this
  exact this
theorem dval_take_succ {l : List Int} {n : Nat} (h : n < l.length) : dval (l.take (n + 1)) = dval (l.take n) + 10 ^ n * (l.getD n 0).toNat := by
  rw [take_succ_getD h, dval_app, List.length_take, Nat.min_eq_left (by omega)]
  simp [dval]
theorem dval_take_step (l : List Int) (i : Nat) : dval (l.take (i + 1)) = dval (l.take i) + 10 ^ i * (l.getD i 0).toNat := by
  by_cases h : i < l.length
  · exact dval_take_succ h
  · rw [List.take_of_length_le (by omega), List.take_of_length_le (by omega), List.getD_eq_getElem?_getD, List.getElem?_eq_none (by omega)]; simp
/-- Digits without 0 at their end. -/
theorem dtrim_done {l : List Int} (h : okD l) {m : Nat} (hm : m ≤ l.length) (hv : dval (l.take m) = dval l) (hl : m = 0 ∨ l.getD (m - 1) 0 ≠ 0) : l.take m = decs (dval l) := by
  have hc : dcanon (l.take m) := by
    refine dcanon_of_last (okD_take h m) fun hn => ?_
    rcases hl with rfl | hl
    · simp at hn
    · obtain ⟨j, rfl⟩ : ∃ j, m = j + 1 := ⟨m - 1, by rcases m with _ | m; simp at hn; omega⟩
      have e := take_succ_getD (l := l) (n := j) (by omega)
      simp only [e, List.getLast_concat]
      simpa using hl
  rw [← hv]
  exact hc.symm
theorem dtrim_step {l : List Int} {m : Nat} (hm : m + 1 ≤ l.length) (hv : dval (l.take (m + 1)) = dval l) (h0 : l.getD m 0 = 0) : dval (l.take m) = dval l := by
  rw [dval_take_succ (by omega), h0] at hv
  simpa using hv
theorem dcanon_len {l : List Int} (h : dcanon l) {k : Nat} (hk : dval l < 10 ^ k) : l.length ≤ k := by
  rcases Nat.lt_or_ge k l.length with hlt | hge
  · exfalso
    have hn : l ≠ [] := by intro e; subst e; simp at hlt
    have hl := dcanon_last h hn
    have hok := dcanon_okD h
    obtain ⟨j, hj⟩ : ∃ j, l.length = j + 1 := ⟨l.length - 1, by omega⟩
    have e := dval_take_succ (l := l) (n := j) (by omega)
    rw [show j + 1 = l.length by omega, List.take_length] at e
    have hg : l.getD j 0 = l.getLast hn := by
      rw [List.getLast_eq_getElem, List.getD_eq_getElem?_getD, List.getElem?_eq_getElem (show j < l.length by omega)]
      simp only [Option.getD_some]
      congr 1
      omega
    have hb := okD_getD hok j
    rw [hg] at hb
    have h1 : 1 ≤ (l.getD j 0).toNat := by rw [hg]; omega
    have h2 : 10 ^ k ≤ 10 ^ j := Nat.pow_le_pow_right (by omega) (by omega)
    have h3 : 10 ^ j ≤ 10 ^ j * (l.getD j 0).toNat := Nat.le_mul_of_pos_right _ h1
    omega
  · exact hge
theorem dcanon_ge {l : List Int} (h : dcanon l) (hn : l ≠ []) : 10 ^ (l.length - 1) ≤ dval l := by
  rcases Nat.lt_or_ge (dval l) (10 ^ (l.length - 1)) with hlt | hge
  · have := dcanon_len h hlt
    have := List.length_pos_iff.2 hn
    omega
  · exact hge
theorem dcanon_inj {a b : List Int} (ha : dcanon a) (hb : dcanon b) (h : dval a = dval b) : a = b := by rw [← ha, ← hb, h]
def chk (l : List Int) : Int := if l.length > 256 then 5 else if l ≠ [] ∧ l.getD (l.length - 1) 0 = 0 then 9 else 0
theorem check_f (l : List Int) (h : l.length ≤ 4611686018427387904) : nat_Check.f l = some (chk l) := by
  unfold nat_Check.f chk
  by_cases h1 : l.length > 256
  · rw [if_pos (by omega), if_pos h1]
  · rw [if_neg (by omega), if_neg h1]
    cases l with
    | nil => simp
    | cons x l =>
      rw [if_pos (by simp <;> omega), w64 _ (by omega), if_pos (by simp <;> omega), if_pos (by simp <;> omega)]
      have e : rd (x :: l) (((x :: l).length : Int) - 1) = (x :: l).getD ((x :: l).length - 1) 0 := by unfold rd; congr 1; simp <;> omega
      rw [e]
      by_cases h2 : (x :: l).getD ((x :: l).length - 1) 0 = 0
      · rw [if_pos h2, if_pos ⟨by simp, h2⟩]
      · rw [if_neg h2, if_neg (fun hh => h2 hh.2)]
theorem chk_ok {l : List Int} (h : okL l) : chk l = 0 ↔ l.length ≤ 256 ∧ canon l := by
  unfold chk
  constructor
  · intro hc
    by_cases h1 : l.length > 256
    · rw [if_pos h1] at hc; omega
    · rw [if_neg h1] at hc
      refine ⟨by omega, canon_of_last h fun hn => ?_⟩
      rw [getLast_getD hn]
      intro h0
      rw [if_pos ⟨hn, h0⟩] at hc
      omega
  · rintro ⟨h1, h2⟩
    rw [if_neg (by omega), if_neg]
    rintro ⟨hn, h0⟩
    exact canon_last h2 hn (by rw [getLast_getD hn]; exact h0)
theorem chk_vals (l : List Int) : chk l = 0 ∨ chk l = 5 ∨ chk l = 9 := by
  unfold chk
  split
  · simp
  · split <;> simp
theorem errs_f (x y : Int) (k : Nat) (hk : 3 ≤ k) : api_Errno.f k [x, y] = some (if x = 0 then y else x) := by
  obtain ⟨k, rfl⟩ : ∃ m, k = m + 3 := ⟨k - 3, by omega⟩
  unfold api_Errno.f
  by_cases hx : x = 0
  · subst hx
    by_cases hy : y = 0
    · subst hy; simp [api_Errno.l0, rd, w64]
    · simp [api_Errno.l0, rd, w64, hy]
  · simp [api_Errno.l0, rd, hx]
def tw (a b : List Int) : Int := if chk a = 0 then chk b else chk a
theorem two_f (a b : List Int) (ha : a.length ≤ 4611686018427387904) (hb : b.length ≤ 4611686018427387904) (k : Nat) (hk : 3 ≤ k) : nat_two.f k a b = some (tw a b) := by
  unfold nat_two.f tw
  rw [check_f a ha, Option.bind_some, check_f b hb, Option.bind_some, errs_f _ _ k hk, Option.bind_some]
theorem tw_ok {a b : List Int} (ha : okL a) (hb : okL b) : tw a b = 0 ↔ (a.length ≤ 256 ∧ canon a) ∧ b.length ≤ 256 ∧ canon b := by
  rw [← chk_ok ha, ← chk_ok hb]
  unfold tw
  by_cases h : chk a = 0
  · rw [if_pos h]; simp [h]
  · rw [if_neg h]; simp [h]
/-- Limbs, if they are not too many. -/
def fitsV (n : Nat) : List Int × Int := if (limbs n).length > 256 then ([], 51) else (limbs n, 0)
def addV (a b : List Int) : List Int × Int := if tw a b = 0 then fitsV (val a + val b) else ([], tw a b)
def mulV (a b : List Int) : List Int × Int := if tw a b = 0 then fitsV (val a * val b) else ([], tw a b)
theorem mul_bound {x y : Nat} (hx : x ≤ 256) (hy : y ≤ 256) : (x + 1) * (y + 3) ≤ 70000 := Nat.le_trans (Nat.mul_le_mul (show x + 1 ≤ 257 by omega) (show y + 3 ≤ 259 by omega)) (by omega)
theorem fitsV_ok (n : Nat) : okL (fitsV n).1 ∧ (fitsV n).1.length ≤ 256 ∧ (fitsV n).2 = if (limbs n).length > 256 then 51 else 0 := by
  unfold fitsV
  split
  · exact ⟨okL_nil, by simp, rfl⟩
  · exact ⟨okL_limbs n, by simp; omega, rfl⟩
theorem addV_ok (a b : List Int) : okL (addV a b).1 ∧ (addV a b).1.length ≤ 256 := by
  unfold addV
  split
  · exact ⟨(fitsV_ok _).1, (fitsV_ok _).2.1⟩
  · exact ⟨okL_nil, by simp⟩
theorem mulV_ok (a b : List Int) : okL (mulV a b).1 ∧ (mulV a b).1.length ≤ 256 := by
  unfold mulV
  split
  · exact ⟨(fitsV_ok _).1, (fitsV_ok _).2.1⟩
  · exact ⟨okL_nil, by simp⟩
theorem okL_of_wf {l : List Int} (h : ∀ x ∈ l, (Lit.int .u32 x).wf = true) : okL l := fun x hx => by
  have := h x hx
  simp [Lit.wf, IntKind.min, IntKind.max, IntKind.signed, IntKind.bits] at this
  omega
theorem reverse_loop (x : List Int) (hx : x.length ≤ 4611686018427387904) : ∀ (m i k : Nat) (y : List Int), x.length ≤ i + i + m → m + 1 ≤ k → y.length = x.length → (i ≤ x.length) →
    (∀ p, p < x.length → y.getD p 0 = if p < i ∨ x.length ≤ p + i then x.getD (x.length - 1 - p) 0 else x.getD p 0) →
    slices_Reverse_byte_byte.l0 k y i ((x.length : Int) - 1 - i) = some x.reverse := by
  intro m
  induction m with
  | zero =>
    intro i k y hm hk hl hi hy
    obtain ⟨k, rfl⟩ : ∃ m, k = m + 1 := ⟨k - 1, by omega⟩
    rw [slices_Reverse_byte_byte.l0.eq_2, if_neg (by omega)]
    congr 1
    apply List.ext_getElem
    · simpa using hl
    · intro p h1 h2
      have h3 := hy p (by omega)
      rw [if_pos (by omega)] at h3
      rw [List.getD_eq_getElem?_getD, List.getElem?_eq_getElem h1, List.getD_eq_getElem?_getD, List.getElem?_eq_getElem (by omega)] at h3
      rw [List.getElem_reverse]
      exact h3
  | succ m ih =>
    intro i k y hm hk hl hi hy
    obtain ⟨k, rfl⟩ : ∃ m, k = m + 1 := ⟨k - 1, by omega⟩
    rw [slices_Reverse_byte_byte.l0.eq_2]
    by_cases hlt : (i : Int) < (x.length : Int) - 1 - i
    · rw [if_pos hlt, if_pos (by omega), if_pos (by omega), if_pos (by omega), if_pos (by omega), w64 _ (by omega), w64 _ (by omega), show ((i : Int) + 1) = ((i + 1 : Nat) : Int) by omega, show ((x.length : Int) - 1 - i - 1) = (x.length : Int) - 1 - ((i + 1 : Nat) : Int) by omega]
      have e1 : ((x.length : Int) - 1 - i).toNat = x.length - 1 - i := by omega
      refine ih (i + 1) k _ (by omega) (by omega) (by simpa using hl) (by omega) fun p hp => ?_
      rw [e1, getD_set, getD_set, Int.toNat_natCast, List.length_set, hl]
      unfold rd
      rw [e1, Int.toNat_natCast, hy _ (by omega), hy _ (by omega), hy p hp]
      by_cases h1 : x.length - 1 - i = p
      · rw [if_pos ⟨h1, hp⟩, if_neg (by omega), if_pos (by omega)]
        exact congrArg (fun q => x.getD q 0) (by omega)
      · rw [if_neg (by omega)]
        by_cases h2 : i = p
        · rw [if_pos ⟨h2, hp⟩, if_neg (by omega), if_pos (by omega)]
          exact congrArg (fun q => x.getD q 0) (by omega)
        · rw [if_neg (by omega)]
          by_cases h3 : p < i ∨ x.length ≤ p + i
          · rw [if_pos h3, if_pos (by omega)]
          · rw [if_neg h3, if_neg (by omega)]
    · rw [if_neg hlt]
      have := ih i (k + 1) y
      congr 1
      apply List.ext_getElem
      · simpa using hl
      · intro p h1 h2
        have h3 := hy p (by omega)
        rw [List.getD_eq_getElem?_getD, List.getElem?_eq_getElem h1] at h3
        rw [List.getElem_reverse]
        simp only [Option.getD_some] at h3
        rw [h3]
        have g : ∀ q (hq : q < x.length), x.getD q 0 = x[q] := fun q hq => by rw [List.getD_eq_getElem?_getD, List.getElem?_eq_getElem hq]; rfl
        split
        · rw [g _ (by omega)]
        · rw [g _ (by omega)]
          congr 1
          omega
theorem reverse_f (x : List Int) (hx : x.length ≤ 4611686018427387904) (k : Nat) (hk : x.length + 1 ≤ k) : slices_Reverse_byte_byte.f k x = some x.reverse := by
  unfold slices_Reverse_byte_byte.f
  rw [w64 _ (by omega)]
  have := reverse_loop x hx x.length 0 k x (by omega) hk rfl (by omega) (fun p hp => by rw [if_neg (by omega)])
  simpa using this
/-! Print -/
def asc (n : Nat) : List Int := (decs n).map (48 + ·)
def fin (out : List Int) : ByteArray := if out.length = 0 then ⟨#[48]⟩ else strOfNums out.reverse
theorem asc_pos {n : Nat} (h : n ≠ 0) : asc n = (48 + ((n % 10 : Nat) : Int)) :: asc (n / 10) := by unfold asc; rw [decs_pos h]; rfl
theorem asc_zero : asc 0 = [] := by unfold asc; rw [decs_zero]; rfl
theorem asc_len (n : Nat) : (asc n).length = (decs n).length := by simp [asc]
theorem print_end (out : List Int) (h : out.length < 140737488355328) : Ev (fun k => nat_Print.l0 k out (limbs 0)) (fin out, 0) := by
  refine ⟨out.length + 3, fun k hk => ?_⟩
  obtain ⟨k, rfl⟩ : ∃ m, k = m + 1 := ⟨k - 1, by omega⟩
  show nat_Print.l0 (k + 1) out (limbs 0) = _
  rw [limbs_zero, nat_Print.l0.eq_2, if_neg (by simp)]
  unfold fin
  by_cases h0 : out.length = 0
  · rw [if_pos (by omega), if_pos h0]
  · rw [if_neg (by omega), if_neg h0, reverse_f out (by omega) k (by omega), Option.bind_some]
theorem print_inner (q : Nat) (IH : ∀ out, out.length + (decs q).length < 140737488355328 → Ev (fun k => nat_Print.l0 k out (limbs q)) (fin (out ++ asc q), 0)) :
    ∀ (j : Nat) (out : List Int) (r : Nat), j ≤ 9 → r < 10 ^ j → out.length + (decs (q * 10 ^ j + r)).length < 140737488355328 → Ev (fun k => nat_Print.l1 k out (limbs q) (r : Int) ((9 : Int) - j)) (fin (out ++ asc (q * 10 ^ j + r)), 0)
  | 0, out, r, hj, hr, hl => by
    obtain rfl : r = 0 := by simpa using hr
    rw [Nat.pow_zero, Nat.mul_one, Nat.add_zero] at hl ⊢
    exact Ev.step (fun k => by rw [nat_Print.l1.eq_2, if_neg (by omega)]) (IH out hl)
  | j + 1, out, r, hj, hr, hl => by
    by_cases hM : q * 10 ^ (j + 1) + r = 0
    · have hq : q = 0 := by
        rcases Nat.eq_zero_or_pos q with h | h
        · exact h
        · have := Nat.mul_pos h (Nat.pow_pos (n := j + 1) (show 0 < 10 by omega)); omega
      subst hq
      obtain rfl : r = 0 := by omega
      simp only [Nat.zero_mul, Nat.zero_add] at hl ⊢
      refine Ev.step (fun k => by rw [nat_Print.l1.eq_2, if_pos (by omega), limbs_zero, if_neg (by simp), if_neg (by omega), ← limbs_zero]) (IH out hl)
    · have hp : (10 : Nat) ^ (j + 1) = 10 * 10 ^ j := by rw [Nat.pow_succ, Nat.mul_comm]
      have hd : (q * 10 ^ (j + 1) + r) / 10 = q * 10 ^ j + r / 10 := by
        rw [hp, Nat.mul_left_comm]; omega
      have hm : (q * 10 ^ (j + 1) + r) % 10 = r % 10 := by
        rw [hp, Nat.mul_left_comm]; omega
      have hdl : (decs (q * 10 ^ (j + 1) + r)).length = (decs (q * 10 ^ j + r / 10)).length + 1 := by rw [decs_pos hM, List.length_cons, hd]
      have hrr : r / 10 < 10 ^ j := by rw [hp] at hr; omega
      have ih := print_inner q IH j (out ++ [48 + ((r % 10 : Nat) : Int)]) (r / 10) (by omega) hrr (by rw [List.length_append, List.length_singleton]; omega)
      have e : fin (out ++ asc (q * 10 ^ (j + 1) + r)) = fin (out ++ [48 + ((r % 10 : Nat) : Int)] ++ asc (q * 10 ^ j + r / 10)) := by rw [asc_pos hM, hd, hm, List.append_assoc]; rfl
      rw [e]
      have hr2 : r < 1000000000 := Nat.lt_of_lt_of_le hr (Nat.pow_le_pow_right (n := 10) (by omega) (show j + 1 ≤ 9 by omega))
      have e1 : (48 + Int.tmod (r : Int) 10) % 256 = 48 + ((r % 10 : Nat) : Int) := by rw [Int.tmod_eq_emod_of_nonneg (by omega)]; omega
      have e2 : Int.tdiv (r : Int) 10 % 4294967296 = ((r / 10 : Nat) : Int) := by rw [Int.tdiv_eq_ediv_of_nonneg (by omega)]; omega
      have e3 : wrap64 ((9 : Int) - ((j + 1 : Nat) : Int) + 1) = (9 : Int) - j := by rw [w64 _ (by omega)]; omega
      refine Ev.step (fun k => ?_) ih
      rw [nat_Print.l1.eq_2, if_pos (by omega), e1, e2, e3]
      by_cases hq : ((limbs q).length : Int) > 0
      · rw [if_pos hq, if_pos (by omega)]
      · rw [if_neg hq]
        have hq0 : q = 0 := by
          rcases Nat.eq_zero_or_pos q with h | h
          · exact h
          · rw [limbs_pos (by omega)] at hq; simp at hq
        subst hq0
        rw [if_pos (by omega), if_pos (by omega)]
theorem print_outer : ∀ (n : Nat) (out : List Int), (limbs n).length ≤ 1073741824 → out.length + (decs n).length < 140737488355328 → Ev (fun k => nat_Print.l0 k out (limbs n)) (fin (out ++ asc n), 0) := by
  intro n
  induction n using Nat.strongRecOn with
  | _ n ih =>
    intro out hz hl
    by_cases h0 : n = 0
    · subst h0
      rw [asc_zero, List.append_nil]
      exact print_end out (by omega)
    · have hs : nat_num_small.f (limbs n) 1000000000 = some (limbs (n / 1000000000), ((n % 1000000000 : Nat) : Int)) := by
        unfold nat_num_small.f
        rw [if_pos ⟨okL_limbs n, hz, by omega, by omega⟩, val_limbs]
        rfl
      have hp : (limbs n).length > 0 := by rw [limbs_pos h0]; simp
      have hz2 : (limbs (n / 1000000000)).length ≤ 1073741824 := by
        refine Nat.le_trans (limbs_len ?_) hz
        have := val_lt (okL_limbs n)
        rw [val_limbs] at this
        omega
      have hdl : ∀ out : List Int, out.length + (decs (n / 1000000000)).length < 140737488355328 → Ev (fun k => nat_Print.l0 k out (limbs (n / 1000000000))) (fin (out ++ asc (n / 1000000000)), 0) := fun out h => ih _ (by omega) out hz2 h
      have hin := print_inner (n / 1000000000) hdl 9 out (n % 1000000000) (by omega) (by omega) (by rw [show n / 1000000000 * 10 ^ 9 + n % 1000000000 = n by omega]; exact hl)
      rw [show n / 1000000000 * 10 ^ 9 + n % 1000000000 = n by omega] at hin
      exact Ev.step (fun k => by rw [nat_Print.l0.eq_2, if_pos (by omega), hs, Option.bind_some]; rfl) hin
/-- A number's digits as a text. -/
def text (n : Nat) : ByteArray := fin (asc n)
def printV (l : List Int) : ByteArray × Int := if chk l = 0 then (text (val l), 0) else (⟨#[]⟩, chk l)
theorem decs_le (n : Nat) : (decs n).length ≤ n := by
  induction n using Nat.strongRecOn with
  | _ n ih =>
    by_cases h : n = 0
    · subst h; rw [decs_zero]; simp
    · rw [decs_pos h, List.length_cons]; have := ih (n / 10) (by omega); omega
theorem dec_bound : 4294967296 ^ 256 < 10 ^ 2467 := by decide +kernel
theorem decs_len {n k : Nat} (h : n < 10 ^ k) : (decs n).length ≤ k := dcanon_len (dcanon_decs n) (by rw [dval_decs]; exact h)
theorem val_256 {l : List Int} (h : okL l) (hl : l.length ≤ 256) : val l < 4294967296 ^ 256 := Nat.lt_of_lt_of_le (val_lt h) (Nat.pow_le_pow_right (by omega) hl)
theorem decs_256 {l : List Int} (h : okL l) (hl : l.length ≤ 256) : (decs (val l)).length ≤ 2467 := decs_len (Nat.lt_trans (val_256 h hl) dec_bound)
theorem print_f (l : List Int) (h : okL l) (hl : l.length ≤ 4611686018427387904) : Ev (fun k => nat_Print.f k l) (printV l) := by
  unfold printV nat_Print.f
  rw [check_f l hl]
  simp only [Option.bind_some]
  by_cases hc : chk l = 0
  · simp only [if_pos hc]
    obtain ⟨h1, h2⟩ := (chk_ok h).1 hc
    have := print_outer (val l) [] (by rw [h2]; omega) (by have := decs_256 h h1; simp; omega)
    rw [h2, List.nil_append] at this
    exact this
  · simp only [if_neg hc]
    exact Ev.now _
theorem from_two (n : Nat) (h : n < 18446744073709551616) : limbs n = if n = 0 then [] else if n < 4294967296 then [((n % 4294967296 : Nat) : Int)] else [((n % 4294967296 : Nat) : Int), ((n / 4294967296 % 4294967296 : Nat) : Int)] := by
  by_cases h0 : n = 0
  · subst h0; rw [limbs_zero]; rfl
  · rw [if_neg h0, limbs_pos h0]
    by_cases h1 : n < 4294967296
    · rw [if_pos h1, show n / 4294967296 = 0 by omega, limbs_zero]
    · rw [if_neg h1, limbs_pos (by omega), show n / 4294967296 / 4294967296 = 0 by omega, limbs_zero]
theorem from_f (n : Nat) (h : n < 18446744073709551616) : nat_From.f n = some (limbs n) := by
  unfold nat_From.f nat_num_trim.f
  have hok : okL [(n : Int) % 4294967296, (n : Int) / 4294967296 % 4294967296] := by
    rw [okL_cons, okL_cons]
    exact ⟨by omega, by omega, okL_nil⟩
  have hv : val [(n : Int) % 4294967296, (n : Int) / 4294967296 % 4294967296] = n := by simp [val]; omega
  rw [if_pos ⟨hok, by simp⟩, hv]
  rfl
def divV (a b : List Int) : List Int × List Int × Int := if tw a b = 0 then (if b.length = 0 then ([], [], 53) else (limbs (val a / val b), limbs (val a % val b), 0)) else ([], [], tw a b)
theorem div_f (a b : List Int) (ha : okL a) (hb : okL b) (hla : a.length ≤ 4611686018427387904) (hlb : b.length ≤ 4611686018427387904) (k : Nat) (hk : 3 ≤ k) : nat_Div.f k a b = some (divV a b) := by
  unfold nat_Div.f divV
  rw [two_f a b hla hlb k hk, Option.bind_some]
  by_cases h : tw a b = 0
  · rw [if_pos h, if_pos h]
    have h2 := (tw_ok ha hb).1 h
    by_cases h0 : b.length = 0
    · rw [if_pos (by omega), if_pos h0]
    · rw [if_neg (by omega), if_neg h0]
      unfold nat_num_div.f
      rw [if_pos ⟨⟨h2.1.2, h2.2.2⟩, by intro e; rw [e] at h0; exact h0 rfl, by omega, by omega⟩, Option.bind_some]
  · rw [if_neg h, if_neg h]
end Go.Proofs.YtdgebcgcabhjoaaDoor.P

/- nat's sub: contract. -/
import Derived.Test.YtdbnpaloalhciaaNt
import Derived.Test.YtdbnpaloalhciaaNj
import Derived.Test.YtdbnpaloalhciaaNa
import Derived.OwnWalk
namespace Go.Proofs.Ytdbnpaloalhciaa.P
set_option linter.unusedVariables false
set_option linter.unusedSimpArgs false
open Go.RowKit Go.Proofs.YtdbnpaloalhciaaW.PrintWords Go.Proofs.YtdbnpaloalhciaaW.PrintMore Go.Proofs.YtdbnpaloalhciaaW.PrintLast
/-- The borrow into place i, and the difference's first limbs. -/
def bwAt (a b : List Int) : Nat → Int
  | 0 => 0
  | i + 1 => if a.getD i 0 < b.getD i 0 + bwAt a b i then 1 else 0
def sbAt (a b : List Int) : Nat → List Int
  | 0 => []
  | i + 1 => sbAt a b i ++ [(a.getD i 0 - b.getD i 0 - bwAt a b i) % 4294967296]
theorem bwAt_bd (a b : List Int) : ∀ i, 0 ≤ bwAt a b i ∧ bwAt a b i ≤ 1
  | 0 => by simp [bwAt]
  | i + 1 => by
    unfold bwAt
    split <;> omega
theorem sbAt_len (a b : List Int) : ∀ i, (sbAt a b i).length = i
  | 0 => rfl
  | i + 1 => by rw [sbAt, List.length_append, sbAt_len a b i]; rfl
theorem sbAt_ok (a b : List Int) : ∀ i, okL (sbAt a b i)
  | 0 => okL_nil
  | i + 1 => by
    rw [sbAt, okL_app]
    exact ⟨sbAt_ok a b i, okL_cons.2 ⟨by omega, okL_nil⟩⟩
theorem sbAt_val {a b : List Int} (ha : okL a) (hb : okL b) : ∀ i, val (sbAt a b i) + val (b.take i) = val (a.take i) + 4294967296 ^ i * (bwAt a b i).toNat
  | 0 => by simp [sbAt, bwAt, val]
  | i + 1 => by
    have ih := sbAt_val ha hb i
    have h0 := bwAt_bd a b i
    have h1 := okL_getD ha i
    have h2 := okL_getD hb i
    rw [val_take_step a i, val_take_step b i, sbAt, val_app, sbAt_len, Nat.pow_succ]
    have e : ((a.getD i 0 - b.getD i 0 - bwAt a b i) % 4294967296).toNat + (b.getD i 0).toNat + (bwAt a b i).toNat = (a.getD i 0).toNat + 4294967296 * (bwAt a b (i + 1)).toNat := by
      rw [bwAt]
      split <;> omega
    have e2 : val [(a.getD i 0 - b.getD i 0 - bwAt a b i) % 4294967296] = ((a.getD i 0 - b.getD i 0 - bwAt a b i) % 4294967296).toNat := by simp [val]
    rw [e2, Nat.mul_assoc]
    have e3 := congrArg (4294967296 ^ i * ·) e
    simp only [Nat.mul_add] at e3
    omega
theorem sub_val {a b : List Int} (ha : okL a) (hb : okL b) (h : b.length ≤ a.length) (hv : val b ≤ val a) : val (sbAt a b a.length) = val a - val b := by
  have := sbAt_val ha hb a.length
  rw [List.take_of_length_le (Nat.le_refl _), List.take_of_length_le h] at this
  have hlt := val_lt (sbAt_ok a b a.length)
  rw [sbAt_len] at hlt
  have h0 := bwAt_bd a b a.length
  have h1 : (bwAt a b a.length).toNat = 0 ∨ (bwAt a b a.length).toNat = 1 := by omega
  rcases h1 with h1 | h1 <;> rw [h1] at this <;> omega
def nat_num_sub.f (l0 l1 : List Int) : Option (List Int) := if (okL l0 ∧ okL l1) ∧ l0.length ≤ 1073741824 ∧ l1.length ≤ l0.length ∧ val l1 ≤ val l0 then some (limbs (val l0 - val l1)) else none

set_option maxHeartbeats 8000000 in
set_option maxRecDepth 100000 in
theorem sub_ge (A B : Option Addr) (ca cb : Nat) (a b : List Int) (w : World) (hCa : Kd.C (Kd.int .u32) w A a.length a) (hca : a.length ≤ ca) (hCb : Kd.C (Kd.int .u32) w B b.length b) (hcb : b.length ≤ cb) (hab : okL a ∧ okL b) (hz : a.length ≤ 1073741824) (hle : b.length ≤ a.length) (hv : val b ≤ val a) :
    Calls Try.prog 58 #[.slice A a.length ca, .slice B b.length cb] w fun e w' => ∃ v0_ : Value, e = .returned (v0_) ∧ Kd.R (Kd.int .u32) 59 w' w.heap.size (fun _ => True) v0_ (limbs (val a - val b)) ∧ Below w.heap.size w w' := by
  obtain ⟨i0, hi, hz0, hz1, hz2⟩ := info_parts infoU
  have HCa := Lib.hid hCa
  have HCb := Lib.hid hCb
  have HAB := Lib.hid hab
  clear hCa hCb hab
  have hbl : b.length ≤ 1073741824 := by omega
  go_enter Try.func58, Try.ntmps58
  go_wp2_with (first | (at_make; refine wpList_make_own _ rfl _ _ 62 rfl w.heap.size 59 i0 (.int .u32 0) 1 Try.underlying62 hi hz0 hz1 _ _ _ a.length rfl rfl rfl ?bytes ?maxLen ?base ?_))
  case bytes => rw [hz2]; omega
  case maxLen => unfold maxLen; omega
  case base => exact Nat.le_refl _
  intro w1 hown hg1
  have hB1 : Below w.heap.size w w1 := (Below.refl _ w).grown hg1 (Nat.le_refl _) (fun k e => by cases e)
  go_wp2
  go_loopw [5, 6, 17] (fun vo vc vi wr => ∃ i : Nat, i ≤ a.length ∧ vi = .int .i64 i ∧ vc = .int .u32 (bwAt a b i) ∧ wr.ownsRow w.heap.size 59 1 vo i ((sbAt a b i).map (Value.int .u32)) ∧ Below w.heap.size w wr) (fun _ _ vi _ => a.length - (intOf vi).toNat)
  case atStart => exact ⟨0, Nat.zero_le _, rfl, rfl, hown, hB1⟩
  case round =>
    clear hown hg1 hB1
    obtain ⟨i, hi', rfl, rfl, hrow, hB⟩ := hrel
    have HROW := Lib.hid hrow
    have HB := Lib.hid hB
    clear hrow hB
    by_cases hlt : i < a.length
    · obtain ⟨ada, rfl, hxa⟩ := Kd.at_int (Kd.C_below HCa.out HB.out) (i : Int) (by omega) (by omega)
      rw [Int.toNat_natCast, rd_nat] at hxa
      have hw2 : IntKind.i64.wrap ((i : Int) + 1) = ((i + 1 : Nat) : Int) := by rw [wrap_in _ (by omega)]; omega
      have bxa := okL_getD HAB.out.1 i
      have bxb := okL_getD HAB.out.2 i
      have bc := bwAt_bd a b i
      have hf : Hid (bits_Sub32.f (a.getD i 0) (b.getD i 0) (bwAt a b i) = some ((a.getD i 0 - b.getD i 0 - bwAt a b i) % 4294967296, (if a.getD i 0 < b.getD i 0 + bwAt a b i then 1 else 0))) := Lib.hid (by unfold bits_Sub32.f; rw [if_pos ⟨bxa, bxb, bc⟩])
      have hs1 : Hid (bwAt a b (i + 1) = (if a.getD i 0 < b.getD i 0 + bwAt a b i then 1 else 0)) := Lib.hid rfl
      have hs2 : Hid ((sbAt a b (i + 1)).map (Value.int .u32) = (sbAt a b i).map (Value.int .u32) ++ [.int .u32 ((a.getD i 0 - b.getD i 0 - bwAt a b i) % 4294967296)]) := Lib.hid (by rw [sbAt, List.map_append]; rfl)
      clear bxa bc
      by_cases hlb : i < b.length
      · obtain ⟨adb, rfl, hxb⟩ := Kd.at_int (Kd.C_below HCb.out HB.out) (i : Int) (by omega) (by omega)
        rw [Int.toNat_natCast, rd_nat] at hxb
        clear bxb
        generalize a.getD i 0 = xa at *
        generalize b.getD i 0 = xb at *
        generalize bwAt a b i = cy at *
        go_wp2_with (first | (go_at_call 72; refine (bits_Sub32.calls xa xb cy _ _ _ hf.out).mono ?_; rintro e w' ⟨rfl, ⟨nd, rfl⟩⟩) | (at_builtin; refine wpList_append_own _ rfl _ _ 62 rfl w.heap.size 59 i0 (.int .u32 0) 1 4 Try.underlying62 hi hz0 hz1 hz2 rfl (by decide) _ _ _ rfl ((pw_own_drewN HROW.out nd).alloc _) ⟨_, 0, none⟩ 1 1 [.int .u32 ((xa - xb - cy) % 4294967296)] rfl rfl (cell_one_new _ _ _) (by simp [Value.oneCell']) (by unfold maxLen; omega) (by omega) (by have := HB.out.size; simp; omega) ?_; intro v2 w2 hown2 hgrow2 _))
        have hB2 : Below w.heap.size w w2 := ((pw_below_drewN HB.out nd).alloc HB.out.size _).grown hgrow2 (by have := HB.out.size; simp; omega) (own_base HROW.out)
        refine ⟨⟨i + 1, by omega, by rw [Int.natCast_add]; rfl, by rw [hs1.out], by rw [hs2.out]; exact hown2, hB2⟩, by simp [intOf]; omega⟩
      · have hxb : b.getD i 0 = 0 := by rw [List.getD_eq_getElem?_getD, List.getElem?_eq_none (by omega)]; rfl
        rw [hxb, Int.sub_zero, Int.zero_add] at hf
        rw [hxb, Int.sub_zero] at hs2
        rw [hxb, Int.zero_add] at hs1
        clear hxb bxb
        generalize a.getD i 0 = xa at *
        generalize bwAt a b i = cy at *
        go_wp2_with (first | (go_at_call 72; refine (bits_Sub32.calls xa 0 cy _ _ _ hf.out).mono ?_; rintro e w' ⟨rfl, ⟨nd, rfl⟩⟩) | (at_builtin; refine wpList_append_own _ rfl _ _ 62 rfl w.heap.size 59 i0 (.int .u32 0) 1 4 Try.underlying62 hi hz0 hz1 hz2 rfl (by decide) _ _ _ rfl ((pw_own_drewN HROW.out nd).alloc _) ⟨_, 0, none⟩ 1 1 [.int .u32 ((xa - cy) % 4294967296)] rfl rfl (cell_one_new _ _ _) (by simp [Value.oneCell']) (by unfold maxLen; omega) (by omega) (by have := HB.out.size; simp; omega) ?_; intro v2 w2 hown2 hgrow2 _))
        have hB2 : Below w.heap.size w w2 := ((pw_below_drewN HB.out nd).alloc HB.out.size _).grown hgrow2 (by have := HB.out.size; simp; omega) (own_base HROW.out)
        refine ⟨⟨i + 1, by omega, by rw [Int.natCast_add]; rfl, by rw [hs1.out], by rw [hs2.out]; exact hown2, hB2⟩, by simp [intOf]; omega⟩
    · obtain rfl : i = a.length := by omega
      have hf : Hid (nat_num_trim.f (sbAt a b a.length) = some (limbs (val a - val b))) := Lib.hid (by unfold nat_num_trim.f; rw [if_pos ⟨sbAt_ok a b _, by rw [sbAt_len]; omega⟩, sub_val HAB.out.1 HAB.out.2 hle hv])
      have hR : Hid (Kd.R (Kd.int .u32) 59 wr w.heap.size (fun _ => True) u5 (sbAt a b a.length)) := Lib.hid (Kd.R_of_own (enc := Value.int .u32) (by rw [sbAt_len]; exact HROW.out) (fun _ _ => trivial))
      go_wp2_with fail
      refine (nat_num_trim.calls (fun _ => True) u5 _ _ w wr HB.out hR.out hf.out).mono ?_
      rintro e w3 ⟨v0, rfl, hR3, hB3, _⟩
      have HR3 := Lib.hid hR3
      have HB3 := Lib.hid hB3
      clear hR3 hB3
      go_wp2
      go_ret
      exact ⟨v0, rfl, Kd.R_mono HR3.out (fun _ _ => trivial), HB3.out⟩
theorem nat_num_sub.calls (A0 : Option Addr) (c0 : Nat) (l0 : List Int) (A1 : Option Addr) (c1 : Nat) (l1 : List Int) (r : List Int) (w : World) (hr0 : Kd.C (Kd.int .u32) w A0 l0.length l0) (hc0 : l0.length ≤ c0) (hr1 : Kd.C (Kd.int .u32) w A1 l1.length l1) (hc1 : l1.length ≤ c1) (h : nat_num_sub.f l0 l1 = some r) :
    Calls Try.prog 58 #[.slice A0 l0.length c0, .slice A1 l1.length c1] w fun e w' => ∃ v0_ : Value, e = .returned (v0_) ∧ Kd.R (Kd.int .u32) 59 w' w.heap.size (fun _ => True) v0_ r ∧ Below w.heap.size w w' := by
  unfold nat_num_sub.f at h
  by_cases hc : (okL l0 ∧ okL l1) ∧ l0.length ≤ 1073741824 ∧ l1.length ≤ l0.length ∧ val l1 ≤ val l0
  case neg => rw [if_neg hc] at h; cases h
  rw [if_pos hc] at h
  obtain rfl := Option.some.inj h
  obtain ⟨h1, h2, h3, h4⟩ := hc
  exact sub_ge A0 A1 c0 c1 l0 l1 w hr0 hc0 hr1 hc1 h1 h2 h3 h4
end Go.Proofs.Ytdbnpaloalhciaa.P

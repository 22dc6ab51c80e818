import Derived.Lib.LazyBuf
import Derived.Test.YthigbklhngihkaaGreatDoorMValueKeyse
set_option linter.unusedVariables false
set_option linter.unusedSimpArgs false
set_option maxRecDepth 100000
namespace Go.Proofs.YthigbklhngihkaaGreatDoor.P
open Go.RowKit Go.Proofs.YthigbklhngihkaaGreatDoorW.PrintWords Go.Proofs.YthigbklhngihkaaGreatDoorW.PrintMore Go.Proofs.YthigbklhngihkaaGreatDoorW.PrintLast
def cyAt (a b : List Int) : Nat → Int
 | 0 => 0
 | i + 1 => (a.getD i 0 + b.getD i 0 + cyAt a b i) / 4294967296
def adAt (a b : List Int) : Nat → List Int
 | 0 => []
 | i + 1 => adAt a b i ++ [(a.getD i 0 + b.getD i 0 + cyAt a b i) % 4294967296]
theorem cyAt_bd {a b : List Int} (ha : okL a) (hb : okL b) : ∀ i, 0 ≤ cyAt a b i ∧ cyAt a b i ≤ 1
 | 0 => by simp [cyAt]
 | i + 1 => by
  have h0 := cyAt_bd ha hb i
  have h1 := okL_getD ha i
  have h2 := okL_getD hb i
  unfold cyAt
  omega
theorem adAt_len (a b : List Int) : ∀ i, (adAt a b i).length = i
 | 0 => rfl
 | i + 1 => by rw [adAt, List.length_append, adAt_len a b i]; rfl
theorem adAt_ok (a b : List Int) : ∀ i, okL (adAt a b i)
 | 0 => okL_nil
 | i + 1 => by
  rw [adAt, okL_app]
  exact ⟨adAt_ok a b i, okL_cons.2 ⟨by omega, okL_nil⟩⟩
theorem adAt_val {a b : List Int} (ha : okL a) (hb : okL b) : ∀ i, val (adAt a b i) + 4294967296 ^ i * (cyAt a b i).toNat = val (a.take i) + val (b.take i)
 | 0 => by simp [adAt, cyAt, val]
 | i + 1 => by
  have ih := adAt_val ha hb i
  have h0 := cyAt_bd ha hb i
  have h1 := okL_getD ha i
  have h2 := okL_getD hb i
  rw [val_take_step a i, val_take_step b i, adAt, val_app, adAt_len, cyAt, Nat.pow_succ]
  have e : ((a.getD i 0 + b.getD i 0 + cyAt a b i) % 4294967296).toNat + 4294967296 * ((a.getD i 0 + b.getD i 0 + cyAt a b i) / 4294967296).toNat = (a.getD i 0).toNat + (b.getD i 0).toNat + (cyAt a b i).toNat := by omega
  have e2 : val [(a.getD i 0 + b.getD i 0 + cyAt a b i) % 4294967296] = ((a.getD i 0 + b.getD i 0 + cyAt a b i) % 4294967296).toNat := by simp [val]
  rw [e2, Nat.mul_assoc]
  have e3 := congrArg (4294967296 ^ i * ·) e
  simp only [Nat.mul_add] at e3
  omega
theorem add_val {a b : List Int} (ha : okL a) (hb : okL b) (h : b.length ≤ a.length) : val (adAt a b a.length ++ [cyAt a b a.length]) = val a + val b := by
 rw [val_app, adAt_len]
 have := adAt_val ha hb a.length
 rw [List.take_of_length_le (Nat.le_refl _), List.take_of_length_le h] at this
 rw [← this]
 simp [val]
theorem add_ok {a b : List Int} (ha : okL a) (hb : okL b) (i : Nat) : okL (adAt a b i ++ [cyAt a b i]) := by
 rw [okL_app]
 have := cyAt_bd ha hb i
 exact ⟨adAt_ok a b i, okL_cons.2 ⟨by omega, okL_nil⟩⟩
def nat_num_add.f (l0 l1 : List Int) : Option (List Int) := if (okL l0 ∧ okL l1) ∧ l0.length ≤ 1073741824 ∧ l1.length ≤ 1073741824 then some (limbs (val l0 + val l1)) else none
set_option maxHeartbeats 8000000 in
theorem add_ge (A B : Option Addr) (ca cb : Nat) (a b : List Int) (w : World) (hCa : Kd.C (Kd.int .u32) w A a.length a) (hca : a.length ≤ ca) (hCb : Kd.C (Kd.int .u32) w B b.length b) (hcb : b.length ≤ cb) (hab : okL a ∧ okL b) (hz : a.length ≤ 1073741824) (hle : ¬ a.length < b.length) :
 Calls Tryz.prog 226 #[.slice A a.length ca, .slice B b.length cb] w fun e w' => ∃ v0_ : Value, e = .returned (v0_) ∧ Kd.R (Kd.int .u32) 131 w' w.heap.size (fun _ => True) v0_ (limbs (val a + val b)) ∧ Below w.heap.size w w' := by
 obtain ⟨i0, hi, hz0, hz1, hz2⟩ := info_parts infoU
 have HCa := Lib.hid hCa
 have HCb := Lib.hid hCb
 have HAB := Lib.hid hab
 clear hCa hCb hab
 have hbl : b.length ≤ 1073741824 := by omega
 go_enter Tryz.func226, Tryz.ntmps226
 have hw1 : IntKind.i64.wrap ((a.length : Int) + 1) = ((a.length + 1 : Nat) : Int) := by rw [wrap_in _ (by omega)]; omega
 go_wp2_with (first | (at_make; refine wpList_make_own _ rfl _ _ 171 rfl w.heap.size 131 i0 (.int .u32 0) 1 Tryz.underlying171 hi hz0 hz1 _ _ _ (a.length + 1) rfl rfl (by omega) ?bytes ?maxLen ?base ?_))
 case bytes => rw [hz2]; omega
 case maxLen => unfold maxLen; omega
 case base => exact Nat.le_refl _
 intro w1 hown hg1
 have hB1 : Below w.heap.size w w1 := (Below.refl _ w).grown hg1 (Nat.le_refl _) (fun k e => by cases e)
 go_wp2
 go_loopw [5, 6, 25] (fun vo vc vi wr => ∃ i : Nat, i ≤ a.length ∧ vi = .int .i64 i ∧ vc = .int .u32 (cyAt a b i) ∧ wr.ownsRow w.heap.size 131 1 vo i ((adAt a b i).map (Value.int .u32)) ∧ Below w.heap.size w wr) (fun _ _ vi _ => a.length - (intOf vi).toNat)
 case atStart => exact ⟨0, Nat.zero_le _, rfl, rfl, hown, hB1⟩
 case round =>
  clear hown hg1 hB1
  obtain ⟨i, hi', rfl, rfl, hrow, hB⟩ := hrel
  have HROW := Lib.hid hrow
  have HB := Lib.hid hB
  clear hrow hB
  by_cases hlt : i < a.length
  · obtain ⟨ada, rfl, hxa⟩ := Kd.at_int (Kd.C_below HCa.out HB.out) (i : Int) (by omega) (by omega)
    rw [Int.toNat_natCast, rd_nat] at hxa
    have hw2 : IntKind.i64.wrap ((i : Int) + 1) = ((i + 1 : Nat) : Int) := by rw [wrap_in _ (by omega)]; omega
    have bxa := okL_getD HAB.out.1 i
    have bxb := okL_getD HAB.out.2 i
    have bc := cyAt_bd HAB.out.1 HAB.out.2 i
    have hf : Hid (bits_Add32.f (a.getD i 0) (b.getD i 0) (cyAt a b i) = some ((a.getD i 0 + b.getD i 0 + cyAt a b i) % 4294967296, (a.getD i 0 + b.getD i 0 + cyAt a b i) / 4294967296)) := Lib.hid (by unfold bits_Add32.f; rw [if_pos ⟨bxa, bxb, bc⟩])
    have hs1 : Hid (cyAt a b (i + 1) = (a.getD i 0 + b.getD i 0 + cyAt a b i) / 4294967296) := Lib.hid rfl
    have hs2 : Hid ((adAt a b (i + 1)).map (Value.int .u32) = (adAt a b i).map (Value.int .u32) ++ [.int .u32 ((a.getD i 0 + b.getD i 0 + cyAt a b i) % 4294967296)]) := Lib.hid (by rw [adAt, List.map_append]; rfl)
    clear bxa bc
    by_cases hlb : i < b.length
    · obtain ⟨adb, rfl, hxb⟩ := Kd.at_int (Kd.C_below HCb.out HB.out) (i : Int) (by omega) (by omega)
      rw [Int.toNat_natCast, rd_nat] at hxb
      clear bxb
      generalize a.getD i 0 = xa at *
      generalize b.getD i 0 = xb at *
      generalize cyAt a b i = cy at *
      go_wp2_with (first | (go_at_call 269; refine (bits_Add32.calls xa xb cy _ _ _ hf.out).mono ?_; rintro e w' ⟨rfl, ⟨nd, rfl⟩⟩) | (at_builtin; refine wpList_append_own _ rfl _ _ 171 rfl w.heap.size 131 i0 (.int .u32 0) 1 4 Tryz.underlying171 hi hz0 hz1 hz2 rfl (by decide) _ _ _ rfl ((pw_own_drewN HROW.out nd).alloc _) ⟨_, 0, none⟩ 1 1 [.int .u32 ((xa + xb + cy) % 4294967296)] rfl rfl (cell_one_new _ _ _) (by simp [Value.oneCell']) (by unfold maxLen; omega) (by omega) (by have := HB.out.size; simp; omega) ?_; intro v2 w2 hown2 hgrow2 _))
      have hB2 : Below w.heap.size w w2 := ((pw_below_drewN HB.out nd).alloc HB.out.size _).grown hgrow2 (by have := HB.out.size; simp; omega) (own_base HROW.out)
      refine ⟨⟨i + 1, by omega, by rw [Int.natCast_add]; rfl, by rw [hs1.out], by rw [hs2.out]; exact hown2, hB2⟩, by simp [intOf]; omega⟩
    · have hxb : b.getD i 0 = 0 := by rw [List.getD_eq_getElem?_getD, List.getElem?_eq_none (by omega)]; rfl
      rw [hxb, Int.add_zero] at hf hs1 hs2
      clear hxb bxb
      generalize a.getD i 0 = xa at *
      generalize cyAt a b i = cy at *
      go_wp2_with (first | (go_at_call 269; refine (bits_Add32.calls xa 0 cy _ _ _ hf.out).mono ?_; rintro e w' ⟨rfl, ⟨nd, rfl⟩⟩) | (at_builtin; refine wpList_append_own _ rfl _ _ 171 rfl w.heap.size 131 i0 (.int .u32 0) 1 4 Tryz.underlying171 hi hz0 hz1 hz2 rfl (by decide) _ _ _ rfl ((pw_own_drewN HROW.out nd).alloc _) ⟨_, 0, none⟩ 1 1 [.int .u32 ((xa + cy) % 4294967296)] rfl rfl (cell_one_new _ _ _) (by simp [Value.oneCell']) (by unfold maxLen; omega) (by omega) (by have := HB.out.size; simp; omega) ?_; intro v2 w2 hown2 hgrow2 _))
      have hB2 : Below w.heap.size w w2 := ((pw_below_drewN HB.out nd).alloc HB.out.size _).grown hgrow2 (by have := HB.out.size; simp; omega) (own_base HROW.out)
      refine ⟨⟨i + 1, by omega, by rw [Int.natCast_add]; rfl, by rw [hs1.out], by rw [hs2.out]; exact hown2, hB2⟩, by simp [intOf]; omega⟩
  · obtain rfl : i = a.length := by omega
    have hok := add_ok HAB.out.1 HAB.out.2 a.length
    have hln : ((adAt a b a.length) ++ [cyAt a b a.length]).length = a.length + 1 := by rw [List.length_append, adAt_len]; rfl
    have hf : Hid (nat_num_trim.f (adAt a b a.length ++ [cyAt a b a.length]) = some (limbs (val a + val b))) := Lib.hid (by unfold nat_num_trim.f; rw [if_pos ⟨hok, by omega⟩, add_val HAB.out.1 HAB.out.2 (by omega)])
    have hs2 : Hid ((adAt a b a.length ++ [cyAt a b a.length]).map (Value.int .u32) = (adAt a b a.length).map (Value.int .u32) ++ [.int .u32 (cyAt a b a.length)]) := Lib.hid (by rw [List.map_append]; rfl)
    have HLN := Lib.hid hln
    clear hok hln
    generalize hcy : cyAt a b a.length = cy at *
    clear hcy
    go_wp2_with (first | (at_builtin; refine wpList_append_own _ rfl _ _ 171 rfl w.heap.size 131 i0 (.int .u32 0) 1 4 Tryz.underlying171 hi hz0 hz1 hz2 rfl (by decide) _ _ _ rfl (HROW.out.alloc _) ⟨_, 0, none⟩ 1 1 [.int .u32 cy] rfl rfl (cell_one_new _ _ _) (by simp [Value.oneCell']) (by unfold maxLen; omega) (by omega) (by have := HB.out.size; simp; omega) ?_; intro v2 w2 hown2 hgrow2 _) | fail)
    have hB2 : Below w.heap.size w w2 := (HB.out.alloc HB.out.size _).grown hgrow2 (by have := HB.out.size; simp; omega) (own_base HROW.out)
    have hR : Kd.R (Kd.int .u32) 131 w2 w.heap.size (fun _ => True) v2 (adAt a b a.length ++ [cy]) := Kd.R_of_own (enc := Value.int .u32) (by rw [HLN.out]; rw [← hs2.out] at hown2; exact hown2) (fun _ _ => trivial)
    refine (nat_num_trim.calls (fun _ => True) v2 _ _ w w2 hB2 hR hf.out).mono ?_
    clear hR hB2 hgrow2 hown2
    rintro e w3 ⟨v0, rfl, hR3, hB3, _⟩
    have HR3 := Lib.hid hR3
    have HB3 := Lib.hid hB3
    clear hR3 hB3
    go_wp2
    go_ret
    exact ⟨v0, rfl, Kd.R_mono HR3.out (fun _ _ => trivial), HB3.out⟩
set_option maxHeartbeats 8000000 in
theorem add_lt (A B : Option Addr) (ca cb : Nat) (a b : List Int) (w : World) (hCa : Kd.C (Kd.int .u32) w A a.length a) (hca : a.length ≤ ca) (hCb : Kd.C (Kd.int .u32) w B b.length b) (hcb : b.length ≤ cb) (hab : okL a ∧ okL b) (hz : a.length ≤ 1073741824) (hle : b.length < a.length) :
 Calls Tryz.prog 226 #[.slice B b.length cb, .slice A a.length ca] w fun e w' => ∃ v0_ : Value, e = .returned (v0_) ∧ Kd.R (Kd.int .u32) 131 w' w.heap.size (fun _ => True) v0_ (limbs (val a + val b)) ∧ Below w.heap.size w w' := by
 obtain ⟨i0, hi, hz0, hz1, hz2⟩ := info_parts infoU
 have HCa := Lib.hid hCa
 have HCb := Lib.hid hCb
 have HAB := Lib.hid hab
 clear hCa hCb hab
 have hbl : b.length ≤ 1073741824 := by omega
 go_enter Tryz.func226, Tryz.ntmps226
 have hw1 : IntKind.i64.wrap ((a.length : Int) + 1) = ((a.length + 1 : Nat) : Int) := by rw [wrap_in _ (by omega)]; omega
 go_wp2_with (first | (at_make; refine wpList_make_own _ rfl _ _ 171 rfl w.heap.size 131 i0 (.int .u32 0) 1 Tryz.underlying171 hi hz0 hz1 _ _ _ (a.length + 1) rfl rfl (by omega) ?bytes ?maxLen ?base ?_))
 case bytes => rw [hz2]; omega
 case maxLen => unfold maxLen; omega
 case base => exact Nat.le_refl _
 intro w1 hown hg1
 have hB1 : Below w.heap.size w w1 := (Below.refl _ w).grown hg1 (Nat.le_refl _) (fun k e => by cases e)
 go_wp2
 go_loopw [5, 6, 25] (fun vo vc vi wr => ∃ i : Nat, i ≤ a.length ∧ vi = .int .i64 i ∧ vc = .int .u32 (cyAt a b i) ∧ wr.ownsRow w.heap.size 131 1 vo i ((adAt a b i).map (Value.int .u32)) ∧ Below w.heap.size w wr) (fun _ _ vi _ => a.length - (intOf vi).toNat)
 case atStart => exact ⟨0, Nat.zero_le _, rfl, rfl, hown, hB1⟩
 case round =>
  clear hown hg1 hB1
  obtain ⟨i, hi', rfl, rfl, hrow, hB⟩ := hrel
  have HROW := Lib.hid hrow
  have HB := Lib.hid hB
  clear hrow hB
  by_cases hlt : i < a.length
  · obtain ⟨ada, rfl, hxa⟩ := Kd.at_int (Kd.C_below HCa.out HB.out) (i : Int) (by omega) (by omega)
    rw [Int.toNat_natCast, rd_nat] at hxa
    have hw2 : IntKind.i64.wrap ((i : Int) + 1) = ((i + 1 : Nat) : Int) := by rw [wrap_in _ (by omega)]; omega
    have bxa := okL_getD HAB.out.1 i
    have bxb := okL_getD HAB.out.2 i
    have bc := cyAt_bd HAB.out.1 HAB.out.2 i
    have hf : Hid (bits_Add32.f (a.getD i 0) (b.getD i 0) (cyAt a b i) = some ((a.getD i 0 + b.getD i 0 + cyAt a b i) % 4294967296, (a.getD i 0 + b.getD i 0 + cyAt a b i) / 4294967296)) := Lib.hid (by unfold bits_Add32.f; rw [if_pos ⟨bxa, bxb, bc⟩])
    have hs1 : Hid (cyAt a b (i + 1) = (a.getD i 0 + b.getD i 0 + cyAt a b i) / 4294967296) := Lib.hid rfl
    have hs2 : Hid ((adAt a b (i + 1)).map (Value.int .u32) = (adAt a b i).map (Value.int .u32) ++ [.int .u32 ((a.getD i 0 + b.getD i 0 + cyAt a b i) % 4294967296)]) := Lib.hid (by rw [adAt, List.map_append]; rfl)
    clear bxa bc
    by_cases hlb : i < b.length
    · obtain ⟨adb, rfl, hxb⟩ := Kd.at_int (Kd.C_below HCb.out HB.out) (i : Int) (by omega) (by omega)
      rw [Int.toNat_natCast, rd_nat] at hxb
      clear bxb
      generalize a.getD i 0 = xa at *
      generalize b.getD i 0 = xb at *
      generalize cyAt a b i = cy at *
      go_wp2_with (first | (go_at_call 269; refine (bits_Add32.calls xa xb cy _ _ _ hf.out).mono ?_; rintro e w' ⟨rfl, ⟨nd, rfl⟩⟩) | (at_builtin; refine wpList_append_own _ rfl _ _ 171 rfl w.heap.size 131 i0 (.int .u32 0) 1 4 Tryz.underlying171 hi hz0 hz1 hz2 rfl (by decide) _ _ _ rfl ((pw_own_drewN HROW.out nd).alloc _) ⟨_, 0, none⟩ 1 1 [.int .u32 ((xa + xb + cy) % 4294967296)] rfl rfl (cell_one_new _ _ _) (by simp [Value.oneCell']) (by unfold maxLen; omega) (by omega) (by have := HB.out.size; simp; omega) ?_; intro v2 w2 hown2 hgrow2 _))
      have hB2 : Below w.heap.size w w2 := ((pw_below_drewN HB.out nd).alloc HB.out.size _).grown hgrow2 (by have := HB.out.size; simp; omega) (own_base HROW.out)
      refine ⟨⟨i + 1, by omega, by rw [Int.natCast_add]; rfl, by rw [hs1.out], by rw [hs2.out]; exact hown2, hB2⟩, by simp [intOf]; omega⟩
    · have hxb : b.getD i 0 = 0 := by rw [List.getD_eq_getElem?_getD, List.getElem?_eq_none (by omega)]; rfl
      rw [hxb, Int.add_zero] at hf hs1 hs2
      clear hxb bxb
      generalize a.getD i 0 = xa at *
      generalize cyAt a b i = cy at *
      go_wp2_with (first | (go_at_call 269; refine (bits_Add32.calls xa 0 cy _ _ _ hf.out).mono ?_; rintro e w' ⟨rfl, ⟨nd, rfl⟩⟩) | (at_builtin; refine wpList_append_own _ rfl _ _ 171 rfl w.heap.size 131 i0 (.int .u32 0) 1 4 Tryz.underlying171 hi hz0 hz1 hz2 rfl (by decide) _ _ _ rfl ((pw_own_drewN HROW.out nd).alloc _) ⟨_, 0, none⟩ 1 1 [.int .u32 ((xa + cy) % 4294967296)] rfl rfl (cell_one_new _ _ _) (by simp [Value.oneCell']) (by unfold maxLen; omega) (by omega) (by have := HB.out.size; simp; omega) ?_; intro v2 w2 hown2 hgrow2 _))
      have hB2 : Below w.heap.size w w2 := ((pw_below_drewN HB.out nd).alloc HB.out.size _).grown hgrow2 (by have := HB.out.size; simp; omega) (own_base HROW.out)
      refine ⟨⟨i + 1, by omega, by rw [Int.natCast_add]; rfl, by rw [hs1.out], by rw [hs2.out]; exact hown2, hB2⟩, by simp [intOf]; omega⟩
  · obtain rfl : i = a.length := by omega
    have hok := add_ok HAB.out.1 HAB.out.2 a.length
    have hln : ((adAt a b a.length) ++ [cyAt a b a.length]).length = a.length + 1 := by rw [List.length_append, adAt_len]; rfl
    have hf : Hid (nat_num_trim.f (adAt a b a.length ++ [cyAt a b a.length]) = some (limbs (val a + val b))) := Lib.hid (by unfold nat_num_trim.f; rw [if_pos ⟨hok, by omega⟩, add_val HAB.out.1 HAB.out.2 (by omega)])
    have hs2 : Hid ((adAt a b a.length ++ [cyAt a b a.length]).map (Value.int .u32) = (adAt a b a.length).map (Value.int .u32) ++ [.int .u32 (cyAt a b a.length)]) := Lib.hid (by rw [List.map_append]; rfl)
    have HLN := Lib.hid hln
    clear hok hln
    generalize hcy : cyAt a b a.length = cy at *
    clear hcy
    go_wp2_with (first | (at_builtin; refine wpList_append_own _ rfl _ _ 171 rfl w.heap.size 131 i0 (.int .u32 0) 1 4 Tryz.underlying171 hi hz0 hz1 hz2 rfl (by decide) _ _ _ rfl (HROW.out.alloc _) ⟨_, 0, none⟩ 1 1 [.int .u32 cy] rfl rfl (cell_one_new _ _ _) (by simp [Value.oneCell']) (by unfold maxLen; omega) (by omega) (by have := HB.out.size; simp; omega) ?_; intro v2 w2 hown2 hgrow2 _) | fail)
    have hB2 : Below w.heap.size w w2 := (HB.out.alloc HB.out.size _).grown hgrow2 (by have := HB.out.size; simp; omega) (own_base HROW.out)
    have hR : Kd.R (Kd.int .u32) 131 w2 w.heap.size (fun _ => True) v2 (adAt a b a.length ++ [cy]) := Kd.R_of_own (enc := Value.int .u32) (by rw [HLN.out]; rw [← hs2.out] at hown2; exact hown2) (fun _ _ => trivial)
    refine (nat_num_trim.calls (fun _ => True) v2 _ _ w w2 hB2 hR hf.out).mono ?_
    clear hR hB2 hgrow2 hown2
    rintro e w3 ⟨v0, rfl, hR3, hB3, _⟩
    have HR3 := Lib.hid hR3
    have HB3 := Lib.hid hB3
    clear hR3 hB3
    go_wp2
    go_ret
    exact ⟨v0, rfl, Kd.R_mono HR3.out (fun _ _ => trivial), HB3.out⟩
theorem nat_num_add.calls (A0 : Option Addr) (c0 : Nat) (l0 : List Int) (A1 : Option Addr) (c1 : Nat) (l1 : List Int) (r : List Int) (w : World) (hr0 : Kd.C (Kd.int .u32) w A0 l0.length l0) (hc0 : l0.length ≤ c0) (hr1 : Kd.C (Kd.int .u32) w A1 l1.length l1) (hc1 : l1.length ≤ c1) (h : nat_num_add.f l0 l1 = some r) :
 Calls Tryz.prog 226 #[.slice A0 l0.length c0, .slice A1 l1.length c1] w fun e w' => ∃ v0_ : Value, e = .returned (v0_) ∧ Kd.R (Kd.int .u32) 131 w' w.heap.size (fun _ => True) v0_ r ∧ Below w.heap.size w w' := by
 unfold nat_num_add.f at h
 by_cases hc : (okL l0 ∧ okL l1) ∧ l0.length ≤ 1073741824 ∧ l1.length ≤ 1073741824
 case neg => rw [if_neg hc] at h; cases h
 rw [if_pos hc] at h
 obtain rfl := Option.some.inj h
 obtain ⟨h1, h2, h3⟩ := hc
 by_cases hl : l0.length < l1.length
 · rw [Nat.add_comm]
   exact add_lt A1 A0 c1 c0 l1 l0 w hr1 hc1 hr0 hc0 ⟨h1.2, h1.1⟩ h3 hl
 · exact add_ge A0 A1 c0 c1 l0 l1 w hr0 hc0 hr1 hc1 h1 h2 hl
end Go.Proofs.YthigbklhngihkaaGreatDoor.P
namespace Go.Proofs.YthigbklhngihkaaGreatDoor.P
open Go.RowKit Go.Proofs.YthigbklhngihkaaGreatDoorW.PrintWords Go.Proofs.YthigbklhngihkaaGreatDoorW.PrintMore Go.Proofs.YthigbklhngihkaaGreatDoorW.PrintLast
def bwAt (a b : List Int) : Nat → Int
 | 0 => 0
 | i + 1 => if a.getD i 0 < b.getD i 0 + bwAt a b i then 1 else 0
def sbAt (a b : List Int) : Nat → List Int
 | 0 => []
 | i + 1 => sbAt a b i ++ [(a.getD i 0 - b.getD i 0 - bwAt a b i) % 4294967296]
theorem bwAt_bd (a b : List Int) : ∀ i, 0 ≤ bwAt a b i ∧ bwAt a b i ≤ 1
 | 0 => by simp [bwAt]
 | i + 1 => by
  unfold bwAt
  split <;> omega
theorem sbAt_len (a b : List Int) : ∀ i, (sbAt a b i).length = i
 | 0 => rfl
 | i + 1 => by rw [sbAt, List.length_append, sbAt_len a b i]; rfl
theorem sbAt_ok (a b : List Int) : ∀ i, okL (sbAt a b i)
 | 0 => okL_nil
 | i + 1 => by
  rw [sbAt, okL_app]
  exact ⟨sbAt_ok a b i, okL_cons.2 ⟨by omega, okL_nil⟩⟩
theorem sbAt_val {a b : List Int} (ha : okL a) (hb : okL b) : ∀ i, val (sbAt a b i) + val (b.take i) = val (a.take i) + 4294967296 ^ i * (bwAt a b i).toNat
 | 0 => by simp [sbAt, bwAt, val]
 | i + 1 => by
  have ih := sbAt_val ha hb i
  have h0 := bwAt_bd a b i
  have h1 := okL_getD ha i
  have h2 := okL_getD hb i
  rw [val_take_step a i, val_take_step b i, sbAt, val_app, sbAt_len, Nat.pow_succ]
  have e : ((a.getD i 0 - b.getD i 0 - bwAt a b i) % 4294967296).toNat + (b.getD i 0).toNat + (bwAt a b i).toNat = (a.getD i 0).toNat + 4294967296 * (bwAt a b (i + 1)).toNat := by
   rw [bwAt]
   split <;> omega
  have e2 : val [(a.getD i 0 - b.getD i 0 - bwAt a b i) % 4294967296] = ((a.getD i 0 - b.getD i 0 - bwAt a b i) % 4294967296).toNat := by simp [val]
  rw [e2, Nat.mul_assoc]
  have e3 := congrArg (4294967296 ^ i * ·) e
  simp only [Nat.mul_add] at e3
  omega
theorem sub_val {a b : List Int} (ha : okL a) (hb : okL b) (h : b.length ≤ a.length) (hv : val b ≤ val a) : val (sbAt a b a.length) = val a - val b := by
 have := sbAt_val ha hb a.length
 rw [List.take_of_length_le (Nat.le_refl _), List.take_of_length_le h] at this
 have hlt := val_lt (sbAt_ok a b a.length)
 rw [sbAt_len] at hlt
 have h0 := bwAt_bd a b a.length
 have h1 : (bwAt a b a.length).toNat = 0 ∨ (bwAt a b a.length).toNat = 1 := by omega
 rcases h1 with h1 | h1 <;> rw [h1] at this <;> omega
def nat_num_sub.f (l0 l1 : List Int) : Option (List Int) := if (okL l0 ∧ okL l1) ∧ l0.length ≤ 1073741824 ∧ l1.length ≤ l0.length ∧ val l1 ≤ val l0 then some (limbs (val l0 - val l1)) else none
set_option maxHeartbeats 8000000 in
theorem sub_ge (A B : Option Addr) (ca cb : Nat) (a b : List Int) (w : World) (hCa : Kd.C (Kd.int .u32) w A a.length a) (hca : a.length ≤ ca) (hCb : Kd.C (Kd.int .u32) w B b.length b) (hcb : b.length ≤ cb) (hab : okL a ∧ okL b) (hz : a.length ≤ 1073741824) (hle : b.length ≤ a.length) (hv : val b ≤ val a) :
 Calls Tryz.prog 228 #[.slice A a.length ca, .slice B b.length cb] w fun e w' => ∃ v0_ : Value, e = .returned (v0_) ∧ Kd.R (Kd.int .u32) 131 w' w.heap.size (fun _ => True) v0_ (limbs (val a - val b)) ∧ Below w.heap.size w w' := by
 obtain ⟨i0, hi, hz0, hz1, hz2⟩ := info_parts infoU
 have HCa := Lib.hid hCa
 have HCb := Lib.hid hCb
 have HAB := Lib.hid hab
 clear hCa hCb hab
 have hbl : b.length ≤ 1073741824 := by omega
 go_enter Tryz.func228, Tryz.ntmps228
 go_wp2_with (first | (at_make; refine wpList_make_own _ rfl _ _ 171 rfl w.heap.size 131 i0 (.int .u32 0) 1 Tryz.underlying171 hi hz0 hz1 _ _ _ a.length rfl rfl rfl ?bytes ?maxLen ?base ?_))
 case bytes => rw [hz2]; omega
 case maxLen => unfold maxLen; omega
 case base => exact Nat.le_refl _
 intro w1 hown hg1
 have hB1 : Below w.heap.size w w1 := (Below.refl _ w).grown hg1 (Nat.le_refl _) (fun k e => by cases e)
 go_wp2
 go_loopw [5, 6, 17] (fun vo vc vi wr => ∃ i : Nat, i ≤ a.length ∧ vi = .int .i64 i ∧ vc = .int .u32 (bwAt a b i) ∧ wr.ownsRow w.heap.size 131 1 vo i ((sbAt a b i).map (Value.int .u32)) ∧ Below w.heap.size w wr) (fun _ _ vi _ => a.length - (intOf vi).toNat)
 case atStart => exact ⟨0, Nat.zero_le _, rfl, rfl, hown, hB1⟩
 case round =>
  clear hown hg1 hB1
  obtain ⟨i, hi', rfl, rfl, hrow, hB⟩ := hrel
  have HROW := Lib.hid hrow
  have HB := Lib.hid hB
  clear hrow hB
  by_cases hlt : i < a.length
  · obtain ⟨ada, rfl, hxa⟩ := Kd.at_int (Kd.C_below HCa.out HB.out) (i : Int) (by omega) (by omega)
    rw [Int.toNat_natCast, rd_nat] at hxa
    have hw2 : IntKind.i64.wrap ((i : Int) + 1) = ((i + 1 : Nat) : Int) := by rw [wrap_in _ (by omega)]; omega
    have bxa := okL_getD HAB.out.1 i
    have bxb := okL_getD HAB.out.2 i
    have bc := bwAt_bd a b i
    have hf : Hid (bits_Sub32.f (a.getD i 0) (b.getD i 0) (bwAt a b i) = some ((a.getD i 0 - b.getD i 0 - bwAt a b i) % 4294967296, (if a.getD i 0 < b.getD i 0 + bwAt a b i then 1 else 0))) := Lib.hid (by unfold bits_Sub32.f; rw [if_pos ⟨bxa, bxb, bc⟩])
    have hs1 : Hid (bwAt a b (i + 1) = (if a.getD i 0 < b.getD i 0 + bwAt a b i then 1 else 0)) := Lib.hid rfl
    have hs2 : Hid ((sbAt a b (i + 1)).map (Value.int .u32) = (sbAt a b i).map (Value.int .u32) ++ [.int .u32 ((a.getD i 0 - b.getD i 0 - bwAt a b i) % 4294967296)]) := Lib.hid (by rw [sbAt, List.map_append]; rfl)
    clear bxa bc
    by_cases hlb : i < b.length
    · obtain ⟨adb, rfl, hxb⟩ := Kd.at_int (Kd.C_below HCb.out HB.out) (i : Int) (by omega) (by omega)
      rw [Int.toNat_natCast, rd_nat] at hxb
      clear bxb
      generalize a.getD i 0 = xa at *
      generalize b.getD i 0 = xb at *
      generalize bwAt a b i = cy at *
      go_wp2_with (first | (go_at_call 272; refine (bits_Sub32.calls xa xb cy _ _ _ hf.out).mono ?_; rintro e w' ⟨rfl, ⟨nd, rfl⟩⟩) | (at_builtin; refine wpList_append_own _ rfl _ _ 171 rfl w.heap.size 131 i0 (.int .u32 0) 1 4 Tryz.underlying171 hi hz0 hz1 hz2 rfl (by decide) _ _ _ rfl ((pw_own_drewN HROW.out nd).alloc _) ⟨_, 0, none⟩ 1 1 [.int .u32 ((xa - xb - cy) % 4294967296)] rfl rfl (cell_one_new _ _ _) (by simp [Value.oneCell']) (by unfold maxLen; omega) (by omega) (by have := HB.out.size; simp; omega) ?_; intro v2 w2 hown2 hgrow2 _))
      have hB2 : Below w.heap.size w w2 := ((pw_below_drewN HB.out nd).alloc HB.out.size _).grown hgrow2 (by have := HB.out.size; simp; omega) (own_base HROW.out)
      refine ⟨⟨i + 1, by omega, by rw [Int.natCast_add]; rfl, by rw [hs1.out], by rw [hs2.out]; exact hown2, hB2⟩, by simp [intOf]; omega⟩
    · have hxb : b.getD i 0 = 0 := by rw [List.getD_eq_getElem?_getD, List.getElem?_eq_none (by omega)]; rfl
      rw [hxb, Int.sub_zero, Int.zero_add] at hf
      rw [hxb, Int.sub_zero] at hs2
      rw [hxb, Int.zero_add] at hs1
      clear hxb bxb
      generalize a.getD i 0 = xa at *
      generalize bwAt a b i = cy at *
      go_wp2_with (first | (go_at_call 272; refine (bits_Sub32.calls xa 0 cy _ _ _ hf.out).mono ?_; rintro e w' ⟨rfl, ⟨nd, rfl⟩⟩) | (at_builtin; refine wpList_append_own _ rfl _ _ 171 rfl w.heap.size 131 i0 (.int .u32 0) 1 4 Tryz.underlying171 hi hz0 hz1 hz2 rfl (by decide) _ _ _ rfl ((pw_own_drewN HROW.out nd).alloc _) ⟨_, 0, none⟩ 1 1 [.int .u32 ((xa - cy) % 4294967296)] rfl rfl (cell_one_new _ _ _) (by simp [Value.oneCell']) (by unfold maxLen; omega) (by omega) (by have := HB.out.size; simp; omega) ?_; intro v2 w2 hown2 hgrow2 _))
      have hB2 : Below w.heap.size w w2 := ((pw_below_drewN HB.out nd).alloc HB.out.size _).grown hgrow2 (by have := HB.out.size; simp; omega) (own_base HROW.out)
      refine ⟨⟨i + 1, by omega, by rw [Int.natCast_add]; rfl, by rw [hs1.out], by rw [hs2.out]; exact hown2, hB2⟩, by simp [intOf]; omega⟩
  · obtain rfl : i = a.length := by omega
    have hf : Hid (nat_num_trim.f (sbAt a b a.length) = some (limbs (val a - val b))) := Lib.hid (by unfold nat_num_trim.f; rw [if_pos ⟨sbAt_ok a b _, by rw [sbAt_len]; omega⟩, sub_val HAB.out.1 HAB.out.2 hle hv])
    have hR : Hid (Kd.R (Kd.int .u32) 131 wr w.heap.size (fun _ => True) u5 (sbAt a b a.length)) := Lib.hid (Kd.R_of_own (enc := Value.int .u32) (by rw [sbAt_len]; exact HROW.out) (fun _ _ => trivial))
    go_wp2_with fail
    refine (nat_num_trim.calls (fun _ => True) u5 _ _ w wr HB.out hR.out hf.out).mono ?_
    rintro e w3 ⟨v0, rfl, hR3, hB3, _⟩
    have HR3 := Lib.hid hR3
    have HB3 := Lib.hid hB3
    clear hR3 hB3
    go_wp2
    go_ret
    exact ⟨v0, rfl, Kd.R_mono HR3.out (fun _ _ => trivial), HB3.out⟩
theorem nat_num_sub.calls (A0 : Option Addr) (c0 : Nat) (l0 : List Int) (A1 : Option Addr) (c1 : Nat) (l1 : List Int) (r : List Int) (w : World) (hr0 : Kd.C (Kd.int .u32) w A0 l0.length l0) (hc0 : l0.length ≤ c0) (hr1 : Kd.C (Kd.int .u32) w A1 l1.length l1) (hc1 : l1.length ≤ c1) (h : nat_num_sub.f l0 l1 = some r) :
 Calls Tryz.prog 228 #[.slice A0 l0.length c0, .slice A1 l1.length c1] w fun e w' => ∃ v0_ : Value, e = .returned (v0_) ∧ Kd.R (Kd.int .u32) 131 w' w.heap.size (fun _ => True) v0_ r ∧ Below w.heap.size w w' := by
 unfold nat_num_sub.f at h
 by_cases hc : (okL l0 ∧ okL l1) ∧ l0.length ≤ 1073741824 ∧ l1.length ≤ l0.length ∧ val l1 ≤ val l0
 case neg => rw [if_neg hc] at h; cases h
 rw [if_pos hc] at h
 obtain rfl := Option.some.inj h
 obtain ⟨h1, h2, h3, h4⟩ := hc
 exact sub_ge A0 A1 c0 c1 l0 l1 w hr0 hc0 hr1 hc1 h1 h2 h3 h4
end Go.Proofs.YthigbklhngihkaaGreatDoor.P
namespace Go.Proofs.YthigbklhngihkaaGreatDoor.P
open Go.RowKit Go.Proofs.YthigbklhngihkaaGreatDoorW.PrintWords Go.Proofs.YthigbklhngihkaaGreatDoorW.PrintMore Go.Proofs.YthigbklhngihkaaGreatDoorW.PrintLast
def moAt (a : List Int) (n : Nat) : Nat → Int
 | 0 => 0
 | i + 1 => a.getD i 0 / 2 ^ (32 - n)
def shAt (a : List Int) (n : Nat) : Nat → List Int
 | 0 => []
 | i + 1 => shAt a n i ++ [a.getD i 0 * 2 ^ n % 4294967296 + moAt a n i]
def nat_num_left.f (l0 : List Int) (a1 : Int) : Option (List Int) := if okL l0 ∧ l0.length ≤ 1073741824 ∧ 0 ≤ a1 ∧ a1 < 32 then some (shAt l0 a1.toNat l0.length ++ [moAt l0 a1.toNat l0.length]) else none
theorem moAt_bd {a : List Int} (ha : okL a) {n : Nat} (hn : n < 32) : ∀ i, 0 ≤ moAt a n i ∧ moAt a n i < 2 ^ n
 | 0 => by
  have : (0 : Int) < 2 ^ n := Int.pow_pos (by omega)
  exact ⟨Int.le_refl _, this⟩
 | i + 1 => by
  have h1 := okL_getD ha i
  unfold moAt
  have hp : (0 : Int) < 2 ^ (32 - n) := Int.pow_pos (by omega)
  refine ⟨Int.ediv_nonneg h1.1 (by omega), Int.ediv_lt_of_lt_mul hp ?_⟩
  have : (2 : Int) ^ n * 2 ^ (32 - n) = 4294967296 := by rw [← Int.pow_add, show n + (32 - n) = 32 by omega]; rfl
  omega
theorem shAt_len (a : List Int) (n : Nat) : ∀ i, (shAt a n i).length = i
 | 0 => rfl
 | i + 1 => by rw [shAt, List.length_append, shAt_len a n i]; rfl
theorem wrap_u64 (n : Int) : IntKind.u64.wrap n = n % 18446744073709551616 := by simp [IntKind.wrap, IntKind.bits, IntKind.signed]
theorem or_join (x : Int) (y : Int) (n : Nat) (hx : 0 ≤ x) (hn : n < 32) (h0 : 0 ≤ y) (h1 : y < 2 ^ n) : bits .or .u32 (x * 2 ^ n % 4294967296) y = x * 2 ^ n % 4294967296 + y := by
 have hp : (2 : Int) ^ n ≤ 2 ^ 31 := by
  have := Nat.pow_le_pow_right (show 0 < 2 by omega) (show n ≤ 31 by omega)
  have e : ∀ k : Nat, (2 : Int) ^ k = ((2 ^ k : Nat) : Int) := fun k => by rw [Int.natCast_pow]; rfl
  rw [e, e]; omega
 have hp2 : (2 : Int) ^ 31 = 2147483648 := rfl
 obtain ⟨xn, rfl⟩ : ∃ k : Nat, x = k := ⟨x.toNat, by omega⟩
 obtain ⟨yn, rfl⟩ : ∃ k : Nat, y = k := ⟨y.toNat, by omega⟩
 have e : ((xn : Int) * 2 ^ n % 4294967296) = ((xn * 2 ^ n % 4294967296 : Nat) : Int) := by
  rw [Int.natCast_emod, Int.natCast_mul, Int.natCast_pow]; rfl
 have h2 : yn < 2 ^ n := by
  have e2 : (2 : Int) ^ n = ((2 ^ n : Nat) : Int) := by rw [Int.natCast_pow]; rfl
  rw [e2] at h1; omega
 rw [e, u32_or_nat _ _ (by omega) (by omega), nat_join n _ _ ?_ h2]
 · rw [Int.natCast_add]
 · have hd : 2 ^ n ∣ 4294967296 := ⟨2 ^ (32 - n), by rw [← Nat.pow_add, show n + (32 - n) = 32 by omega]⟩
   rw [Nat.mod_mod_of_dvd _ hd]
   exact Nat.mul_mod_left _ _
set_option maxHeartbeats 8000000 in
theorem left_at (A : Option Addr) (ca : Nat) (a : List Int) (n : Nat) (w : World) (hCa : Kd.C (Kd.int .u32) w A a.length a) (hca : a.length ≤ ca) (hab : okL a) (hz : a.length ≤ 1073741824) (hn : n < 32) :
 Calls Tryz.prog 315 #[.slice A a.length ca, .int .i64 n] w fun e w' => ∃ v0_ : Value, e = .returned (v0_) ∧ Kd.R (Kd.int .u32) 131 w' w.heap.size (fun _ => True) v0_ (shAt a n a.length ++ [moAt a n a.length]) ∧ Below w.heap.size w w' := by
 obtain ⟨i0, hi, hz0, hz1, hz2⟩ := info_parts infoU
 have HCa := Lib.hid hCa
 have HAB := Lib.hid hab
 clear hCa hab
 go_enter Tryz.func315, Tryz.ntmps315
 have hw1 : IntKind.i64.wrap ((a.length : Int) + 1) = ((a.length + 1 : Nat) : Int) := by rw [wrap_in _ (by omega)]; omega
 go_wp2_with (first | (at_make; refine wpList_make_own _ rfl _ _ 171 rfl w.heap.size 131 i0 (.int .u32 0) 1 Tryz.underlying171 hi hz0 hz1 _ _ _ (a.length + 1) rfl rfl (by omega) ?bytes ?maxLen ?base ?_))
 case bytes => rw [hz2]; omega
 case maxLen => unfold maxLen; omega
 case base => exact Nat.le_refl _
 intro w1 hown hg1
 have hB1 : Below w.heap.size w w1 := (Below.refl _ w).grown hg1 (Nat.le_refl _) (fun k e => by cases e)
 go_wp2
 go_loopw [5, 6, 15] (fun vo vc vi wr => ∃ i : Nat, i ≤ a.length ∧ vi = .int .i64 i ∧ vc = .int .u32 (moAt a n i) ∧ wr.ownsRow w.heap.size 131 1 vo i ((shAt a n i).map (Value.int .u32)) ∧ Below w.heap.size w wr) (fun _ _ vi _ => a.length - (intOf vi).toNat)
 case atStart => exact ⟨0, Nat.zero_le _, rfl, rfl, hown, hB1⟩
 case round =>
  clear hown hg1 hB1
  obtain ⟨i, hi', rfl, rfl, hrow, hB⟩ := hrel
  have HROW := Lib.hid hrow
  have HB := Lib.hid hB
  clear hrow hB
  by_cases hlt : i < a.length
  · obtain ⟨ada, rfl, hxa⟩ := Kd.at_int (Kd.C_below HCa.out HB.out) (i : Int) (by omega) (by omega)
    rw [Int.toNat_natCast, rd_nat] at hxa
    have hw2 : IntKind.i64.wrap ((i : Int) + 1) = ((i + 1 : Nat) : Int) := by rw [wrap_in _ (by omega)]; omega
    have bxa := okL_getD HAB.out i
    have bc := moAt_bd HAB.out hn i
    have hor : Hid (bits .or .u32 (a.getD i 0 * 2 ^ n % 4294967296) (moAt a n i) = a.getD i 0 * 2 ^ n % 4294967296 + moAt a n i) := Lib.hid (or_join _ _ n bxa.1 hn bc.1 bc.2)
    have hs1 : Hid (moAt a n (i + 1) = a.getD i 0 / 2 ^ (32 - n)) := Lib.hid rfl
    have hs2 : Hid ((shAt a n (i + 1)).map (Value.int .u32) = (shAt a n i).map (Value.int .u32) ++ [.int .u32 (a.getD i 0 * 2 ^ n % 4294967296 + moAt a n i)]) := Lib.hid (by rw [shAt, List.map_append]; rfl)
    have bm := moAt_bd HAB.out hn (i + 1)
    have hv : Hid (IntKind.u64.wrap (a.getD i 0) / 2 ^ (32 - n) % 4294967296 = moAt a n (i + 1)) := Lib.hid (by
     have e : IntKind.u64.wrap (a.getD i 0) = a.getD i 0 := by rw [wrap_u64]; omega
     have hp : (2 : Int) ^ n ≤ 4294967296 := by
      have := Nat.pow_le_pow_right (show 0 < 2 by omega) (show n ≤ 32 by omega)
      have e : ∀ k : Nat, (2 : Int) ^ k = ((2 ^ k : Nat) : Int) := fun k => by rw [Int.natCast_pow]; rfl
      rw [e]; omega
     rw [e, ← hs1.out]; omega)
    clear bm
    clear bxa bc
    generalize a.getD i 0 = xa at *
    generalize moAt a n i = cy at *
    have hw3 : IntKind.i64.wrap (32 - (n : Int)) = ((32 - n : Nat) : Int) := by rw [wrap_in _ (by omega)]; omega
    go_wp2_with (first | (at_builtin; refine wpList_append_own _ rfl _ _ 171 rfl w.heap.size 131 i0 (.int .u32 0) 1 4 Tryz.underlying171 hi hz0 hz1 hz2 rfl (by decide) _ _ _ rfl (HROW.out.alloc _) ⟨_, 0, none⟩ 1 1 [_] rfl rfl (cell_one_new _ _ _) (by simp [Value.oneCell']) (by unfold maxLen; omega) (by omega) (by have := HB.out.size; simp; omega) ?_; intro v2 w2 hown2 hgrow2 _))
    have hB2 : Below w.heap.size w w2 := (HB.out.alloc HB.out.size _).grown hgrow2 (by have := HB.out.size; simp; omega) (own_base HROW.out)
    refine ⟨⟨i + 1, by omega, by rw [Int.natCast_add]; rfl, by rw [hv.out], by rw [hs2.out, ← hor.out]; exact hown2, hB2⟩, by simp [intOf]; omega⟩
  · obtain rfl : i = a.length := by omega
    have hs2 : Hid ((shAt a n a.length ++ [moAt a n a.length]).map (Value.int .u32) = (shAt a n a.length).map (Value.int .u32) ++ [.int .u32 (moAt a n a.length)]) := Lib.hid (by rw [List.map_append]; rfl)
    have HLN : Hid ((shAt a n a.length ++ [moAt a n a.length]).length = a.length + 1) := Lib.hid (by rw [List.length_append, shAt_len]; rfl)
    generalize hcy : moAt a n a.length = cy at *
    have HCY := Lib.hid hcy
    clear hcy
    go_wp2_with (first | (at_builtin; refine wpList_append_own _ rfl _ _ 171 rfl w.heap.size 131 i0 (.int .u32 0) 1 4 Tryz.underlying171 hi hz0 hz1 hz2 rfl (by decide) _ _ _ rfl (HROW.out.alloc _) ⟨_, 0, none⟩ 1 1 [_] rfl rfl (cell_one_new _ _ _) (by simp [Value.oneCell']) (by unfold maxLen; omega) (by omega) (by have := HB.out.size; simp; omega) ?_; intro v2 w2 hown2 hgrow2 _))
    have hB2 : Below w.heap.size w w2 := (HB.out.alloc HB.out.size _).grown hgrow2 (by have := HB.out.size; simp; omega) (own_base HROW.out)
    go_ret
    refine ⟨v2, rfl, ?_, hB2⟩
    rw [HCY.out]
    exact Kd.R_of_own (enc := Value.int .u32) (by rw [HLN.out]; rw [← hs2.out] at hown2; exact hown2) (fun _ _ => trivial)
theorem nat_num_left.calls (A0 : Option Addr) (c0 : Nat) (l0 : List Int) (a1 : Int) (r : List Int) (w : World) (hr0 : Kd.C (Kd.int .u32) w A0 l0.length l0) (hc0 : l0.length ≤ c0) (h : nat_num_left.f l0 a1 = some r) :
 Calls Tryz.prog 315 #[.slice A0 l0.length c0, .int .i64 a1] w fun e w' => ∃ v0_ : Value, e = .returned (v0_) ∧ Kd.R (Kd.int .u32) 131 w' w.heap.size (fun _ => True) v0_ r ∧ Below w.heap.size w w' := by
 unfold nat_num_left.f at h
 by_cases hc : okL l0 ∧ l0.length ≤ 1073741824 ∧ 0 ≤ a1 ∧ a1 < 32
 case neg => rw [if_neg hc] at h; cases h
 rw [if_pos hc] at h
 obtain rfl := Option.some.inj h
 obtain ⟨h1, h2, h3, h4⟩ := hc
 have := left_at A0 c0 l0 a1.toNat w hr0 hc0 h1 h2 (by omega)
 rw [show ((a1.toNat : Nat) : Int) = a1 by omega] at this
 exact this
end Go.Proofs.YthigbklhngihkaaGreatDoor.P
namespace Go.Proofs.YthigbklhngihkaaGreatDoor.P
open Go.RowKit Go.Proofs.YthigbklhngihkaaGreatDoorW.PrintWords Go.Proofs.YthigbklhngihkaaGreatDoorW.PrintMore Go.Proofs.YthigbklhngihkaaGreatDoorW.PrintLast
def slices_Clone_num_uint32.f (l0 : List Int) : Option (List Int) := if l0.length ≤ 1073741824 then some l0 else none
theorem own_empty (w : World) (e : TypeId) : (w.alloc (.cells #[] e)).ownsRow w.heap.size e 1 (.slice (some ⟨w.heap.size, 0, none⟩) 0 0) 0 [] :=
 ⟨rfl, .inr ⟨w.heap.size, 0, #[], rfl, Nat.le_refl _, heap_alloc_new _ _,  Nat.le_refl _, by simp [maxLen], rfl, rfl⟩⟩
set_option maxHeartbeats 8000000 in
theorem slices_Clone_num_uint32.calls (A0 : Option Addr) (c0 : Nat) (l0 : List Int) (r : List Int) (w : World) (hr0 : Kd.C (Kd.int .u32) w A0 l0.length l0) (hc0 : l0.length ≤ c0) (h : slices_Clone_num_uint32.f l0 = some r) :
 Calls Tryz.prog 313 #[.slice A0 l0.length c0] w fun e w' => ∃ v0_ : Value, e = .returned (v0_) ∧ Kd.R (Kd.int .u32) 131 w' w.heap.size (fun _ => True) v0_ r ∧ Below w.heap.size w w' := by
 obtain ⟨i0, hi, hz0, hz1, hz2⟩ := info_parts infoU
 unfold slices_Clone_num_uint32.f at h
 by_cases hc : l0.length ≤ 1073741824
 case neg => rw [if_neg hc] at h; cases h
 rw [if_pos hc] at h
 obtain rfl := Option.some.inj h
 have hn := Kd.reads_of_C (enc := Value.int .u32) (d := (0 : Int)) (h1 := fun _ => rfl) hr0
 clear h hr0
 cases A0 with
 | none =>
  have hl : l0 = [] := by
   rcases Nat.eq_zero_or_pos l0.length with h | h
   · exact List.eq_nil_of_length_eq_zero h
   · obtain ⟨ad, e, _⟩ := hn.2.2 h; cases e
  subst hl
  have hq := _root_.Go.run_eql_slice_nil (P := Tryz.prog) (w := w) (t := 171) (e := 131) (a := none) (l := ([] : List Int).length) (c := c0) (h := Tryz.underlying171)
  simp only [List.length_nil, Option.isNone_none] at hq ⊢
  go_enter Tryz.func313, Tryz.ntmps313
  go_wp2
  go_ret
  exact ⟨_, rfl, Kd.R_nil _ _ _ _ _, Below.refl _ _⟩
 | some ad =>
  have hcells : Hid (∀ j u, (l0.map (Value.int .u32))[j]? = some u → w.cell? (ad.add j) = some u) := Lib.hid (fun j u hj => by
   rw [List.getElem?_map] at hj
   have hjl : j < l0.length := by
    rcases Nat.lt_or_ge j l0.length with h | h
    · exact h
    · rw [List.getElem?_eq_none h] at hj; cases hj
   obtain ⟨ad', e, hx⟩ := hn.2.2 (by omega)
   cases e
   rw [hx j hjl, List.getD_eq_getElem?_getD]
   rw [List.getElem?_eq_getElem hjl] at hj ⊢
   simpa using hj)
  have hcells2 : Hid (∀ j u, (l0.map (Value.int .u32))[j]? = some u → (w.alloc (.cells #[] 131)).cell? (ad.add j) = some u) := Lib.hid (fun j u hj => pw_cell_below (below_alloc (Below.refl _ _) _) (hcells.out j u hj))
  have h1c : Hid (∀ u ∈ l0.map (Value.int .u32), u.oneCell' = true) := Lib.hid (fun u hu => by obtain ⟨x, _, rfl⟩ := List.mem_map.1 hu; rfl)
  clear hn
  have hq := _root_.Go.run_eql_slice_nil (P := Tryz.prog) (w := w) (t := 171) (e := 131) (a := (some ad)) (l := l0.length) (c := c0) (h := Tryz.underlying171)
  simp only [Option.isNone_some, Option.isNone_none] at hq
  go_enter Tryz.func313, Tryz.ntmps313
  go_wp2_with (first | (at_builtin; refine wpList_append_own _ rfl _ _ 171 rfl w.heap.size 131 i0 (.int .u32 0) 1 4 Tryz.underlying171 hi hz0 hz1 hz2 rfl (by decide) _ _ _ rfl (own_empty w _) ad l0.length c0 (l0.map (Value.int .u32)) rfl (by simp) hcells2.out h1c.out (by unfold maxLen; omega) (by omega) (by simp) ?_; intro v2 w2 hown2 hgrow2 _))
  have hB2 : Below w.heap.size w w2 := ((Below.refl _ w).alloc (Nat.le_refl _) _).grown hgrow2 (by simp) (own_base (own_empty w 131))
  go_ret
  exact ⟨v2, rfl, Kd.R_of_own (enc := Value.int .u32) (by simpa [encs] using hown2) (fun _ _ => trivial), hB2⟩
end Go.Proofs.YthigbklhngihkaaGreatDoor.P
namespace Go.Proofs.YthigbklhngihkaaGreatDoor.P
open Go.RowKit Go.Proofs.YthigbklhngihkaaGreatDoorW.PrintWords Go.Proofs.YthigbklhngihkaaGreatDoorW.PrintMore
theorem w64 (n : Int) (h : -9223372036854775808 ≤ n ∧ n ≤ 9223372036854775807) : wrap64 n = n := by unfold wrap64; omega
theorem val_set : ∀ (l : List Int) (j : Nat) (v : Int), j < l.length → val (l.set j v) + 4294967296 ^ j * (l.getD j 0).toNat = val l + 4294967296 ^ j * v.toNat
 | [], j, v, h => by simp at h
 | x :: l, 0, v, h => by simp [val]; omega
 | x :: l, j + 1, v, h => by
  have ih := val_set l j v (by simpa using h)
  simp only [List.set_cons_succ, val, List.getD_cons_succ, Nat.pow_succ]
  have e : ∀ z : Nat, 4294967296 ^ j * 4294967296 * z = 4294967296 * (4294967296 ^ j * z) := fun z => by rw [Nat.mul_comm (4294967296 ^ j) 4294967296, Nat.mul_assoc]
  rw [e, e]
  omega
theorem u64w {x : Int} (h0 : 0 ≤ x) (h1 : x < 18446744073709551616) : IntKind.u64.wrap x = x := by
 have : IntKind.u64.wrap x = x % 18446744073709551616 := by simp [IntKind.wrap, IntKind.bits, IntKind.signed]
 rw [this]; omega
theorem rdn (l : List Int) (j : Nat) : rd l (j : Int) = l.getD j 0 := rd_nat l j
theorem okL_set {l : List Int} (h : okL l) (j : Nat) {v : Int} (h0 : 0 ≤ v) (h1 : v < 4294967296) : okL (l.set j v) := fun z hz => by
 rcases List.mem_or_eq_of_mem_set hz with hz | rfl
 · exact h z hz
 · exact ⟨h0, h1⟩
theorem drop_getD {l : List Int} {n : Nat} (h : n < l.length) : l.drop n = l.getD n 0 :: l.drop (n + 1) := by
 rw [List.drop_eq_getElem_cons h, List.getD_eq_getElem?_getD, List.getElem?_eq_getElem h]
 rfl
theorem getD_set (l : List Int) (i j : Nat) (v : Int) : (l.set i v).getD j 0 = if i = j ∧ j < l.length then v else l.getD j 0 := by
 rw [List.getD_eq_getElem?_getD, List.getD_eq_getElem?_getD, List.getElem?_set]
 by_cases h : i = j
 · subst h
   by_cases h2 : i < l.length
   · simp [h2]
   · simp [h2]
 · simp [h]
theorem mul_step {x y o c : Int} (hx : 0 ≤ x ∧ x < 4294967296) (hy : 0 ≤ y ∧ y < 4294967296) (ho : 0 ≤ o ∧ o < 4294967296) (hc : 0 ≤ c ∧ c < 4294967296) :
 0 ≤ x * y ∧ x * y ≤ 18446744065119617025 ∧ (x * y + o + c) / 4294967296 < 4294967296 := by
 have h1 : x * y ≤ 4294967295 * 4294967295 := Int.mul_le_mul (by omega) (by omega) hy.1 (by omega)
 have h0 : 0 ≤ x * y := Int.mul_nonneg hx.1 hy.1
 refine ⟨h0, by omega, by omega⟩
theorem mul_inner (a b : List Int) (ha : okL a) (hb : okL b) (hla : a.length ≤ 1073741824) (hlb : b.length ≤ 1073741824) (i : Nat) (hi : i < a.length) : ∀ (m kk fuel : Nat) (out : List Int) (c : Int), kk + m = b.length → m + 1 ≤ fuel → okL out → out.length = a.length + b.length → (0 ≤ c ∧ c < 4294967296) → (∀ j, i + b.length ≤ j → out.getD j 0 = 0) →
 ∃ out', okL out' ∧ out'.length = a.length + b.length ∧ (∀ j, i + 1 + b.length ≤ j → out'.getD j 0 = 0) ∧ val out' = val out + ((a.getD i 0).toNat * val (b.drop kk) + c.toNat) * 4294967296 ^ (i + kk) ∧
  nat_num_mul.l1 fuel b out i (a.getD i 0) c a a.length i b b.length kk = nat_num_mul.l0 (fuel - (m + 1)) b out' a a.length ((i + 1 : Nat) : Int)
 | 0, kk, fuel, out, c, hk, hf, hok, hl, hc, hz => by
  obtain ⟨fuel, rfl⟩ : ∃ j, fuel = j + 1 := ⟨fuel - 1, by omega⟩
  obtain rfl : kk = b.length := by omega
  refine ⟨out.set (i + b.length) c, okL_set hok _ hc.1 hc.2, by rw [List.length_set, hl], fun j hj => ?_, ?_, ?_⟩
  · rw [getD_set, if_neg (by omega)]; exact hz j (by omega)
  · have := val_set out (i + b.length) c (by omega)
    rw [hz _ (Nat.le_refl _)] at this
    rw [List.drop_of_length_le (Nat.le_refl _)]
    simp only [val, Nat.mul_zero, Nat.zero_add, Int.toNat_zero, Nat.add_zero] at this ⊢
    rw [this, Nat.mul_comm]
  · rw [nat_num_mul.l1.eq_2, if_neg (by omega), w64 _ (by omega), if_pos (by omega), if_pos (by omega), w64 _ (by omega), show ((i : Int) + (b.length : Int)).toNat = i + b.length by omega, show c % 4294967296 = c by omega, show ((i : Int) + 1) = ((i + 1 : Nat) : Int) by omega]
    rfl
 | m + 1, kk, fuel, out, c, hk, hf, hok, hl, hc, hz => by
  obtain ⟨fuel, rfl⟩ : ∃ j, fuel = j + 1 := ⟨fuel - 1, by omega⟩
  have hx := okL_getD ha i
  have hy := okL_getD hb kk
  have ho := okL_getD hok (i + kk)
  obtain ⟨s0, s1, s2⟩ := mul_step hx hy ho hc
  have hc1 : 0 ≤ (a.getD i 0 * b.getD kk 0 + out.getD (i + kk) 0 + c) / 4294967296 := by omega
  obtain ⟨out', o1, o2, o3, o4, o5⟩ := mul_inner a b ha hb hla hlb i hi m (kk + 1) fuel (out.set (i + kk) ((a.getD i 0 * b.getD kk 0 + out.getD (i + kk) 0 + c) % 4294967296)) ((a.getD i 0 * b.getD kk 0 + out.getD (i + kk) 0 + c) / 4294967296) (by omega) (by omega) (okL_set hok _ (by omega) (by omega)) (by rw [List.length_set, hl]) ⟨hc1, s2⟩ (fun j hj => by rw [getD_set, if_neg (by omega)]; exact hz j hj)
  refine ⟨out', o1, o2, o3, ?_, ?_⟩
  · rw [o4, drop_getD (show kk < b.length by omega), val]
    have hv := val_set out (i + kk) ((a.getD i 0 * b.getD kk 0 + out.getD (i + kk) 0 + c) % 4294967296) (by omega)
    have e : ((a.getD i 0 * b.getD kk 0 + out.getD (i + kk) 0 + c) % 4294967296).toNat + 4294967296 * ((a.getD i 0 * b.getD kk 0 + out.getD (i + kk) 0 + c) / 4294967296).toNat = (a.getD i 0).toNat * (b.getD kk 0).toNat + (out.getD (i + kk) 0).toNat + c.toNat := by
     have : ((a.getD i 0).toNat * (b.getD kk 0).toNat : Nat) = (a.getD i 0 * b.getD kk 0).toNat := by
      rw [Int.toNat_mul hx.1 hy.1]
     rw [this]; omega
    generalize ((a.getD i 0 * b.getD kk 0 + out.getD (i + kk) 0 + c) % 4294967296).toNat = q at *
    generalize ((a.getD i 0 * b.getD kk 0 + out.getD (i + kk) 0 + c) / 4294967296).toNat = d at *
    generalize val (b.drop (kk + 1)) = V at *
    generalize (a.getD i 0).toNat = X at *
    generalize (b.getD kk 0).toNat = Y at *
    generalize (out.getD (i + kk) 0).toNat = O at *
    rw [show i + (kk + 1) = (i + kk) + 1 by omega, Nat.pow_succ]
    generalize 4294967296 ^ (i + kk) = T at *
    have e2 := congrArg (T * ·) e
    simp only [Nat.mul_add] at e2
    have g1 : (X * V + d) * (T * 4294967296) = T * (X * (4294967296 * V)) + T * (4294967296 * d) := by
     rw [Nat.add_mul]; congr 1 <;> ac_rfl
    have g2 : (X * (Y + 4294967296 * V) + c.toNat) * T = T * (X * Y) + T * (X * (4294967296 * V)) + T * c.toNat := by
     rw [Nat.add_mul, Nat.mul_add, Nat.add_mul, Nat.mul_comm (X * Y) T, Nat.mul_comm (X * (4294967296 * V)) T, Nat.mul_comm c.toNat T]
    rw [g1, g2]
    omega
  · rw [nat_num_mul.l1.eq_2, if_pos (by omega), if_pos (by omega), if_pos (by omega), w64 ((i : Int) + kk) (by omega), if_pos (by omega), if_pos (by omega), show ((i : Int) + (kk : Int)) = ((i + kk : Nat) : Int) by omega, Int.toNat_natCast, rdn, rdn, u64w hx.1 (by omega), u64w hy.1 (by omega), u64w ho.1 (by omega), u64w s0 (by omega), @u64w (a.getD i 0 * b.getD kk 0 + out.getD (i + kk) 0) (by omega) (by omega), @u64w (a.getD i 0 * b.getD kk 0 + out.getD (i + kk) 0 + c) (by omega) (by omega), w64 _ (by omega), show ((kk : Int) + 1) = ((kk + 1 : Nat) : Int) by omega, o5]
    congr 1
    omega
theorem mul_outer (a b : List Int) (ha : okL a) (hb : okL b) (hla : a.length ≤ 1073741824) (hlb : b.length ≤ 1073741824) : ∀ (m i fuel : Nat) (out : List Int), i + m = a.length → (m + 1) * (b.length + 3) ≤ fuel → okL out → out.length = a.length + b.length → (∀ j, i + b.length ≤ j → out.getD j 0 = 0) → val out = val (a.take i) * val b →
 nat_num_mul.l0 fuel b out a a.length i = some (limbs (val a * val b))
 | 0, i, fuel, out, hi, hf, hok, hl, hz, hv => by
  obtain ⟨fuel, rfl⟩ : ∃ j, fuel = j + 1 := ⟨fuel - 1, by omega⟩
  rw [nat_num_mul.l0.eq_2, if_neg (by omega)]
  unfold nat_num_trim.f
  rw [if_pos ⟨hok, by omega⟩, hv, List.take_of_length_le (by omega)]
  rfl
 | m + 1, i, fuel, out, hi, hf, hok, hl, hz, hv => by
  have hf' : (m + 1) * (b.length + 3) + (b.length + 3) ≤ fuel := by rw [← Nat.succ_mul]; exact hf
  obtain ⟨fuel, rfl⟩ : ∃ j, fuel = j + 1 := ⟨fuel - 1, by omega⟩
  obtain ⟨out', o1, o2, o3, o4, o5⟩ := mul_inner a b ha hb hla hlb i (by omega) b.length 0 fuel out 0 (by omega) (by omega) hok hl ⟨Int.le_refl _, by omega⟩ hz
  rw [nat_num_mul.l0.eq_2, if_pos (by omega), if_pos (by omega), if_pos (by omega), rdn]
  have o5' : nat_num_mul.l1 fuel b out i (a.getD i 0) 0 a a.length i b b.length 0 = _ := o5
  rw [o5']
  refine mul_outer a b ha hb hla hlb m (i + 1) _ out' (by omega) (by omega) o1 o2 o3 ?_
  have e0 : Int.toNat 0 = 0 := rfl
  rw [o4, hv, val_take_step, List.drop_zero, e0, Nat.add_zero, Nat.add_zero, Nat.add_mul]
  congr 1
  rw [Nat.mul_comm (4294967296 ^ i), Nat.mul_assoc, Nat.mul_assoc, Nat.mul_comm (val b)]
theorem mul_eq (a b : List Int) (ha : okL a) (hb : okL b) (hla : a.length ≤ 1073741824) (hlb : b.length ≤ 1073741824) (k : Nat) (hk : (a.length + 1) * (b.length + 3) ≤ k) : nat_num_mul.f k a b = some (limbs (val a * val b)) := by
 unfold nat_num_mul.f
 rw [w64 _ (by omega), if_pos (by omega), show ((a.length : Int) + (b.length : Int)).toNat = a.length + b.length by omega, if_pos (by omega)]
 have h0 : okL (List.replicate (a.length + b.length) (0 : Int)) := fun z hz => by rw [List.eq_of_mem_replicate hz]; omega
 have hv : val (List.replicate (a.length + b.length) (0 : Int)) = 0 := (val_zero h0).2 fun z hz => List.eq_of_mem_replicate hz
 exact mul_outer a b ha hb hla hlb a.length 0 k _ (by omega) hk h0 (by simp) (fun j _ => by rw [List.getD_eq_getElem?_getD, List.getElem?_replicate]; split <;> rfl) (by rw [hv]; simp [val])
end Go.Proofs.YthigbklhngihkaaGreatDoor.P
namespace Go.Proofs.YthigbklhngihkaaGreatDoor.P
open Go.RowKit Go.Proofs.YthigbklhngihkaaGreatDoorW.PrintWords Go.Proofs.YthigbklhngihkaaGreatDoorW.PrintLast Go.Proofs.YthigbklhngihkaaGreatDoorW.PrintMore
attribute [local go_sem] max2_int min2_int max_two min_two max_three min_three max_four min_four   -- for this text's walks alone
def dec_number_zero.f (a0_0 : Bool) (l0_1 : List Int) (a0_2 : Int) : Option (Bool) := some ((l0_1.length : Int) == 0)
set_option maxHeartbeats 8000000 in
theorem dec_number_zero.calls (a0_0 : Bool) (A0_1 : Option Addr) (c0_1 : Nat) (l0_1 : List Int) (a0_2 : Int) (r : Bool) (w : World) (hr0_1 : Kd.C (Kd.int .u32) w A0_1 l0_1.length l0_1) (hc0_1 : l0_1.length ≤ c0_1) (h : dec_number_zero.f a0_0 l0_1 a0_2 = some r) :
 Calls Tryz.prog 146 #[.agg #[.bool a0_0, .slice A0_1 l0_1.length c0_1, .int .i64 a0_2]] w fun e w' => e = .returned (.bool r) ∧ Below w.heap.size w w' := by
 have hu137 := Tryz.underlying137
 have HR0_1 := Aside0.mk hr0_1
 have HC0_1 := Aside0.mk hc0_1
 clear hr0_1 hc0_1
 have HB := Aside0.mk (Below.refl w.heap.size w)
 have H : (some ((l0_1.length : Int) == 0)) = some r := h
 clear h
 obtain rfl := Option.some.inj H
 go_enter Tryz.func146, Tryz.ntmps146
 go_wp2_with (first | ((with_reducible refine gate_dst (N := 1) rfl ?_); refine box_event ?hg (N := 1) ?hd (cs := #[.bool a0_0, .slice A0_1 l0_1.length c0_1, .int .i64 a0_2]) (t := 137) ?hr ?_; (case hd => rfl); (case hg => rfl); (case hr => first | (go_simp; done) | (go_simp; rfl)); intro gb234 hg w2 hbox hb; have n0_ := Aside0.mk (below_step (by repeat (first | (with_reducible first | exact HB.out | apply below_alloc | apply pw_below_drewN | apply below_drew1) | exact HB.out)) hb); have n1_ := Aside0.mk (hbox); have n2_ := Aside0.mk ((by rw [hg]; exact (below_size (by repeat (first | (with_reducible first | exact HB.out | apply below_alloc | apply pw_below_drewN | apply below_drew1) | exact HB.out))) : w.heap.size ≤ gb234)); have n3_ := Aside0.mk ((by rw [hg]; exact (below_size (by repeat (first | (with_reducible first | exact HB.out | apply below_alloc | apply pw_below_drewN | apply below_drew1) | exact HB.out))) : w.heap.size ≤ gb234)); clear HB; have HB := n0_; have BK234 := n1_; have GW234 := n2_; have GE234 := n3_; clear n0_ n1_ n2_ n3_; clear hb hbox hg; have hcz3_0 : w2.cell? ⟨gb234, 0, none⟩ = some (.bool a0_0) := (blk_cell BK234.out 0).trans rfl; have hcz3_1 : w2.cell? ⟨gb234, 1, none⟩ = some (.slice A0_1 l0_1.length c0_1) := (blk_cell BK234.out 1).trans rfl; have hcz3_2 : w2.cell? ⟨gb234, 2, none⟩ = some (.int .i64 a0_2) := (blk_cell BK234.out 2).trans rfl; have hfz3_0 := blk_frozen BK234.out 0; have hfz3_1 := blk_frozen BK234.out 1; have hfz3_2 := blk_frozen BK234.out 2))
 go_ret
 exact ⟨by first | rfl | (simp [errW_none, errW_some] <;> rfl) | (simp [*, errW_none, errW_some] <;> rfl), by repeat (first | (with_reducible first | exact HB.out | apply below_alloc | apply pw_below_drewN | apply below_drew1 | refine below_set ?_ GE234.out) | exact HB.out)⟩
def dec_must.f (l0 : List Int) (a1 : Int) : Option (List Int) := some l0
set_option maxHeartbeats 8000000 in
theorem dec_must.calls (P0_ : Nat → Prop) (u9000_ : Value) (l0 : List Int) (a1 : Int) (r : List Int) (w0 w : World) (hB : Below w0.heap.size w0 w) (ho0 : Kd.R (Kd.int .u32) 131 w w0.heap.size P0_ u9000_ l0) (h : dec_must.f l0 a1 = some r) :
 Calls Tryz.prog 176 #[u9000_, .int .i64 a1] w fun e w' => ∃ v0_ : Value, e = .returned (v0_) ∧ Kd.R (Kd.int .u32) 131 w' w0.heap.size (fun k_ => (P0_ k_ ∨ w.heap.size ≤ k_)) v0_ r ∧ Below w0.heap.size w0 w' ∧ Kept w w' (fun k_ => P0_ k_) := by
 have HO0 := Aside0.mk (show Kd.R (Kd.int .u32) 131 w w0.heap.size (fun k_ => (P0_ k_ ∨ w.heap.size ≤ k_)) u9000_ l0 from Kd.R_mono ho0 (fun k_ hk => (.inl hk)))
 have HK := Aside0.mk (Kept.refl w (fun k_ => P0_ k_))
 have HW0 := Aside0.mk hB.size
 have HB := Aside0.mk hB
 clear hB
 have H : (some l0) = some r := h
 clear h
 obtain rfl := Option.some.inj H
 go_enter Tryz.func176, Tryz.ntmps176
 go_wp2
 go_ret
 exact ⟨_, by first | rfl | (simp [errW_none, errW_some] <;> rfl) | (simp [*, errW_none, errW_some] <;> rfl), by (with_reducible repeat (first | apply Kd.R_alloc | apply Kd.R_drewN | apply Kd.R_drew)); exact HO0.out, by repeat (first | (with_reducible first | exact HB.out | apply below_alloc | apply pw_below_drewN | apply below_drew1) | exact HB.out), by repeat (first | (with_reducible first | exact HK.out | apply Kept.alloc | apply Kept.drewN | apply Kept.drew) | exact HK.out)⟩
def api_Errno.l0 : Nat → Int → List Int → Int → Int → Option (Int)
 | 0, _, _, _, _ => none
 | k + 1, x3, x6, x7, x8 => if x8 < x7 then (if 0 ≤ x8 then (if x8 < (x6.length : Int) then (if (rd x6 x8) = x3 then (api_Errno.l0 k x3 x6 x7 (wrap64 (x8 + 1))) else (some (rd x6 x8))) else (none)) else (none)) else (some x3)
def api_Errno.f (k : Nat) (l0 : List Int) : Option (Int) := api_Errno.l0 k 0 l0 (l0.length : Int) 0
theorem api_Errno.mono_l : ∀ k, (∀ y0 y1 y2 y3, LeO (api_Errno.l0 k y0 y1 y2 y3) (api_Errno.l0 (k + 1) y0 y1 y2 y3))
 | 0 => fun _ _ _ _ r h => by simp [api_Errno.l0] at h
 | k + 1 => by
  have ih0 := api_Errno.mono_l k
  · intro y0 y1 y2 y3
    unfold api_Errno.l0
    repeat' first
    | (with_reducible exact ih0 _ _ _ _)
    | (with_reducible exact LeO.refl _)
    | (with_reducible exact LeO.none _)
    | (with_reducible refine LeO.ite ?_ ?_)
    | (with_reducible refine LeO.bind ?_ (fun _ => ?_))
    | exact ih0 _ _ _ _
    | exact LeO.none _
    | refine LeO.ite ?_ ?_
    | refine LeO.bind ?_ (fun _ => ?_)
theorem api_Errno.mono : ∀ a0 k, LeO (api_Errno.f k a0) (api_Errno.f (k + 1) a0) := by
 intro a0 k
 have ih0 := api_Errno.mono_l k
 unfold api_Errno.f
 repeat' first
  | (with_reducible exact ih0 _ _ _ _)
  | (with_reducible exact LeO.refl _)
  | (with_reducible exact LeO.none _)
  | (with_reducible refine LeO.ite ?_ ?_)
  | (with_reducible refine LeO.bind ?_ (fun _ => ?_))
  | exact ih0 _ _ _ _
  | exact LeO.none _
  | refine LeO.ite ?_ ?_
  | refine LeO.bind ?_ (fun _ => ?_)
set_option maxHeartbeats 8000000 in
theorem api_Errno.calls (k : Nat) (A0 : Option Addr) (c0 : Nat) (l0 : List Int) (r : Int) (w : World) (hr0 : Kd.C (Kd.int .i64) w A0 l0.length l0) (hc0 : l0.length ≤ c0) (h : api_Errno.f k l0 = some r) :
 Calls Tryz.prog 61 #[.slice A0 l0.length c0] w fun e w' => e = .returned (.int .i64 r) ∧ Drawn0 w w' := by
 have HR0 := Aside0.mk hr0
 have HC0 := Aside0.mk hc0
 clear hr0 hc0
 have H : (api_Errno.l0 k 0 l0 (l0.length : Int) 0) = some r := h
 clear h
 have H' := Aside0.mk H
 clear H
 go_enter Tryz.func61, Tryz.ntmps61
 go_wp2
 go_loopg [8] k (fun kq v8 w' => ∃ (x8_1 : Int), v8 = .int .i64 x8_1 ∧ Aside0 (api_Errno.l0 kq 0 l0 (l0.length : Int) x8_1 = some r) ∧ Aside0 (kq ≤ k) ∧ Drawn0 w w')
 case atStart => exact ⟨(0), (by first | rfl | (simp; done) | (simp [*]; done)), H', ⟨Nat.le_refl _⟩, by repeat (first | exact Drawn0.refl _ | apply Drawn0.step)⟩
 case round =>
  clear H'
  obtain ⟨x8_1, rfl, HA, HK1, ⟨m1, rfl⟩⟩ := hrel
  cases gk with
  | zero => exact absurd HA.out (by simp [api_Errno.l0])
  | succ k1 =>
   have H := HA.out
   clear HA
   simp only [api_Errno.l0] at H
   by_cases c2 : x8_1 < (l0.length : Int)
   · rw [if_pos c2] at H
     have c2b0 : decide (x8_1 < (l0.length : Int)) = true := decide_eq_true c2
     clear c2
     by_cases c3 : 0 ≤ x8_1
     · rw [if_pos c3] at H
       have c3b0 : decide (0 ≤ x8_1) = true := decide_eq_true c3
       clear c3
       by_cases c4 : x8_1 < (l0.length : Int)
       · rw [if_pos c4] at H
         have c4b0 : decide (x8_1 < (l0.length : Int)) = true := decide_eq_true c4
         clear c4
         by_cases c5 : (rd l0 x8_1) = 0
         · rw [if_pos c5] at H
           have c5b0 : ((rd l0 x8_1) == 0) = true := beq_iff_eq.mpr c5
           have c5b1 : ((rd l0 x8_1) != 0) = false := bne_eq_false_iff_eq.mpr c5
           clear c5
           have H' := Aside0.mk H
           clear H
           have p235 : 0 ≤ (x8_1 : Int) := of_decide_eq_true (by first | (with_reducible assumption) | assumption)
           have q235 : x8_1 < (l0.length : Int) := of_decide_eq_true (by first | (with_reducible assumption) | assumption)
           obtain ⟨ad235, e235, hx235_0⟩ := Kd.at_int HR0.out x8_1 p235 q235
           cases e235
           replace p235 := eq_true p235
           replace q235 := eq_true q235
           go_wp2
           go_roundg k1
           case measure => have := HK1.out; omega
           case rel => exact ⟨(wrap64 (x8_1 + 1)), (by first | rfl | (simp; done) | (simp [*]; done)), H', ⟨by have := HK1.out; omega⟩, by repeat (first | exact Drawn0.refl _ | apply Drawn0.step)⟩
         · rw [if_neg c5] at H
           have c5b0 : ((rd l0 x8_1) == 0) = false := beq_eq_false_iff_ne.mpr c5
           have c5b1 : ((rd l0 x8_1) != 0) = true := bne_iff_ne.mpr c5
           obtain rfl := Option.some.inj H
           have p235 : 0 ≤ (x8_1 : Int) := of_decide_eq_true (by first | (with_reducible assumption) | assumption)
           have q235 : x8_1 < (l0.length : Int) := of_decide_eq_true (by first | (with_reducible assumption) | assumption)
           obtain ⟨ad235, e235, hx235_0⟩ := Kd.at_int HR0.out x8_1 p235 q235
           cases e235
           replace p235 := eq_true p235
           replace q235 := eq_true q235
           go_wp2
           go_ret
           exact ⟨by first | rfl | (simp; done) | (simp [*]; done), by repeat (first | exact Drawn0.refl _ | apply Drawn0.step)⟩
       · rw [if_neg c4] at H
         exact absurd H (by simp)
     · rw [if_neg c3] at H
       exact absurd H (by simp)
   · rw [if_neg c2] at H
     have c2b0 : decide (x8_1 < (l0.length : Int)) = false := decide_eq_false c2
     clear c2
     obtain rfl := Option.some.inj H
     go_wp2
     go_ret
     exact ⟨by first | rfl | (simp; done) | (simp [*]; done), by repeat (first | exact Drawn0.refl _ | apply Drawn0.step)⟩
def nat_Check.f (l0 : List Int) : Option (Int) := if (l0.length : Int) > 256 then (some 5) else (if (l0.length : Int) > 0 then (if 0 ≤ (wrap64 ((l0.length : Int) - 1)) then (if (wrap64 ((l0.length : Int) - 1)) < (l0.length : Int) then (if (rd l0 (wrap64 ((l0.length : Int) - 1))) = 0 then (some 9) else (some 0)) else (none)) else (none)) else (some 0))
set_option maxHeartbeats 8000000 in
theorem nat_Check.calls (A0 : Option Addr) (c0 : Nat) (l0 : List Int) (r : Int) (w : World) (hr0 : Kd.C (Kd.int .u32) w A0 l0.length l0) (hc0 : l0.length ≤ c0) (h : nat_Check.f l0 = some r) :
 Calls Tryz.prog 219 #[.slice A0 l0.length c0] w fun e w' => e = .returned (.int .i64 r) ∧ Drawn0 w w' := by
 have HR0 := Aside0.mk hr0
 have HC0 := Aside0.mk hc0
 clear hr0 hc0
 have H : (if (l0.length : Int) > 256 then (some 5) else (if (l0.length : Int) > 0 then (if 0 ≤ (wrap64 ((l0.length : Int) - 1)) then (if (wrap64 ((l0.length : Int) - 1)) < (l0.length : Int) then (if (rd l0 (wrap64 ((l0.length : Int) - 1))) = 0 then (some 9) else (some 0)) else (none)) else (none)) else (some 0))) = some r := h
 clear h
 by_cases c2 : (l0.length : Int) > 256
 · rw [if_pos c2] at H
   have c2b0 : decide (256 < (l0.length : Int)) = true := decide_eq_true c2
   have c2b1 : decide (256 < l0.length) = true := decide_eq_true (by omega)
   clear c2
   obtain rfl := Option.some.inj H
   go_enter Tryz.func219, Tryz.ntmps219
   go_wp2
   go_ret
   exact ⟨by first | rfl | (simp; done) | (simp [*]; done), by repeat (first | exact Drawn0.refl _ | apply Drawn0.step)⟩
 · rw [if_neg c2] at H
   have c2b0 : decide (256 < (l0.length : Int)) = false := decide_eq_false c2
   have c2b1 : decide (256 < l0.length) = false := decide_eq_false (by omega)
   clear c2
   by_cases c3 : (l0.length : Int) > 0
   · rw [if_pos c3] at H
     have c3b0 : decide (0 < (l0.length : Int)) = true := decide_eq_true c3
     have c3b1 : decide (0 < l0.length) = true := decide_eq_true (by omega)
     clear c3
     obtain ⟨ji4, hji4⟩ : ∃ j_ : Int, (wrap64 ((l0.length : Int) - 1)) = j_ := ⟨_, rfl⟩
     replace H : (if 0 ≤ (ji4) then (if (ji4) < (l0.length : Int) then (if (rd l0 (ji4)) = 0 then (some 9) else (some 0)) else (none)) else (none)) = some r := by first | (rw [hji4] at H; exact H) | (simp only [hji4] at H ⊢; exact H)
     have hji4w : (IntKind.i64.wrap ((l0.length : Int) - 1)) = ji4 := (i64_w _).trans hji4
     by_cases c5 : 0 ≤ (ji4)
     · rw [if_pos c5] at H
       have c5b0 : decide (0 ≤ (ji4)) = true := decide_eq_true c5
       clear c5
       by_cases c6 : (ji4) < (l0.length : Int)
       · rw [if_pos c6] at H
         have c6b0 : decide ((ji4) < (l0.length : Int)) = true := decide_eq_true c6
         clear c6
         by_cases c7 : (rd l0 (ji4)) = 0
         · rw [if_pos c7] at H
           have c7b0 : ((rd l0 (ji4)) == 0) = true := beq_iff_eq.mpr c7
           have c7b1 : ((rd l0 (ji4)) != 0) = false := bne_eq_false_iff_eq.mpr c7
           clear c7
           obtain rfl := Option.some.inj H
           have p236 : 0 ≤ ((ji4) : Int) := of_decide_eq_true (by first | (with_reducible assumption) | assumption)
           have q236 : (ji4) < (l0.length : Int) := of_decide_eq_true (by first | (with_reducible assumption) | assumption)
           obtain ⟨ad236, e236, hx236_0⟩ := Kd.at_int HR0.out (ji4) p236 q236
           cases e236
           replace p236 := eq_true p236
           replace q236 := eq_true q236
           go_enter Tryz.func219, Tryz.ntmps219
           go_wp2
           go_ret
           exact ⟨by first | rfl | (simp; done) | (simp only [← hji4] <;> (first | rfl | simp)) | (simp [*]; done), by repeat (first | exact Drawn0.refl _ | apply Drawn0.step)⟩
         · rw [if_neg c7] at H
           have c7b0 : ((rd l0 (ji4)) == 0) = false := beq_eq_false_iff_ne.mpr c7
           have c7b1 : ((rd l0 (ji4)) != 0) = true := bne_iff_ne.mpr c7
           obtain rfl := Option.some.inj H
           have p236 : 0 ≤ ((ji4) : Int) := of_decide_eq_true (by first | (with_reducible assumption) | assumption)
           have q236 : (ji4) < (l0.length : Int) := of_decide_eq_true (by first | (with_reducible assumption) | assumption)
           obtain ⟨ad236, e236, hx236_0⟩ := Kd.at_int HR0.out (ji4) p236 q236
           cases e236
           replace p236 := eq_true p236
           replace q236 := eq_true q236
           go_enter Tryz.func219, Tryz.ntmps219
           go_wp2
           go_ret
           exact ⟨by first | rfl | (simp; done) | (simp only [← hji4] <;> (first | rfl | simp)) | (simp [*]; done), by repeat (first | exact Drawn0.refl _ | apply Drawn0.step)⟩
       · rw [if_neg c6] at H
         exact absurd H (by simp)
     · rw [if_neg c5] at H
       exact absurd H (by simp)
   · rw [if_neg c3] at H
     have c3b0 : decide (0 < (l0.length : Int)) = false := decide_eq_false c3
     have c3b1 : decide (0 < l0.length) = false := decide_eq_false (by omega)
     clear c3
     obtain rfl := Option.some.inj H
     go_enter Tryz.func219, Tryz.ntmps219
     go_wp2
     go_ret
     exact ⟨by first | rfl | (simp; done) | (simp [*]; done), by repeat (first | exact Drawn0.refl _ | apply Drawn0.step)⟩
def nat_two.f (k : Nat) (l0 : List Int) (l1 : List Int) : Option (Int) := (nat_Check.f l0).bind fun t237 => ((nat_Check.f l1).bind fun t238 => ((api_Errno.f k (([t237, t238] : List Int))).bind fun t242 => (some t242)))
theorem nat_two.mono : ∀ a0 a1 k, LeO (nat_two.f k a0 a1) (nat_two.f (k + 1) a0 a1) := by
 intro a0 a1 k
 unfold nat_two.f
 repeat' first
  | (with_reducible exact api_Errno.mono _ _)
  | (with_reducible exact LeO.refl _)
  | (with_reducible exact LeO.none _)
  | (with_reducible refine LeO.ite ?_ ?_)
  | (with_reducible refine LeO.bind ?_ (fun _ => ?_))
  | exact api_Errno.mono _ _
  | exact LeO.none _
  | refine LeO.ite ?_ ?_
  | refine LeO.bind ?_ (fun _ => ?_)
set_option maxHeartbeats 8000000 in
theorem nat_two.calls (k : Nat) (A0 : Option Addr) (c0 : Nat) (l0 : List Int) (A1 : Option Addr) (c1 : Nat) (l1 : List Int) (r : Int) (w : World) (hr0 : Kd.C (Kd.int .u32) w A0 l0.length l0) (hc0 : l0.length ≤ c0) (hr1 : Kd.C (Kd.int .u32) w A1 l1.length l1) (hc1 : l1.length ≤ c1) (h : nat_two.f k l0 l1 = some r) :
 Calls Tryz.prog 224 #[.slice A0 l0.length c0, .slice A1 l1.length c1] w fun e w' => e = .returned (.int .i64 r) ∧ Below w.heap.size w w' := by
 have HR0 := Aside0.mk hr0
 have HC0 := Aside0.mk hc0
 clear hr0 hc0
 have HR1 := Aside0.mk hr1
 have HC1 := Aside0.mk hc1
 clear hr1 hc1
 have HB := Aside0.mk (Below.refl w.heap.size w)
 have H : ((nat_Check.f l0).bind fun t237 => ((nat_Check.f l1).bind fun t238 => ((api_Errno.f k (([t237, t238] : List Int))).bind fun t242 => (some t242)))) = some r := h
 clear h
 replace H := Option.bind_eq_some_iff.mp H
 obtain ⟨t237, A30, H⟩ := H
 replace H : ((nat_Check.f l1).bind fun t238 => ((api_Errno.f k (([t237, t238] : List Int))).bind fun t242 => (some t242))) = some r := H
 have A3 := Aside0.mk A30
 clear A30
 replace H := Option.bind_eq_some_iff.mp H
 obtain ⟨t238, A40, H⟩ := H
 replace H : ((api_Errno.f k (([t237, t238] : List Int))).bind fun t242 => (some t242)) = some r := H
 have A4 := Aside0.mk A40
 clear A40
 obtain ⟨y239, hy239⟩ : ∃ y_ : List Int, y_ = (([t237, t238] : List Int)) := ⟨_, rfl⟩
 replace H : ((api_Errno.f k y239).bind fun t242 => (some t242)) = some r := by first | (rw [hy239]; with_reducible exact H) | (have H2_ := (Option.bind_some _ _).symm.trans H; rw [hy239]; with_reducible exact H2_) | (have H2_ := (Option.bind_some _ _).symm.trans H; with_reducible exact H2_) | with_reducible exact H | (rw [hy239]; exact H) | exact H
 have Ny239 := Aside0.mk hy239
 clear hy239
 replace H := Option.bind_eq_some_iff.mp H
 obtain ⟨t242, A50, H⟩ := H
 replace H : (some t242) = some r := H
 have A5 := Aside0.mk A50
 clear A50
 obtain rfl := Option.some.inj H
 go_enter Tryz.func224, Tryz.ntmps224
 go_wp2_with (first | ((with_reducible refine gate_callee (f := 219) rfl ?_); refine goesL_ (some 6) rfl rfl Tryz.func219 (by kernel_rfl) rfl #[.slice A0 l0.length c0] rfl (by (try simp only [List.map_toArray, List.map_cons, List.map_nil]); first | done | rfl | (simp only [List.length_drop, List.length_take]; rfl)) ?_; (with_reducible refine (nat_Check.calls _ _ l0 t237 _ ?side1 ?side2 A3.out).mono ?_); (case side1 => repeat (first | exact HR0.out | (with_reducible refine Kd.C_alloc ?_ _) | (with_reducible refine Kd.C_drewN ?_ _) | (with_reducible refine Kd.C_drew ?_))); (case side2 => exact HC0.out); rintro e w' ⟨rfl, ⟨nd, rfl⟩⟩; refine ⟨_, rfl, ?_⟩) | ((with_reducible refine gate_callee (f := 219) rfl ?_); refine goesL_ (some 8) rfl rfl Tryz.func219 (by kernel_rfl) rfl #[.slice A1 l1.length c1] rfl (by (try simp only [List.map_toArray, List.map_cons, List.map_nil]); first | done | rfl | (simp only [List.length_drop, List.length_take]; rfl)) ?_; (with_reducible refine (nat_Check.calls _ _ l1 t238 _ ?side1 ?side2 A4.out).mono ?_); (case side1 => repeat (first | exact HR1.out | (with_reducible refine Kd.C_alloc ?_ _) | (with_reducible refine Kd.C_drewN ?_ _) | (with_reducible refine Kd.C_drew ?_))); (case side2 => exact HC1.out); rintro e w' ⟨rfl, ⟨nd, rfl⟩⟩; refine ⟨_, rfl, ?_⟩) | ((with_reducible refine gate_dst (N := 9) rfl ?_); refine Kd.R_lit (Kd.int .i64) _ 30 ?hg (N := 9) ?hd (xs := ([t237, t238] : List Int)) (inner := [.int .i64 t237, .int .i64 t238]) (ok := fun _ => True) (okp := fun _ => True) ?hr ?hp (fun _ hk => hk) trivial (Below.refl _ _) (Nat.le_refl _) (by simp) ?_; (case hd => rfl); (case hg => rfl); (case hr => first | (go_simp; done) | (go_simp; rfl)); (case hp => exact (Reps.one (show Kd.M (Kd.int .i64) _ _ _ t237 [.int .i64 t237] from rfl) (Reps.one (show Kd.M (Kd.int .i64) _ _ _ t238 [.int .i64 t238] from rfl) (Reps.none _ _)))); intro v240 w6 ho7 hb hg_ hnew_; clear hg_ hnew_; (first | rw [← Ny239.out] at ho7 | (simp only [Int.reduceToNat] at ho7; rw [← Ny239.out] at ho7)); have n0_ := Aside0.mk (Kd.R_lower ho7 (below_size (by repeat (first | (with_reducible first | exact HB.out | apply below_alloc | apply pw_below_drewN | apply below_drew1) | exact HB.out)))); have n1_ := Aside0.mk (below_step (by repeat (first | (with_reducible first | exact HB.out | apply below_alloc | apply pw_below_drewN | apply below_drew1) | exact HB.out)) hb); clear HB; have HO241 := n0_; have HB := n1_; clear n0_ n1_; clear hb ho7; obtain ⟨Ao8, co8, eo8⟩ := Kd.R_slice HO241.out; subst eo8) | ((with_reducible refine gate_callee (f := 61) rfl ?_); refine goesL_ (some 10) rfl rfl Tryz.func61 (by kernel_rfl) rfl #[.slice Ao8 y239.length co8] rfl (by (try simp only [List.map_toArray, List.map_cons, List.map_nil]); first | done | rfl | (simp only [List.length_drop, List.length_take]; rfl)) ?_; (with_reducible refine (api_Errno.calls k _ _ y239 t242 _ ?side1 ?side2 A5.out).mono ?_); (case side1 => repeat (first | exact (Kd.R_reads' HO241.out).2.2 | (with_reducible refine Kd.C_alloc ?_ _) | (with_reducible refine Kd.C_drewN ?_ _) | (with_reducible refine Kd.C_drew ?_))); (case side2 => exact (Kd.R_reads' HO241.out).2.1); rintro e w' ⟨rfl, ⟨nd, rfl⟩⟩; refine ⟨_, rfl, ?_⟩))
 go_ret
 exact ⟨by first | rfl | (simp [errW_none, errW_some] <;> rfl) | (simp [*, errW_none, errW_some] <;> rfl), by repeat (first | (with_reducible first | exact HB.out | apply below_alloc | apply pw_below_drewN | apply below_drew1) | exact HB.out)⟩
def nat_fits.f (l0 : List Int) : Option (List Int × Int) := if (l0.length : Int) > 256 then (some (([] : List Int), 51)) else (some (l0, 0))
set_option maxHeartbeats 8000000 in
theorem nat_fits.calls (P0_ : Nat → Prop) (u9000_ : Value) (l0 : List Int) (r1 : List Int) (r2 : Int) (w0 w : World) (hB : Below w0.heap.size w0 w) (ho0 : Kd.R (Kd.int .u32) 131 w w0.heap.size P0_ u9000_ l0) (h : nat_fits.f l0 = some (r1, r2)) :
 Calls Tryz.prog 225 #[u9000_] w fun e w' => ∃ v0_ : Value, e = .returned (.tuple #[v0_, .int .i64 r2]) ∧ Kd.R (Kd.int .u32) 131 w' w0.heap.size (fun k_ => (P0_ k_ ∨ w.heap.size ≤ k_)) v0_ r1 ∧ Below w0.heap.size w0 w' ∧ Kept w w' (fun k_ => P0_ k_) := by
 have HO0 := Aside0.mk (show Kd.R (Kd.int .u32) 131 w w0.heap.size (fun k_ => (P0_ k_ ∨ w.heap.size ≤ k_)) u9000_ l0 from Kd.R_mono ho0 (fun k_ hk => (.inl hk)))
 have HK := Aside0.mk (Kept.refl w (fun k_ => P0_ k_))
 have HW0 := Aside0.mk hB.size
 have HB := Aside0.mk hB
 clear hB
 have H : (if (l0.length : Int) > 256 then (some (([] : List Int), 51)) else (some (l0, 0))) = some (r1, r2) := h
 clear h
 by_cases c2 : (l0.length : Int) > 256
 · rw [if_pos c2] at H
   have c2b0 : decide (256 < (l0.length : Int)) = true := decide_eq_true c2
   have c2b1 : decide (256 < l0.length) = true := decide_eq_true (by omega)
   clear c2
   simp only [Option.some.injEq, Prod.mk.injEq] at H
   obtain ⟨rfl, rfl⟩ := H
   obtain ⟨Ao3, co3, eo3⟩ := Kd.R_slice HO0.out
   subst eo3
   go_enter Tryz.func225, Tryz.ntmps225
   go_wp2
   go_ret2
   exact ⟨_, by first | rfl | (simp [errW_none, errW_some] <;> rfl) | (simp [*, errW_none, errW_some] <;> rfl), by first | exact Kd.R_nil _ _ _ _ _ | exact Kd.N_nil _ _ _ _ _ | exact Kd.V_nil _ _ _ _ _ | exact Kd.Q_nil _ _ _ _ _ | exact Kd.S_nil _ _ _ _ _, by repeat (first | (with_reducible first | exact HB.out | apply below_alloc | apply pw_below_drewN | apply below_drew1) | exact HB.out), by repeat (first | (with_reducible first | exact HK.out | apply Kept.alloc | apply Kept.drewN | apply Kept.drew) | exact HK.out)⟩
 · rw [if_neg c2] at H
   have c2b0 : decide (256 < (l0.length : Int)) = false := decide_eq_false c2
   have c2b1 : decide (256 < l0.length) = false := decide_eq_false (by omega)
   clear c2
   simp only [Option.some.injEq, Prod.mk.injEq] at H
   obtain ⟨rfl, rfl⟩ := H
   obtain ⟨Ao4, co4, eo4⟩ := Kd.R_slice HO0.out
   subst eo4
   go_enter Tryz.func225, Tryz.ntmps225
   go_wp2
   go_ret2
   exact ⟨_, by first | rfl | (simp [errW_none, errW_some] <;> rfl) | (simp [*, errW_none, errW_some] <;> rfl), by (with_reducible repeat (first | apply Kd.R_alloc | apply Kd.R_drewN | apply Kd.R_drew)); exact HO0.out, by repeat (first | (with_reducible first | exact HB.out | apply below_alloc | apply pw_below_drewN | apply below_drew1) | exact HB.out), by repeat (first | (with_reducible first | exact HK.out | apply Kept.alloc | apply Kept.drewN | apply Kept.drew) | exact HK.out)⟩
end Go.Proofs.YthigbklhngihkaaGreatDoor.P

/- nat's takeOff and putBack: contracts, on a part of a row of the call's own. -/
import Derived.Test.YtdbnpaloalhciaaNa
import Derived.Test.YtdbnpaloalhciaaNt
import Derived.OwnWalk
import Derived.Laws.OwnMore
import Derived.Test.YtdbnpaloalhciaaPe
import Derived.Test.YtdbnpaloalhciaaNd
import Derived.Test.YtdbnpaloalhciaaPx21
import Derived.Test.YtdbnpaloalhciaaPx22
import Derived.Test.YtdbnpaloalhciaaPx20
import Derived.StillTail
namespace Go.Proofs.Ytdbnpaloalhciaa.P
set_option linter.unusedVariables false
set_option linter.unusedSimpArgs false
open Go.RowKit Go.Proofs.YtdbnpaloalhciaaW.PrintWords Go.Proofs.YtdbnpaloalhciaaW.PrintMore Go.Proofs.YtdbnpaloalhciaaW.PrintLast
/-- q times v taken off from place off on, the first i limbs; what is carried, what is borrowed. -/
def toAt (us vs : List Int) (q : Int) (off : Nat) : Nat → List Int × Int × Int
  | 0 => (us, 0, 0)
  | i + 1 => ((toAt us vs q off i).1.set (off + i) (((toAt us vs q off i).1.getD (off + i) 0 - ((q * vs.getD i 0 + (toAt us vs q off i).2.1) % 18446744073709551616) % 4294967296 - (toAt us vs q off i).2.2) % 4294967296), ((q * vs.getD i 0 + (toAt us vs q off i).2.1) % 18446744073709551616) / 4294967296, if (toAt us vs q off i).1.getD (off + i) 0 < ((q * vs.getD i 0 + (toAt us vs q off i).2.1) % 18446744073709551616) % 4294967296 + (toAt us vs q off i).2.2 then 1 else 0)
def toEnd (us vs : List Int) (q : Int) (off : Nat) : List Int × Int :=
  ((toAt us vs q off vs.length).1.set (off + vs.length) (((toAt us vs q off vs.length).1.getD (off + vs.length) 0 - (toAt us vs q off vs.length).2.1 - (toAt us vs q off vs.length).2.2) % 4294967296), if (toAt us vs q off vs.length).1.getD (off + vs.length) 0 < (toAt us vs q off vs.length).2.1 + (toAt us vs q off vs.length).2.2 then 1 else 0)
theorem toAt_ok {us vs : List Int} {q : Int} (off : Nat) (hu : okL us) (hv : okL vs) (hq : 0 ≤ q) : ∀ i, okL (toAt us vs q off i).1 ∧ (toAt us vs q off i).1.length = us.length ∧ (0 ≤ (toAt us vs q off i).2.1 ∧ (toAt us vs q off i).2.1 < 4294967296) ∧ (0 ≤ (toAt us vs q off i).2.2 ∧ (toAt us vs q off i).2.2 ≤ 1)
  | 0 => ⟨hu, rfl, by simp [toAt], by simp [toAt]⟩
  | i + 1 => by
    obtain ⟨h1, h2, h3, h4⟩ := toAt_ok off hu hv hq i
    unfold toAt
    refine ⟨okL_set h1 _ (by omega) (by omega), by rw [List.length_set, h2], by simp only []; omega, ?_⟩
    simp only []
    split <;> omega
theorem to_digit (u Z b : Int) (hu : 0 ≤ u ∧ u < 4294967296) (hZ : 0 ≤ Z) (hb : 0 ≤ b ∧ b ≤ 1) :
    ((u - Z % 4294967296 - b) % 4294967296).toNat + (Z.toNat + b.toNat) = u.toNat + 4294967296 * ((Z / 4294967296).toNat + (if u < Z % 4294967296 + b then (1 : Int) else 0).toNat) := by
  split <;> omega
theorem to_step (T T0 Ti q x c b u d c' b' vu v1 v0 V : Nat) (hT : T = T0 * Ti) (hset : v1 + T * u = v0 + T * d) (ih : v0 + T0 * (q * V) = vu + T * (c + b)) (hd : d + (q * x + (c + b)) = u + 4294967296 * (c' + b')) :
    v1 + T0 * (q * (V + Ti * x)) = vu + T * 4294967296 * (c' + b') := by
  have e1 := congrArg (fun z => T * z) hd
  have e2 : T0 * (q * (V + Ti * x)) = T0 * (q * V) + T * (q * x) := by rw [hT, Nat.mul_add, Nat.mul_add, Nat.mul_left_comm q Ti, Nat.mul_assoc]
  rw [e2, Nat.mul_assoc]
  simp only [Nat.mul_add] at e1 ih ⊢
  omega
/-- What was taken off, by value. -/
theorem toAt_val {us vs : List Int} {q : Int} (off : Nat) (hu : okL us) (hv : okL vs) (hq : 0 ≤ q ∧ q < 4294967296) : ∀ i, off + i ≤ us.length → val (toAt us vs q off i).1 + 4294967296 ^ off * (q.toNat * val (vs.take i)) = val us + 4294967296 ^ (off + i) * ((toAt us vs q off i).2.1.toNat + (toAt us vs q off i).2.2.toNat)
  | 0, _ => by simp [toAt, val]
  | i + 1, hl => by
    have ih := toAt_val off hu hv hq i (by omega)
    obtain ⟨h1, h2, h3, h4⟩ := toAt_ok off hu hv hq.1 i
    have hx := okL_getD hv i
    have hg := okL_getD h1 (off + i)
    have hp0 : 0 ≤ q * vs.getD i 0 := Int.mul_nonneg hq.1 hx.1
    have hp1 : q * vs.getD i 0 ≤ 4294967295 * 4294967295 := Int.mul_le_mul (by omega) (by omega) hx.1 (by omega)
    have hmul : (q * vs.getD i 0).toNat = q.toNat * (vs.getD i 0).toNat := Int.toNat_mul hq.1 hx.1
    have hZ : ((q * vs.getD i 0 + (toAt us vs q off i).2.1) % 18446744073709551616).toNat = q.toNat * (vs.getD i 0).toNat + (toAt us vs q off i).2.1.toNat := by
      rw [Int.emod_eq_of_lt (by omega) (by omega), ← hmul]; omega
    have hdg := to_digit _ ((q * vs.getD i 0 + (toAt us vs q off i).2.1) % 18446744073709551616) _ hg (by omega) h4
    have hset := val_set (toAt us vs q off i).1 (off + i) (((toAt us vs q off i).1.getD (off + i) 0 - ((q * vs.getD i 0 + (toAt us vs q off i).2.1) % 18446744073709551616) % 4294967296 - (toAt us vs q off i).2.2) % 4294967296) (by omega)
    rw [hZ, Nat.add_assoc] at hdg
    rw [val_take_step, show off + (i + 1) = off + i + 1 by omega, Nat.pow_succ]
    exact to_step _ _ _ _ _ _ _ _ _ _ _ _ _ _ _ (Nat.pow_add _ _ _) hset ih hdg
theorem toEnd_ok {us vs : List Int} {q : Int} (off : Nat) (hu : okL us) (hv : okL vs) (hq : 0 ≤ q) : okL (toEnd us vs q off).1 ∧ (toEnd us vs q off).1.length = us.length ∧ (0 ≤ (toEnd us vs q off).2 ∧ (toEnd us vs q off).2 ≤ 1) := by
  obtain ⟨h1, h2, h3, h4⟩ := toAt_ok off hu hv hq vs.length
  unfold toEnd
  refine ⟨okL_set h1 _ (by omega) (by omega), by rw [List.length_set, h2], ?_⟩
  simp only []
  split <;> omega
theorem to_digit0 (u c b : Int) (hu : 0 ≤ u ∧ u < 4294967296) (hc : 0 ≤ c ∧ c < 4294967296) (hb : 0 ≤ b ∧ b ≤ 1) :
    ((u - c - b) % 4294967296).toNat + (c.toNat + b.toNat) = u.toNat + 4294967296 * (if u < c + b then (1 : Int) else 0).toNat := by
  split <;> omega
theorem to_last (T c b u d b' vu v1 v0 W : Nat) (hset : v1 + T * u = v0 + T * d) (ih : v0 + W = vu + T * (c + b)) (hd : d + (c + b) = u + 4294967296 * b') : v1 + W = vu + T * 4294967296 * b' := by
  have e1 := congrArg (fun z => T * z) hd
  rw [Nat.mul_assoc]
  simp only [Nat.mul_add] at e1 ih ⊢
  omega
theorem toEnd_val {us vs : List Int} {q : Int} (off : Nat) (hu : okL us) (hv : okL vs) (hq : 0 ≤ q ∧ q < 4294967296) (hl : off + vs.length < us.length) : val (toEnd us vs q off).1 + 4294967296 ^ off * (q.toNat * val vs) = val us + 4294967296 ^ (off + vs.length + 1) * (toEnd us vs q off).2.toNat := by
  have ih := toAt_val off hu hv hq vs.length (by omega)
  obtain ⟨h1, h2, h3, h4⟩ := toAt_ok off hu hv hq.1 vs.length
  have hg := okL_getD h1 (off + vs.length)
  rw [List.take_length] at ih
  have hset := val_set (toAt us vs q off vs.length).1 (off + vs.length) (((toAt us vs q off vs.length).1.getD (off + vs.length) 0 - (toAt us vs q off vs.length).2.1 - (toAt us vs q off vs.length).2.2) % 4294967296) (by omega)
  have hd := to_digit0 _ _ _ hg h3 h4
  rw [Nat.pow_succ]
  exact to_last _ _ _ _ _ _ _ _ _ _ hset ih hd
theorem toAt_take (us vs : List Int) (q : Int) (off : Nat) : ∀ i, (toAt us vs q off i).1.take off = us.take off
  | 0 => rfl
  | i + 1 => by unfold toAt; rw [List.take_set_of_le (by omega), toAt_take us vs q off i]
theorem toEnd_take (us vs : List Int) (q : Int) (off : Nat) : (toEnd us vs q off).1.take off = us.take off := by
  unfold toEnd; rw [List.take_set_of_le (by omega), toAt_take]
theorem toAt_drop (us vs : List Int) (q : Int) (off j : Nat) : ∀ i, off + i ≤ j → (toAt us vs q off i).1.drop j = us.drop j
  | 0, _ => rfl
  | i + 1, h => by unfold toAt; rw [List.drop_set_of_lt (by omega), toAt_drop us vs q off j i (by omega)]
theorem toEnd_drop (us vs : List Int) (q : Int) (off : Nat) : (toEnd us vs q off).1.drop (off + vs.length + 1) = us.drop (off + vs.length + 1) := by
  unfold toEnd; rw [List.drop_set_of_lt (by omega), toAt_drop _ _ _ _ _ _ (by omega)]
/-- v put back from place off on. -/
def pbAt (us vs : List Int) (off : Nat) : Nat → List Int × Int
  | 0 => (us, 0)
  | i + 1 => ((pbAt us vs off i).1.set (off + i) (((pbAt us vs off i).1.getD (off + i) 0 + vs.getD i 0 + (pbAt us vs off i).2) % 4294967296), ((pbAt us vs off i).1.getD (off + i) 0 + vs.getD i 0 + (pbAt us vs off i).2) / 4294967296)
def pbEnd (us vs : List Int) (off : Nat) : List Int := (pbAt us vs off vs.length).1.set (off + vs.length) (((pbAt us vs off vs.length).1.getD (off + vs.length) 0 + (pbAt us vs off vs.length).2) % 4294967296)
theorem pbAt_ok {us vs : List Int} (off : Nat) (hu : okL us) (hv : okL vs) : ∀ i, okL (pbAt us vs off i).1 ∧ (pbAt us vs off i).1.length = us.length ∧ (0 ≤ (pbAt us vs off i).2 ∧ (pbAt us vs off i).2 ≤ 1)
  | 0 => ⟨hu, rfl, by simp [pbAt]⟩
  | i + 1 => by
    obtain ⟨h1, h2, h3⟩ := pbAt_ok off hu hv i
    have hx := okL_getD hv i
    have hg := okL_getD h1 (off + i)
    unfold pbAt
    exact ⟨okL_set h1 _ (by omega) (by omega), by rw [List.length_set, h2], by simp only []; omega⟩
theorem pb_digit (s : Int) (hs : 0 ≤ s) : (s % 4294967296).toNat + 4294967296 * (s / 4294967296).toNat = s.toNat := by omega
theorem pb_step (T T0 Ti x c u d c' vu v1 v0 V : Nat) (hT : T = T0 * Ti) (hset : v1 + T * u = v0 + T * d) (ih : v0 + T * c = vu + T0 * V) (hd : d + 4294967296 * c' = u + x + c) :
    v1 + T * 4294967296 * c' = vu + T0 * (V + Ti * x) := by
  have e1 := congrArg (fun z => T * z) hd
  have e2 : T0 * (V + Ti * x) = T0 * V + T * x := by rw [hT, Nat.mul_add, Nat.mul_assoc]
  rw [e2, Nat.mul_assoc]
  simp only [Nat.mul_add] at e1 ih ⊢
  omega
theorem pbAt_val {us vs : List Int} (off : Nat) (hu : okL us) (hv : okL vs) : ∀ i, off + i ≤ us.length → val (pbAt us vs off i).1 + 4294967296 ^ (off + i) * (pbAt us vs off i).2.toNat = val us + 4294967296 ^ off * val (vs.take i)
  | 0, _ => by simp [pbAt, val]
  | i + 1, hl => by
    have ih := pbAt_val off hu hv i (by omega)
    obtain ⟨h1, h2, h3⟩ := pbAt_ok off hu hv i
    have hx := okL_getD hv i
    have hg := okL_getD h1 (off + i)
    have hset := val_set (pbAt us vs off i).1 (off + i) (((pbAt us vs off i).1.getD (off + i) 0 + vs.getD i 0 + (pbAt us vs off i).2) % 4294967296) (by omega)
    have hd := pb_digit ((pbAt us vs off i).1.getD (off + i) 0 + vs.getD i 0 + (pbAt us vs off i).2) (by omega)
    have hs : ((pbAt us vs off i).1.getD (off + i) 0 + vs.getD i 0 + (pbAt us vs off i).2).toNat = ((pbAt us vs off i).1.getD (off + i) 0).toNat + (vs.getD i 0).toNat + (pbAt us vs off i).2.toNat := by clear hset hd ih; omega
    rw [hs] at hd
    rw [val_take_step, show off + (i + 1) = off + i + 1 by omega, Nat.pow_succ]
    exact pb_step _ _ _ _ _ _ _ _ _ _ _ _ (Nat.pow_add _ _ _) hset ih hd
theorem pbEnd_ok {us vs : List Int} (off : Nat) (hu : okL us) (hv : okL vs) : okL (pbEnd us vs off) ∧ (pbEnd us vs off).length = us.length := by
  obtain ⟨h1, h2, h3⟩ := pbAt_ok off hu hv vs.length
  unfold pbEnd
  exact ⟨okL_set h1 _ (by omega) (by omega), by rw [List.length_set, h2]⟩
theorem pb_last (T c u d c' vu v1 v0 W : Nat) (hset : v1 + T * u = v0 + T * d) (ih : v0 + T * c = vu + W) (hd : d + 4294967296 * c' = u + c) : v1 + T * 4294967296 * c' = vu + W := by
  have e1 := congrArg (fun z => T * z) hd
  rw [Nat.mul_assoc]
  simp only [Nat.mul_add] at e1 ih ⊢
  omega
theorem pbEnd_val {us vs : List Int} (off : Nat) (hu : okL us) (hv : okL vs) (hl : off + vs.length < us.length) : ∃ c, val (pbEnd us vs off) + 4294967296 ^ (off + vs.length + 1) * c = val us + 4294967296 ^ off * val vs := by
  have ih := pbAt_val off hu hv vs.length (by omega)
  obtain ⟨h1, h2, h3⟩ := pbAt_ok off hu hv vs.length
  have hg := okL_getD h1 (off + vs.length)
  rw [List.take_length] at ih
  have hset := val_set (pbAt us vs off vs.length).1 (off + vs.length) (((pbAt us vs off vs.length).1.getD (off + vs.length) 0 + (pbAt us vs off vs.length).2) % 4294967296) (by omega)
  have hd := pb_digit ((pbAt us vs off vs.length).1.getD (off + vs.length) 0 + (pbAt us vs off vs.length).2) (by omega)
  have hs : ((pbAt us vs off vs.length).1.getD (off + vs.length) 0 + (pbAt us vs off vs.length).2).toNat = ((pbAt us vs off vs.length).1.getD (off + vs.length) 0).toNat + (pbAt us vs off vs.length).2.toNat := by clear hset hd ih; omega
  rw [hs] at hd
  have hfin := pb_last _ _ _ _ _ _ _ _ _ hset ih hd
  rw [← Nat.pow_succ] at hfin
  exact ⟨_, hfin⟩
theorem pbAt_take (us vs : List Int) (off : Nat) : ∀ i, (pbAt us vs off i).1.take off = us.take off
  | 0 => rfl
  | i + 1 => by unfold pbAt; rw [List.take_set_of_le (by omega), pbAt_take us vs off i]
theorem pbEnd_take (us vs : List Int) (off : Nat) : (pbEnd us vs off).take off = us.take off := by
  unfold pbEnd; rw [List.take_set_of_le (by omega), pbAt_take]
theorem pbAt_drop (us vs : List Int) (off j : Nat) : ∀ i, off + i ≤ j → (pbAt us vs off i).1.drop j = us.drop j
  | 0, _ => rfl
  | i + 1, h => by unfold pbAt; rw [List.drop_set_of_lt (by omega), pbAt_drop us vs off j i (by omega)]
theorem pbEnd_drop (us vs : List Int) (off : Nat) : (pbEnd us vs off).drop (off + vs.length + 1) = us.drop (off + vs.length + 1) := by
  unfold pbEnd; rw [List.drop_set_of_lt (by omega), pbAt_drop _ _ _ _ _ (by omega)]
/-! The walks -/
theorem rowInt (l : List Int) (j : Nat) (h : j < l.length) : (l.map (Value.int .u32))[j]? = some (.int .u32 (l.getD j 0)) := by
  rw [List.getElem?_map, List.getD_eq_getElem?_getD, List.getElem?_eq_getElem h]
  rfl
theorem grown_drewN (w : World) (n : Nat) (row : Option Nat) : w.grownBy (w.drewN n) row := ⟨rfl, rfl, rfl, Nat.le_refl _, fun _ _ _ => rfl⟩
set_option maxHeartbeats 4000000 in
set_option maxRecDepth 100000 in
theorem takeOff_in (base Bu N cap off Bv cv : Nat) (us vs : List Int) (q : Int) (w : World) (ho : w.ownsRow base 59 1 (.slice (some ⟨Bu, 0, none⟩) N cap) N (us.map (Value.int .u32))) (hN : us.length = N)
    (hv : ∀ i, i < vs.length → w.cell? ⟨Bv, i, none⟩ = some (.int .u32 (vs.getD i 0))) (hne : Bv ≠ Bu) (hu : okL us) (hvo : okL vs) (hq : 0 ≤ q ∧ q < 18446744073709551616) (hoff : off + vs.length < N) (hz : N ≤ 1152921504606846976) :
    Calls Try.prog 77 #[.slice (some ⟨Bu, off, none⟩) (N - off) (cap - off), .slice (some ⟨Bv, 0, none⟩) vs.length cv, .int .u64 q] w fun e w' => e = .returned (.int .u32 (toEnd us vs q off).2) ∧ w'.ownsRow base 59 1 (.slice (some ⟨Bu, 0, none⟩) N cap) N ((toEnd us vs q off).1.map (Value.int .u32)) ∧ w.grownBy w' (some Bu) := by
  have HO := Lib.hid ho
  have HV := Lib.hid hv
  have HU := Lib.hid hu
  have HVO := Lib.hid hvo
  have HOFF := Lib.hid hoff
  have HN := Lib.hid hN
  have hg0 : w.grownBy w (some Bu) := ⟨rfl, rfl, rfl, Nat.le_refl _, fun _ _ _ => rfl⟩
  clear ho hv hu hvo hN
  go_enter Try.func77, Try.ntmps77
  go_wp2
  go_loopw [7, 8, 14] (fun vc vb vi wr => ∃ i : Nat, i ≤ vs.length ∧ vi = .int .i64 i ∧ vc = .int .u64 (toAt us vs q off i).2.1 ∧ vb = .int .u32 (toAt us vs q off i).2.2 ∧ Hid (wr.ownsRow base 59 1 (.slice (some ⟨Bu, 0, none⟩) N cap) N ((toAt us vs q off i).1.map (Value.int .u32))) ∧ Hid (w.grownBy wr (some Bu))) (fun _ _ vi _ => vs.length - (intOf vi).toNat)
  case atStart => exact ⟨0, Nat.zero_le _, rfl, rfl, rfl, HO, Lib.hid hg0⟩
  case round =>
    clear hg0
    obtain ⟨i, hi, rfl, rfl, rfl, hO, hG⟩ := hrel
    by_cases hlt : i < vs.length
    · have hcv : wr.cell? ⟨Bv, i, none⟩ = some (.int .u32 (vs.getD i 0)) := hG.out.cell (HV.out i hlt) (by intro e; injection e with e; exact hne e)
      obtain ⟨h1, h2, h3, h4⟩ := toAt_ok off HU.out HVO.out hq.1 i
      have hoff2 := HOFF.out
      have hcu : wr.cell? ⟨Bu, off + i, none⟩ = some (.int .u32 ((toAt us vs q off i).1.getD (off + i) 0)) := by
        rw [hO.out.cellAt (off + i) (by omega)]
        exact rowInt _ _ (by have := HN.out; omega)
      have hfu : wr.frozen? ⟨Bu, off + i, none⟩ = false := hO.out.frozenAt (off + i)
      have hw2 : IntKind.i64.wrap ((i : Int) + 1) = ((i + 1 : Nat) : Int) := by rw [wrap_in _ (by omega)]; omega
      have hx := okL_getD HVO.out i
      have hg := okL_getD h1 (off + i)
      have hsub : Hid (bits_Sub32.f ((toAt us vs q off i).1.getD (off + i) 0) (((q * vs.getD i 0 + (toAt us vs q off i).2.1) % 18446744073709551616) % 4294967296) (toAt us vs q off i).2.2 = some (((toAt us vs q off i).1.getD (off + i) 0 - ((q * vs.getD i 0 + (toAt us vs q off i).2.1) % 18446744073709551616) % 4294967296 - (toAt us vs q off i).2.2) % 4294967296, if (toAt us vs q off i).1.getD (off + i) 0 < ((q * vs.getD i 0 + (toAt us vs q off i).2.1) % 18446744073709551616) % 4294967296 + (toAt us vs q off i).2.2 then 1 else 0)) := Lib.hid (by
        unfold bits_Sub32.f
        rw [if_pos ⟨hg, by omega, h4⟩])
      have hs1 : Hid (toAt us vs q off (i + 1) = ((toAt us vs q off i).1.set (off + i) (((toAt us vs q off i).1.getD (off + i) 0 - ((q * vs.getD i 0 + (toAt us vs q off i).2.1) % 18446744073709551616) % 4294967296 - (toAt us vs q off i).2.2) % 4294967296), ((q * vs.getD i 0 + (toAt us vs q off i).2.1) % 18446744073709551616) / 4294967296, if (toAt us vs q off i).1.getD (off + i) 0 < ((q * vs.getD i 0 + (toAt us vs q off i).2.1) % 18446744073709551616) % 4294967296 + (toAt us vs q off i).2.2 then 1 else 0)) := Lib.hid rfl
      have e1 : IntKind.u64.wrap (vs.getD i 0) = vs.getD i 0 := u64w hx.1 (by omega)
      have e3 : IntKind.u64.wrap (IntKind.u64.wrap (q * vs.getD i 0) + (toAt us vs q off i).2.1) = (q * vs.getD i 0 + (toAt us vs q off i).2.1) % 18446744073709551616 := by
        have : ∀ z : Int, IntKind.u64.wrap z = z % 18446744073709551616 := fun z => by simp [IntKind.wrap, IntKind.bits, IntKind.signed]
        rw [this, this, Int.emod_add_emod]
      have e4 : (0 : Int) ≤ (q * vs.getD i 0 + (toAt us vs q off i).2.1) % 18446744073709551616 := by omega
      clear h1 h2 h3 h4 hx hg
      obtain ⟨dd, hdd⟩ : ∃ v, ((toAt us vs q off i).1.getD (off + i) 0 - ((q * vs.getD i 0 + (toAt us vs q off i).2.1) % 18446744073709551616) % 4294967296 - (toAt us vs q off i).2.2) % 4294967296 = v := ⟨_, rfl⟩
      obtain ⟨bb, hbb⟩ : ∃ v : Int, (if (toAt us vs q off i).1.getD (off + i) 0 < ((q * vs.getD i 0 + (toAt us vs q off i).2.1) % 18446744073709551616) % 4294967296 + (toAt us vs q off i).2.2 then 1 else 0) = v := ⟨_, rfl⟩
      rw [hdd, hbb] at hsub hs1
      clear hdd hbb
      generalize toAt us vs q off i = s at *
      generalize vs.getD i 0 = x at *
      generalize hP : (q * x + s.2.1) % 18446744073709551616 = P at *
      generalize s.1.getD (off + i) 0 = u at *
      generalize s.2.2 = b at *
      go_wp2_with (first | (go_at_call 72; refine (bits_Sub32.calls u (P % 4294967296) b _ _ _ hsub.out).mono ?_; rintro e w' ⟨rfl, ⟨nd, rfl⟩⟩))
      have hst := World.ownsRow.stored (pw_own_drewN hO.out nd) (off + i) (.int .u32 dd)
      rw [← List.map_set] at hst
      refine ⟨⟨i + 1, by omega, by rw [Int.natCast_add]; rfl, by rw [hs1.out], by rw [hs1.out], Lib.hid ?_, Lib.hid ?_⟩, by simp [intOf]; omega⟩
      · rw [hs1.out]; exact hst.1
      · exact (World.grownBy.trans (World.grownBy.trans hG.out (grown_drewN _ nd _)) hst.2)
    · obtain rfl : i = vs.length := by omega
      obtain ⟨h1, h2, h3, h4⟩ := toAt_ok off HU.out HVO.out hq.1 vs.length
      have hoff2 := HOFF.out
      have hcu : wr.cell? ⟨Bu, off + vs.length, none⟩ = some (.int .u32 ((toAt us vs q off vs.length).1.getD (off + vs.length) 0)) := by
        rw [hO.out.cellAt (off + vs.length) (by omega)]
        exact rowInt _ _ (by have := HN.out; omega)
      have hfu : wr.frozen? ⟨Bu, off + vs.length, none⟩ = false := hO.out.frozenAt (off + vs.length)
      have hg := okL_getD h1 (off + vs.length)
      have hsub : Hid (bits_Sub32.f ((toAt us vs q off vs.length).1.getD (off + vs.length) 0) (toAt us vs q off vs.length).2.1 (toAt us vs q off vs.length).2.2 = some (((toAt us vs q off vs.length).1.getD (off + vs.length) 0 - (toAt us vs q off vs.length).2.1 - (toAt us vs q off vs.length).2.2) % 4294967296, if (toAt us vs q off vs.length).1.getD (off + vs.length) 0 < (toAt us vs q off vs.length).2.1 + (toAt us vs q off vs.length).2.2 then 1 else 0)) := Lib.hid (by
        unfold bits_Sub32.f
        rw [if_pos ⟨hg, h3, h4⟩])
      have hs1 : Hid (toEnd us vs q off = ((toAt us vs q off vs.length).1.set (off + vs.length) (((toAt us vs q off vs.length).1.getD (off + vs.length) 0 - (toAt us vs q off vs.length).2.1 - (toAt us vs q off vs.length).2.2) % 4294967296), if (toAt us vs q off vs.length).1.getD (off + vs.length) 0 < (toAt us vs q off vs.length).2.1 + (toAt us vs q off vs.length).2.2 then 1 else 0)) := Lib.hid rfl
      have hc0 : (toAt us vs q off vs.length).2.1 % 4294967296 = (toAt us vs q off vs.length).2.1 := by omega
      clear h1 h2 h3 h4 hg
      obtain ⟨dd, hdd⟩ : ∃ v, ((toAt us vs q off vs.length).1.getD (off + vs.length) 0 - (toAt us vs q off vs.length).2.1 - (toAt us vs q off vs.length).2.2) % 4294967296 = v := ⟨_, rfl⟩
      obtain ⟨bb, hbb⟩ : ∃ v : Int, (if (toAt us vs q off vs.length).1.getD (off + vs.length) 0 < (toAt us vs q off vs.length).2.1 + (toAt us vs q off vs.length).2.2 then 1 else 0) = v := ⟨_, rfl⟩
      rw [hdd, hbb] at hsub hs1
      clear hdd hbb
      generalize toAt us vs q off vs.length = s at *
      generalize s.1.getD (off + vs.length) 0 = u at *
      generalize s.2.2 = b at *
      generalize s.2.1 = c at *
      go_wp2_with (first | (go_at_call 72; refine (bits_Sub32.calls u c b _ _ _ hsub.out).mono ?_; rintro e w' ⟨rfl, ⟨nd, rfl⟩⟩))
      have hst := World.ownsRow.stored (pw_own_drewN hO.out nd) (off + vs.length) (.int .u32 dd)
      rw [← List.map_set] at hst
      go_ret
      rw [hs1.out]
      exact ⟨rfl, hst.1, World.grownBy.trans (World.grownBy.trans hG.out (grown_drewN _ nd _)) hst.2⟩
set_option maxHeartbeats 4000000 in
set_option maxRecDepth 100000 in
theorem putBack_in (base Bu N cap off Bv cv : Nat) (us vs : List Int) (w : World) (ho : w.ownsRow base 59 1 (.slice (some ⟨Bu, 0, none⟩) N cap) N (us.map (Value.int .u32))) (hN : us.length = N)
    (hv : ∀ i, i < vs.length → w.cell? ⟨Bv, i, none⟩ = some (.int .u32 (vs.getD i 0))) (hne : Bv ≠ Bu) (hu : okL us) (hvo : okL vs) (hoff : off + vs.length < N) (hz : N ≤ 1152921504606846976) :
    Calls Try.prog 78 #[.slice (some ⟨Bu, off, none⟩) (N - off) (cap - off), .slice (some ⟨Bv, 0, none⟩) vs.length cv] w fun e w' => e = .returned (.tuple #[]) ∧ w'.ownsRow base 59 1 (.slice (some ⟨Bu, 0, none⟩) N cap) N ((pbEnd us vs off).map (Value.int .u32)) ∧ w.grownBy w' (some Bu) := by
  have HO := Lib.hid ho
  have HV := Lib.hid hv
  have HU := Lib.hid hu
  have HVO := Lib.hid hvo
  have HOFF := Lib.hid hoff
  have HN := Lib.hid hN
  have hg0 : w.grownBy w (some Bu) := ⟨rfl, rfl, rfl, Nat.le_refl _, fun _ _ _ => rfl⟩
  clear ho hv hu hvo hN
  go_enter Try.func78, Try.ntmps78
  go_wp2
  go_loopw [4, 9] (fun vc vi wr => ∃ i : Nat, i ≤ vs.length ∧ vi = .int .i64 i ∧ vc = .int .u32 (pbAt us vs off i).2 ∧ Hid (wr.ownsRow base 59 1 (.slice (some ⟨Bu, 0, none⟩) N cap) N ((pbAt us vs off i).1.map (Value.int .u32))) ∧ Hid (w.grownBy wr (some Bu))) (fun _ vi _ => vs.length - (intOf vi).toNat)
  case atStart => exact ⟨0, Nat.zero_le _, rfl, rfl, HO, Lib.hid hg0⟩
  case round =>
    clear hg0
    obtain ⟨i, hi, rfl, rfl, hO, hG⟩ := hrel
    by_cases hlt : i < vs.length
    · have hcv : wr.cell? ⟨Bv, i, none⟩ = some (.int .u32 (vs.getD i 0)) := hG.out.cell (HV.out i hlt) (by intro e; injection e with e; exact hne e)
      obtain ⟨h1, h2, h3⟩ := pbAt_ok off HU.out HVO.out i
      have hoff2 := HOFF.out
      have hcu : wr.cell? ⟨Bu, off + i, none⟩ = some (.int .u32 ((pbAt us vs off i).1.getD (off + i) 0)) := by
        rw [hO.out.cellAt (off + i) (by omega)]
        exact rowInt _ _ (by have := HN.out; omega)
      have hfu : wr.frozen? ⟨Bu, off + i, none⟩ = false := hO.out.frozenAt (off + i)
      have hw2 : IntKind.i64.wrap ((i : Int) + 1) = ((i + 1 : Nat) : Int) := by rw [wrap_in _ (by omega)]; omega
      have hx := okL_getD HVO.out i
      have hg := okL_getD h1 (off + i)
      have hsub : Hid (bits_Add32.f ((pbAt us vs off i).1.getD (off + i) 0) (vs.getD i 0) (pbAt us vs off i).2 = some (((pbAt us vs off i).1.getD (off + i) 0 + vs.getD i 0 + (pbAt us vs off i).2) % 4294967296, ((pbAt us vs off i).1.getD (off + i) 0 + vs.getD i 0 + (pbAt us vs off i).2) / 4294967296)) := Lib.hid (by
        unfold bits_Add32.f
        rw [if_pos ⟨hg, hx, h3⟩])
      have hs1 : Hid (pbAt us vs off (i + 1) = ((pbAt us vs off i).1.set (off + i) (((pbAt us vs off i).1.getD (off + i) 0 + vs.getD i 0 + (pbAt us vs off i).2) % 4294967296), ((pbAt us vs off i).1.getD (off + i) 0 + vs.getD i 0 + (pbAt us vs off i).2) / 4294967296)) := Lib.hid rfl
      clear h1 h2 h3 hx hg
      obtain ⟨dd, hdd⟩ : ∃ v, ((pbAt us vs off i).1.getD (off + i) 0 + vs.getD i 0 + (pbAt us vs off i).2) % 4294967296 = v := ⟨_, rfl⟩
      obtain ⟨bb, hbb⟩ : ∃ v, ((pbAt us vs off i).1.getD (off + i) 0 + vs.getD i 0 + (pbAt us vs off i).2) / 4294967296 = v := ⟨_, rfl⟩
      rw [hdd, hbb] at hsub hs1
      clear hdd hbb
      generalize pbAt us vs off i = s at *
      generalize vs.getD i 0 = x at *
      generalize s.1.getD (off + i) 0 = u at *
      generalize s.2 = b at *
      go_wp2_with (first | (go_at_call 64; refine (bits_Add32.calls u x b _ _ _ hsub.out).mono ?_; rintro e w' ⟨rfl, ⟨nd, rfl⟩⟩))
      have hst := World.ownsRow.stored (pw_own_drewN hO.out nd) (off + i) (.int .u32 dd)
      rw [← List.map_set] at hst
      refine ⟨⟨i + 1, by omega, by rw [Int.natCast_add]; rfl, by rw [hs1.out], Lib.hid ?_, Lib.hid ?_⟩, by simp [intOf]; omega⟩
      · rw [hs1.out]; exact hst.1
      · exact (World.grownBy.trans (World.grownBy.trans hG.out (grown_drewN _ nd _)) hst.2)
    · obtain rfl : i = vs.length := by omega
      obtain ⟨h1, h2, h3⟩ := pbAt_ok off HU.out HVO.out vs.length
      have hoff2 := HOFF.out
      have hcu : wr.cell? ⟨Bu, off + vs.length, none⟩ = some (.int .u32 ((pbAt us vs off vs.length).1.getD (off + vs.length) 0)) := by
        rw [hO.out.cellAt (off + vs.length) (by omega)]
        exact rowInt _ _ (by have := HN.out; omega)
      have hfu : wr.frozen? ⟨Bu, off + vs.length, none⟩ = false := hO.out.frozenAt (off + vs.length)
      have hs1 : Hid (pbEnd us vs off = (pbAt us vs off vs.length).1.set (off + vs.length) (((pbAt us vs off vs.length).1.getD (off + vs.length) 0 + (pbAt us vs off vs.length).2) % 4294967296)) := Lib.hid rfl
      clear h1 h2 h3
      generalize pbAt us vs off vs.length = s at *
      generalize s.1.getD (off + vs.length) 0 = u at *
      generalize s.2 = c at *
      go_wp2
      have hst := World.ownsRow.stored hO.out (off + vs.length) (.int .u32 ((u + c) % 4294967296))
      rw [← List.map_set] at hst
      refine ⟨rfl, .tuple #[], by simp [results, Try.f78], ?_⟩
      rw [hs1.out]
      exact ⟨rfl, hst.1, World.grownBy.trans hG.out hst.2⟩
end Go.Proofs.Ytdbnpaloalhciaa.P
namespace Go.Proofs.Ytdbnpaloalhciaa.P
set_option linter.unusedVariables false
set_option linter.unusedSimpArgs false
open Go.RowKit Go.Proofs.YtdbnpaloalhciaaW.PrintWords Go.Proofs.YtdbnpaloalhciaaW.PrintMore
/-- What a guess owes: at most one too great, by the two highest limbs and three of the dividend's. -/
structure GuessOk (X3 D q : Nat) : Prop where
  lt : q < 4294967296
  le : q * D ≤ X3
  ge : ∀ Q, Q < 4294967296 → Q * D ≤ X3 → Q ≤ q
theorem guess_loop (v1 v0 u0 head : Nat) (hv1 : 2147483648 ≤ v1) (hv1' : v1 < 4294967296) (hv0 : v0 < 4294967296) (hu0 : u0 < 4294967296) : ∀ (m q r k : Nat), r < 4294967296 → 4294967296 ≤ r + m * v1 → q ≤ 4294967297 → (q = 4294967297 → r + v1 < 4294967296) → q * v1 + r = head →
    (∀ Q, Q < 4294967296 → Q * (v1 * 4294967296 + v0) ≤ head * 4294967296 + u0 → Q ≤ q) → 2 * m + 3 ≤ k →
    ∃ q', nat_guess.l0 k u0 v1 v0 q r = some (q' : Int) ∧ ∃ q'' : Nat, q' = (q'' : Int) ∧ GuessOk (head * 4294967296 + u0) (v1 * 4294967296 + v0) q'' := by
  intro m
  induction m with
  | zero => intro q r k hr hm; omega
  | succ m ih =>
    intro q r k hr hm hq hq2 hqr hge hk
    obtain ⟨k, rfl⟩ : ∃ j, k = j + 2 := ⟨k - 2, by omega⟩
    -- the round behind a 'too great'
    have again : (4294967296 ≤ q ∨ r * 4294967296 + u0 < q * v0) → 1 ≤ q → ∃ q', nat_guess.j1 (k + 1) u0 v1 v0 q r true = some (q' : Int) ∧ ∃ q'' : Nat, q' = (q'' : Int) ∧ GuessOk (head * 4294967296 + u0) (v1 * 4294967296 + v0) q'' := by
      intro hbad hq1
      have hge' : ∀ Q, Q < 4294967296 → Q * (v1 * 4294967296 + v0) ≤ head * 4294967296 + u0 → Q ≤ q - 1 := by
        intro Q hQ hle
        have h1 := hge Q hQ hle
        rcases Nat.lt_or_ge Q q with h | h
        · omega
        · exfalso
          obtain rfl : Q = q := by omega
          rcases hbad with hb | hb
          · omega
          · rw [Nat.mul_add, ← Nat.mul_assoc, ← hqr, Nat.add_mul] at hle
            omega
      have hsub : (q - 1) * v1 + (r + v1) = head := by
        have : q * v1 = (q - 1) * v1 + v1 := by rw [← Nat.succ_mul]; congr 1; omega
        omega
      have e1 : IntKind.u64.wrap ((r : Int) + IntKind.u64.wrap (v1 : Int)) = ((r + v1 : Nat) : Int) := by rw [u64w (show (0 : Int) ≤ (v1 : Int) by omega) (by omega), u64w (show (0 : Int) ≤ (r : Int) + (v1 : Int) by omega) (by omega)]; omega
      have e2 : IntKind.u64.wrap ((q : Int) - 1) = ((q - 1 : Nat) : Int) := by rw [u64w (by omega) (by omega)]; omega
      rw [nat_guess.j1.eq_2, if_pos rfl, e1, e2]
      by_cases hbr : 4294967296 ≤ r + v1
      · rw [if_pos (by omega)]
        have hqb : q - 1 < 4294967296 := by
          rcases Nat.lt_or_ge (q - 1) 4294967296 with h | h
          · exact h
          · have := hq2 (by omega); omega
        refine ⟨_, rfl, _, rfl, hqb, ?_, hge'⟩
        have h1 : (q - 1) * v0 ≤ 4294967295 * 4294967295 := Nat.mul_le_mul (by omega) (by omega)
        rw [Nat.mul_add, ← Nat.mul_assoc, ← hsub, Nat.add_mul]
        have h2 : 4294967296 * 4294967296 ≤ (r + v1) * 4294967296 := Nat.mul_le_mul_right _ hbr
        omega
      · rw [if_neg (by omega)]
        exact ih (q - 1) (r + v1) k (by omega) (by rw [Nat.succ_mul] at hm; omega) (by omega) (by omega) hsub hge' (by omega)
    rw [nat_guess.l0.eq_2]
    by_cases hbig : 4294967296 ≤ q
    · rw [if_pos (by omega)]
      exact again (.inl hbig) (by omega)
    · rw [if_neg (by omega)]
      have hp : q * v0 ≤ 4294967295 * 4294967295 := Nat.mul_le_mul (by omega) (by omega)
      have e1 : IntKind.u64.wrap ((q : Int) * IntKind.u64.wrap (v0 : Int)) = ((q * v0 : Nat) : Int) := by
        rw [u64w (show (0 : Int) ≤ (v0 : Int) by omega) (by omega), ← Int.natCast_mul, u64w (by omega) (by omega)]
      have e2 : bits .or .u64 (IntKind.u64.wrap ((r : Int) * 4294967296)) (IntKind.u64.wrap (u0 : Int)) = ((r * 4294967296 + u0 : Nat) : Int) := by
        rw [u64w (show (0 : Int) ≤ (r : Int) * 4294967296 by omega) (by omega), u64w (show (0 : Int) ≤ (u0 : Int) by omega) (by omega), or64 (by omega) (by omega) (by omega) (by omega)]
        omega
      rw [e1, e2]
      by_cases hgt : r * 4294967296 + u0 < q * v0
      · rw [decide_eq_true (by omega)]
        exact again (.inr hgt) (by
          rcases Nat.eq_zero_or_pos q with h | h
          · subst h; simp at hgt
          · exact h)
      · rw [decide_eq_false (by omega), nat_guess.j1.eq_2, if_neg (by simp)]
        refine ⟨_, rfl, _, rfl, by omega, ?_, hge⟩
        rw [Nat.mul_add, ← Nat.mul_assoc, ← hqr, Nat.add_mul]
        omega
theorem guess_f (u2 u1 u0 v1 v0 : Nat) (hu2 : u2 ≤ v1) (hu1 : u1 < 4294967296) (hu0 : u0 < 4294967296) (hv1 : 2147483648 ≤ v1) (hv1' : v1 < 4294967296) (hv0 : v0 < 4294967296) :
    ∃ q : Nat, nat_guess.f 10 u2 u1 u0 v1 v0 = some (q : Int) ∧ GuessOk ((u2 * 4294967296 + u1) * 4294967296 + u0) (v1 * 4294967296 + v0) q := by
  have hh : u2 * 4294967296 + u1 < 18446744073709551616 := by omega
  have e0 : bits .or .u64 (IntKind.u64.wrap ((IntKind.u64.wrap (u2 : Int)) * 4294967296)) (IntKind.u64.wrap (u1 : Int)) = ((u2 * 4294967296 + u1 : Nat) : Int) := by
    rw [u64w (show (0 : Int) ≤ (u2 : Int) by omega) (by omega), u64w (show (0 : Int) ≤ (u2 : Int) * 4294967296 by omega) (by omega), u64w (show (0 : Int) ≤ (u1 : Int) by omega) (by omega), or64 (by omega) (by omega) (by omega) (by omega)]
    omega
  have e1 : IntKind.u64.wrap (v1 : Int) = (v1 : Int) := u64w (by omega) (by omega)
  have hqr := Nat.div_add_mod' (u2 * 4294967296 + u1) v1
  have hrl := Nat.mod_lt (u2 * 4294967296 + u1) (show v1 > 0 by omega)
  have hq0 : (u2 * 4294967296 + u1) / v1 ≤ 4294967297 := by
    rcases Nat.lt_or_ge ((u2 * 4294967296 + u1) / v1) 4294967298 with h | h
    · omega
    · exfalso
      have h1 := Nat.mul_le_mul_right v1 h
      have h2 : u2 * 4294967296 ≤ v1 * 4294967296 := Nat.mul_le_mul_right _ hu2
      omega
  have hq2 : (u2 * 4294967296 + u1) / v1 = 4294967297 → (u2 * 4294967296 + u1) % v1 + v1 < 4294967296 := by
    intro h
    rw [h] at hqr
    have h2 : u2 * 4294967296 ≤ v1 * 4294967296 := Nat.mul_le_mul_right _ hu2
    omega
  have hge : ∀ Q, Q < 4294967296 → Q * (v1 * 4294967296 + v0) ≤ (u2 * 4294967296 + u1) * 4294967296 + u0 → Q ≤ (u2 * 4294967296 + u1) / v1 := by
    intro Q _ hle
    rw [Nat.le_div_iff_mul_le (by omega)]
    rw [Nat.mul_add, ← Nat.mul_assoc] at hle
    rcases Nat.lt_or_ge (u2 * 4294967296 + u1) (Q * v1) with h | h
    · exfalso
      have := Nat.mul_le_mul_right 4294967296 (show u2 * 4294967296 + u1 + 1 ≤ Q * v1 from h)
      rw [Nat.add_mul] at this
      omega
    · exact h
  obtain ⟨q', hq', q, rfl, hok⟩ := guess_loop v1 v0 u0 (u2 * 4294967296 + u1) hv1 hv1' hv0 hu0 2 _ _ 10 (show (u2 * 4294967296 + u1) % v1 < 4294967296 by omega) (by omega) hq0 hq2 hqr hge (by omega)
  refine ⟨q, ?_, hok⟩
  unfold nat_guess.f
  rw [e0, e1, if_neg (by omega), Int.tdiv_eq_ediv_of_nonneg (by omega), Int.tmod_eq_emod_of_nonneg (by omega), ← Int.natCast_ediv, ← Int.natCast_emod, u64w (Int.natCast_nonneg _) (by clear hq'; omega)]
  exact hq'
/-- A guess is told, whatever the limbs are, by a divisor whose highest bit is set. -/
theorem u64_rng (z : Int) : 0 ≤ IntKind.u64.wrap z ∧ IntKind.u64.wrap z < 18446744073709551616 := by
  have : IntKind.u64.wrap z = z % 18446744073709551616 := by simp [IntKind.wrap, IntKind.bits, IntKind.signed]
  rw [this]; omega
theorem guess_told_loop (v1 v0 u0 : Int) (hv1 : 2147483648 ≤ v1) (hv1' : v1 < 4294967296) : ∀ (m : Nat) (q r : Int) (k : Nat), 0 ≤ r → r < 4294967296 → 4294967296 ≤ r + m * v1 → (0 ≤ q ∧ q < 18446744073709551616) → 2 * m + 3 ≤ k → ∃ q', nat_guess.l0 k u0 v1 v0 q r = some q' ∧ 0 ≤ q' ∧ q' < 18446744073709551616 := by
  intro m
  induction m with
  | zero => intro q r k h0 hr hm; simp at hm; omega
  | succ m ih =>
    intro q r k h0 hr hm hq hk
    obtain ⟨k, rfl⟩ : ∃ j, k = j + 2 := ⟨k - 2, by omega⟩
    have e1 : IntKind.u64.wrap (r + IntKind.u64.wrap v1) = r + v1 := by rw [u64w (show (0 : Int) ≤ v1 by omega) (by omega), u64w (show (0 : Int) ≤ r + v1 by omega) (by omega)]
    have step : ∀ b : Bool, ∃ q', nat_guess.j1 (k + 1) u0 v1 v0 q r b = some q' ∧ 0 ≤ q' ∧ q' < 18446744073709551616 := by
      intro b
      rw [nat_guess.j1.eq_2, e1]
      cases b with
      | true =>
        rw [if_pos rfl]
        by_cases hbr : 4294967296 ≤ r + v1
        · rw [if_pos (by omega)]
          exact ⟨_, rfl, u64_rng _⟩
        · rw [if_neg (by omega)]
          refine ih _ _ k (by omega) (by omega) ?_ (u64_rng _) (by omega)
          have : ((m + 1 : Nat) : Int) * v1 = (m : Int) * v1 + v1 := by rw [Int.natCast_add, Int.add_mul]; simp
          omega
      | false =>
        rw [if_neg (by simp)]
        exact ⟨_, rfl, hq⟩
    rw [nat_guess.l0.eq_2]
    split
    · exact step _
    · exact step _
theorem guess_told (u2 u1 u0 v1 v0 : Int) (hu2 : 0 ≤ u2 ∧ u2 < 4294967296) (hu1 : 0 ≤ u1 ∧ u1 < 4294967296) (hv1 : 2147483648 ≤ v1) (hv1' : v1 < 4294967296) : ∃ q : Int, nat_guess.f 10 u2 u1 u0 v1 v0 = some q ∧ 0 ≤ q ∧ q < 18446744073709551616 := by
  have e1 : IntKind.u64.wrap v1 = v1 := u64w (by omega) (by omega)
  have e0 : bits .or .u64 (IntKind.u64.wrap ((IntKind.u64.wrap u2) * 4294967296)) (IntKind.u64.wrap u1) = u2 * 4294967296 + u1 := by
    rw [u64w hu2.1 (by omega), u64w (show (0 : Int) ≤ u2 * 4294967296 by omega) (by omega), u64w hu1.1 (by omega), or64 hu2.1 hu2.2 hu1.1 hu1.2]
  unfold nat_guess.f
  rw [e0, e1, if_neg (by omega), Int.tmod_eq_emod_of_nonneg (by omega)]
  have h1 := Int.emod_nonneg (u2 * 4294967296 + u1) (show v1 ≠ 0 by omega)
  have h2 := Int.emod_lt_of_pos (u2 * 4294967296 + u1) (show 0 < v1 by omega)
  exact guess_told_loop v1 v0 u0 hv1 hv1' 2 _ _ 10 h1 (by omega) (by omega) (u64_rng _) (by omega)
/-- Knuth's theorem: the guess is the digit, or one more. -/
theorem guess_digit {X V X3 D W q : Nat} (hW : 0 < W) (hq : GuessOk X3 D q) (hX0 : X3 * W ≤ X) (hX1 : X < (X3 + 1) * W) (hV0 : D * W ≤ V) (hV1 : V < (D + 1) * W) (hD : 4294967296 * 2147483648 ≤ D) (hXV : X < V * 4294967296) : X / V ≤ q ∧ q ≤ X / V + 1 := by
  have hVp : 0 < V := by
    have := Nat.mul_le_mul (show 1 ≤ D by omega) (show 1 ≤ W by omega); omega
  constructor
  · refine hq.ge _ ((Nat.div_lt_iff_lt_mul hVp).2 (by rw [Nat.mul_comm]; exact hXV)) ?_
    have h1 := Nat.div_mul_le_self X V
    have h2 := Nat.mul_le_mul_left (X / V) hV0
    rw [← Nat.mul_assoc] at h2
    have h3 : X / V * D * W < (X3 + 1) * W := by omega
    have := Nat.lt_of_mul_lt_mul_right h3
    omega
  · rcases Nat.eq_zero_or_pos q with h0 | h0
    · rw [h0]; exact Nat.zero_le _
    · have h1 : (q - 1) * V ≤ X := by
        have h2 : (q - 1) * V ≤ (q - 1) * ((D + 1) * W) := Nat.mul_le_mul_left _ (by omega)
        have h3 : (q - 1) * ((D + 1) * W) = (q * D + q - D - 1) * W := by
          rw [← Nat.mul_assoc]
          congr 1
          obtain ⟨p, rfl⟩ : ∃ p, q = p + 1 := ⟨q - 1, by omega⟩
          rw [Nat.add_sub_cancel, Nat.mul_add, Nat.add_mul]
          omega
        have hlt := hq.lt
        have h4 : q * D + q - D - 1 ≤ X3 := by have := hq.le; omega
        have h5 := Nat.mul_le_mul_right W h4
        omega
      have := (Nat.le_div_iff_mul_le hVp).2 h1
      generalize X / V = Z at *
      omega
/-! left, right -/
theorem two_pow (n : Nat) : (2 : Int) ^ n = ((2 ^ n : Nat) : Int) := by rw [Int.natCast_pow]; rfl
theorem sh_val (a : List Int) (ha : okL a) (n : Nat) (hn : n < 32) : ∀ i, okL (shAt a n i) ∧ val (shAt a n i) + 4294967296 ^ i * (moAt a n i).toNat = val (a.take i) * 2 ^ n
  | 0 => ⟨okL_nil, by simp [shAt, moAt, val]⟩
  | i + 1 => by
    obtain ⟨h1, h2⟩ := sh_val a ha n hn i
    have hm := moAt_bd ha hn i
    obtain ⟨x, hx⟩ : ∃ x : Nat, a.getD i 0 = x := ⟨(a.getD i 0).toNat, by have := okL_getD ha i; omega⟩
    have hxb := okL_getD ha i
    rw [hx] at hxb
    obtain ⟨mo, hmo⟩ : ∃ m : Nat, moAt a n i = m := ⟨(moAt a n i).toNat, by omega⟩
    rw [hmo, two_pow] at hm
    rw [hmo, Int.toNat_natCast] at h2
    have hB : 2 ^ n * 2 ^ (32 - n) = 4294967296 := by rw [← Nat.pow_add, show n + (32 - n) = 32 by omega]
    have e1 : a.getD i 0 * 2 ^ n % 4294967296 + moAt a n i = ((x * 2 ^ n % 4294967296 + mo : Nat) : Int) := by rw [hx, hmo, two_pow, ← Int.natCast_mul]; omega
    have e2 : a.getD i 0 / 2 ^ (32 - n) = ((x / 2 ^ (32 - n) : Nat) : Int) := by rw [hx, two_pow, ← Int.natCast_ediv]
    have e3 : x * 2 ^ n / 4294967296 = x / 2 ^ (32 - n) := by rw [← hB, Nat.mul_comm x, Nat.mul_div_mul_left _ _ (Nat.two_pow_pos n)]
    have e4 : x * 2 ^ n % 4294967296 + mo < 4294967296 := by
      have h5 : x * 2 ^ n % 4294967296 = 2 ^ n * (x % 2 ^ (32 - n)) := by rw [← hB, Nat.mul_comm x, Nat.mul_mod_mul_left]
      have h6 := Nat.mod_lt x (Nat.two_pow_pos (32 - n))
      have h7 := Nat.mul_le_mul_left (2 ^ n) (show x % 2 ^ (32 - n) + 1 ≤ 2 ^ (32 - n) by omega)
      rw [hB, Nat.mul_add, Nat.mul_one] at h7
      omega
    refine ⟨?_, ?_⟩
    · rw [shAt, okL_app, e1]
      exact ⟨h1, okL_cons.2 ⟨by omega, okL_nil⟩⟩
    · rw [shAt, moAt, e1, e2, val_app, shAt_len, val_take_step, hx, Int.toNat_natCast, Int.toNat_natCast]
      have e5 : val [((x * 2 ^ n % 4294967296 + mo : Nat) : Int)] = x * 2 ^ n % 4294967296 + mo := by generalize x * 2 ^ n % 4294967296 + mo = z; simp [val]
      rw [e5, ← e3, Nat.pow_succ, Nat.add_mul, ← h2, Nat.mul_assoc]
      have e6 := Nat.mod_add_div (x * 2 ^ n) 4294967296
      have e7 := congrArg (fun z => 4294967296 ^ i * z) e6
      simp only [Nat.mul_add] at e7 ⊢
      rw [Nat.mul_assoc]
      omega
/-- Limbs so many bits up. -/
theorem left_val {a : List Int} (ha : okL a) {n : Nat} (hn : n < 32) (hz : a.length ≤ 1073741824) : ∃ u, nat_num_left.f a n = some u ∧ okL u ∧ u.length = a.length + 1 ∧ val u = val a * 2 ^ n := by
  obtain ⟨h1, h2⟩ := sh_val a ha n hn a.length
  have hm := moAt_bd ha hn a.length
  have hp : (2 : Int) ^ n ≤ 4294967296 := by
    rw [two_pow]
    have := Nat.pow_le_pow_right (show 0 < 2 by omega) (show n ≤ 32 by omega)
    omega
  refine ⟨shAt a n a.length ++ [moAt a n a.length], ?_, ?_, ?_, ?_⟩
  · unfold nat_num_left.f
    rw [Int.toNat_natCast, if_pos ⟨ha, hz, by omega, by omega⟩]
  · rw [okL_app]; exact ⟨h1, okL_cons.2 ⟨by omega, okL_nil⟩⟩
  · rw [List.length_append, shAt_len]; rfl
  · rw [val_app, shAt_len]
    rw [List.take_length] at h2
    rw [← h2]
    simp [val]
theorem val_of_digits (N : Nat) : ∀ (l : List Int) (i : Nat), i ≤ l.length → (∀ j, j < i → l.getD j 0 = ((N / 4294967296 ^ j % 4294967296 : Nat) : Int)) → val (l.take i) = N % 4294967296 ^ i
  | l, 0, _, _ => by simp [val, Nat.mod_one]
  | l, i + 1, hi, h => by
    rw [val_take_step, val_of_digits N l i (by omega) (fun j hj => h j (by omega)), h i (by omega), Int.toNat_natCast, Nat.pow_succ, Nat.mod_mul]
/-- A limb of what is shifted down. -/
theorem right_digit (N n i : Nat) (hn : n < 32) : N / 2 ^ n / 4294967296 ^ i % 4294967296 = N / 4294967296 ^ i % 4294967296 / 2 ^ n + (N / 4294967296 ^ (i + 1) % 4294967296 * 2 ^ (32 - n)) % 4294967296 := by
  have hB : 2 ^ n * 2 ^ (32 - n) = 4294967296 := by rw [← Nat.pow_add, show n + (32 - n) = 32 by omega]
  have hp := Nat.two_pow_pos n
  have hp2 := Nat.two_pow_pos (32 - n)
  rw [Nat.div_div_eq_div_mul, Nat.mul_comm (2 ^ n), ← Nat.div_div_eq_div_mul, Nat.pow_succ, ← Nat.div_div_eq_div_mul]
  generalize N / 4294967296 ^ i = A
  obtain ⟨x, hx⟩ : ∃ x, A % 4294967296 = x := ⟨_, rfl⟩
  obtain ⟨Y, hY⟩ : ∃ Y, A / 4294967296 = Y := ⟨_, rfl⟩
  have hA : A = x + 2 ^ n * (2 ^ (32 - n) * Y) := by rw [← Nat.mul_assoc, hB, ← hx, ← hY]; omega
  rw [hx, hY]
  have h1 : A / 2 ^ n = x / 2 ^ n + 2 ^ (32 - n) * Y := by rw [hA, Nat.add_mul_div_left _ _ hp]
  have h2 : x / 2 ^ n < 2 ^ (32 - n) := by
    rw [Nat.div_lt_iff_lt_mul hp, Nat.mul_comm, hB]
    omega
  have h3 : Y % 4294967296 * 2 ^ (32 - n) % 4294967296 = 2 ^ (32 - n) * (Y % 2 ^ n) := by
    rw [Nat.mul_comm, ← hB, Nat.mul_comm (2 ^ n), Nat.mul_mod_mul_left, Nat.mod_mul_left_mod]
  have h4 : Y = 2 ^ n * (Y / 2 ^ n) + Y % 2 ^ n := (Nat.div_add_mod _ _).symm
  have h5 := Nat.mod_lt Y hp
  have h6 := Nat.mul_le_mul_left (2 ^ (32 - n)) (show Y % 2 ^ n + 1 ≤ 2 ^ n by omega)
  rw [Nat.mul_comm _ (2 ^ n), hB, Nat.mul_add, Nat.mul_one] at h6
  rw [h1, h3]
  have h7 : 2 ^ (32 - n) * Y = 4294967296 * (Y / 2 ^ n) + 2 ^ (32 - n) * (Y % 2 ^ n) := by
    conv => lhs; rw [h4]
    rw [Nat.mul_add, ← Nat.mul_assoc, Nat.mul_comm (2 ^ (32 - n)) (2 ^ n), hB]
  rw [h7]
  clear h1 h3 h4 h5 h7 hA
  generalize x / 2 ^ n = p at *
  generalize 2 ^ (32 - n) * (Y % 2 ^ n) = M at *
  generalize Y / 2 ^ n = z at *
  omega
theorem or_low {x y n : Nat} (hn : n ≤ 32) (hx : x < 2 ^ n) (hy : y % 2 ^ n = 0) (hy2 : y < 4294967296) : bits .or .u32 (x : Int) (y : Int) = ((x + y : Nat) : Int) := by
  have hx2 : x < 4294967296 := Nat.lt_of_lt_of_le hx (Nat.pow_le_pow_right (n := 2) (by omega) hn)
  rw [u32_or_nat x y hx2 hy2]
  congr 1
  rw [Nat.or_comm, nat_join n y x hy hx, Nat.add_comm]
theorem right_loop (a : List Int) (ha : okL a) (n : Nat) (hn : n < 32) (hz : a.length ≤ 1073741824) : ∀ (m i k : Nat) (out : List Int), i + m = a.length → m + 1 ≤ k → okL out → out.length = a.length → (∀ j, j < i → out.getD j 0 = ((val a / 2 ^ n / 4294967296 ^ j % 4294967296 : Nat) : Int)) →
    nat_num_right.l0 k a n out a a.length i = some (limbs (val a / 2 ^ n))
  | 0, i, k, out, hi, hk, hok, hl, hd => by
    obtain ⟨k, rfl⟩ : ∃ j, k = j + 1 := ⟨k - 1, by omega⟩
    have hv := val_of_digits (val a / 2 ^ n) out i (by omega) hd
    rw [List.take_of_length_le (by omega), Nat.mod_eq_of_lt (by rw [show i = a.length by omega]; exact Nat.lt_of_le_of_lt (Nat.div_le_self _ _) (val_lt ha))] at hv
    rw [nat_num_right.l0.eq_2, if_neg (by omega)]
    unfold nat_num_trim.f
    rw [if_pos ⟨hok, by omega⟩, hv]
    rfl
  | m + 1, i, k, out, hi, hk, hok, hl, hd => by
    obtain ⟨k, rfl⟩ : ∃ j, k = j + 1 := ⟨k - 1, by omega⟩
    have hB : 2 ^ n * 2 ^ (32 - n) = 4294967296 := by rw [← Nat.pow_add, show n + (32 - n) = 32 by omega]
    have hg : ∀ j, a.getD j 0 = ((val a / 4294967296 ^ j % 4294967296 : Nat) : Int) := fun j => by
      have h1 : (val (a.drop j) : Nat) = val a / 4294967296 ^ j := by
        by_cases hj : j ≤ a.length
        · have := val_app (a.take j) (a.drop j)
          rw [List.take_append_drop, List.length_take, Nat.min_eq_left hj] at this
          have hlt := val_lt (okL_take ha j)
          rw [List.length_take, Nat.min_eq_left hj] at hlt
          rw [this, Nat.add_mul_div_left _ _ (Nat.pow_pos (by omega)), Nat.div_eq_of_lt hlt, Nat.zero_add]
        · rw [List.drop_of_length_le (by omega), val]
          symm
          exact Nat.div_eq_of_lt (Nat.lt_of_lt_of_le (val_lt ha) (Nat.pow_le_pow_right (by omega) (by omega)))
      by_cases hj : j < a.length
      · rw [← h1, drop_getD hj, val]
        have := okL_getD ha j
        omega
      · rw [← h1, List.drop_of_length_le (by omega), List.getD_eq_getElem?_getD, List.getElem?_eq_none (by omega)]
        rfl
    obtain ⟨x, hx⟩ : ∃ x, val a / 4294967296 ^ i % 4294967296 = x := ⟨_, rfl⟩
    obtain ⟨y, hy⟩ : ∃ y, val a / 4294967296 ^ (i + 1) % 4294967296 = y := ⟨_, rfl⟩
    have hxb : x < 4294967296 := by rw [← hx]; exact Nat.mod_lt _ (by omega)
    have hyb : y < 4294967296 := by rw [← hy]; exact Nat.mod_lt _ (by omega)
    have hdig := right_digit (val a) n i hn
    rw [hx, hy] at hdig
    have hgx := hg i
    rw [hx] at hgx
    have hgy := hg (i + 1)
    rw [hy] at hgy
    have hxs : x / 2 ^ n < 2 ^ (32 - n) := by rw [Nat.div_lt_iff_lt_mul (Nat.two_pow_pos n), Nat.mul_comm, hB]; exact hxb
    have esr : shr .u32 (x : Int) (n : Int) = ((x / 2 ^ n : Nat) : Int) := by
      unfold shr
      rw [Int.toNat_natCast, Nat.min_eq_left (by show n ≤ 32; omega), two_pow, ← Int.natCast_ediv]
    have hle : x / 2 ^ n < 4294967296 := Nat.lt_of_le_of_lt (Nat.div_le_self _ _) hxb
    have key : ∀ d : Nat, d < 4294967296 → val a / 2 ^ n / 4294967296 ^ i % 4294967296 = d → nat_num_right.l0 k a n (out.set i (d : Int)) a a.length ((i + 1 : Nat) : Int) = some (limbs (val a / 2 ^ n)) := fun d hd' he => by
      refine right_loop a ha n hn hz m (i + 1) k _ (by omega) (by omega) (okL_set hok _ (by omega) (by omega)) (by rw [List.length_set, hl]) (fun j hj => ?_)
      rw [getD_set]
      by_cases hji : i = j
      · subst hji
        rw [if_pos ⟨rfl, by omega⟩, he]
      · rw [if_neg (by omega)]
        exact hd j (by omega)
    rw [nat_num_right.l0.eq_2, if_pos (by omega), if_pos (by omega), if_pos (by omega), if_pos (by omega), if_pos (by omega), rdn, hgx, esr, w64 ((i : Int) + 1) (by omega), Int.toNat_natCast]
    simp only [Option.bind_some]
    by_cases hlast : i + 1 < a.length
    · have esl : shl .u64 (IntKind.u64.wrap (y : Int)) (wrap64 (32 - (n : Int))) % 4294967296 = ((y * 2 ^ (32 - n) % 4294967296 : Nat) : Int) := by
        have hp : y * 2 ^ (32 - n) < 18446744073709551616 := by
          have h1 : 2 ^ (32 - n) ≤ 2 ^ 32 := Nat.pow_le_pow_right (by omega) (by omega)
          have := Nat.mul_lt_mul_of_lt_of_le hyb h1 (by omega)
          omega
        unfold shl
        rw [w64 _ (by omega), show (32 - (n : Int)).toNat = 32 - n by omega, Nat.min_eq_left (by show 32 - n ≤ 64; omega), u64w (show (0 : Int) ≤ (y : Int) by omega) (by omega), two_pow, ← Int.natCast_mul, u64w (by omega) (by omega)]
        omega
      rw [if_pos (by omega), if_pos (by omega), w64 (32 - (n : Int)) (by omega), if_pos (by omega), rdn, getD_set, if_pos ⟨rfl, by omega⟩, show (i : Int) + 1 = ((i + 1 : Nat) : Int) by omega, rdn, hgy]
      rw [w64 (32 - (n : Int)) (by omega)] at esl
      rw [esl, or_low (n := 32 - n) (by omega) hxs (by
        rw [Nat.mod_mod_of_dvd _ ⟨2 ^ n, by rw [Nat.mul_comm, hB]⟩]
        exact Nat.mul_mod_left _ _) (Nat.mod_lt _ (by omega)), List.set_set]
      exact key _ (by rw [← hdig]; exact Nat.mod_lt _ (by omega)) hdig
    · have hy0 : y = 0 := by
        rw [← hy, Nat.div_eq_of_lt (Nat.lt_of_lt_of_le (val_lt ha) (Nat.pow_le_pow_right (by omega) (by omega)))]
      rw [hy0, Nat.zero_mul, Nat.zero_mod, Nat.add_zero] at hdig
      rw [if_neg (by omega), show (i : Int) + 1 = ((i + 1 : Nat) : Int) by omega]
      exact key _ hle hdig
theorem right_f (a : List Int) (ha : okL a) (n : Nat) (hn : n < 32) (hz : a.length ≤ 1073741824) (k : Nat) (hk : a.length + 1 ≤ k) : nat_num_right.f k a n = some (limbs (val a / 2 ^ n)) := by
  unfold nat_num_right.f
  rw [if_pos (by omega), if_pos (by omega), Int.toNat_natCast]
  exact right_loop a ha n hn hz a.length 0 k _ (by omega) hk (fun z hz => by rw [List.eq_of_mem_replicate hz]; omega) (by simp) (fun j hj => by omega)
/-- A limb's shift, that its highest bit is set. -/
theorem lead_f (x : Nat) (h0 : 0 < x) (h1 : x < 4294967296) : ∃ s : Nat, bits_LeadingZeros32.f x = some (s : Int) ∧ s < 32 ∧ 2147483648 ≤ x * 2 ^ s ∧ x * 2 ^ s < 4294967296 := by
  unfold bits_LeadingZeros32.f bits_Len32.f
  rw [if_pos (by omega), Option.bind_some, Int.toNat_natCast]
  unfold len2
  rw [if_neg (by omega)]
  have a1 := Nat.log2_self_le (show x ≠ 0 by omega)
  have a2 := @Nat.lt_log2_self x
  have hlt : x.log2 < 32 := by
    rcases Nat.lt_or_ge x.log2 32 with h | h
    · exact h
    · have := Nat.pow_le_pow_right (show 0 < 2 by omega) h; omega
  refine ⟨31 - x.log2, ?_, by omega, ?_, ?_⟩
  · rw [w64 _ (by omega)]
    congr 1
    omega
  · have := Nat.mul_le_mul_right (2 ^ (31 - x.log2)) a1
    rw [← Nat.pow_add, show x.log2 + (31 - x.log2) = 31 by omega] at this
    exact this
  · have := Nat.mul_lt_mul_of_pos_right a2 (Nat.two_pow_pos (31 - x.log2))
    rw [← Nat.pow_add, show x.log2 + 1 + (31 - x.log2) = 32 by omega] at this
    exact this
end Go.Proofs.Ytdbnpaloalhciaa.P
namespace Go.Proofs.Ytdbnpaloalhciaa.P
set_option linter.unusedVariables false
set_option linter.unusedSimpArgs false
open Go.RowKit Go
section
variable {F : Fence} {n : Nat} {P : Program} {ops : Array Oper} {C : World → Prop} {md : Region.Mode}
/-- Whatever order is picked, the first m operations come ahead of the others. -/
def wpHead (F : Fence) (n : Nat) (P : Program) (md : Region.Mode) (ops : Array Oper) (C : World → Prop) (m : Nat) (L : Array Bool → Act → Prop) : Nat → Array Bool → Act → Prop
  | 0, listed, a => L listed a
  | f + 1, listed, a => Region.ready md ops listed ≠ [] ∧ ∀ i ∈ Region.ready md ops listed, i < m ∧ qOpIn F n P ops C i (wpHead F n P md ops C m L f (listed.setIfInBounds i true)) a
theorem any_of_head {m g : Nat} {L : Array Bool → Act → Prop} {Q' : Exit → Act → World → Prop} (hd : ∀ (i : Nat) o, ops[i]? = some o → ∀ c, o.op ≠ .defer c) (hL : ∀ listed a w, C w → L listed a → wpAnyIn F n P md ops Q' g listed a w) :
    ∀ (f : Nat) (listed : Array Bool) (a : Act) (w : World), C w → wpHead F n P md ops C m L f listed a → wpAnyIn F n P md ops Q' (f + g) listed a w
  | 0, listed, a, w, hw, h => by rw [Nat.zero_add]; exact hL _ _ _ hw h
  | f + 1, listed, a, w, hw, h => by
    rw [show f + 1 + g = (f + g) + 1 by omega]
    exact ⟨fun h0 => absurd h0 h.1, fun i hi => op_of_quiet hd hw (fun a' w' hw' h' => any_of_head hd hL f _ a' w' hw' h') (h.2 i hi).2⟩
theorem head_first {m i : Nat} {oi : Oper} {v : Value} {L : Array Bool → Act → Prop} (hi : ops[i]? = some oi) (hsel : ∀ (j : Nat) (o : Oper) cs b, ops[j]? = some o → o.op ≠ .select cs b)
    (hs : Region.sinkB md ops m = true) (hc : Region.chainB md ops m = true) (hn : m < ops.size) (him : i < m) (hdone : ∀ listed a, L listed a → ∀ j ∈ Region.ready md ops listed, m ≤ j) :
    ∀ (f : Nat) (listed : Array Bool) (a : Act), HeadInv md ops m listed →
      (∀ j oj, ops[j]? = some oj → j ≠ i → listed.getD j true = false → (∀ e ∈ oj.after, Region.binds md e = true → e.on ≠ i) → oi.apart ops oj = true) →
      i ∈ Region.ready md ops listed → YieldsQuiet F n P ops C oi v a →
      wpHead F n P md ops C m L f (listed.setIfInBounds i true) (a.put oi.dst v) → wpHead F n P md ops C m L (f + 1) listed a := by
  intro f
  induction f with
  | zero =>
    intro listed a inv _ hr hy H
    have hun := (mem_ready.1 hr).1
    refine ⟨fun h => (by rw [h] at hr; cases hr), fun j hj => ?_⟩
    have hjn : j < m := by
      rcases Nat.lt_or_ge j m with h | h
      · exact h
      · exact absurd hj (tail_waits hs hc hn inv _ i rfl him hun j h)
    refine ⟨hjn, ?_⟩
    by_cases hji : j = i
    · subst hji; exact hy.qOpIn hi H
    · have := hdone _ _ H j (ready_mono hj hji)
      omega
  | succ f ih =>
    intro listed a inv hfree hr hy H
    have hun := (mem_ready.1 hr).1
    refine ⟨fun h => (by rw [h] at hr; cases hr), fun j hj => ?_⟩
    have hjn : j < m := by
      rcases Nat.lt_or_ge j m with h | h
      · exact h
      · exact absurd hj (tail_waits hs hc hn inv _ i rfl him hun j h)
    refine ⟨hjn, ?_⟩
    by_cases hji : j = i
    · subst hji; exact hy.qOpIn hi H
    · have h1 := (H.2 j (ready_mono hj hji)).2
      obtain ⟨hjun, oj, hoj, hall⟩ := mem_ready.1 hj
      have hnot : ∀ e ∈ oj.after, Region.binds md e = true → e.on ≠ i := fun e he hb heq => by
        have h1 := hall e he hb
        rw [heq, getD_both hun] at h1
        cases h1
      have h2 := qOpIn_put hoj (hfree j oj hoj hji hjun hnot) (fun cs b => hsel i oi cs b hi) (fun cs b => hsel j oj cs b hoj) hy h1
      have hfree' : ∀ k ok, ops[k]? = some ok → k ≠ i → (listed.setIfInBounds j true).getD k true = false →
          (∀ e ∈ ok.after, Region.binds md e = true → e.on ≠ i) → oi.apart ops ok = true := fun k ok hk hki hun hno => by
        refine hfree k ok hk hki ?_ hno
        by_cases hjk : j = k
        · subst hjk; exact hjun
        · rw [getD_set_ne true hjk] at hun; exact hun
      refine qOpIn_mono (fun a' h3 => ih (listed.setIfInBounds j true) a' (inv.set hj hjn) hfree' (ready_mono hr (Ne.symm hji)) h3.1 ?_) h2
      rw [Array.setIfInBounds_comm _ _ hji]
      exact h3.2
def headB (md : Region.Mode) (ops : Array Oper) (M : Array Bool) : Nat → Nat → Array Bool → Bool
  | 0, _, listed => listed == M
  | f + 1, k, listed => (Region.ready md ops listed).contains k && Region.free md ops listed k && headB md ops M f (k + 1) (listed.setIfInBounds k true)
theorem head_lex {m : Nat} {M : Array Bool} {E : Act → Prop} (hsel : Region.noSelect ops = true) (hs : Region.sinkB md ops m = true) (hc : Region.chainB md ops m = true) (hn : m < ops.size) (hM : ∀ j ∈ Region.ready md ops M, m ≤ j) :
    ∀ (l : List Oper) (k : Nat) (listed : Array Bool) (a : Act), (∀ j, j < l.length → l[j]? = ops[k + j]?) → k + l.length = m → HeadInv md ops m listed →
    headB md ops M l.length k listed = true → wpQuietIn F n P ops C E l a → wpHead F n P md ops C m (fun listed' a' => listed' = M ∧ E a') l.length listed a
  | [], k, listed, a, _, hk, _, hB, h => ⟨by simpa [headB] using hB, h⟩
  | o :: l, k, listed, a, hl, hk, inv, hB, h => by
    have h0 : ops[k]? = some o := by simpa using (hl 0 (by simp)).symm
    simp only [List.length_cons, headB, Bool.and_eq_true] at hB
    obtain ⟨⟨hr, hf⟩, hB'⟩ := hB
    have hkn : k < m := by simp only [List.length_cons] at hk; omega
    have hr' : k ∈ Region.ready md ops listed := by simpa using hr
    have hst : qOpIn F n P ops C k (wpQuietIn F n P ops C E l) a := by unfold qOpIn; simp only [h0]; exact h
    obtain ⟨v, hy, hK⟩ := yieldsQuiet_of_qOpIn h0 hst
    exact head_first h0 (Region.noSelect_spec hsel) hs hc hn hkn (fun listed' a' hL => by rw [hL.1]; exact hM) l.length listed a inv (Region.free_spec h0 hf) hr' hy
      (head_lex hsel hs hc hn hM l (k + 1) _ _ (fun j hj => by have := hl (j + 1) (by simp; omega); simpa [Nat.add_assoc, Nat.add_comm 1 j] using this) (by simp only [List.length_cons] at hk; omega) (inv.set hr' hkn) hB' hK)
def tailB (ops : Array Oper) (m : Nat) : Bool := headB .any ops (mask1 m (ops.size - m)) m 0 (Array.replicate ops.size false) && Region.sinkB .any ops m && Region.chainB .any ops m && Region.noSelect ops && decide (m < ops.size) && noDeferB ops.toList && (Region.ready .any ops (mask1 m (ops.size - m))).all (fun j => decide (m ≤ j))
/-- A region within a round: its first m operations turn no memory, in any order; the others come behind them all. -/
theorem region_tail_round {id : Nat} {Q : Exit → Act → World → Prop} {a : Act} {w : World} (m : Nat) (hm : P.follows .mixedOrders = true) (hB : tailB ops m = true)
    (h : wpQuietIn F n P ops (fun w' => ∃ n, w' = w.drewN n) (fun a' => ∀ w', (∃ n, w' = w.drewN n) → wpAnyIn F n P .any ops Q (ops.size - m) (mask1 m (ops.size - m)) a' w') (ops.toList.take m) a) : (Code.region id ops true).wpIn F n P Q a w := by
  unfold tailB at hB
  simp only [Bool.and_eq_true, decide_eq_true_eq] at hB
  obtain ⟨⟨⟨⟨⟨⟨h1, h2⟩, h3⟩, h4⟩, h5⟩, h6⟩, h7⟩ := hB
  have hd' : ∀ (i : Nat) o, ops[i]? = some o → ∀ c, o.op ≠ .defer c := by
    intro i o ho
    have : ops.toList[i]? = some o := by simpa using ho
    exact noDefer_spec h6 o (List.mem_of_getElem? this)
  have hl : (ops.toList.take m).length = m := by rw [List.length_take]; simp; omega
  have hr : ∀ j ∈ Region.ready .any ops (mask1 m (ops.size - m)), m ≤ j := fun j hj => by simpa using List.all_eq_true.1 h7 j hj
  have inv0 : HeadInv .any ops m (Array.replicate ops.size false) :=
    ⟨by simp, fun j oj _ hl => (by rw [getD_replicate_false] at hl; cases hl), fun t _ ht => getD_in (by simpa using ht) (getD_replicate_false _ _)⟩
  have hp := head_lex (F := F) (n := n) (P := P) (C := fun w' => ∃ n, w' = w.drewN n) h4 h2 h3 h5 hr (ops.toList.take m) 0 (Array.replicate ops.size false) a (fun j hj => by
    rw [hl] at hj
    rw [List.getElem?_take_of_lt hj]
    simp) (by rw [hl]; omega) inv0 (by rw [hl]; exact h1) h
  rw [hl] at hp
  refine wpIn_region_any hm ?_
  have := any_of_head (F := F) (n := n) (P := P) (md := .any) (ops := ops) (C := fun w' => ∃ n, w' = w.drewN n) (Q' := Q) (g := ops.size - m) hd' (fun listed a' w' hw' he => by rw [he.1]; exact he.2 w' hw') m _ a { w with drawn := w.drawn + 1 } ⟨1, rfl⟩ hp
  rw [show m + (ops.size - m) = ops.size by omega] at this
  exact this
end
end Go.Proofs.Ytdbnpaloalhciaa.P
namespace Go.Proofs.Ytdbnpaloalhciaa.P
set_option linter.unusedVariables false
set_option linter.unusedSimpArgs false
open Go.RowKit Go.Shelf Go.Proofs.YtdbnpaloalhciaaW.PrintWords Go.Proofs.YtdbnpaloalhciaaW.PrintMore Go.Proofs.YtdbnpaloalhciaaW.PrintLast
/-! A step of the division, plain -/
def gs (us vs : List Int) (i : Nat) : Int := (nat_guess.f 10 (us.getD (i + vs.length) 0) (us.getD (i + vs.length - 1) 0) (us.getD (i + vs.length - 2) 0) (vs.getD (vs.length - 1) 0) (vs.getD (vs.length - 2) 0)).getD 0
def dvT (us vs : List Int) (i : Nat) : List Int × Int := toEnd us vs (gs us vs i) i
def dvU (us vs : List Int) (i : Nat) : List Int := if (dvT us vs i).2 > 0 then pbEnd (dvT us vs i).1 vs i else (dvT us vs i).1
def dvQ (us vs : List Int) (i : Nat) : Int := (if (dvT us vs i).2 > 0 then IntKind.u64.wrap (gs us vs i - 1) else gs us vs i) % 4294967296
theorem val_drop_step {l : List Int} {i : Nat} (h : i < l.length) : val (l.drop i) = (l.getD i 0).toNat + 4294967296 * val (l.drop (i + 1)) := by rw [drop_getD h, val]
theorem val_split (l : List Int) {i : Nat} (h : i ≤ l.length) : val l = val (l.take i) + 4294967296 ^ i * val (l.drop i) := by
  have := val_app (l.take i) (l.drop i)
  rwa [List.take_append_drop, List.length_take, Nat.min_eq_left h] at this
structure StepOk (us vs : List Int) (i : Nat) : Prop where
  guess : nat_guess.f 10 (us.getD (i + vs.length) 0) (us.getD (i + vs.length - 1) 0) (us.getD (i + vs.length - 2) 0) (vs.getD (vs.length - 1) 0) (vs.getD (vs.length - 2) 0) = some (gs us vs i)
  rng : 0 ≤ gs us vs i ∧ gs us vs i < 4294967296
  pos : (dvT us vs i).2 > 0 → 0 < gs us vs i
  ok : okL (dvU us vs i)
  len : (dvU us vs i).length = us.length
  take : (dvU us vs i).take i = us.take i
  rest : val ((dvU us vs i).drop i) = val (us.drop i) % val vs
  quot : dvQ us vs i = ((val (us.drop i) / val vs : Nat) : Int)
theorem step_ok {us vs : List Int} {i : Nat} (hu : okL us) (hv : okL vs) (hn : 2 ≤ vs.length) (htop : 2147483648 ≤ vs.getD (vs.length - 1) 0) (hi : i + vs.length < us.length) (hlt : val (us.drop (i + 1)) < val vs) : StepOk us vs i := by
  obtain ⟨n, hne⟩ : ∃ n, vs.length = n + 2 := ⟨vs.length - 2, by omega⟩
  have hVb : val vs < 4294967296 ^ (n + 2) := by rw [← hne]; exact val_lt hv
  -- the dividend and its limbs
  obtain ⟨X, hX⟩ : ∃ X, val (us.drop i) = X := ⟨_, rfl⟩
  have hXs := val_drop_step (l := us) (i := i) (by omega)
  have hui := okL_getD hu i
  have hXV : X < val vs * 4294967296 := by
    rw [← hX, hXs]
    have h1 := Nat.mul_le_mul_left 4294967296 (show val (us.drop (i + 1)) + 1 ≤ val vs from hlt)
    rw [Nat.mul_add, Nat.mul_comm 4294967296 (val vs)] at h1
    omega
  have hXb : X < 4294967296 ^ (n + 3) := by
    have := Nat.mul_lt_mul_of_pos_right hVb (show 0 < 4294967296 by omega)
    have e : 4294967296 ^ (n + 3) = 4294967296 ^ (n + 2) * 4294967296 := Nat.pow_succ ..
    rw [e]
    exact Nat.lt_trans hXV this
  -- what stands above is nothing
  have hhigh : val (us.drop (i + (n + 3))) = 0 := by
    have h1 := val_split (us.drop i) (i := n + 3) (by rw [List.length_drop]; omega)
    rw [List.drop_drop, hX] at h1
    rcases Nat.eq_zero_or_pos (val (us.drop (i + (n + 3)))) with h | h
    · exact h
    · have := Nat.le_mul_of_pos_right (4294967296 ^ (n + 3)) h; omega
  -- the three highest limbs of the dividend, the two highest of the divisor
  have hb : ∀ j, 0 ≤ us.getD j 0 ∧ us.getD j 0 < 4294967296 := fun j => okL_getD hu j
  have hbv : ∀ j, 0 ≤ vs.getD j 0 ∧ vs.getD j 0 < 4294967296 := fun j => okL_getD hv j
  obtain ⟨u2, hu2⟩ : ∃ u : Nat, us.getD (i + (n + 2)) 0 = u := ⟨(us.getD (i + (n + 2)) 0).toNat, by have := hb (i + (n + 2)); omega⟩
  obtain ⟨u1, hu1⟩ : ∃ u : Nat, us.getD (i + (n + 1)) 0 = u := ⟨(us.getD (i + (n + 1)) 0).toNat, by have := hb (i + (n + 1)); omega⟩
  obtain ⟨u0, hu0⟩ : ∃ u : Nat, us.getD (i + n) 0 = u := ⟨(us.getD (i + n) 0).toNat, by have := hb (i + n); omega⟩
  obtain ⟨v1, hv1⟩ : ∃ u : Nat, vs.getD (n + 1) 0 = u := ⟨(vs.getD (n + 1) 0).toNat, by have := hbv (n + 1); omega⟩
  obtain ⟨v0, hv0⟩ : ∃ u : Nat, vs.getD n 0 = u := ⟨(vs.getD n 0).toNat, by have := hbv n; omega⟩
  have b2 := hb (i + (n + 2)); rw [hu2] at b2
  have b1 := hb (i + (n + 1)); rw [hu1] at b1
  have b0 := hb (i + n); rw [hu0] at b0
  have c1 := hbv (n + 1); rw [hv1] at c1
  have c0 := hbv n; rw [hv0] at c0
  rw [hne, show n + 2 - 1 = n + 1 by omega, hv1] at htop
  have hW : 0 < 4294967296 ^ n := Nat.pow_pos (by omega)
  have hXr : val (us.drop (i + n)) = (u2 * 4294967296 + u1) * 4294967296 + u0 := by
    rw [val_drop_step (show i + n < us.length by omega), hu0, show i + n + 1 = i + (n + 1) by omega, val_drop_step (show i + (n + 1) < us.length by omega), hu1, show i + (n + 1) + 1 = i + (n + 2) by omega, val_drop_step (show i + (n + 2) < us.length by omega), hu2, show i + (n + 2) + 1 = i + (n + 3) by omega, hhigh]
    simp only [Int.toNat_natCast]
    omega
  have hXw := val_split (us.drop i) (i := n) (by rw [List.length_drop]; omega)
  rw [List.drop_drop, hXr, hX] at hXw
  have hXlo : val ((us.drop i).take n) < 4294967296 ^ n := by
    have := val_lt (okL_take (okL_drop hu i) n)
    rw [List.length_take, List.length_drop, Nat.min_eq_left (by omega)] at this
    exact this
  have hVr : val (vs.drop n) = v1 * 4294967296 + v0 := by
    rw [val_drop_step (show n < vs.length by omega), hv0, val_drop_step (show n + 1 < vs.length by omega), hv1, show n + 1 + 1 = n + 2 by omega, List.drop_of_length_le (by omega)]
    simp only [Int.toNat_natCast, val]
    omega
  have hVw := val_split vs (i := n) (by omega)
  rw [hVr] at hVw
  have hVlo : val (vs.take n) < 4294967296 ^ n := by
    have := val_lt (okL_take hv n)
    rw [List.length_take, Nat.min_eq_left (by omega)] at this
    exact this
  generalize 4294967296 ^ n = W at *
  generalize val ((us.drop i).take n) = xl at *
  generalize val (vs.take n) = vl at *
  have hX0 : ((u2 * 4294967296 + u1) * 4294967296 + u0) * W ≤ X := by rw [hXw, Nat.mul_comm]; omega
  have hX1 : X < ((u2 * 4294967296 + u1) * 4294967296 + u0 + 1) * W := by rw [hXw, Nat.add_mul _ 1, Nat.one_mul, Nat.mul_comm W]; omega
  have hV0 : (v1 * 4294967296 + v0) * W ≤ val vs := by rw [hVw, Nat.mul_comm]; omega
  have hV1 : val vs < (v1 * 4294967296 + v0 + 1) * W := by rw [hVw, Nat.add_mul _ 1, Nat.one_mul, Nat.mul_comm W]; omega
  have hu2v : u2 ≤ v1 := by
    rcases Nat.lt_or_ge v1 u2 with h | h
    · exfalso
      have e1 : ((u2 * 4294967296 + u1) * 4294967296 + u0) * W < (v1 * 4294967296 + v0 + 1) * W * 4294967296 := by omega
      rw [Nat.mul_right_comm] at e1
      have e2 := Nat.lt_of_mul_lt_mul_right e1
      omega
    · exact h
  obtain ⟨q, hg, hgo⟩ := guess_f u2 u1 u0 v1 v0 hu2v (by omega) (by omega) (by omega) (by omega) (by omega)
  obtain ⟨hq1, hq2⟩ := guess_digit hW hgo hX0 hX1 hV0 hV1 (by
    have := Nat.mul_le_mul_left 4294967296 (show 2147483648 ≤ v1 by omega); omega) hXV
  have hgs : gs us vs i = (q : Int) := by
    unfold gs
    rw [hne, show i + (n + 2) - 1 = i + (n + 1) by omega, show i + (n + 2) - 2 = i + n by omega, show n + 2 - 1 = n + 1 by omega, show n + 2 - 2 = n by omega, hu2, hu1, hu0, hv1, hv0, hg]
    rfl
  have hql := hgo.lt
  have hqr : 0 ≤ gs us vs i ∧ gs us vs i < 4294967296 := by rw [hgs]; omega
  obtain ⟨t1, t2, t3⟩ := toEnd_ok (us := us) (vs := vs) i hu hv hqr.1
  have tv := toEnd_val (us := us) (vs := vs) i hu hv hqr (by omega)
  have tt := toEnd_take us vs (gs us vs i) i
  have td := toEnd_drop us vs (gs us vs i) i
  rw [hgs, Int.toNat_natCast] at tv
  rw [hgs] at t1 t2 t3 tt td
  obtain ⟨T, hT⟩ : ∃ T, toEnd us vs (q : Int) i = T := ⟨_, rfl⟩
  rw [hT] at t1 t2 t3 tv tt td
  have hdT : dvT us vs i = T := by unfold dvT; rw [hgs, hT]
  have hBi : 0 < 4294967296 ^ i := Nat.pow_pos (by omega)
  -- values from place i on
  have hsU := val_split us (i := i) (by omega)
  have hsT := val_split T.1 (i := i) (by omega)
  rw [hX] at hsU
  rw [tt] at hsT
  have key : val (T.1.drop i) + q * val vs = X + 4294967296 ^ (n + 3) * T.2.toNat := by
    rw [hsU, hsT, hne, show i + (n + 2) + 1 = i + (n + 3) by omega, Nat.pow_add, Nat.mul_assoc, Nat.add_assoc, Nat.add_assoc] at tv
    have := Nat.add_left_cancel tv
    rw [← Nat.mul_add, ← Nat.mul_add] at this
    exact Nat.eq_of_mul_eq_mul_left hBi this
  have hTh : val (T.1.drop i) < 4294967296 ^ (n + 3) := by
    have h1 := val_split (T.1.drop i) (i := n + 3) (by rw [List.length_drop]; omega)
    rw [List.drop_drop, show i + (n + 3) = i + vs.length + 1 by omega, td, show i + vs.length + 1 = i + (n + 3) by omega, hhigh, Nat.mul_zero, Nat.add_zero] at h1
    rw [h1]
    have := val_lt (okL_take (okL_drop t1 i) (n + 3))
    rw [List.length_take, List.length_drop, Nat.min_eq_left (by omega)] at this
    exact this
  have hVp : 0 < val vs := by
    rcases Nat.eq_zero_or_pos (val vs) with h | h
    · rw [h] at hXV; omega
    · exact h
  have hdm := Nat.div_add_mod' X (val vs)
  have hml := Nat.mod_lt X hVp
  rcases Int.lt_or_le 0 T.2 with hbor | hbor
  · -- one too great
    have hT1 : T.2.toNat = 1 := by omega
    rw [hT1, Nat.mul_one] at key
    have hqe : q = X / val vs + 1 := by
      rcases Nat.lt_or_ge (X / val vs) q with h | h
      · omega
      · exfalso
        have := Nat.mul_le_mul_right (val vs) h
        omega
    obtain ⟨p1, p2⟩ := pbEnd_ok (us := T.1) (vs := vs) i t1 hv
    obtain ⟨c, pv⟩ := pbEnd_val (us := T.1) (vs := vs) i t1 hv (by omega)
    have pt := pbEnd_take T.1 vs i
    have pd := pbEnd_drop T.1 vs i
    obtain ⟨P, hP⟩ : ∃ P, pbEnd T.1 vs i = P := ⟨_, rfl⟩
    rw [hP] at p1 p2 pv pt pd
    have hsP := val_split P (i := i) (by omega)
    rw [pt, tt] at hsP
    have keyP : val (P.drop i) + 4294967296 ^ (n + 3) * c = val (T.1.drop i) + val vs := by
      rw [hsP, hsT, hne, show i + (n + 2) + 1 = i + (n + 3) by omega, Nat.pow_add, Nat.mul_assoc, Nat.add_assoc, Nat.add_assoc] at pv
      have := Nat.add_left_cancel pv
      rw [← Nat.mul_add, ← Nat.mul_add] at this
      exact Nat.eq_of_mul_eq_mul_left hBi this
    have hPh : val (P.drop i) < 4294967296 ^ (n + 3) := by
      have h1 := val_split (P.drop i) (i := n + 3) (by rw [List.length_drop]; omega)
      rw [List.drop_drop, show i + (n + 3) = i + vs.length + 1 by omega, pd, td, show i + vs.length + 1 = i + (n + 3) by omega, hhigh, Nat.mul_zero, Nat.add_zero] at h1
      rw [h1]
      have := val_lt (okL_take (okL_drop p1 i) (n + 3))
      rw [List.length_take, List.length_drop, Nat.min_eq_left (by omega)] at this
      exact this
    have hmV : val vs < 4294967296 ^ (n + 3) := Nat.lt_trans hVb (Nat.pow_lt_pow_right (by omega) (by omega))
    have hrest : val (P.drop i) = X % val vs := by
      rw [hqe, Nat.add_mul, Nat.one_mul] at key
      generalize X / val vs * val vs = m1 at *
      generalize X % val vs = m2 at *
      generalize 4294967296 ^ (n + 3) = BB at *
      rcases c with _ | _ | c
      · rw [Nat.mul_zero] at keyP; omega
      · rw [Nat.zero_add, Nat.mul_one] at keyP; omega
      · rw [show c + 1 + 1 = c + 2 from rfl, Nat.mul_add] at keyP; omega
    refine ⟨by rw [hgs]; unfold gs at hgs; rw [hne, show i + (n + 2) - 1 = i + (n + 1) by omega, show i + (n + 2) - 2 = i + n by omega, show n + 2 - 1 = n + 1 by omega, show n + 2 - 2 = n by omega, hu2, hu1, hu0, hv1, hv0]; exact hg, hqr, fun _ => by rw [hgs]; exact Int.natCast_pos.2 (by rw [hqe]; exact Nat.succ_pos _), ?_, ?_, ?_, ?_, ?_⟩
    · unfold dvU; rw [hdT, if_pos hbor, hP]; exact p1
    · unfold dvU; rw [hdT, if_pos hbor, hP, p2, t2]
    · unfold dvU; rw [hdT, if_pos hbor, hP, pt, tt]
    · unfold dvU; rw [hdT, if_pos hbor, hP, hX]; exact hrest
    · unfold dvQ; rw [hdT, if_pos hbor, hgs, hX]; generalize X / val vs = Z at *; rw [u64w (by omega) (by omega)]; omega
  · have hT0 : T.2.toNat = 0 := by omega
    rw [hT0, Nat.mul_zero, Nat.add_zero] at key
    have hqe : q = X / val vs := by
      rcases Nat.lt_or_ge (X / val vs) q with h | h
      · exfalso
        have h2 := Nat.mul_le_mul_right (val vs) (show X / val vs + 1 ≤ q from h)
        rw [Nat.add_mul, Nat.one_mul] at h2
        omega
      · omega
    have hrest : val (T.1.drop i) = X % val vs := by rw [hqe] at key; omega
    refine ⟨by rw [hgs]; unfold gs at hgs; rw [hne, show i + (n + 2) - 1 = i + (n + 1) by omega, show i + (n + 2) - 2 = i + n by omega, show n + 2 - 1 = n + 1 by omega, show n + 2 - 2 = n by omega, hu2, hu1, hu0, hv1, hv0]; exact hg, hqr, fun h => by rw [hdT] at h; omega, ?_, ?_, ?_, ?_, ?_⟩
    · unfold dvU; rw [hdT, if_neg (by omega)]; exact t1
    · unfold dvU; rw [hdT, if_neg (by omega), t2]
    · unfold dvU; rw [hdT, if_neg (by omega), tt]
    · unfold dvU; rw [hdT, if_neg (by omega), hX]; exact hrest
    · unfold dvQ; rw [hdT, if_neg (by omega), hgs, hX, ← hqe]; omega
/-! All steps -/
def dvS (vs : List Int) (s : List Int × List Int) (i : Nat) : List Int × List Int := (dvU s.1 vs i, s.2.set i (dvQ s.1 vs i))
def dvF (us vs : List Int) (m : Nat) (l : List Nat) : List Int × List Int := l.foldl (dvS vs) (us, List.replicate m 0)
theorem dvF_snoc (us vs : List Int) (m : Nat) (l : List Nat) (i : Nat) : dvF us vs m (l ++ [i]) = dvS vs (dvF us vs m l) i := by simp [dvF]
theorem gs_rng {us vs : List Int} (hu : okL us) (hv : okL vs) (htop : 2147483648 ≤ vs.getD (vs.length - 1) 0) (i : Nat) : nat_guess.f 10 (us.getD (i + vs.length) 0) (us.getD (i + vs.length - 1) 0) (us.getD (i + vs.length - 2) 0) (vs.getD (vs.length - 1) 0) (vs.getD (vs.length - 2) 0) = some (gs us vs i) ∧ 0 ≤ gs us vs i ∧ gs us vs i < 18446744073709551616 := by
  obtain ⟨q, h1, h2, h3⟩ := guess_told (us.getD (i + vs.length) 0) (us.getD (i + vs.length - 1) 0) (us.getD (i + vs.length - 2) 0) (vs.getD (vs.length - 1) 0) (vs.getD (vs.length - 2) 0) (okL_getD hu _) (okL_getD hu _) htop (okL_getD hv _).2
  have : gs us vs i = q := by unfold gs; rw [h1]; rfl
  rw [this]
  exact ⟨h1, h2, h3⟩
theorem dvU_ok {us vs : List Int} (hu : okL us) (hv : okL vs) (htop : 2147483648 ≤ vs.getD (vs.length - 1) 0) (i : Nat) : okL (dvU us vs i) ∧ (dvU us vs i).length = us.length ∧ okL (dvT us vs i).1 ∧ (dvT us vs i).1.length = us.length := by
  have hg := gs_rng hu hv htop i
  obtain ⟨t1, t2, _⟩ := toEnd_ok (us := us) (vs := vs) i hu hv hg.2.1
  obtain ⟨p1, p2⟩ := pbEnd_ok (us := (toEnd us vs (gs us vs i) i).1) (vs := vs) i t1 hv
  unfold dvU dvT
  split
  · exact ⟨p1, by rw [p2, t2], t1, t2⟩
  · exact ⟨t1, t2, t1, t2⟩
theorem dvF_ok {us vs : List Int} (hu : okL us) (hv : okL vs) (htop : 2147483648 ≤ vs.getD (vs.length - 1) 0) (m : Nat) (l : List Nat) : okL (dvF us vs m l).1 ∧ (dvF us vs m l).1.length = us.length ∧ okL (dvF us vs m l).2 ∧ (dvF us vs m l).2.length = m := by
  have key : ∀ (l : List Nat) (s : List Int × List Int), (okL s.1 ∧ s.1.length = us.length ∧ okL s.2 ∧ s.2.length = m) → (okL (l.foldl (dvS vs) s).1 ∧ (l.foldl (dvS vs) s).1.length = us.length ∧ okL (l.foldl (dvS vs) s).2 ∧ (l.foldl (dvS vs) s).2.length = m) := by
    intro l
    induction l with
    | nil => intro s h; exact h
    | cons i l ih =>
      intro s h
      obtain ⟨h1, h2, h3, h4⟩ := h
      refine ih _ ?_
      obtain ⟨d1, d2, _⟩ := dvU_ok h1 hv htop i
      unfold dvS
      exact ⟨d1, by rw [d2, h2], okL_set h3 _ (by unfold dvQ; omega) (by unfold dvQ; omega), by rw [List.length_set, h4]⟩
  exact key l _ ⟨hu, rfl, fun z hz => by rw [List.eq_of_mem_replicate hz]; omega, by simp⟩
theorem dv_fold {us0 vs : List Int} (hv : okL vs) (hn : 2 ≤ vs.length) (htop : 2147483648 ≤ vs.getD (vs.length - 1) 0) (m : Nat) : ∀ (i : Nat) (s : List Int × List Int), i ≤ m → m + vs.length = us0.length → okL us0 → okL s.1 → s.1.length = us0.length → s.2.length = m → okL s.2 → s.1.take i = us0.take i → val (s.1.drop i) = val (us0.drop i) % val vs → val (s.2.drop i) = val (us0.drop i) / val vs →
    val ((down i).foldl (dvS vs) s).1 = val us0 % val vs ∧ val ((down i).foldl (dvS vs) s).2 = val us0 / val vs
  | 0, s, _, _, _, _, _, _, _, _, h1, h2 => by simpa [down] using ⟨h1, h2⟩
  | i + 1, s, hi, hm, hu0, hok, hl, hlq, hokq, ht, hr, hq => by
    have hVp : 0 < val vs := by
      rcases Nat.eq_zero_or_pos (val vs) with h | h
      · have := (val_zero hv).1 h (vs.getD (vs.length - 1) 0) (by
          rw [List.getD_eq_getElem?_getD, List.getElem?_eq_getElem (show vs.length - 1 < vs.length by omega)]; exact List.getElem_mem _)
        omega
      · exact h
    have hlt : val (s.1.drop (i + 1)) < val vs := by rw [hr]; exact Nat.mod_lt _ hVp
    have st := step_ok (us := s.1) (vs := vs) (i := i) hok hv hn htop (by omega) hlt
    have hgi : s.1.getD i 0 = us0.getD i 0 := by
      have h1 : s.1.getD i 0 = (s.1.take (i + 1)).getD i 0 := by
        rw [List.getD_eq_getElem?_getD, List.getD_eq_getElem?_getD, List.getElem?_take_of_lt (by omega)]
      have h2 : us0.getD i 0 = (us0.take (i + 1)).getD i 0 := by
        rw [List.getD_eq_getElem?_getD, List.getD_eq_getElem?_getD, List.getElem?_take_of_lt (by omega)]
      rw [h1, ht, ← h2]
    have hX := val_drop_step (l := s.1) (i := i) (by omega)
    have hX0 := val_drop_step (l := us0) (i := i) (by omega)
    rw [hr, hgi] at hX
    generalize hu : (us0.getD i 0).toNat = u at *
    generalize hA : val (us0.drop (i + 1)) = A at *
    have hAe := Nat.div_add_mod A (val vs)
    have e0 : val (us0.drop i) = (u + 4294967296 * (A % val vs)) + val vs * (4294967296 * (A / val vs)) := by
      rw [hX0]
      conv => lhs; rw [← hAe]
      rw [Nat.mul_add, Nat.mul_left_comm]
      omega
    have er : val (s.1.drop i) % val vs = val (us0.drop i) % val vs := by rw [hX, e0, Nat.add_mul_mod_self_left]
    have eq : val (us0.drop i) / val vs = val (s.1.drop i) / val vs + 4294967296 * (A / val vs) := by rw [hX, e0, Nat.add_mul_div_left _ _ hVp]
    rw [down, List.foldl_cons]
    refine dv_fold hv hn htop m i (dvS vs s i) (by omega) hm hu0 st.ok (by unfold dvS; rw [st.len, hl]) (by unfold dvS; rw [List.length_set, hlq]) (okL_set hokq _ (by unfold dvQ; omega) (by unfold dvQ; omega)) ?_ ?_ ?_
    · show (dvU s.1 vs i).take i = _
      rw [st.take]
      have := congrArg (List.take i) ht
      rw [List.take_take, List.take_take, Nat.min_eq_left (by omega)] at this
      exact this
    · show val ((dvU s.1 vs i).drop i) = _
      rw [st.rest, er]
    · show val ((s.2.set i (dvQ s.1 vs i)).drop i) = _
      rw [val_drop_step (by rw [List.length_set]; omega), getD_set, if_pos ⟨rfl, by omega⟩, List.drop_set_of_lt (by omega), hq, st.quot, Int.toNat_natCast, eq]
/-- Quotient and rest. -/
theorem dv_val {us vs : List Int} (hu : okL us) (hv : okL vs) (hn : 2 ≤ vs.length) (htop : 2147483648 ≤ vs.getD (vs.length - 1) 0) (m : Nat) (hm : m + vs.length = us.length) (hlt : val us < val vs * 4294967296 ^ m) :
    val (dvF us vs m (down m)).1 = val us % val vs ∧ val (dvF us vs m (down m)).2 = val us / val vs := by
  have hs := val_split us (i := m) (by omega)
  have hd : val (us.drop m) < val vs := by
    rcases Nat.lt_or_ge (val (us.drop m)) (val vs) with h | h
    · exact h
    · have := Nat.mul_le_mul_left (4294967296 ^ m) h
      rw [Nat.mul_comm (val vs)] at hlt
      omega
  have hz : okL (List.replicate m (0 : Int)) := fun z hz => by rw [List.eq_of_mem_replicate hz]; omega
  exact dv_fold hv hn htop m m (us, List.replicate m 0) (Nat.le_refl _) hm hu hu rfl (by simp) hz rfl (by simp only []; rw [Nat.mod_eq_of_lt hd]) (by
    simp only []
    rw [List.drop_of_length_le (by simp), Nat.div_eq_of_lt hd]
    rfl)
end Go.Proofs.Ytdbnpaloalhciaa.P

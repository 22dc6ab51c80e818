/- nat's compare: contract. -/
import Derived.Test.YtdbnpaloalhciaaNo
import Derived.Shelf.Abstract
import Derived.Test.YtdbnpaloalhciaaNt
namespace Go.Proofs.Ytdbnpaloalhciaa.P
set_option linter.unusedVariables false
set_option linter.unusedSimpArgs false
open Go.RowKit Go.Shelf Go.Proofs.YtdbnpaloalhciaaW.PrintWords Go.Proofs.YtdbnpaloalhciaaW.PrintMore Go.Proofs.YtdbnpaloalhciaaW.PrintLast
attribute [local go_sem] Oper.semAt_some
def nat_num_compare.f (l0 l1 : List Int) : Option Int := if (canon l0 ∧ canon l1) ∧ l0.length ≤ 1073741824 ∧ l1.length ≤ 1073741824 then some (cmpI (val l0) (val l1)) else none
theorem readable_of_C {A : Option Addr} {l : List Int} {w : World} (h : Kd.C (Kd.int .u32) w A l.length l) : Readable A l.length w := by
  intro ad e j hj
  subst e
  obtain ⟨ad', e', hx⟩ := Kd.at_int h (j : Int) (by omega) (by omega)
  cases e'
  rw [Int.toNat_natCast] at hx
  exact ⟨_, hx⟩
theorem addr_of_C {A : Option Addr} {l : List Int} {w : World} (h : Kd.C (Kd.int .u32) w A l.length l) : 0 < l.length → ∃ ad, A = some ad := by
  intro hp
  obtain ⟨ad', e', hx⟩ := Kd.at_int h (0 : Int) (by omega) (by omega)
  exact ⟨ad', e'⟩
/-- Two numbers of like length: they agree from the last place down to place x; there they differ. -/
theorem val_differ {a b : List Int} (ha : okL a) (hb : okL b) (hl : a.length = b.length) {x : Nat} (hx : x < a.length) (he : ∀ j, x < j → j < a.length → a.getD j 0 = b.getD j 0) (hd : a.getD x 0 < b.getD x 0) : val a < val b := by
  have key : ∀ k, x + 1 + k ≤ a.length → val (a.take (x + 1 + k)) < val (b.take (x + 1 + k)) := by
    intro k
    induction k with
    | zero =>
      intro _
      rw [Nat.add_zero, val_take_step a x, val_take_step b x]
      have h1 := okL_getD ha x
      have h2 := okL_getD hb x
      have h3 := val_lt (okL_take ha x)
      rw [List.length_take, Nat.min_eq_left (by omega)] at h3
      have h4 : (a.getD x 0).toNat + 1 ≤ (b.getD x 0).toNat := by omega
      have h5 := Nat.mul_le_mul_left (4294967296 ^ x) h4
      rw [Nat.mul_add] at h5
      omega
    | succ k ih =>
      intro hk
      have := ih (by omega)
      rw [show x + 1 + (k + 1) = (x + 1 + k) + 1 by omega, val_take_step a, val_take_step b, he (x + 1 + k) (by omega) (by omega)]
      omega
  have := key (a.length - (x + 1)) (by omega)
  rw [show x + 1 + (a.length - (x + 1)) = a.length by omega, List.take_of_length_le (Nat.le_refl _), List.take_of_length_le (by omega)] at this
  exact this
theorem down_mem : ∀ (n j : Nat), j ∈ down n ↔ j < n
  | 0, j => by simp [down]
  | n + 1, j => by rw [down, List.mem_cons, down_mem n]; omega
theorem down_split : ∀ (n : Nat) (l : List Nat) (x : Nat), l ++ [x] <+: down n → x < n ∧ (∀ j, j ∈ l ↔ x < j ∧ j < n)
  | 0, l, x, h => by
    obtain ⟨t, ht⟩ := h
    simp [down] at ht
  | n + 1, [], x, h => by
    obtain ⟨t, ht⟩ := h
    rw [down] at ht
    simp at ht
    obtain ⟨rfl, _⟩ := ht
    exact ⟨by omega, fun j => by simp; omega⟩
  | n + 1, y :: l, x, h => by
    obtain ⟨t, ht⟩ := h
    rw [down] at ht
    simp only [List.cons_append, List.cons.injEq] at ht
    obtain ⟨rfl, ht⟩ := ht
    obtain ⟨h1, h2⟩ := down_split y l x ⟨t, ht⟩
    refine ⟨by omega, fun j => ?_⟩
    rw [List.mem_cons, h2]
    omega
def sameAt (a b : List Int) (l : List Nat) : Prop := ∀ j ∈ l, a.getD j 0 = b.getD j 0
theorem cmpI_lt {x y : Int} (h : x < y) : cmpI x y = -1 := by unfold cmpI; rw [if_pos h]
theorem cmpI_gt {x y : Int} (h : y < x) : cmpI x y = 1 := by unfold cmpI; rw [if_neg (by omega), if_pos h]
theorem cmpI_eq (x : Int) : cmpI x x = 0 := by unfold cmpI; rw [if_neg (by omega), if_neg (by omega)]
theorem cmpI_zero {x y : Int} (h : cmpI x y = 0) : x = y := by
  unfold cmpI at h
  split at h
  · omega
  · split at h <;> omega
theorem cmp_len {a b : List Int} (ha : canon a) (hb : canon b) (hl : cmpI a.length b.length ≠ 0) : cmpI a.length b.length = cmpI (val a) (val b) := by
  have lt : ∀ {a b : List Int}, canon a → canon b → a.length < b.length → val a < val b := by
    intro a b ha hb h
    have h1 := val_lt (canon_okL ha)
    have h2 := canon_ge hb (by intro e; subst e; simp at h)
    have h3 : 4294967296 ^ a.length ≤ 4294967296 ^ (b.length - 1) := Nat.pow_le_pow_right (by omega) (by omega)
    omega
  rcases Nat.lt_trichotomy a.length b.length with h | h | h
  · have := lt ha hb h
    rw [cmpI_lt (by omega), cmpI_lt (by omega)]
  · rw [h, cmpI_eq] at hl; exact absurd rfl hl
  · have := lt hb ha h
    rw [cmpI_gt (by omega), cmpI_gt (by omega)]
theorem cmp_stop {a b : List Int} (ha : okL a) (hb : okL b) (hl : a.length = b.length) {l : List Nat} {x : Nat} (h : l ++ [x] <+: down a.length) (hs : sameAt a b l) (hd : cmpI (a.getD x 0) (b.getD x 0) ≠ 0) : cmpI (a.getD x 0) (b.getD x 0) = cmpI (val a) (val b) := by
  obtain ⟨h1, h2⟩ := down_split _ _ _ h
  have he : ∀ j, x < j → j < a.length → a.getD j 0 = b.getD j 0 := fun j hj hk => hs j ((h2 j).2 ⟨hj, hk⟩)
  rcases Int.lt_trichotomy (a.getD x 0) (b.getD x 0) with h | h | h
  · have := val_differ ha hb hl h1 he h
    rw [cmpI_lt h, cmpI_lt (by omega)]
  · rw [h, cmpI_eq] at hd; exact absurd rfl hd
  · have := val_differ hb ha hl.symm (by omega) (fun j hj hk => (he j hj (by omega)).symm) h
    rw [cmpI_gt h, cmpI_gt (by omega)]
theorem cmp_done {a b : List Int} (hl : a.length = b.length) {l : List Nat} (h : l = down a.length) (hs : sameAt a b l) : cmpI (val a) (val b) = 0 := by
  have e : a = b := by
    apply List.ext_getElem hl
    intro j h1 h2
    have := hs j (by rw [h]; exact (down_mem _ _).2 h1)
    rw [List.getD_eq_getElem?_getD, List.getD_eq_getElem?_getD, List.getElem?_eq_getElem h1, List.getElem?_eq_getElem h2] at this
    exact this
  rw [e, cmpI_eq]
set_option maxRecDepth 100000 in
set_option maxHeartbeats 4000000 in
theorem compare_ne (A B : Option Addr) (ca cb : Nat) (a b : List Int) (w : World) (hl : ¬ cmpI a.length b.length = 0) :
    Calls Try.prog 53 #[.slice A a.length ca, .slice B b.length cb] w fun e W' => e = .returned (.int .i64 (cmpI a.length b.length)) ∧ Below w.heap.size w W' := by
  go_enter Try.func53, Try.ntmps53
  go_wp2_with fail
  refine (cmp_int a.length b.length _).mono ?_
  rintro e w' ⟨rfl, rfl⟩
  go_wp2
  refine bodyPost_ret (v := .int .i64 (cmpI a.length b.length)) (by simp [results, Try.f53, go_sem]) rfl ?_
  exact ⟨rfl, (((Below.refl _ w).alloc (Nat.le_refl _) _).alloc (by simp) _).alloc (by simp; omega) _⟩
set_option maxRecDepth 100000 in
set_option maxHeartbeats 4000000 in
theorem compare_in (n : Nat) (hn : 4 ≤ n) (A B : Option Addr) (ca cb : Nat) (a b : List Int) (w : World) (hCa : Kd.C (Kd.int .u32) w A a.length a) (hca : a.length ≤ ca) (hCb : Kd.C (Kd.int .u32) w B b.length b) (hcb : b.length ≤ cb) (hab : canon a ∧ canon b) (hz : a.length ≤ 1073741824) (hz' : b.length ≤ 1073741824) (hl : cmpI a.length b.length = 0) :
    CallsIn Fence.wide n Try.prog 53 #[.slice A a.length ca, .slice B b.length cb] w fun e W' => e = .returned (.int .i64 (cmpI (val a) (val b))) ∧ Below w.heap.size w W' := by
  have h1 : 1 ≤ n := by omega
  have HCa := Lib.hid hCa
  have HCb := Lib.hid hCb
  have HAB := Lib.hid hab
  clear hCa hCb hab
  refine callsIn_of_wp_marks Try.func53 rfl trivial ?_ rfl
  simp only [Try.ntmps53, List.size_toArray, List.length_cons, List.length_nil, Nat.reduceAdd, Nat.reduceSub, Array.replicate_succ, Array.replicate_zero, List.push_toArray, List.append_toArray, List.nil_append, List.cons_append]
  gi_wp2_with fail
  refine ⟨trivial, (callsIn_wide.2 (cmp_int a.length b.length _)).mono ?_⟩
  rintro e w' ⟨rfl, rfl⟩
  have hlen : a.length = b.length := by
    rcases Nat.lt_trichotomy a.length b.length with h | h | h
    · rw [cmpI_lt (by omega)] at hl; omega
    · exact h
    · rw [cmpI_gt (by omega)] at hl; omega
  have HLEN := Lib.hid hlen
  clear hlen
  have hA := addr_of_C HCa.out
  gi_wp2_with (refine ⟨trivial, ?_⟩; gi_at_call 67; refine (backward_in (n - 1) _ _ _ _).mono ?_; rintro e w' ⟨rfl, rfl⟩)
  have b1 := Boxed.new w 62 (.slice A a.length ca)
  have b2 := Boxed.new (w.alloc (.cells #[.slice A a.length ca] 62)) 62 (.slice B b.length cb)
  have b3 := Boxed.new ((w.alloc (.cells #[.slice A a.length ca] 62)).alloc (.cells #[.slice B b.length cb] 62)) 3 (.int .i64 0)
  have bS := Boxed.new (((w.alloc (.cells #[.slice A a.length ca] 62)).alloc (.cells #[.slice B b.length cb] 62)).alloc (.cells #[.int .i64 0] 3)) 62 (.slice A a.length ca)
  have hB0 : Below w.heap.size w ((((w.alloc (.cells #[.slice A a.length ca] 62)).alloc (.cells #[.slice B b.length cb] 62)).alloc (.cells #[.int .i64 0] 3)).alloc (.cells #[.slice A a.length ca] 62)) := ((((Below.refl _ w).alloc (Nat.le_refl _) _).alloc (by simp) _).alloc (by simp; omega) _).alloc (by simp; omega) _
  simp only [World.size_alloc] at b2 b3 bS
  have b1' := ((b1.alloc (.cells #[.slice B b.length cb] 62)).alloc (.cells #[.int .i64 0] 3)).alloc (.cells #[.slice A a.length ca] 62)
  have b2' := (b2.alloc (.cells #[.int .i64 0] 3)).alloc (.cells #[.slice A a.length ca] 62)
  have b3' := b3.alloc (.cells #[.slice A a.length ca] 62)
  obtain ⟨W0, hW0⟩ : ∃ W0, W0 = (((w.alloc (.cells #[.slice A a.length ca] 62)).alloc (.cells #[.slice B b.length cb] 62)).alloc (.cells #[.int .i64 0] 3)).alloc (.cells #[.slice A a.length ca] 62) := ⟨_, rfl⟩
  have hz0 : W0.heap.size = w.heap.size + 4 := by rw [hW0]; simp
  rw [← hW0] at hB0 b1' b2' b3' bS ⊢
  have hr : Readable A a.length W0 := readable_of_C (Kd.C_below HCa.out hB0)
  have HZ := Lib.hid hz0
  have HB0 := Lib.hid hB0
  have C1 := Lib.hid b1'.cell
  have C2 := Lib.hid b2'.cell
  have C3 := Lib.hid b3'.cell
  have F3 := Lib.hid b3'.frozen
  clear b1 b2 b3 hz0 hB0 hW0 b1' b2' b3'
  refine wpIn_rangeFunc_ownF rfl h1 (gf := 80) (lb := #[.pointer (some ⟨w.heap.size + 1 + 1 + 1, 0, none⟩)]) rfl trivial (enters_of Try.func80 (by kernel_rfl) rfl)
    (backward_stops (n - 1) (by omega) (w.heap.size + 1 + 1 + 1) W0.heap.size A a.length ca (by omega) W0 bS.cell hA hr) kpB_t (kpB_b (Nat.le_refl _) (by have := HZ.out; omega) hr) (Below.refl _ _) (fun _ => rfl)
    (fun (pre : List (BIt a.length)) W => sameAt a b (plc pre) ∧ Below W0.heap.size W0 W)
    (fun c (pre : List (BIt a.length)) W => (c = .ret ∧ (∃ (l : List (BIt a.length)) (x : BIt a.length), pre = l ++ [x] ∧ sameAt a b (plc l) ∧ cmpI (a.getD x.1.1 0) (b.getD x.1.1 0) ≠ 0 ∧ W.cell? ⟨w.heap.size + 1 + 1, 0, none⟩ = some (.int .i64 (cmpI (a.getD x.1.1 0) (b.getD x.1.1 0))))) ∧ Below w.heap.size w W)
    (OwnFrom.and (fun _ _ _ _ hs _ _ => hs) (ownFrom_below (Nat.le_refl _) (Nat.le_refl _)))
    (fun c => OwnFrom.and (Own.from (fun s X Y row hs hg hr => by
      obtain ⟨h0, l, x, hl, hg0, hx, hc1⟩ := hs
      exact ⟨h0, l, x, hl, hg0, hx, cell_kept hc1 hg hr⟩) _) (ownFrom_below (Nat.le_refl _) (by have := HZ.out; omega)))
    ⟨(fun _ h => by cases h), Below.refl _ _⟩
    (fun x => { tmps := #[.slice A a.length ca, .slice B b.length cb, .pointer (some ⟨w.heap.size, 0, none⟩), .pointer (some ⟨w.heap.size + 1, 0, none⟩), .pointer (some ⟨w.heap.size + 1 + 1, 0, none⟩), .int .i64 0, .int .i64 x.1.1, undef, .slice A a.length ca, .int .i64 a.length, .slice B b.length cb, .int .i64 b.length, .int .i64 0, .int .i64 0, .bool false, undef, .slice A a.length ca, .func (.func 80) #[] #[.pointer (some ⟨w.heap.size + 1 + 1 + 1, 0, none⟩)], .int .i64 x.1.1, .int .u32 x.1.2, undef, undef, undef, undef, undef, undef, undef, undef, undef, undef, undef, undef], defers := [] }) ?assign ?body ?done ?stop
  case assign =>
    intro l x W K hK
    gi_wp2
    exact hK
  case body =>
    rintro l pre x W ⟨hsame, hB⟩ _
    have hb0 := HB0.out.trans (hB.mono HB0.out.size)
    have hb1 : W0.heap.size ≤ W.heap.size := hB.size
    have hxl := x.2
    have hc1 : W.cell? ⟨w.heap.size, 0, none⟩ = some (.slice A a.length ca) := (hB.cell (p := ⟨w.heap.size, 0, none⟩) (by have := HZ.out; simp; omega)).trans C1.out
    have hc2 : W.cell? ⟨w.heap.size + 1, 0, none⟩ = some (.slice B b.length cb) := (hB.cell (p := ⟨w.heap.size + 1, 0, none⟩) (by have := HZ.out; simp; omega)).trans C2.out
    have hc3 : W.cell? ⟨w.heap.size + 1 + 1, 0, none⟩ = some (.int .i64 0) := (hB.cell (p := ⟨w.heap.size + 1 + 1, 0, none⟩) (by have := HZ.out; simp; omega)).trans C3.out
    have hf3 : W.frozen? ⟨w.heap.size + 1 + 1, 0, none⟩ = false := (hB.frozen (p := ⟨w.heap.size + 1 + 1, 0, none⟩) (by have := HZ.out; simp; omega)).trans F3.out
    obtain ⟨ada, rfl, hxa⟩ := Kd.at_int (Kd.C_below HCa.out hb0) (x.1.1 : Int) (by omega) (by omega)
    obtain ⟨adb, rfl, hxb⟩ := Kd.at_int (Kd.C_below HCb.out hb0) (x.1.1 : Int) (by omega) (by have := HLEN.out; omega)
    rw [Int.toNat_natCast, rd_nat] at hxa hxb
    have hlb : x.1.1 < b.length := by have := HLEN.out; omega
    have HSAME := Lib.hid hsame
    have HB := Lib.hid hB
    have HBB := Lib.hid hb0
    have hd : 1 ≤ n - 1 - 1 := by omega
    have hmx : Try.prog.follows .mixedOrders = true := by kernel_rfl
    clear hsame hB hb0
    obtain ⟨xa, hxa'⟩ : ∃ v, a.getD x.1.1 0 = v := ⟨_, rfl⟩
    obtain ⟨xb, hxb'⟩ : ∃ v, b.getD x.1.1 0 = v := ⟨_, rfl⟩
    rw [hxa'] at hxa
    rw [hxb'] at hxb
    have HXA := Lib.hid hxa'
    have HXB := Lib.hid hxb'
    clear hxa' hxb'
    have hcm : cmpI xa xb = 0 ∨ ¬ cmpI xa xb = 0 := by omega
    gi_wp2
    rcases hcm with hcm | hcm
    · refine region_quiet_round (by kernel_rfl) (by assumption) (by kernel_rfl) ?_
      repeat (gi_big_quiet_step (fail))
      refine BigFrame.wpQuietIn_want (fun _ _ _ _ => trivial) rfl ?_
      intro K hK
      gi_big_quiet_op
      gi_big_quiet_call (first | (gi_at_call 71; refine CallsIn.quiet_of_same (CallsIn.inRound l (callsIn_wide.2 (cmp_u32 _ _ _)))))
      repeat (gi_big_quiet_step (fail))
      refine wpQuietIn_nil ?_
      intro _ hw'
      obtain ⟨nq, hw2⟩ := hw'
      subst hw2
      gi_wp2
      refine ⟨⟨Nat.le_refl _, fun _ _ h _ => h⟩, ⟨pw_below_drewN (Below.refl _ _) nq, rfl, id⟩, ?_, pw_below_drewN HB.out nq⟩
      intro j hj
      rw [plc_snoc] at hj
      rcases List.mem_append.1 hj with hj | hj
      · exact HSAME.out j hj
      · simp at hj
        subst hj
        rw [HXA.out, HXB.out]
        exact cmpI_zero hcm
    · refine region_quiet_round (by kernel_rfl) (by assumption) (by kernel_rfl) ?_
      repeat (gi_big_quiet_step (fail))
      refine BigFrame.wpQuietIn_want (fun _ _ _ _ => trivial) rfl ?_
      intro K hK
      gi_big_quiet_op
      gi_big_quiet_call (first | (gi_at_call 71; refine CallsIn.quiet_of_same (CallsIn.inRound l (callsIn_wide.2 (cmp_u32 _ _ _)))))
      repeat (gi_big_quiet_step (fail))
      refine wpQuietIn_nil ?_
      intro _ hw'
      obtain ⟨nq, hw2⟩ := hw'
      subst hw2
      gi_wp2
      refine ⟨(show KeepsOthers W (W.drewN nq) from ⟨Nat.le_refl _, fun _ _ h _ => h⟩).trans (KeepsOthers.setCell _ _ _), ⟨rfl, pre, x, rfl, HSAME.out, by rw [HXA.out, HXB.out]; exact hcm, by rw [HXA.out, HXB.out]; go_simp⟩, (pw_below_drewN HBB.out nq).setCell (p := ⟨w.heap.size + 1 + 1, 0, none⟩) (by simp; omega) _⟩
  case done =>
    rintro D ys W hD hys ⟨hsame, hB⟩ hK
    have hb0 := HB0.out.trans (hB.mono HB0.out.size)
    have hb1 : W0.heap.size ≤ W.heap.size := hB.size
    have hc3 : W.cell? ⟨w.heap.size + 1 + 1, 0, none⟩ = some (.int .i64 0) := (hB.cell (p := ⟨w.heap.size + 1 + 1, 0, none⟩) (by have := HZ.out; simp; omega)).trans C3.out
    have hf3 : W.frozen? ⟨w.heap.size + 1 + 1, 0, none⟩ = false := (hB.frozen (p := ⟨w.heap.size + 1 + 1, 0, none⟩) (by have := HZ.out; simp; omega)).trans F3.out
    have HV := Lib.hid (cmp_done HLEN.out hys hsame)
    have HBB := Lib.hid hb0
    have HK := Lib.hid hK
    clear hsame hB hb0 hK
    gi_wp2
    have hK' := (KeepsOthers.setCell W ⟨w.heap.size + 1 + 1, 0, none⟩ (.int .i64 0)).same D _ HK.out rfl
    refine ⟨by simp, .inl ⟨_, _, rfl, run_takeDeferred hK', ?_⟩⟩
    have e3 : (W.setCell ⟨w.heap.size + 1 + 1, 0, none⟩ (.int .i64 0)).cell? ⟨w.heap.size + 1 + 1, 0, none⟩ = some (.int .i64 0) := by go_simp
    have k3 := cell_kept e3 (grownBy_putObj' _ D (.deferred none)) (fun r e => by cases e; exact ⟨_, hK', rfl⟩)
    refine ⟨.int .i64 0, ?_, ?_, (HBB.out.setCell (p := ⟨w.heap.size + 1 + 1, 0, none⟩) (by simp; omega) _).trans (belowK_b (w := w) (Nat.le_refl _) _ D _ _ (by have := HZ.out; omega) hK' rfl rfl)⟩
    · simp [results, Try.f53, go_sem, k3]
    · rw [HV.out]
  case stop =>
    rintro D c pre W hD hpre ⟨⟨rfl, l, x, rfl, hl2, hx, e2⟩, hB⟩ hK
    rw [plc_snoc] at hpre
    have HV := Lib.hid (cmp_stop (canon_okL HAB.out.1) (canon_okL HAB.out.2) HLEN.out hpre hl2 hx)
    have HB := Lib.hid hB
    have HK := Lib.hid hK
    clear hB hK hl2
    gi_wp2
    refine ⟨by simp, .inl ⟨_, _, rfl, run_takeDeferred HK.out, ?_⟩⟩
    have k2 := cell_kept e2 (grownBy_putObj' _ D (.deferred none)) (fun r e => by cases e; exact ⟨_, HK.out, rfl⟩)
    refine ⟨.int .i64 (cmpI (a.getD x.1.1 0) (b.getD x.1.1 0)), ?_, ?_, HB.out.trans (belowK_b (w := w) (Nat.le_refl _) W D _ _ (by have := HZ.out; omega) HK.out rfl rfl)⟩
    · simp [results, Try.f53, go_sem, k2]
    · rw [HV.out]
theorem nat_num_compare.calls (A0 : Option Addr) (c0 : Nat) (l0 : List Int) (A1 : Option Addr) (c1 : Nat) (l1 : List Int) (r : Int) (w : World) (hr0 : Kd.C (Kd.int .u32) w A0 l0.length l0) (hc0 : l0.length ≤ c0) (hr1 : Kd.C (Kd.int .u32) w A1 l1.length l1) (hc1 : l1.length ≤ c1) (h : nat_num_compare.f l0 l1 = some r) :
    Calls Try.prog 53 #[.slice A0 l0.length c0, .slice A1 l1.length c1] w fun e w' => e = .returned (.int .i64 r) ∧ Below w.heap.size w w' := by
  unfold nat_num_compare.f at h
  by_cases hc : (canon l0 ∧ canon l1) ∧ l0.length ≤ 1073741824 ∧ l1.length ≤ 1073741824
  case neg => rw [if_neg hc] at h; cases h
  rw [if_pos hc] at h
  obtain rfl := Option.some.inj h
  obtain ⟨h1, h2, h3⟩ := hc
  by_cases hl : cmpI l0.length l1.length = 0
  · exact callsIn_wide.1 (compare_in 4 (Nat.le_refl _) A0 A1 c0 c1 l0 l1 w hr0 hc0 hr1 hc1 h1 h2 h3 hl)
  · rw [← cmp_len h1.1 h1.2 hl]
    exact compare_ne A0 A1 c0 c1 l0 l1 w hl
end Go.Proofs.Ytdbnpaloalhciaa.P

/- Texts of this claim, one behind the other. -/
import Derived.Test.YtmfpakolfpoamaaGreatDoorMOrderFindsk
import Derived.OwnWalkIn
import Derived.Test.YtmfpakolfpoamaaGreatDoorMOrderFindsh
import Derived.Laws.Small
import Derived.Test.YtmfpakolfpoamaaGreatDoorMOrderFindse
import Derived.OwnWalk
import Derived.Laws.OwnMore
import Derived.Deep.MidRow
set_option maxRecDepth 100000
namespace Go.Proofs.YtmfpakolfpoamaaGreatDoor.P
set_option linter.unusedVariables false
set_option linter.unusedSimpArgs false
open Go.RowKit Go.Shelf Go.Proofs.YtmfpakolfpoamaaGreatDoorW.PrintWords Go.Proofs.YtmfpakolfpoamaaGreatDoorW.PrintMore Go.Proofs.YtmfpakolfpoamaaGreatDoorW.PrintLast
attribute [local go_sem] Oper.semAt_some
def smStep (a : List Int) (y : Int) (s : List Int × Int) (i : Nat) : List Int × Int := (s.1.set i ((s.2 * 4294967296 + a.getD i 0) / y), (s.2 * 4294967296 + a.getD i 0) % y)
def smF (a : List Int) (y : Int) (l : List Nat) : List Int × Int := l.foldl (smStep a y) (List.replicate a.length 0, 0)
theorem smF_snoc (a : List Int) (y : Int) (l : List Nat) (i : Nat) : smF a y (l ++ [i]) = smStep a y (smF a y l) i := by simp [smF]
theorem u64_w {x : Int} (h0 : 0 ≤ x) (h1 : x < 18446744073709551616) : IntKind.u64.wrap x = x := by rw [wrap_u64]; omega
theorem or64 {h l : Int} (h0 : 0 ≤ h) (h1 : h < 4294967296) (l0 : 0 ≤ l) (l1 : l < 4294967296) : bits .or .u64 (h * 4294967296) l = h * 4294967296 + l := by
 obtain ⟨hn, rfl⟩ : ∃ k : Nat, h = k := ⟨h.toNat, by omega⟩
 obtain ⟨ln, rfl⟩ : ∃ k : Nat, l = k := ⟨l.toNat, by omega⟩
 have e : ((hn : Int) * 4294967296) = ((hn * 4294967296 : Nat) : Int) := by rw [Int.natCast_mul]; rfl
 rw [e, u64_or_nat _ _ (by omega) (by omega), nat_join 32 _ _ (by omega) (by omega), Int.natCast_add]
theorem div32_eq {h l y : Int} (h0 : 0 ≤ h) (h1 : h < y) (hy : y < 4294967296) (l0 : 0 ≤ l) (l1 : l < 4294967296) : bits_Div32.f h l y = some ((h * 4294967296 + l) / y, (h * 4294967296 + l) % y) := by
 have e1 : IntKind.u64.wrap h = h := u64_w h0 (by omega)
 have e2 : IntKind.u64.wrap l = l := u64_w l0 (by omega)
 have e3 : IntKind.u64.wrap y = y := u64_w (by omega) (by omega)
 have e4 : IntKind.u64.wrap (h * 4294967296) = h * 4294967296 := u64_w (by omega) (by omega)
 have hx : 0 ≤ h * 4294967296 + l := by omega
 have hq0 : 0 ≤ (h * 4294967296 + l) / y := Int.ediv_nonneg hx (by omega)
 have hq1 : (h * 4294967296 + l) / y < 4294967296 := Int.ediv_lt_of_lt_mul (by omega) (by
  have := Int.mul_le_mul_of_nonneg_right (show h + 1 ≤ y by omega) (show (0 : Int) ≤ 4294967296 by omega)
  rw [Int.mul_comm 4294967296 y]
  omega)
 have hr0 := Int.emod_nonneg (h * 4294967296 + l) (show y ≠ 0 by omega)
 have hr1 := Int.emod_lt_of_pos (h * 4294967296 + l) (show 0 < y by omega)
 unfold bits_Div32.f
 rw [if_neg (by omega), if_neg (by omega), e1, e2, e3, e4, if_neg (by omega), or64 h0 (by omega) l0 l1, tdiv_eq_if, if_pos hx, tmod_eq_if, if_pos hx, u64_w hq0 (by omega)]
 rw [Int.emod_eq_of_lt hq0 hq1, Int.emod_eq_of_lt hr0 (by omega)]
theorem smF_ok {a : List Int} (ha : okL a) {y : Int} (h0 : 0 < y) (h1 : y < 4294967296) : ∀ (l : List Nat), okL (smF a y l).1 ∧ 0 ≤ (smF a y l).2 ∧ (smF a y l).2 < y := by
 intro l
 have key : ∀ (l : List Nat) (s : List Int × Int), (okL s.1 ∧ 0 ≤ s.2 ∧ s.2 < y) → (okL (l.foldl (smStep a y) s).1 ∧ 0 ≤ (l.foldl (smStep a y) s).2 ∧ (l.foldl (smStep a y) s).2 < y) := by
  intro l
  induction l with
  | nil => intro s h; exact h
  | cons i l ih =>
   intro s h
   refine ih _ ?_
   obtain ⟨h2, h3, h4⟩ := h
   have hb := okL_getD ha i
   have hx : 0 ≤ s.2 * 4294967296 + a.getD i 0 := by omega
   unfold smStep
   refine ⟨fun z hz => ?_, Int.emod_nonneg _ (by omega), Int.emod_lt_of_pos _ h0⟩
   rcases List.mem_or_eq_of_mem_set hz with hz | rfl
   · exact h2 z hz
   · refine ⟨Int.ediv_nonneg hx (by omega), Int.ediv_lt_of_lt_mul h0 ?_⟩
     have := Int.mul_le_mul_of_nonneg_right (show s.2 + 1 ≤ y by omega) (show (0 : Int) ≤ 4294967296 by omega)
     rw [Int.mul_comm 4294967296 y]
     omega
 exact key l _ ⟨fun z hz => by rw [List.eq_of_mem_replicate hz]; omega, Int.le_refl _, h0⟩
theorem smF_len (a : List Int) (y : Int) (l : List Nat) : (smF a y l).1.length = a.length := by
 have key : ∀ (l : List Nat) (s : List Int × Int), (l.foldl (smStep a y) s).1.length = s.1.length := by
  intro l
  induction l with
  | nil => intro s; rfl
  | cons i l ih => intro s; rw [List.foldl_cons, ih, smStep, List.length_set]
 rw [smF, key, List.length_replicate]
theorem sm_fold {a : List Int} (ha : okL a) {y : Int} (h0 : 0 < y) : ∀ (m : Nat) (s : List Int × Int), m ≤ a.length → s.1.length = a.length → okL s.1 → 0 ≤ s.2 → s.2 < y → y < 4294967296 →
 ((down m).foldl (smStep a y) s).1.drop m = s.1.drop m ∧ val (((down m).foldl (smStep a y) s).1.take m) * y.toNat + ((down m).foldl (smStep a y) s).2.toNat = s.2.toNat * 4294967296 ^ m + val (a.take m)
 | 0, s, _, _, _, _, _, _ => by simp [down, val]
 | m + 1, s, hm, hs, hok, hr0, hr1, hy => by
  have hb := okL_getD ha m
  have hx : 0 ≤ s.2 * 4294967296 + a.getD m 0 := by omega
  have hq0 : 0 ≤ (s.2 * 4294967296 + a.getD m 0) / y := Int.ediv_nonneg hx (by omega)
  have hq1 : (s.2 * 4294967296 + a.getD m 0) / y < 4294967296 := Int.ediv_lt_of_lt_mul h0 (by
   have := Int.mul_le_mul_of_nonneg_right (show s.2 + 1 ≤ y by omega) (show (0 : Int) ≤ 4294967296 by omega)
   rw [Int.mul_comm 4294967296 y]
   omega)
  have hg0 := Int.emod_nonneg (s.2 * 4294967296 + a.getD m 0) (show y ≠ 0 by omega)
  have hg1 := Int.emod_lt_of_pos (s.2 * 4294967296 + a.getD m 0) h0
  have hqr := Int.mul_ediv_add_emod (s.2 * 4294967296 + a.getD m 0) y
  have hok1 : okL (smStep a y s m).1 := fun z hz => by
   rcases List.mem_or_eq_of_mem_set hz with hz | rfl
   · exact hok z hz
   · exact ⟨hq0, hq1⟩
  obtain ⟨i1, i2⟩ := sm_fold ha h0 m (smStep a y s m) (by omega) (by rw [smStep, List.length_set, hs]) hok1 hg0 hg1 hy
  rw [down, List.foldl_cons]
  generalize (down m).foldl (smStep a y) (smStep a y s m) = f at *
  have hq : f.1.getD m 0 = (s.2 * 4294967296 + a.getD m 0) / y := by
   have h1 := congrArg (fun l => l.getD 0 0) i1
   simp only [List.getD_eq_getElem?_getD, List.getElem?_drop, Nat.add_zero] at h1
   rw [List.getD_eq_getElem?_getD, h1, smStep]
   simp [List.getElem?_set_self (show m < s.1.length by omega)]
  refine ⟨?_, ?_⟩
  · have h1 := congrArg (List.drop 1) i1
    rw [List.drop_drop, List.drop_drop] at h1
    rw [h1, smStep]
    exact List.drop_set_of_lt (by omega)
  · rw [val_take_step, val_take_step a, hq, Nat.pow_succ, Nat.add_mul]
    generalize hQ : ((s.2 * 4294967296 + a.getD m 0) / y).toNat = Q at *
    have hgr : (smStep a y s m).2 = (s.2 * 4294967296 + a.getD m 0) % y := rfl
    rw [hgr] at i2
    have e : Q * y.toNat + ((s.2 * 4294967296 + a.getD m 0) % y).toNat = s.2.toNat * 4294967296 + (a.getD m 0).toNat := by
     obtain ⟨yn, rfl⟩ : ∃ k : Nat, y = k := ⟨y.toNat, by omega⟩
     have hQ2 : (Q : Int) = (s.2 * 4294967296 + a.getD m 0) / (yn : Int) := by omega
     rw [← hQ2] at hqr
     have : ((yn * Q : Nat) : Int) = (yn : Int) * (Q : Int) := Int.natCast_mul _ _
     rw [Int.toNat_natCast, Nat.mul_comm Q yn]
     omega
    have e2 := congrArg (4294967296 ^ m * ·) e
    simp only [Nat.mul_add] at e2
    rw [show 4294967296 ^ m * Q * y.toNat = 4294967296 ^ m * (Q * y.toNat) from Nat.mul_assoc _ _ _]
    rw [show s.2.toNat * (4294967296 ^ m * 4294967296) = 4294967296 ^ m * (s.2.toNat * 4294967296) by rw [← Nat.mul_assoc, Nat.mul_comm s.2.toNat, Nat.mul_assoc]]
    rw [show ((s.2 * 4294967296 + a.getD m 0) % y).toNat * 4294967296 ^ m = 4294967296 ^ m * ((s.2 * 4294967296 + a.getD m 0) % y).toNat from Nat.mul_comm _ _] at i2
    omega
theorem sm_val {a : List Int} (ha : okL a) {y : Int} (h0 : 0 < y) (h1 : y < 4294967296) : val (smF a y (down a.length)).1 = val a / y.toNat ∧ (smF a y (down a.length)).2 = ((val a % y.toNat : Nat) : Int) := by
 have hf := (sm_fold ha h0 a.length (List.replicate a.length 0, 0) (Nat.le_refl _) (by simp) (fun z hz => by rw [List.eq_of_mem_replicate hz]; omega) (Int.le_refl _) h0 h1).2
 have hl := smF_len a y (down a.length)
 obtain ⟨g1, g2, g3⟩ := smF_ok ha h0 h1 (down a.length)
 have e : (down a.length).foldl (smStep a y) (List.replicate a.length 0, 0) = smF a y (down a.length) := rfl
 rw [e, List.take_of_length_le (by omega), List.take_of_length_le (Nat.le_refl _)] at hf
 simp only [Int.toNat_zero, Nat.zero_mul, Nat.zero_add] at hf
 generalize smF a y (down a.length) = f at *
 have hy : 0 < y.toNat := by omega
 rw [← hf]
 refine ⟨?_, ?_⟩
 · rw [Nat.mul_comm, Nat.mul_add_div hy, Nat.div_eq_of_lt (by omega)]; omega
 · rw [Nat.mul_comm, Nat.mul_add_mod, Nat.mod_eq_of_lt (by omega)]; omega
theorem made_zero (n : Nat) : (madeCells (Value.int IntKind.u32 0).cells (n * 1)).toList = (List.replicate n (0 : Int)).map (Value.int .u32) := by
 apply List.ext_getElem
 · simp [madeCells]
 · intro i h1 h2
   simp [madeCells, Value.cells, Nat.mod_one]
theorem quiet_of_drawn {F : Fence} {n : Nat} {P : Program} {f : FuncId} {args : Array Value} {w : World} {k : Nat} {v : Value} (h : CallsIn F n P f args (w.drewN k) fun e w' => e = .returned v ∧ Drawn0 (w.drewN k) w') : CallsIn F n P f args (w.drewN k) fun e w'' => e = .returned v ∧ ∃ m, w'' = w.drewN m :=
 h.mono fun e w' ⟨h1, m, h2⟩ => ⟨h1, k + m, by rw [h2]; simp⟩
def nat_num_small.f (l0 : List Int) (a1 : Int) : Option (List Int × Int) := if okL l0 ∧ l0.length ≤ 1073741824 ∧ 0 < a1 ∧ a1 < 4294967296 then some (limbs (val l0 / a1.toNat), ((val l0 % a1.toNat : Nat) : Int)) else none
set_option maxHeartbeats 4000000 in
theorem small_in (n : Nat) (hn : 6 ≤ n) (A : Option Addr) (ca : Nat) (a : List Int) (y : Int) (w : World) (hCa : Kd.C (Kd.int .u32) w A a.length a) (hca : a.length ≤ ca) (hab : okL a) (hz : a.length ≤ 1073741824) (hy0 : 0 < y) (hy1 : y < 4294967296) :
 CallsIn Fence.wide n Tryz.prog 158 #[.slice A a.length ca, .int .u32 y] w fun e W' => ∃ v, e = .returned (.tuple #[v, .int .u32 (smF a y (down a.length)).2]) ∧ Kd.R (Kd.int .u32) 90 W' w.heap.size (fun _ => True) v (limbs (val (smF a y (down a.length)).1)) ∧ Below w.heap.size w W' := by
 have h1 : 1 ≤ n := by omega
 obtain ⟨i0, hi, hz0, hz1, hz2⟩ := info_parts infoU
 have HCa := Lib.hid hCa
 have HAB := Lib.hid hab
 clear hCa hab
 have hA := addr_of_C HCa.out
 refine callsIn_of_wp_marks Tryz.func158 rfl trivial ?_ rfl
 simp only [Tryz.ntmps158, List.size_toArray, List.length_cons, List.length_nil, Nat.reduceAdd, Nat.reduceSub, Array.replicate_succ, Array.replicate_zero, List.push_toArray, List.append_toArray, List.nil_append, List.cons_append]
 obtain ⟨w3, hrun, hown, hgrow⟩ := run_make_full (P := Tryz.prog) ((w.alloc (.cells #[.slice A a.length ca] 162)).alloc (.cells #[.int .u32 y] 90)) w.heap.size 162 90 i0 (.int .u32 0) 1 Tryz.underlying162 hi hz0 hz1 .i64 .i64 a.length (by rw [hz2]; omega) (by unfold maxLen; omega) (by simp; omega)
 simp only [World.size_alloc] at hrun hown
 have b1 := ((Boxed.new w 162 (.slice A a.length ca)).alloc (.cells #[.int .u32 y] 90)).kept hgrow (by simp)
 have b2 := (Boxed.new (w.alloc (.cells #[.slice A a.length ca] 162)) 90 (.int .u32 y)).kept hgrow (by simp)
 simp only [World.size_alloc] at b2
 have hB3 : Below w.heap.size w w3 := (((Below.refl _ w).alloc (Nat.le_refl _) _).alloc (by simp) _).grown hgrow (by simp; omega) (fun k e => by cases e)
 have hs3 : w.heap.size + 2 ≤ w3.heap.size := by have := hgrow.size; simp at this; omega
 have b1c := ((b1.alloc (.cells #[.slice (some ⟨w.heap.size + 1 + 1, 0, none⟩) a.length a.length] 162)).alloc (.cells #[.int .u32 0] 90)).cell
 have B1 := Lib.hid b1
 have B2 := Lib.hid b2
 have HB3 := Lib.hid hB3
 have HO := Lib.hid hown
 clear hgrow hown b1 b2 hB3
 gi_wp2_with (refine ⟨trivial, ?_⟩; gi_at_call 150; refine (backward_in (n - 1) _ _ _ _).mono ?_; rintro e w' ⟨rfl, rfl⟩)
 clear b1c hrun
 have bO := ((Boxed.new w3 162 (.slice (some ⟨w.heap.size + 1 + 1, 0, none⟩) a.length a.length)).alloc (.cells #[.int .u32 0] 90)).alloc (.cells #[.slice A a.length ca] 162)
 have bR := (Boxed.new (w3.alloc (.cells #[.slice (some ⟨w.heap.size + 1 + 1, 0, none⟩) a.length a.length] 162)) 90 (.int .u32 0)).alloc (.cells #[.slice A a.length ca] 162)
 have bS := Boxed.new ((w3.alloc (.cells #[.slice (some ⟨w.heap.size + 1 + 1, 0, none⟩) a.length a.length] 162)).alloc (.cells #[.int .u32 0] 90)) 162 (.slice A a.length ca)
 have b1 := ((B1.out.alloc (.cells #[.slice (some ⟨w.heap.size + 1 + 1, 0, none⟩) a.length a.length] 162)).alloc (.cells #[.int .u32 0] 90)).alloc (.cells #[.slice A a.length ca] 162)
 have b2 := ((B2.out.alloc (.cells #[.slice (some ⟨w.heap.size + 1 + 1, 0, none⟩) a.length a.length] 162)).alloc (.cells #[.int .u32 0] 90)).alloc (.cells #[.slice A a.length ca] 162)
 have ho := ((HO.out.alloc (.cells #[.slice (some ⟨w.heap.size + 1 + 1, 0, none⟩) a.length a.length] 162)).alloc (.cells #[.int .u32 0] 90)).alloc (.cells #[.slice A a.length ca] 162)
 have hB := ((HB3.out.alloc (by omega) (.cells #[.slice (some ⟨w.heap.size + 1 + 1, 0, none⟩) a.length a.length] 162)).alloc (by simp; omega) (.cells #[.int .u32 0] 90)).alloc (by simp; omega) (.cells #[.slice A a.length ca] 162)
 simp only [World.size_alloc] at bR bS
 obtain ⟨W0, hW0⟩ : ∃ W0, W0 = ((w3.alloc (.cells #[.slice (some ⟨w.heap.size + 1 + 1, 0, none⟩) a.length a.length] 162)).alloc (.cells #[.int .u32 0] 90)).alloc (.cells #[.slice A a.length ca] 162) := ⟨_, rfl⟩
 have hzz : W0.heap.size = w3.heap.size + 3 := by rw [hW0]; simp
 rw [← hW0] at bO bR bS b1 b2 ho hB ⊢
 have hr : Readable A a.length W0 := readable_of_C (Kd.C_below HCa.out hB)
 have HZ := Lib.hid hzz
 have HB0 := Lib.hid hB
 have BS := Lib.hid bS
 have HGL : Hid (w.heap.size + 1 + 1 < w3.heap.size) := Lib.hid (by
  rcases HO.out.2 with ⟨h, _⟩ | ⟨g, cap, cur, h, _, hgb, _⟩
  · cases h
  · injection h with h1; injection h1 with h1; injection h1 with h1
    subst h1
    exact (Array.getElem?_eq_some_iff.1 hgb).1)
 clear hW0 hzz hB
 have hmk : (madeCells (Value.int IntKind.u32 0).cells (a.length * 1)).toList = ((smF a y []).1).map (Value.int .u32) := made_zero a.length
 rw [hmk] at ho
 refine wpIn_rangeFunc_ownG rfl h1 (gf := 160) (lb := #[.pointer (some ⟨w3.heap.size + 1 + 1, 0, none⟩)]) rfl trivial (enters_of Tryz.func160 (by kernel_rfl) rfl)
  (backward_stops (n - 1) (by omega) (w3.heap.size + 1 + 1) w.heap.size A a.length ca (by omega) W0 BS.out.cell hA hr) kpB_t (kpB_b HB0.out.size (by have := HZ.out; omega) hr) (Below.refl _ _) (fun _ => rfl)
  (fun (pre : List (BIt a.length)) W => ((((∃ v, Boxed W w3.heap.size 162 v ∧ W.ownsRow w.heap.size 90 1 v a.length ((smF a y (plc pre)).1.map (Value.int .u32)) ∧ v = .slice (some ⟨w.heap.size + 1 + 1, 0, none⟩) a.length a.length) ∧ Boxed W (w3.heap.size + 1) 90 (.int .u32 (smF a y (plc pre)).2)) ∧ Boxed W w.heap.size 162 (.slice A a.length ca)) ∧ Boxed W (w.heap.size + 1) 90 (.int .u32 y)) ∧ Below w.heap.size w W)
  (fun _ _ _ => False)
  (OwnFrom.and (OwnFrom.and (OwnFrom.and (OwnFrom.and (Own.from (holdsRow_own w.heap.size w3.heap.size 162 90 1 (fun pre => a.length) (fun pre => (smF a y (plc pre)).1.map (Value.int .u32)) (fun _ v => v = .slice (some ⟨w.heap.size + 1 + 1, 0, none⟩) a.length a.length)) _) (Own.from (boxed_own _ _ (fun pre => .int .u32 (smF a y (plc pre)).2)) _)) (Own.from (boxed_own _ _ _) _)) (Own.from (boxed_own _ _ _) _)) (ownFrom_below (Nat.le_refl _) (by have := HB0.out.size; exact this)))
  (fun _ _ _ _ _ hs _ _ => hs)
  ⟨⟨⟨⟨⟨_, bO, ho, rfl⟩, bR⟩, b1⟩, b2⟩, HB0.out⟩
  (fun x => { tmps := #[.slice A a.length ca, .int .u32 y, .pointer (some ⟨w.heap.size, 0, none⟩), .pointer (some ⟨w.heap.size + 1, 0, none⟩), .slice none 0 0, .int .u32 0, .pointer (some ⟨w3.heap.size, 0, none⟩), .pointer (some ⟨w3.heap.size + 1, 0, none⟩), .int .i64 x.1.1, .slice A a.length ca, .int .i64 a.length, .slice (some ⟨w.heap.size + 1 + 1, 0, none⟩) a.length a.length, .slice A a.length ca, .func (.func 160) #[] #[.pointer (some ⟨w3.heap.size + 1 + 1, 0, none⟩)], .int .i64 x.1.1, .int .u32 x.1.2, undef, undef, undef, undef, undef, undef, undef, undef, undef, undef, undef, undef, undef, undef, undef, undef], defers := [] }) ?assign ?body ?done ?stop
 case assign =>
  intro l x W K hK
  gi_wp2
  exact hK
 case body =>
  rintro l pre x W ⟨⟨⟨⟨⟨v, hv, hrow, rfl⟩, hbr⟩, hba⟩, hby⟩, hB⟩ hlt
  have hxl := x.2
  have hc1 := hv.cell
  have hc2 := hbr.cell
  have hc3 := hba.cell
  have hc4 := hby.cell
  obtain ⟨ada, rfl, hxa⟩ := Kd.at_int (Kd.C_below HCa.out hB) (x.1.1 : Int) (by omega) (by omega)
  rw [Int.toNat_natCast, rd_nat] at hxa
  have hd : 1 ≤ n - 1 - 1 := by omega
  have hmx : Tryz.prog.follows .mixedOrders = true := by kernel_rfl
  have hst := smF_ok HAB.out hy0 hy1 (plc pre)
  have hdv := div32_eq hst.2.1 hst.2.2 hy1 (okL_getD HAB.out x.1.1).1 (okL_getD HAB.out x.1.1).2
  have HST := Lib.hid hst
  have HDV := Lib.hid hdv
  have HSN := Lib.hid (smF_snoc a y (plc pre) x.1.1)
  clear hst hdv
  unfold smStep at HSN
  obtain ⟨xa, hxa'⟩ : ∃ v, a.getD x.1.1 0 = v := ⟨_, rfl⟩
  obtain ⟨rr, hrr⟩ : ∃ v, (smF a y (plc pre)).2 = v := ⟨_, rfl⟩
  rw [hxa'] at hxa HDV HSN
  rw [hrr] at hbr hc2 HDV HSN
  have hcell : W.cell? ⟨w.heap.size + 1 + 1, x.1.1, none⟩ = some (.int .u32 ((smF a y (plc pre)).1.getD x.1.1 0)) := by
   rw [hrow.cellAt x.1.1 (by omega), List.getElem?_map, List.getD_eq_getElem?_getD, List.getElem?_eq_getElem (show x.1.1 < (smF a y (plc pre)).1.length by rw [smF_len]; exact hxl)]
   rfl
  have hfrz := hrow.frozenAt x.1.1
  have hfr := hbr.frozen
  have HFIN : Hid (∀ nq : Nat, KeepsFrom W0.heap.size W (((W.drewN nq).setCell ⟨w.heap.size + 1 + 1, x.1.1, none⟩ (.int .u32 ((rr * 4294967296 + xa) / y))).setCell ⟨w3.heap.size + 1, 0, none⟩ (.int .u32 ((rr * 4294967296 + xa) % y))) ∧ KpB w.heap.size (w3.heap.size + 1 + 1) (some ada) a.length W (((W.drewN nq).setCell ⟨w.heap.size + 1 + 1, x.1.1, none⟩ (.int .u32 ((rr * 4294967296 + xa) / y))).setCell ⟨w3.heap.size + 1, 0, none⟩ (.int .u32 ((rr * 4294967296 + xa) % y))) ∧
   ((((∃ v, Boxed (((W.drewN nq).setCell ⟨w.heap.size + 1 + 1, x.1.1, none⟩ (.int .u32 ((rr * 4294967296 + xa) / y))).setCell ⟨w3.heap.size + 1, 0, none⟩ (.int .u32 ((rr * 4294967296 + xa) % y))) w3.heap.size 162 v ∧ (((W.drewN nq).setCell ⟨w.heap.size + 1 + 1, x.1.1, none⟩ (.int .u32 ((rr * 4294967296 + xa) / y))).setCell ⟨w3.heap.size + 1, 0, none⟩ (.int .u32 ((rr * 4294967296 + xa) % y))).ownsRow w.heap.size 90 1 v a.length ((smF a y (plc (pre ++ [x]))).1.map (Value.int .u32)) ∧ v = .slice (some ⟨w.heap.size + 1 + 1, 0, none⟩) a.length a.length) ∧ Boxed (((W.drewN nq).setCell ⟨w.heap.size + 1 + 1, x.1.1, none⟩ (.int .u32 ((rr * 4294967296 + xa) / y))).setCell ⟨w3.heap.size + 1, 0, none⟩ (.int .u32 ((rr * 4294967296 + xa) % y))) (w3.heap.size + 1) 90 (.int .u32 (smF a y (plc (pre ++ [x]))).2)) ∧ Boxed (((W.drewN nq).setCell ⟨w.heap.size + 1 + 1, x.1.1, none⟩ (.int .u32 ((rr * 4294967296 + xa) / y))).setCell ⟨w3.heap.size + 1, 0, none⟩ (.int .u32 ((rr * 4294967296 + xa) % y))) w.heap.size 162 (.slice (some ada) a.length ca)) ∧ Boxed (((W.drewN nq).setCell ⟨w.heap.size + 1 + 1, x.1.1, none⟩ (.int .u32 ((rr * 4294967296 + xa) / y))).setCell ⟨w3.heap.size + 1, 0, none⟩ (.int .u32 ((rr * 4294967296 + xa) % y))) (w.heap.size + 1) 90 (.int .u32 y)) ∧
   Below w.heap.size w (((W.drewN nq).setCell ⟨w.heap.size + 1 + 1, x.1.1, none⟩ (.int .u32 ((rr * 4294967296 + xa) / y))).setCell ⟨w3.heap.size + 1, 0, none⟩ (.int .u32 ((rr * 4294967296 + xa) % y)))) := Lib.hid (by
   intro nq
   have hgl := HGL.out
   have hB3 := HB3.out.size
   have hv1 : Boxed (W.drewN nq) w3.heap.size 162 (.slice (some ⟨w.heap.size + 1 + 1, 0, none⟩) a.length a.length) := hv
   have hr1 : Boxed (W.drewN nq) (w3.heap.size + 1) 90 (.int .u32 rr) := hbr
   have ha1 : Boxed (W.drewN nq) w.heap.size 162 (.slice (some ada) a.length ca) := hba
   have hby1 : Boxed (W.drewN nq) (w.heap.size + 1) 90 (.int .u32 y) := hby
   have ho1 : (W.drewN nq).ownsRow w.heap.size 90 1 (.slice (some ⟨w.heap.size + 1 + 1, 0, none⟩) a.length a.length) a.length ((smF a y (plc pre)).1.map (Value.int .u32)) := pw_own_drewN hrow nq
   obtain ⟨ho2, hg2⟩ := ho1.stored x.1.1 (.int .u32 ((rr * 4294967296 + xa) / y))
   have hv2 := hv1.kept hg2 (by intro e; injection e with e; omega)
   have hr2 := hr1.kept hg2 (by intro e; injection e with e; omega)
   have ha2 := ha1.kept hg2 (by intro e; injection e with e; omega)
   have hy2 := hby1.kept hg2 (by intro e; injection e with e; omega)
   have hbel : Below w.heap.size W (((W.drewN nq).setCell ⟨w.heap.size + 1 + 1, x.1.1, none⟩ (.int .u32 ((rr * 4294967296 + xa) / y))).setCell ⟨w3.heap.size + 1, 0, none⟩ (.int .u32 ((rr * 4294967296 + xa) % y))) := ((pw_below_drewN (Below.refl _ _) nq).setCell (by simp <;> omega) _).setCell (by simp <;> omega) _
   refine ⟨(((show KeepsOthers W (W.drewN nq) from ⟨Nat.le_refl _, fun _ _ h _ => h⟩).trans (KeepsOthers.setCell _ _ _)).trans (KeepsOthers.setCell _ _ _)).from _, ⟨hbel, ?_, fun _ => readable_of_C (Kd.C_below HCa.out (hB.trans hbel))⟩, ⟨⟨⟨⟨_, hv2.other (by omega) _, ?_, rfl⟩, ?_⟩, ha2.other (by omega) _⟩, hy2.other (by omega) _⟩, hB.trans hbel⟩
   · exact (World.cell?_setCell_other _ _ _ _ (by simp)).trans ((World.cell?_setCell_other _ _ _ _ (by simp <;> omega)).trans rfl)
   · have := own_setCell ho2 (p := ⟨w3.heap.size + 1, 0, none⟩) (by simp [Value.ownBlock]; omega) (.int .u32 ((rr * 4294967296 + xa) % y))
     rw [plc_snoc, HSN.out]
     simpa [List.map_set] using this
   · rw [plc_snoc, HSN.out]
     exact hr2.set _)
  gi_wp2
  refine region_two_round 11 (by assumption) (by kernel_rfl) ?_
  simp only [List.toList_toArray, List.take_succ_cons, List.take_zero]
  repeat (gi_big_quiet_step (fail))
  refine BigFrame.wpQuietIn_want (fun _ _ _ _ => trivial) rfl ?_
  intro K hK
  gi_big_quiet_op
  gi_big_quiet_call (first | (gi_at_call 172; exact quiet_of_drawn (CallsIn.inRound l (callsIn_wide.2 (bits_Div32.calls _ _ _ _ _ _ HDV.out)))))
  repeat (gi_big_quiet_step (fail))
  refine wpQuietIn_nil ⟨?_, ?_⟩
  · rintro w' ⟨nq, rfl⟩
    refine wpAnyIn_ready (rs := [11, 12]) (by kernel_rfl) (by decide) (BigFrame.allReadyIn_want rfl rfl (fun K hK => ?_) (BigFrame.allReadyIn_want rfl rfl (fun K hK => ?_) AllReadyIn.nil))
    · gi_wp2
      refine wpAnyIn_ready (rs := [12]) (by kernel_rfl) (by decide) (BigFrame.allReadyIn_want rfl rfl (fun K hK => ?_) AllReadyIn.nil)
      gi_wp2
      refine wpAnyIn_ready (rs := [13]) (by kernel_rfl) (by decide) (BigFrame.allReadyIn_want rfl rfl (fun K hK => ?_) AllReadyIn.nil)
      gi_wp2
      refine wpAnyIn_ready (rs := [14]) (by kernel_rfl) (by decide) (BigFrame.allReadyIn_want rfl rfl (fun K hK => ?_) AllReadyIn.nil)
      gi_wp2
      refine wpAnyIn_done (by kernel_rfl) ?_ _
      gi_wp2
      exact HFIN.out nq
    · gi_wp2
      refine wpAnyIn_ready (rs := [11, 13]) (by kernel_rfl) (by decide) (BigFrame.allReadyIn_want rfl rfl (fun K hK => ?_) (BigFrame.allReadyIn_want rfl rfl (fun K hK => ?_) AllReadyIn.nil))
      · gi_wp2
        refine wpAnyIn_ready (rs := [13]) (by kernel_rfl) (by decide) (BigFrame.allReadyIn_want rfl rfl (fun K hK => ?_) AllReadyIn.nil)
        gi_wp2
        refine wpAnyIn_ready (rs := [14]) (by kernel_rfl) (by decide) (BigFrame.allReadyIn_want rfl rfl (fun K hK => ?_) AllReadyIn.nil)
        gi_wp2
        refine wpAnyIn_done (by kernel_rfl) ?_ _
        gi_wp2
        exact HFIN.out nq
      · gi_wp2
        refine wpAnyIn_ready (rs := [11]) (by kernel_rfl) (by decide) (BigFrame.allReadyIn_want rfl rfl (fun K hK => ?_) AllReadyIn.nil)
        gi_wp2
        refine wpAnyIn_ready (rs := [14]) (by kernel_rfl) (by decide) (BigFrame.allReadyIn_want rfl rfl (fun K hK => ?_) AllReadyIn.nil)
        gi_wp2
        refine wpAnyIn_done (by kernel_rfl) ?_ _
        gi_wp2
        exact HFIN.out nq
  · refine qop_want rfl (fun _ _ _ _ => trivial) rfl (fun K hK => ?_)
    refine ⟨.int .u32 ((rr * 4294967296 + xa) % y), fun w1 _ => ⟨rfl, rfl⟩, hK _ ?_⟩
    rintro w' ⟨nq, rfl⟩
    refine wpAnyIn_ready (rs := [12]) (by kernel_rfl) (by decide) (BigFrame.allReadyIn_want rfl rfl (fun K hK => ?_) AllReadyIn.nil)
    gi_wp2
    refine wpAnyIn_ready (rs := [13]) (by kernel_rfl) (by decide) (BigFrame.allReadyIn_want rfl rfl (fun K hK => ?_) AllReadyIn.nil)
    gi_wp2
    refine wpAnyIn_ready (rs := [14]) (by kernel_rfl) (by decide) (BigFrame.allReadyIn_want rfl rfl (fun K hK => ?_) AllReadyIn.nil)
    gi_wp2
    refine wpAnyIn_done (by kernel_rfl) ?_ _
    gi_wp2
    exact HFIN.out nq
 case done =>
  rintro D ys W hD hys ⟨⟨⟨⟨⟨v, hv, hrow, rfl⟩, hbr⟩, hba⟩, hby⟩, hB⟩ hK
  have hc1 := hv.cell
  have hc2 := hbr.cell
  have hmx : Tryz.prog.follows .mixedOrders = true := by kernel_rfl
  have HRW := Lib.hid hrow
  have HK := Lib.hid hK
  have HB := Lib.hid hB
  have hdn : plc ys = down a.length := hys
  have hlen := smF_len a y (down a.length)
  have hok := smF_ok HAB.out hy0 hy1 (down a.length)
  have hR : Kd.R (Kd.int .u32) 90 W w.heap.size (fun _ => True) (.slice (some ⟨w.heap.size + 1 + 1, 0, none⟩) (smF a y (down a.length)).1.length a.length) (smF a y (down a.length)).1 := Kd.R_of_own (enc := Value.int .u32) (by rw [hlen, ← hdn]; exact hrow) (fun _ _ => trivial)
  have hlt := limbs_take hok.1
  have HOK := Lib.hid hok.1
  have HLT := Lib.hid hlt
  have HLEN := Lib.hid hlen
  have HDN := Lib.hid hdn
  have HT : Hid (∀ k, Calls Tryz.prog 149 #[.slice (some ⟨w.heap.size + 1 + 1, 0, none⟩) a.length a.length] (W.drewN k) fun e w' => e = .returned (trimV (some ⟨w.heap.size + 1 + 1, 0, none⟩) a.length (smF a y (down a.length)).1) ∧ w' = W.drewN k) := Lib.hid (fun k => by
   have := trim_det (some ⟨w.heap.size + 1 + 1, 0, none⟩) a.length (smF a y (down a.length)).1 (W.drewN k) (Kd.C_drewN (Kd.R_reads' hR).2.2 k) (by omega) hok.1 (by omega)
   rw [hlen] at this
   exact this)
  have hrr : Hid ((smF a y (plc ys)).2 = (smF a y (down a.length)).2) := Lib.hid (by rw [hdn])
  clear hR hrow hB hK hok hlt
  gi_wp2
  refine region_quiet_round (by kernel_rfl) (by assumption) (by kernel_rfl) ?_
  repeat (gi_big_quiet_step (fail))
  refine BigFrame.wpQuietIn_want (fun _ _ _ _ => trivial) rfl ?_
  intro K hK
  gi_big_quiet_op
  gi_big_quiet_call (first | (gi_at_call 149; exact CallsIn.quiet_of_same (callsIn_wide.2 (HT.out _))))
  repeat (gi_big_quiet_step (fail))
  refine wpQuietIn_nil ?_
  rintro w' ⟨nq, rfl⟩
  gi_wp2
  refine ⟨by simp, .inl ⟨_, _, rfl, run_takeDeferred (show (W.drewN nq).heap[D]? = _ from HK.out), ?_⟩⟩
  have hof := ownsRow_putObj (pw_own_drewN HRW.out nq) (.deferred none) (show (W.drewN nq).heap[D]? = _ from HK.out) rfl
  rw [HDN.out] at hof
  refine ⟨_, results_tmp2 rfl _ _ _, _, rfl, trimV_R (Kd.R_of_own (enc := Value.int .u32) ?_ (fun _ _ => trivial)) HOK.out HLT.out.1 HLT.out.2, (pw_below_drewN HB.out nq).trans (belowK_b (w := w) (Nat.le_refl _) _ D _ _ (by have := HB0.out.size; omega) (show (W.drewN nq).heap[D]? = _ from HK.out) rfl rfl)⟩
  rw [HLEN.out]
  exact hof
 case stop =>
  rintro D c pre W _ _ h _
  exact h.elim
theorem nat_num_small.calls (A0 : Option Addr) (c0 : Nat) (l0 : List Int) (a1 : Int) (r1 : List Int) (r2 : Int) (w : World) (hr0 : Kd.C (Kd.int .u32) w A0 l0.length l0) (hc0 : l0.length ≤ c0) (h : nat_num_small.f l0 a1 = some (r1, r2)) :
 Calls Tryz.prog 158 #[.slice A0 l0.length c0, .int .u32 a1] w fun e w' => ∃ v0_ : Value, e = .returned (.tuple #[v0_, .int .u32 r2]) ∧ Kd.R (Kd.int .u32) 90 w' w.heap.size (fun _ => True) v0_ r1 ∧ Below w.heap.size w w' := by
 unfold nat_num_small.f at h
 by_cases hc : okL l0 ∧ l0.length ≤ 1073741824 ∧ 0 < a1 ∧ a1 < 4294967296
 case neg => rw [if_neg hc] at h; cases h
 rw [if_pos hc] at h
 simp only [Option.some.injEq, Prod.mk.injEq] at h
 obtain ⟨rfl, rfl⟩ := h
 obtain ⟨h1, h2, h3, h4⟩ := hc
 have hv := sm_val h1 h3 h4
 have := callsIn_wide.1 (small_in 6 (Nat.le_refl _) A0 c0 l0 a1 w hr0 hc0 h1 h2 h3 h4)
 rw [hv.1, hv.2] at this
 exact this
end Go.Proofs.YtmfpakolfpoamaaGreatDoor.P
namespace Go.Proofs.YtmfpakolfpoamaaGreatDoor.P
set_option linter.unusedVariables false
set_option linter.unusedSimpArgs false
open Go.RowKit Go.Shelf Go.Proofs.YtmfpakolfpoamaaGreatDoorW.PrintWords Go.Proofs.YtmfpakolfpoamaaGreatDoorW.PrintMore Go.Proofs.YtmfpakolfpoamaaGreatDoorW.PrintLast
set_option maxHeartbeats 4000000 in
theorem div_less (A B : Option Addr) (ca cb : Nat) (a b : List Int) (w : World) (hCa : Kd.C (Kd.int .u32) w A a.length a) (hca : a.length ≤ ca) (hCb : Kd.C (Kd.int .u32) w B b.length b) (hcb : b.length ≤ cb) (hab : canon a ∧ canon b) (hz : a.length ≤ 268435456) (hzb : b.length ≤ 268435456) (hlt : val a < val b) :
 Calls Tryz.prog 157 #[.slice A a.length ca, .slice B b.length cb] w fun e w' => ∃ v0_ v1_ : Value, e = .returned (.tuple #[v0_, v1_]) ∧ Kd.R (Kd.int .u32) 90 w' w.heap.size (fun k_ => some k_ ≠ (v1_ : Value).ownBlock) v0_ (limbs (val a / val b)) ∧ Kd.R (Kd.int .u32) 90 w' w.heap.size (fun k_ => some k_ ≠ (v0_ : Value).ownBlock) v1_ (limbs (val a % val b)) ∧ Below w.heap.size w w' := by
 have HCa := Lib.hid hCa
 have HCb := Lib.hid hCb
 have HF : Hid (nat_num_compare.f a b = some (-1)) := Lib.hid (by unfold nat_num_compare.f; rw [if_pos ⟨hab, by omega, by omega⟩]; unfold cmpI; rw [if_pos (by omega)])
 have HE : Hid (slices_Clone_num_uint32.f a = some a) := Lib.hid (by unfold slices_Clone_num_uint32.f; rw [if_pos (by omega)])
 have hq : limbs (val a / val b) = [] := by rw [Nat.div_eq_of_lt hlt, limbs_zero]
 have hr : limbs (val a % val b) = a := by rw [Nat.mod_eq_of_lt hlt]; exact hab.1
 clear hCa hCb
 go_enter Tryz.func157, Tryz.ntmps157
 go_wp2_with fail
 refine (nat_num_compare.calls A ca a B cb b _ _ HCa.out hca HCb.out hcb HF.out).mono ?_
 rintro e w1 ⟨rfl, hb1⟩
 have HB1 := Lib.hid hb1
 clear hb1
 go_wp2_with fail
 refine (slices_Clone_num_uint32.calls A ca a a _ (Kd.C_below HCa.out HB1.out) hca HE.out).mono ?_
 rintro e w2 ⟨v, rfl, hR, hb2⟩
 have HR := Lib.hid hR
 have HB2 := Lib.hid hb2
 clear hb2 hR
 go_wp2
 go_ret2
 refine ⟨_, _, rfl, ?_, ?_, HB1.out.trans (HB2.out.mono HB1.out.size)⟩
 · rw [hq]; exact Kd.R_nil _ _ _ _ _
 · rw [hr]; exact Kd.R_mono (Kd.R_lower HR.out HB1.out.size) (fun k _ => by simp [Value.ownBlock])
theorem R_other {w : World} {base : Nat} {v : Value} {l : List Int} {ok : Nat → Prop} (h : Kd.R (Kd.int .u32) 90 w base ok v l) : Kd.R (Kd.int .u32) 90 w base (fun k => ok k ∧ base ≤ k ∧ k < w.heap.size) v l := Kd.R_mono (Kd.R_bound h) (fun k hk => ⟨hk.1, hk.2.1, hk.2.2.1⟩)
set_option maxHeartbeats 4000000 in
theorem div_one (A B : Option Addr) (ca cb : Nat) (a : List Int) (y : Int) (w : World) (hCa : Kd.C (Kd.int .u32) w A a.length a) (hca : a.length ≤ ca) (hCb : Kd.C (Kd.int .u32) w B [y].length [y]) (hcb : [y].length ≤ cb) (hab : canon a ∧ canon [y]) (hz : a.length ≤ 268435456) (hge : ¬ val a < val [y]) :
 Calls Tryz.prog 157 #[.slice A a.length ca, .slice B [y].length cb] w fun e w' => ∃ v0_ v1_ : Value, e = .returned (.tuple #[v0_, v1_]) ∧ Kd.R (Kd.int .u32) 90 w' w.heap.size (fun k_ => some k_ ≠ (v1_ : Value).ownBlock) v0_ (limbs (val a / val [y])) ∧ Kd.R (Kd.int .u32) 90 w' w.heap.size (fun k_ => some k_ ≠ (v0_ : Value).ownBlock) v1_ (limbs (val a % val [y])) ∧ Below w.heap.size w w' := by
 have hy := canon_okL hab.2
 rw [okL_cons] at hy
 have hy0 : y ≠ 0 := by have := canon_last hab.2 (by simp); simpa using this
 have hvy : val [y] = y.toNat := by simp [val]
 obtain ⟨c, hc, hc0⟩ : ∃ c : Int, cmpI (val a) (val [y]) = c ∧ ¬ c < 0 := ⟨_, rfl, by unfold cmpI; rw [if_neg (by omega)]; split <;> omega⟩
 have HF : Hid (nat_num_compare.f a [y] = some c) := Lib.hid (by unfold nat_num_compare.f; rw [if_pos ⟨hab, by omega, by simp⟩, hc])
 have HS : Hid (nat_num_small.f a y = some (limbs (val a / val [y]), ((val a % val [y] : Nat) : Int))) := Lib.hid (by unfold nat_num_small.f; rw [if_pos ⟨canon_okL hab.1, by omega, by omega, by omega⟩, hvy])
 have hmb : val a % val [y] < 4294967296 := Nat.lt_trans (Nat.mod_lt _ (by rw [hvy]; omega)) (by rw [hvy]; omega)
 have HOK : Hid (okL [((val a % val [y] : Nat) : Int)]) := Lib.hid (by rw [okL_cons]; exact ⟨by omega, okL_nil⟩)
 have HV : Hid (val [((val a % val [y] : Nat) : Int)] = val a % val [y]) := Lib.hid (by generalize val a % val [y] = z; simp [val])
 obtain ⟨ad, rfl, hx⟩ := Kd.at_int hCb (0 : Int) (by omega) (by simp)
 have hxy : rd [y] 0 = y := rfl
 rw [hxy] at hx
 have had : ad.add (Int.toNat 0) = ad := by simp [Addr.add]
 rw [had] at hx
 have HX := Lib.hid hx
 have HCa := Lib.hid hCa
 have HCb := Lib.hid hCb
 generalize val a % val [y] = r at *
 generalize limbs (val a / val [y]) = qs at *
 clear hCa hCb hx hxy hc hge hy hy0 hvy
 simp only [List.length_cons, List.length_nil, Nat.zero_add] at *
 go_enter Tryz.func157, Tryz.ntmps157
 go_wp2_with fail
 refine (nat_num_compare.calls A ca a (some ad) cb [y] _ _ HCa.out hca HCb.out hcb HF.out).mono ?_
 rintro e w1 ⟨rfl, hb1⟩
 have HB1 := Lib.hid hb1
 have hx1 : w1.cell? ad = some (.int .u32 y) := pw_cell_below hb1 HX.out
 clear hb1
 go_wp2_with fail
 refine (nat_num_small.calls A ca a y _ _ _ (Kd.C_below HCa.out HB1.out) hca HS.out).mono ?_
 rintro e w2 ⟨v, rfl, hR, hb2⟩
 have HR := Lib.hid (R_other hR)
 have HB2 := Lib.hid hb2
 clear hb2 hR
 go_wp2_with fail
 have ho : (w2.alloc (.cells #[.int .u32 (r : Int)] 90)).ownsRow w2.heap.size 90 1 (.slice (some ⟨w2.heap.size, 0, none⟩) 1 1) 1 (nums .u32 [(r : Int)]) := own_lit w2 w2.heap.size 90 .u32 [(r : Int)] (Nat.le_refl _) (by simp)
 have hR1 : Kd.R (Kd.int .u32) 90 (w2.alloc (.cells #[.int .u32 (r : Int)] 90)) w2.heap.size (fun k => w2.heap.size ≤ k) (.slice (some ⟨w2.heap.size, 0, none⟩) [(r : Int)].length 1) [(r : Int)] := Kd.R_of_own (enc := Value.int .u32) ho (fun k hk => by simp [Value.ownBlock] at hk; omega)
 have HR1 := Lib.hid hR1
 clear ho hR1
 refine (trim_det (some ⟨w2.heap.size, 0, none⟩) 1 [(r : Int)] _ (Kd.R_reads' HR1.out).2.2 (Nat.le_refl _) HOK.out (by simp)).mono ?_
 rintro e w3 ⟨rfl, rfl⟩
 go_wp2
 go_ret2
 have hb1 := HB1.out
 have hb2 := HB2.out
 have hs1 := hb1.size
 have hs2 := hb2.size
 refine ⟨v, _, rfl, ?_, ?_, (hb1.trans (hb2.mono hs1)).alloc (by omega) _⟩
 · refine Kd.R_mono (Kd.R_alloc (Kd.R_lower HR.out hs1) _) fun k hk => ?_
   unfold trimV
   split
   · simp [Value.ownBlock]
   · simp [Value.ownBlock]; omega
 · obtain ⟨t1, t2⟩ := limbs_take HOK.out
   have := trimV_R HR1.out HOK.out t1 t2
   rw [HV.out] at this
   refine Kd.R_mono (Kd.R_lower this (by omega)) fun k hk he => ?_
   have := HR.out.1 k he.symm
   omega
end Go.Proofs.YtmfpakolfpoamaaGreatDoor.P
namespace Go.Proofs.YtmfpakolfpoamaaGreatDoor.P
set_option linter.unusedVariables false
set_option linter.unusedSimpArgs false
open Go.RowKit Go.Proofs.YtmfpakolfpoamaaGreatDoorW.PrintWords Go.Proofs.YtmfpakolfpoamaaGreatDoorW.PrintMore Go.Proofs.YtmfpakolfpoamaaGreatDoorW.PrintLast
theorem bcells {W w1 : World} {g : Nat} {cs : Array Value} {t : Nat} (hg : W.heap[g]? = some (.cells cs t (0, 0))) (hb : Below W.heap.size W w1) : (∀ i, w1.cell? ⟨g, i, none⟩ = cs[i]?) ∧ (∀ i, w1.frozen? ⟨g, i, none⟩ = false) :=
 ⟨fun i => (hb.cell (p := ⟨g, i, none⟩) (blk_lt hg)).trans (blk_cell hg i), fun i => (hb.frozen (p := ⟨g, i, none⟩) (blk_lt hg)).trans (blk_frozen hg i)⟩
theorem blk_below2 {W w1 : World} {g : Nat} {o : Obj} (hg : W.heap[g]? = some o) (hb : Below W.heap.size W w1) : w1.heap[g]? = some o := (hb.block g (blk_lt hg)).trans hg
theorem box3_out {X : World} {g t : Nat} {o0 o1 o2 : Value} (h : X.heap[g]? = some (.cells #[o0, o1, o2] t (0, 0))) (v0 v1 v2 : Value) : (((X.setCell ⟨g, 0, none⟩ v0).setCell ⟨g, 1, none⟩ v1).setCell ⟨g, 2, none⟩ v2).heap[g]? = some (.cells #[v0, v1, v2] t (0, 0)) := by
 have h1 := blk_set (blk_set (blk_set h 0 v0) 1 v1) 2 v2
 rw [h1]
 rfl
theorem cells3 {W : World} {g t : Nat} {v0 v1 v2 : Value} (h : W.heap[g]? = some (.cells #[v0, v1, v2] t (0, 0))) : W.cell? ⟨g, 0, none⟩ = some v0 ∧ W.cell? ⟨g, 1, none⟩ = some v1 ∧ W.cell? ⟨g, 2, none⟩ = some v2 := ⟨blk_cell h 0, blk_cell h 1, blk_cell h 2⟩
section
variable {P : Program} {md : Region.Mode} {ops : Array Oper} {Q : Exit → Act → World → Prop}
def okB (md : Region.Mode) (ops : Array Oper) (listed : Array Bool) (i : Nat) : Bool := Region.noSelect ops && Region.free md ops listed i && (Region.ready md ops listed).contains i
theorem okB_out {listed : Array Bool} {i : Nat} (h : okB md ops listed i = true) : Region.noSelect ops = true ∧ Region.free md ops listed i = true ∧ (Region.ready md ops listed).contains i = true := by
 unfold okB at h
 rw [Bool.and_eq_true, Bool.and_eq_true] at h
 exact ⟨h.1.1, h.1.2, h.2⟩
theorem put_lit {o : Oper} {k : Nat} (hd : o.dst = some k) (l : List Value) (d : List Deferred) (v : Value) : Act.put ⟨l.toArray, d⟩ o.dst v = ⟨(l.set k v).toArray, d⟩ := by rw [hd]; simp [Act.put]
theorem tk (i : Nat) {k : Nat} {oi : Oper} {v : Value} {fuel : Nat} {listed : Array Bool} {l : List Value} {d : List Deferred} {w : World} (hi : ops[i]? = some oi) (hd : oi.dst = some k) (hk : okB md ops listed i = true) (hQ : ∀ c a w, Q (.panic c) (a.put oi.dst v) w → Q (.panic c) a w) (hw : Region.wanted oi (yielded ops l.toArray) = true) (hy : ∀ w, (execOp (Act.eval ⟨l.toArray, d⟩) oi).run P w = .ok (.value v) w)
 (h : wpAny P md ops Q fuel (listed.setIfInBounds i true) ⟨(l.set k v).toArray, d⟩ w) : wpAny P md ops Q (fuel + 1) listed ⟨l.toArray, d⟩ w :=
 wpAny_take hi (okB_out hk).1 (okB_out hk).2.1 (okB_out hk).2.2 hQ (.inl ⟨hw, hy⟩) (by rw [put_lit hd]; exact h)
theorem sk (i : Nat) {k : Nat} {oi : Oper} {fuel : Nat} {listed : Array Bool} {l : List Value} {d : List Deferred} {w : World} (hi : ops[i]? = some oi) (hd : oi.dst = some k) (hk : okB md ops listed i = true) (hQ : ∀ c a w, Q (.panic c) (a.put oi.dst undef) w → Q (.panic c) a w) (hw : Region.wanted oi (yielded ops l.toArray) = false)
 (h : wpAny P md ops Q fuel (listed.setIfInBounds i true) ⟨(l.set k undef).toArray, d⟩ w) : wpAny P md ops Q (fuel + 1) listed ⟨l.toArray, d⟩ w :=
 wpAny_take hi (okB_out hk).1 (okB_out hk).2.1 (okB_out hk).2.2 hQ (.inr ⟨hw, rfl⟩) (by rw [put_lit hd]; exact h)
theorem one (i : Nat) {oi : Oper} {fuel : Nat} {listed : Array Bool} {a : Act} {w : World} (hi : ops[i]? = some oi) (hr : Region.ready md ops listed = [i]) (hw : Region.wanted oi (yielded ops a.tmps) = true)
 (h : ∀ K : Act → World → Prop, (∀ a w, wpAny P md ops Q fuel (listed.setIfInBounds i true) a w → K a w) → Oper.wp P oi a w K Q) : wpAny P md ops Q (fuel + 1) listed a w :=
 wpAny_ready hr (by simp) (AllReady.cons hi (fun K hK => by rw [if_pos hw]; exact h K hK) AllReady.nil)
theorem two (i j : Nat) {oi oj : Oper} {fuel : Nat} {listed : Array Bool} {a : Act} {w : World} (hi : ops[i]? = some oi) (hj : ops[j]? = some oj) (hr : Region.ready md ops listed = [i, j]) (hwi : Region.wanted oi (yielded ops a.tmps) = true) (hwj : Region.wanted oj (yielded ops a.tmps) = true)
 (h1 : ∀ K : Act → World → Prop, (∀ a w, wpAny P md ops Q fuel (listed.setIfInBounds i true) a w → K a w) → Oper.wp P oi a w K Q) (h2 : ∀ K : Act → World → Prop, (∀ a w, wpAny P md ops Q fuel (listed.setIfInBounds j true) a w → K a w) → Oper.wp P oj a w K Q) : wpAny P md ops Q (fuel + 1) listed a w :=
 wpAny_ready hr (by simp) (AllReady.cons hi (fun K hK => by rw [if_pos hwi]; exact h1 K hK) (AllReady.cons hj (fun K hK => by rw [if_pos hwj]; exact h2 K hK) AllReady.nil))
theorem three (i j k : Nat) {oi oj ok : Oper} {fuel : Nat} {listed : Array Bool} {a : Act} {w : World} (hi : ops[i]? = some oi) (hj : ops[j]? = some oj) (hk : ops[k]? = some ok) (hr : Region.ready md ops listed = [i, j, k]) (hwi : Region.wanted oi (yielded ops a.tmps) = true) (hwj : Region.wanted oj (yielded ops a.tmps) = true) (hwk : Region.wanted ok (yielded ops a.tmps) = true)
 (h1 : ∀ K : Act → World → Prop, (∀ a w, wpAny P md ops Q fuel (listed.setIfInBounds i true) a w → K a w) → Oper.wp P oi a w K Q) (h2 : ∀ K : Act → World → Prop, (∀ a w, wpAny P md ops Q fuel (listed.setIfInBounds j true) a w → K a w) → Oper.wp P oj a w K Q) (h3 : ∀ K : Act → World → Prop, (∀ a w, wpAny P md ops Q fuel (listed.setIfInBounds k true) a w → K a w) → Oper.wp P ok a w K Q) : wpAny P md ops Q (fuel + 1) listed a w :=
 wpAny_ready hr (by simp) (AllReady.cons hi (fun K hK => by rw [if_pos hwi]; exact h1 K hK) (AllReady.cons hj (fun K hK => by rw [if_pos hwj]; exact h2 K hK) (AllReady.cons hk (fun K hK => by rw [if_pos hwk]; exact h3 K hK) AllReady.nil)))
end
theorem tq (i : Nat) {P : Program} {md : Region.Mode} {ops : Array Oper} {Q : Exit → Act → World → Prop} {k : Nat} {oi : Oper} {v : Value} {fuel : Nat} {listed : Array Bool} {l : List Value} {d : List Deferred} {w : World} (hi : ops[i]? = some oi := by rfl) (hd : oi.dst = some k := by rfl) (hk : okB md ops listed i = true := by kernel_rfl) (hQ : ∀ c a w, Q (.panic c) (a.put oi.dst v) w → Q (.panic c) a w := by exact fun _ _ _ h => h) (hw : Region.wanted oi (yielded ops l.toArray) = true := by rfl) (hy : ∀ w, (execOp (Act.eval ⟨l.toArray, d⟩) oi).run P w = .ok (.value v) w := by intro w_; go_simp; try with_reducible rfl)
    (h : wpAny P md ops Q fuel (listed.setIfInBounds i true) ⟨(l.set k v).toArray, d⟩ w) : wpAny P md ops Q (fuel + 1) listed ⟨l.toArray, d⟩ w := tk i hi hd hk hQ hw hy h
theorem sq (i : Nat) {P : Program} {md : Region.Mode} {ops : Array Oper} {Q : Exit → Act → World → Prop} {k : Nat} {oi : Oper} {fuel : Nat} {listed : Array Bool} {l : List Value} {d : List Deferred} {w : World} (hi : ops[i]? = some oi := by rfl) (hd : oi.dst = some k := by rfl) (hk : okB md ops listed i = true := by kernel_rfl) (hQ : ∀ c a w, Q (.panic c) (a.put oi.dst undef) w → Q (.panic c) a w := by exact fun _ _ _ h => h) (hw : Region.wanted oi (yielded ops l.toArray) = false := by rfl)
    (h : wpAny P md ops Q fuel (listed.setIfInBounds i true) ⟨(l.set k undef).toArray, d⟩ w) : wpAny P md ops Q (fuel + 1) listed ⟨l.toArray, d⟩ w := sk i hi hd hk hQ hw h
theorem lst {α : Type} : (∀ (a b : α) (l : List α), (a :: l).set 0 b = b :: l) ∧ ∀ (a : α) (l : List α) (n : Nat) (b : α), (a :: l).set (n + 1) b = a :: l.set n b := ⟨fun _ _ _ => rfl, fun _ _ _ _ => rfl⟩
theorem lgt {α : Type} : (∀ (l : List α) (i : Nat) (h : i < l.toArray.size), l.toArray[i]'h = l[i]'(by simpa using h)) ∧ (∀ (a : α) (l : List α) (i : Nat) (h : i + 1 < (a :: l).length), (a :: l)[i + 1]'h = l[i]'(by simpa using h)) ∧ ∀ (a : α) (l : List α) (h : 0 < (a :: l).length), (a :: l)[0]'h = a := ⟨fun _ _ _ => rfl, fun _ _ _ _ => rfl, fun _ _ _ => rfl⟩
end Go.Proofs.YtmfpakolfpoamaaGreatDoor.P

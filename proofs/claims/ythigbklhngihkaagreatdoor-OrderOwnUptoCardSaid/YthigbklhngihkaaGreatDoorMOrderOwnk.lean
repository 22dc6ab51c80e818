import Derived.Test.YthigbklhngihkaaGreatDoorMOrderOwnj
set_option linter.unusedVariables false
set_option linter.unusedSimpArgs false
set_option maxRecDepth 100000
namespace Go.Proofs.YthigbklhngihkaaGreatDoor.P
open Go.RowKit Go.Proofs.YthigbklhngihkaaGreatDoorW.PrintWords Go.Proofs.YthigbklhngihkaaGreatDoorW.PrintMore Go.Proofs.YthigbklhngihkaaGreatDoorW.PrintLast
theorem fitsV_yes' {n : Nat} (h : (limbs n).length ≤ 256) : fitsV n = (limbs n, 0) := by unfold fitsV; rw [if_neg (by omega)]
theorem canon_tw' {a b : List Int} (ha : canon a) (hb : canon b) (h1 : a.length ≤ 256) (h2 : b.length ≤ 256) : tw a b = 0 := (tw_ok (canon_okL ha) (canon_okL hb)).2 ⟨⟨h1, ha⟩, h2, hb⟩
theorem mulV_fits {a b : List Int} (ha : canon a) (hb : canon b) (h1 : a.length ≤ 256) (h2 : b.length ≤ 256) (h : val a * val b ≤ top) : mulV a b = (limbs (val a * val b), 0) := by
 unfold mulV
 rw [if_pos (canon_tw' ha hb h1 h2), fitsV_yes' (limbs_len (Nat.lt_of_le_of_lt h ten_bound))]
theorem addV_fits {a b : List Int} (ha : canon a) (hb : canon b) (h1 : a.length ≤ 256) (h2 : b.length ≤ 256) (h : val a + val b ≤ top) : addV a b = (limbs (val a + val b), 0) := by
 unfold addV
 rw [if_pos (canon_tw' ha hb h1 h2), fitsV_yes' (limbs_len (Nat.lt_of_le_of_lt h ten_bound))]
theorem top_len {n : Nat} (h : n ≤ top) : (limbs n).length ≤ 256 := limbs_len (Nat.lt_of_le_of_lt h ten_bound)
theorem canon_nil_iff {l : List Int} (h : canon l) : l.length = 0 ↔ val l = 0 := by
 constructor
 · intro e
   have : l = [] := List.eq_nil_of_length_eq_zero e
   subst this
   rfl
 · intro e
   unfold canon at h
   rw [e, limbs_zero] at h
   rw [← h]
   rfl
def downN (d : D) (x : Int) : Nat := val d.f1 * 10 ^ (d.f2 - x).toNat
set_option maxHeartbeats 1000000 in
theorem down_any (d : D) (A : Option Addr) (c : Nat) (x : Int) (w : World) (hc : d.f1.length ≤ c) (hC : Kd.C (Kd.int .u32) w A d.f1.length d.f1) (hcan : canon d.f1) (hlen : d.f1.length ≤ 256) (hx : x ≤ d.f2) (hn : d.f1.length ≠ 0 → d.f2 - x ≤ 2400) (hb : -9000000 ≤ x ∧ d.f2 ≤ 9000000) (ht : downN d x ≤ top) :
 Calls Tryz.prog 175 #[.agg #[.bool d.f0, .slice A d.f1.length c, .int .i64 d.f2], .int .i64 x] w fun e w' => ∃ B dd, e = .returned (.agg #[.bool d.f0, .slice B (limbs (downN d x)).length dd, .int .i64 x]) ∧ (limbs (downN d x)).length ≤ dd ∧ Kd.C (Kd.int .u32) w' B (limbs (downN d x)).length (limbs (downN d x)) ∧ Below w.heap.size w w' := by
 by_cases h : d.f1.length = 0 ∨ d.f2 = x
 · have e : limbs (downN d x) = d.f1 := by
    unfold downN
    rcases h with h | h
    · rw [(canon_nil_iff hcan).1 h, Nat.zero_mul, limbs_zero, List.eq_nil_of_length_eq_zero h]
    · rw [show (d.f2 - x).toNat = 0 by omega, Nat.pow_zero, Nat.mul_one]
      exact hcan
   rw [e]
   refine (down_same d A c x w h).mono ?_
   rintro e w' ⟨rfl, hB⟩
   exact ⟨A, c, rfl, hc, Kd.C_below hC hB, hB⟩
 · obtain ⟨n, hn'⟩ : ∃ n : Nat, d.f2 - x = n := ⟨(d.f2 - x).toNat, by omega⟩
   have h0 : d.f1.length ≠ 0 := fun e => h (.inl e)
   have h1 : n ≠ 0 := fun e => h (.inr (by omega))
   have hn2 : n ≤ 2400 := by have := hn h0; omega
   have e : downN d x = val d.f1 * val (limbs (10 ^ n)) := by unfold downN; rw [hn', val_limbs, Int.toNat_natCast]
   have hpl : (limbs (10 ^ n)).length ≤ 256 := top_len (top_ge hn2)
   rw [e] at ht ⊢
   exact down_more d A c n _ x w hc hC (canon_okL hcan) hlen h0 hn' h1 hn2 hb (mulV_fits hcan (canon_limbs _) hlen hpl ht) (by omega)
def plusD (a b : D) : D :=
 let low := min a.f2 b.f2
 if a.f0 = b.f0 then ⟨a.f0, limbs (downN a low + downN b low), low⟩ else if downN a low < downN b low then ⟨b.f0, limbs (downN b low - downN a low), low⟩ else ⟨a.f0, limbs (downN a low - downN b low), low⟩
structure PlusAt (w W : World) (a0 b0 : Bool) (E1 : Option Addr) (e1 : Nat) (E2 : Option Addr) (e2 : Nat) (l1 l2 : List Int) (low : Int) : Prop where
 x : W.heap[w.heap.size]? = some (.cells #[.bool a0, .slice E1 l1.length e1, .int .i64 low] 137 (0, 0))
 y : W.heap[w.heap.size + 1]? = some (.cells #[.bool b0, .slice E2 l2.length e2, .int .i64 low] 137 (0, 0))
 o : W.heap[w.heap.size + 2]? = some (.cells #[.bool false, .slice none 0 0, .int .i64 0] 137 (0, 0))
 below : Below w.heap.size w W
 c1 : Kd.C (Kd.int .u32) W E1 l1.length l1
 c2 : Kd.C (Kd.int .u32) W E2 l2.length l2
 k1 : l1.length ≤ e1
 k2 : l2.length ≤ e2
def set3 (W : World) (g : Nat) (v0 v1 v2 : Value) : World := ((W.setCell ⟨g, 0, none⟩ v0).setCell ⟨g, 1, none⟩ v1).setCell ⟨g, 2, none⟩ v2
theorem set3_far (W : World) (g : Nat) (v0 v1 v2 : Value) (j : Nat) (h : j ≠ g) : (set3 W g v0 v1 v2).heap[j]? = W.heap[j]? := by
 unfold set3
 rw [Below.heap_setCell _ _ _ _ (by simpa using h), Below.heap_setCell _ _ _ _ (by simpa using h), Below.heap_setCell _ _ _ _ (by simpa using h)]
theorem set3_below {w W : World} {B g : Nat} (h : Below B w W) (hg : B ≤ g) (v0 v1 v2 : Value) : Below B w (set3 W g v0 v1 v2) :=
 ((h.setCell (p := ⟨g, 0, none⟩) hg _).setCell (p := ⟨g, 1, none⟩) hg _).setCell (p := ⟨g, 2, none⟩) hg _
theorem C_far {W W' : World} {g : Nat} {t : Nat} {cs : Array Value} {A : Option Addr} {l : List Int} (hC : Kd.C (Kd.int .u32) W A l.length l) (hg : W.heap[g]? = some (.cells cs t (0, 0))) (hno : ∀ (i : Nat) (n : Int), cs[i]? ≠ some (.int .u32 n)) (far : ∀ j, j ≠ g → W'.heap[j]? = W.heap[j]?) : Kd.C (Kd.int .u32) W' A l.length l := by
 refine ⟨hC.1, hC.2.1, fun hp => ?_⟩
 obtain ⟨ad, e, hc⟩ := hC.2.2 hp
 refine ⟨ad, e, fun j p hj => ?_⟩
 obtain ⟨cs', h1, h2, h3⟩ := hc j p hj
 refine ⟨cs', h1, h2, fun i u hu => ?_⟩
 have h4 := h3 i u hu
 have hne : (ad.add (j * (Kd.int .u32).sz + i)).block ≠ g := by
  intro hb
  obtain rfl := h2
  have hi : i = 0 := by
   rcases Nat.eq_zero_or_pos i with h | h
   · exact h
   · rw [List.getElem?_eq_none (by simp; omega)] at hu; cases hu
  subst hi
  simp only [List.getElem?_cons_zero, Option.some.injEq] at hu
  subst hu
  simp only [World.cell?, hb, hg] at h4
  split at h4
  · cases h4
  · exact hno _ _ h4
 rw [← h4]
 exact World.cell?_of_block (far _ hne)
theorem set3_row {X : World} {g t : Nat} {o0 o1 o2 : Value} (h : X.heap[g]? = some (.cells #[o0, o1, o2] t (0, 0))) (v0 v1 v2 : Value) : (set3 X g v0 v1 v2).heap[g]? = some (.cells #[v0, v1, v2] t (0, 0)) := box3_out h v0 v1 v2
theorem noU (b : Bool) (A : Option Addr) (m c : Nat) (x : Int) (i : Nat) (n : Int) : (#[Value.bool b, .slice A m c, .int .i64 x] : Array Value)[i]? ≠ some (.int .u32 n) := by
 intro h
 rcases i with _ | _ | _ | i
 · simp at h
 · simp at h
 · simp at h
 · simp at h
theorem plus_mid {w W : World} {a0 b0 a1 b1 : Bool} {E1 E2 F1 F2 : Option Addr} {e1 e2 f1 f2 m1 m2 : Nat} {l1 l2 : List Int} {low x1 x2 : Int}
 (hx : W.heap[w.heap.size]? = some (.cells #[.bool a1, .slice F1 m1 f1, .int .i64 x1] 137 (0, 0)))
 (hy : W.heap[w.heap.size + 1]? = some (.cells #[.bool b1, .slice F2 m2 f2, .int .i64 x2] 137 (0, 0)))
 (ho : W.heap[w.heap.size + 2]? = some (.cells #[.bool false, .slice none 0 0, .int .i64 0] 137 (0, 0)))
 (hB : Below w.heap.size w W) (h1 : Kd.C (Kd.int .u32) W E1 l1.length l1) (h2 : Kd.C (Kd.int .u32) W E2 l2.length l2) (k1 : l1.length ≤ e1) (k2 : l2.length ≤ e2) :
 PlusAt w (set3 (set3 W w.heap.size (.bool a0) (.slice E1 l1.length e1) (.int .i64 low)) (w.heap.size + 1) (.bool b0) (.slice E2 l2.length e2) (.int .i64 low)) a0 b0 E1 e1 E2 e2 l1 l2 low := by
 have hy1 := (set3_far W w.heap.size (.bool a0) (.slice E1 l1.length e1) (.int .i64 low) (w.heap.size + 1) (by omega)).trans hy
 have mv : ∀ {A : Option Addr} {l : List Int}, Kd.C (Kd.int .u32) W A l.length l → Kd.C (Kd.int .u32) (set3 (set3 W w.heap.size (.bool a0) (.slice E1 l1.length e1) (.int .i64 low)) (w.heap.size + 1) (.bool b0) (.slice E2 l2.length e2) (.int .i64 low)) A l.length l := fun h =>
  C_far (C_far h hx (noU _ _ _ _ _) (fun j hj => set3_far _ _ _ _ _ j hj)) hy1 (noU _ _ _ _ _) (fun j hj => set3_far _ _ _ _ _ j hj)
 refine ⟨?_, set3_row hy1 _ _ _, ?_, set3_below (set3_below hB (Nat.le_refl _) _ _ _) (Nat.le_succ _) _ _ _, mv h1, mv h2, k1, k2⟩
 · rw [set3_far _ _ _ _ _ _ (by omega)]; exact set3_row hx _ _ _
 · rw [set3_far _ _ _ _ _ _ (by omega), set3_far _ _ _ _ _ _ (by omega)]; exact ho
theorem PlusAt.later {w W W' : World} {a0 b0 : Bool} {E1 E2 : Option Addr} {e1 e2 : Nat} {l1 l2 : List Int} {low : Int} (h : PlusAt w W a0 b0 E1 e1 E2 e2 l1 l2 low) (hB : Below W.heap.size W W') : PlusAt w W' a0 b0 E1 e1 E2 e2 l1 l2 low :=
 ⟨blk_below3 h.x hB, blk_below3 h.y hB, blk_below3 h.o hB, h.below.trans (hB.mono h.below.size), Kd.C_below h.c1 hB, Kd.C_below h.c2 hB, h.k1, h.k2⟩
theorem plus_end {w W w8 : World} {a0 b0 : Bool} {E1 E2 P : Option Addr} {e1 e2 p : Nat} {l1 l2 m : List Int} {low : Int} (h : PlusAt w W a0 b0 E1 e1 E2 e2 l1 l2 low) (hB : Below W.heap.size W w8)
 (hR : (Kd.int .u32).R 131 w8 W.heap.size (fun _ => True) (.slice P m.length p) m) :
 Below w.heap.size w (set3 (w8.setCell ⟨w.heap.size, 1, none⟩ (.slice P m.length p)) (w.heap.size + 1 + 1) (.bool a0) (.slice P m.length p) (.int .i64 low)) ∧ Kd.C (Kd.int .u32) (set3 (w8.setCell ⟨w.heap.size, 1, none⟩ (.slice P m.length p)) (w.heap.size + 1 + 1) (.bool a0) (.slice P m.length p) (.int .i64 low)) P m.length m ∧ (set3 (w8.setCell ⟨w.heap.size, 1, none⟩ (.slice P m.length p)) (w.heap.size + 1 + 1) (.bool a0) (.slice P m.length p) (.int .i64 low)).heap[w.heap.size + 1 + 1]? = some (.cells #[.bool a0, .slice P m.length p, .int .i64 low] 137 (0, 0)) ∧ m.length ≤ p := by
 have hs := blk_lt h.o
 have hoo := blk_below3 h.o hB
 refine ⟨set3_below ((h.below.trans (hB.mono (by omega))).setCell (p := ⟨w.heap.size, 1, none⟩) (Nat.le_refl _) _) (by omega) _ _ _, ?_, set3_row (o0 := .bool false) (o1 := .slice none 0 0) (o2 := .int .i64 0) ?_ _ _ _, (Kd.R_reads' hR).2.1⟩
 · exact (Kd.R_reads' (Kd.R_move (Kd.R_bound hR) (fun j hj => by
    have := hj.2.1
    rw [set3_far _ _ _ _ _ _ (by omega), Below.heap_setCell _ _ _ _ (by simp; omega)]))).2.2
 · rw [Below.heap_setCell _ _ _ _ (by simp; omega)]
   exact hoo
set_option maxHeartbeats 1000000 in
theorem plus_any (a b : D) (A : Option Addr) (c : Nat) (B : Option Addr) (dd : Nat) (w : World) (hc : a.f1.length ≤ c) (hC : Kd.C (Kd.int .u32) w A a.f1.length a.f1) (hd : b.f1.length ≤ dd) (hD : Kd.C (Kd.int .u32) w B b.f1.length b.f1)
 (ha : canon a.f1) (hb : canon b.f1) (hla : a.f1.length ≤ 256) (hlb : b.f1.length ≤ 256) (low : Int) (hlow : low = min a.f2 b.f2) (hda : a.f1.length ≠ 0 → a.f2 - low ≤ 2400) (hdb : b.f1.length ≠ 0 → b.f2 - low ≤ 2400) (hr : -9000000 ≤ a.f2 ∧ a.f2 ≤ 9000000 ∧ -9000000 ≤ b.f2 ∧ b.f2 ≤ 9000000) (ht : downN a low + downN b low ≤ top) :
 Calls Tryz.prog 144 #[.agg #[.bool a.f0, .slice A a.f1.length c, .int .i64 a.f2], .agg #[.bool b.f0, .slice B b.f1.length dd, .int .i64 b.f2]] w fun e w' => ∃ E ee, e = .returned (.agg #[.bool (plusD a b).f0, .slice E (plusD a b).f1.length ee, .int .i64 (plusD a b).f2]) ∧ (plusD a b).f1.length ≤ ee ∧ Kd.C (Kd.int .u32) w' E (plusD a b).f1.length (plusD a b).f1 ∧ Below w.heap.size w w' := by
 obtain ⟨X, hX⟩ : ∃ X, X = downN a low := ⟨_, rfl⟩
 obtain ⟨Y, hY⟩ : ∃ Y, Y = downN b low := ⟨_, rfl⟩
 have HDA := Lib.hid (fun W (hW : Below w.heap.size w W) => down_any a A c low W hc (Kd.C_below hC hW) ha hla (by omega) hda ⟨by omega, by omega⟩ (by omega))
 have HDB := Lib.hid (fun W (hW : Below w.heap.size w W) => down_any b B dd low W hd (Kd.C_below hD hW) hb hlb (by omega) hdb ⟨by omega, by omega⟩ (by omega))
 have HP : Hid (plusD a b = if a.f0 = b.f0 then ⟨a.f0, limbs (X + Y), low⟩ else if X < Y then ⟨b.f0, limbs (Y - X), low⟩ else ⟨a.f0, limbs (X - Y), low⟩) := Lib.hid (by unfold plusD; simp only; rw [← hlow, ← hX, ← hY])
 rw [← hX] at HDA
 rw [← hY] at HDB
 rw [← hX, ← hY] at ht
 have hlx : (limbs X).length ≤ 256 := top_len (by omega)
 have hly : (limbs Y).length ≤ 256 := top_len (by omega)
 have HADD : Hid (nat_Add.f 3 (limbs X) (limbs Y) = some (limbs (X + Y), 0)) := Lib.hid (by
  rw [add_f _ _ (okL_limbs X) (okL_limbs Y) (by omega) (by omega) 3 (Nat.le_refl _), addV_fits (canon_limbs X) (canon_limbs Y) hlx hly (by rw [val_limbs, val_limbs]; exact ht), val_limbs, val_limbs])
 have HCMP : Hid (∃ k, nat_Compare.f k (limbs X) (limbs Y) = some (cmpI X Y, 0)) := Lib.hid (by
  obtain ⟨k, hk⟩ := cmp_f (limbs X) (limbs Y) (okL_limbs X) (okL_limbs Y) (by omega) (by omega)
  refine ⟨k, (hk k (Nat.le_refl _)).trans ?_⟩
  unfold cmpV
  rw [if_pos (canon_tw' (canon_limbs X) (canon_limbs Y) hlx hly), val_limbs, val_limbs])
 have HSB : ∀ U V : Nat, V ≤ U → (limbs U).length ≤ 256 → (limbs V).length ≤ 256 → ∃ k, nat_Sub.f k (limbs U) (limbs V) = some (limbs (U - V), 0) := fun U V h h1 h2 => by
  obtain ⟨k, hk⟩ := sub_f (limbs U) (limbs V) (okL_limbs U) (okL_limbs V) (by omega) (by omega)
  refine ⟨k, (hk k (Nat.le_refl _)).trans ?_⟩
  unfold subV
  rw [if_pos (canon_tw' (canon_limbs U) (canon_limbs V) h1 h2), val_limbs, val_limbs, if_neg (by omega)]
 have HS1 : Hid (X < Y → ∃ k, nat_Sub.f k (limbs Y) (limbs X) = some (limbs (Y - X), 0)) := Lib.hid (fun h => HSB Y X (by omega) hly hlx)
 have HS2 : Hid (¬ X < Y → ∃ k, nat_Sub.f k (limbs X) (limbs Y) = some (limbs (X - Y), 0)) := Lib.hid (fun h => HSB X Y (by omega) hlx hly)
 subst hlow
 clear hX hY hC hD ha hb hda hdb ht hlx hly HSB
 obtain ⟨R, hR⟩ : ∃ R, R = plusD a b := ⟨_, rfl⟩
 rw [← hR]
 rw [← hR] at HP
 clear hR
 generalize limbs X = lx at *
 generalize limbs Y = ly at *
 obtain ⟨W3, hW3⟩ : ∃ W3, W3 = ((w.alloc (.cells #[.bool a.f0, .slice A a.f1.length c, .int .i64 a.f2] 137)).alloc (.cells #[.bool b.f0, .slice B b.f1.length dd, .int .i64 b.f2] 137)).alloc (.cells #[.bool false, .slice none 0 0, .int .i64 0] 137) := ⟨_, rfl⟩
 have hz : W3.heap.size = w.heap.size + 3 := by rw [hW3]; simp
 have hA : Below w.heap.size w W3 := by rw [hW3]; exact (((Below.refl _ _).alloc (Nat.le_refl _) _).alloc (by simp) _).alloc (by simp; omega) _
 have hx : W3.heap[w.heap.size]? = some (.cells #[.bool a.f0, .slice A a.f1.length c, .int .i64 a.f2] 137 (0, 0)) := by rw [hW3]; exact blk_alloc (blk_alloc (blk_new _ _) _) _
 have hy : W3.heap[w.heap.size + 1]? = some (.cells #[.bool b.f0, .slice B b.f1.length dd, .int .i64 b.f2] 137 (0, 0)) := by
  rw [hW3]
  have := blk_new (w.alloc (.cells #[.bool a.f0, .slice A a.f1.length c, .int .i64 a.f2] 137)) (.cells #[.bool b.f0, .slice B b.f1.length dd, .int .i64 b.f2] 137)
  rw [World.size_alloc] at this
  exact blk_alloc this _
 have ho : W3.heap[w.heap.size + 2]? = some (.cells #[.bool false, .slice none 0 0, .int .i64 0] 137 (0, 0)) := by
  rw [hW3]
  have := blk_new ((w.alloc (.cells #[.bool a.f0, .slice A a.f1.length c, .int .i64 a.f2] 137)).alloc (.cells #[.bool b.f0, .slice B b.f1.length dd, .int .i64 b.f2] 137)) (.cells #[.bool false, .slice none 0 0, .int .i64 0] 137)
  rw [World.size_alloc, World.size_alloc] at this
  exact this
 have HZ := Lib.hid hz
 have HA := Lib.hid hA
 have HX := Lib.hid hx
 have HY := Lib.hid hy
 have HO := Lib.hid ho
 have HW3 := Lib.hid hW3
 clear hz hA hx hy ho hW3
 go_enter Tryz.func144, Tryz.ntmps144
 go_upto_region 2 with (fail)
 rw [← HW3.out]
 clear HW3
 have HAd := Lib.hid (below_drew HA.out)
 have HXd := Lib.hid (blk_drew HX.out)
 have HYd := Lib.hid (blk_drew HY.out)
 have HOd := Lib.hid (blk_drew HO.out)
 have hzd := HZ.out
 rw [← World.size_drew] at hzd
 obtain ⟨hx, hxf⟩ := bcells HXd.out (Below.refl _ _)
 obtain ⟨hy, hyf⟩ := bcells HYd.out (Below.refl _ _)
 clear HA HX HY HO HZ
 go_region_law (first
  | (go_simp; go_at_call 175; (with_reducible refine (HDA.out _ HAd.out).mono ?_); rintro e w5 ⟨E1, e1, rfl, hp1, hC1, hB1⟩; have hs1 := hB1.size; obtain ⟨hx5, hxf5⟩ := bcells HXd.out hB1; obtain ⟨hy5, hyf5⟩ := bcells HYd.out hB1)
  | (go_simp; go_at_call 175; (with_reducible refine (HDB.out w5 (HAd.out.trans (hB1.mono (by omega)))).mono ?_); rintro e w6 ⟨E2, e2, rfl, hp2, hC2, hB2⟩; obtain ⟨hx6, hxf6⟩ := bcells (blk_below3 HXd.out hB1) hB2; obtain ⟨hy6, hyf6⟩ := bcells (blk_below3 HYd.out hB1) hB2))
 all_goals
  have hm := plus_mid (a0 := a.f0) (b0 := b.f0) (low := min a.f2 b.f2) (blk_below3 (blk_below3 HXd.out hB1) hB2) (blk_below3 (blk_below3 HYd.out hB1) hB2) (blk_below3 (blk_below3 HOd.out hB1) hB2) (HAd.out.trans ((hB1.mono (by omega)).trans (hB2.mono (by omega)))) (Kd.C_below hC1 hB2) hC2 hp1 hp2
  simp only [set3] at hm
  rename_i q_ k_ a_
  refine a_ _ _ ?_
  clear a_ hx6 hxf6 hy6 hyf6 hx5 hxf5 hy5 hyf5 hx hxf hy hyf hB1 hB2 hC1 hC2 hp1 hp2 hs1 hzd HAd HXd HYd HOd HDA HDB
  generalize (((((w6.setCell ⟨w.heap.size, 0, none⟩ (.bool a.f0)).setCell ⟨w.heap.size, 1, none⟩ (.slice E1 lx.length e1)).setCell ⟨w.heap.size, 2, none⟩ (.int .i64 (min a.f2 b.f2))).setCell ⟨w.heap.size + 1, 0, none⟩ (.bool b.f0)).setCell ⟨w.heap.size + 1, 1, none⟩ (.slice E2 ly.length e2)).setCell ⟨w.heap.size + 1, 2, none⟩ (.int .i64 (min a.f2 b.f2)) = W7 at hm ⊢
  generalize min a.f2 b.f2 = low at *
  have HM := Lib.hid hm
  obtain ⟨hx, hxf⟩ := bcells hm.x (Below.refl _ _)
  obtain ⟨hy, hyf⟩ := bcells hm.y (Below.refl _ _)
  clear hm
  cases hab : (a.f0 == b.f0) with
  | true =>
   have hR := HP.out
   rw [if_pos (eq_of_beq hab)] at hR
   clear HP
   subst hR
   go_wp2_with (first
    | (go_at_call 177; (with_reducible refine (nat_Add.calls 3 E1 e1 lx E2 e2 ly (limbs (X + Y)) 0 W7 HM.out.c1 HM.out.k1 HM.out.c2 HM.out.k2 HADD.out).mono ?_); rintro e w8 ⟨v8, rfl, hR8, hB8⟩; obtain ⟨P, p, rfl⟩ := Kd.R_slice hR8; have hend := plus_end HM.out hB8 hR8; obtain ⟨hx8, hxf8⟩ := bcells (blk_below3 HM.out.x hB8) (Below.refl _ _); obtain ⟨ho8, hof8⟩ := bcells (blk_below3 HM.out.o hB8) (Below.refl _ _); have HE := Lib.hid hend; clear hend hR8 hB8)
    | (go_at_call 176; (with_reducible refine (must_any _ _ _).mono ?_); rintro e w9 ⟨rfl, rfl⟩))
   obtain ⟨hb9, hc9, hr9, hk9⟩ := HE.out
   simp only [set3] at hb9 hc9 hr9
   obtain ⟨W9, hW9⟩ : ∃ W9, W9 = (((w8.setCell ⟨w.heap.size, 1, none⟩ (.slice P (limbs (X + Y)).length p)).setCell ⟨w.heap.size + 1 + 1, 0, none⟩ (.bool a.f0)).setCell ⟨w.heap.size + 1 + 1, 1, none⟩ (.slice P (limbs (X + Y)).length p)).setCell ⟨w.heap.size + 1 + 1, 2, none⟩ (.int .i64 low) := ⟨_, rfl⟩
   rw [← hW9] at hb9 hc9 hr9 ⊢
   obtain ⟨z0, z1, z2⟩ := cells3 hr9
   refine bodyPost_ret (v := .agg #[.bool a.f0, .slice P (limbs (X + Y)).length p, .int .i64 low]) ?_ rfl ⟨P, p, rfl, hk9, hc9, hb9⟩
   simp [results, Tryz.f144, go_sem, z0, z1, z2]
  | false =>
   have hR := HP.out
   rw [if_neg (by intro h; rw [h] at hab; simp at hab)] at hR
   clear HP
   obtain ⟨kc, hkc⟩ := HCMP.out
   have HK := Lib.hid hkc
   by_cases hlt : X < Y
   · rw [if_pos hlt] at hR
     subst hR
     obtain ⟨ks, hks⟩ := HS1.out hlt
     have HKS := Lib.hid hks
     have hcm : cmpI X Y = -1 := by unfold cmpI; rw [if_pos (by omega)]
     rw [hcm] at HK
     clear hkc hks hcm HS1 HS2 HADD HCMP
     go_wp2_with (first
      | (go_at_call 178; (with_reducible refine (nat_Compare.calls kc E1 e1 lx E2 e2 ly (-1) 0 W7 HM.out.c1 HM.out.k1 HM.out.c2 HM.out.k2 HK.out).mono ?_); rintro e w8 ⟨rfl, hB8⟩; have HM8 := Lib.hid (HM.out.later hB8); obtain ⟨hx8, hxf8⟩ := bcells HM8.out.x (Below.refl _ _); obtain ⟨hy8, hyf8⟩ := bcells HM8.out.y (Below.refl _ _); have hsw := plus_mid (a0 := b.f0) (b0 := a.f0) (low := low) HM8.out.x HM8.out.y HM8.out.o HM8.out.below HM8.out.c2 HM8.out.c1 HM8.out.k2 HM8.out.k1; simp only [set3] at hsw; have HSW := Lib.hid hsw; obtain ⟨hxs, hxsf⟩ := bcells HSW.out.x (Below.refl _ _); obtain ⟨hys, hysf⟩ := bcells HSW.out.y (Below.refl _ _); clear hsw hB8 hx hxf hy hyf)
      | (go_at_call 179; (with_reducible refine (nat_Sub.calls ks E2 e2 ly E1 e1 lx (limbs (Y - X)) 0 _ HSW.out.c1 HSW.out.k1 HSW.out.c2 HSW.out.k2 HKS.out).mono ?_); rintro e w9 ⟨v9, rfl, hR9, hB9⟩; obtain ⟨P, p, rfl⟩ := Kd.R_slice hR9; have hend := plus_end HSW.out hB9 hR9; obtain ⟨hx9, hxf9⟩ := bcells (blk_below3 HSW.out.x hB9) (Below.refl _ _); obtain ⟨ho9, hof9⟩ := bcells (blk_below3 HSW.out.o hB9) (Below.refl _ _); have HE := Lib.hid hend; clear hend hR9 hB9)
      | (go_at_call 176; (with_reducible refine (must_any _ _ _).mono ?_); rintro e w9 ⟨rfl, rfl⟩))
     obtain ⟨hb9, hc9, hr9, hk9⟩ := HE.out
     simp only [set3] at hb9 hc9 hr9
     obtain ⟨W9, hW9⟩ : ∃ W9, W9 = (((w9.setCell ⟨w.heap.size, 1, none⟩ (.slice P (limbs (Y - X)).length p)).setCell ⟨w.heap.size + 1 + 1, 0, none⟩ (.bool b.f0)).setCell ⟨w.heap.size + 1 + 1, 1, none⟩ (.slice P (limbs (Y - X)).length p)).setCell ⟨w.heap.size + 1 + 1, 2, none⟩ (.int .i64 low) := ⟨_, rfl⟩
     rw [← hW9] at hb9 hc9 hr9 ⊢
     obtain ⟨z0, z1, z2⟩ := cells3 hr9
     refine bodyPost_ret (v := .agg #[.bool b.f0, .slice P (limbs (Y - X)).length p, .int .i64 low]) ?_ rfl ⟨P, p, rfl, hk9, hc9, hb9⟩
     simp [results, Tryz.f144, go_sem, z0, z1, z2]
   · rw [if_neg hlt] at hR
     subst hR
     obtain ⟨ks, hks⟩ := HS2.out hlt
     have HKS := Lib.hid hks
     obtain ⟨cv, hcv⟩ : ∃ cv, cv = cmpI X Y := ⟨_, rfl⟩
     have hcm : ¬ cv < 0 := by rw [hcv]; unfold cmpI; split <;> (try split) <;> omega
     rw [← hcv] at HK
     clear hkc hks hcv HS1 HS2 HADD HCMP
     go_wp2_with (first
      | (go_at_call 178; (with_reducible refine (nat_Compare.calls kc E1 e1 lx E2 e2 ly cv 0 W7 HM.out.c1 HM.out.k1 HM.out.c2 HM.out.k2 HK.out).mono ?_); rintro e w8 ⟨rfl, hB8⟩; have HM8 := Lib.hid (HM.out.later hB8); obtain ⟨hx8, hxf8⟩ := bcells HM8.out.x (Below.refl _ _); obtain ⟨hy8, hyf8⟩ := bcells HM8.out.y (Below.refl _ _); clear hB8 hx hxf hy hyf)
      | (go_at_call 179; (with_reducible refine (nat_Sub.calls ks E1 e1 lx E2 e2 ly (limbs (X - Y)) 0 _ HM8.out.c1 HM8.out.k1 HM8.out.c2 HM8.out.k2 HKS.out).mono ?_); rintro e w9 ⟨v9, rfl, hR9, hB9⟩; obtain ⟨P, p, rfl⟩ := Kd.R_slice hR9; have hend := plus_end HM8.out hB9 hR9; obtain ⟨hx9, hxf9⟩ := bcells (blk_below3 HM8.out.x hB9) (Below.refl _ _); obtain ⟨ho9, hof9⟩ := bcells (blk_below3 HM8.out.o hB9) (Below.refl _ _); have HE := Lib.hid hend; clear hend hR9 hB9)
      | (go_at_call 176; (with_reducible refine (must_any _ _ _).mono ?_); rintro e w9 ⟨rfl, rfl⟩))
     obtain ⟨hb9, hc9, hr9, hk9⟩ := HE.out
     simp only [set3] at hb9 hc9 hr9
     obtain ⟨W9, hW9⟩ : ∃ W9, W9 = (((w9.setCell ⟨w.heap.size, 1, none⟩ (.slice P (limbs (X - Y)).length p)).setCell ⟨w.heap.size + 1 + 1, 0, none⟩ (.bool a.f0)).setCell ⟨w.heap.size + 1 + 1, 1, none⟩ (.slice P (limbs (X - Y)).length p)).setCell ⟨w.heap.size + 1 + 1, 2, none⟩ (.int .i64 low) := ⟨_, rfl⟩
     rw [← hW9] at hb9 hc9 hr9 ⊢
     obtain ⟨z0, z1, z2⟩ := cells3 hr9
     refine bodyPost_ret (v := .agg #[.bool a.f0, .slice P (limbs (X - Y)).length p, .int .i64 low]) ?_ rfl ⟨P, p, rfl, hk9, hc9, hb9⟩
     simp [results, Tryz.f144, go_sem, z0, z1, z2]
def sg (n : Bool) (x : Nat) : Int := if n then -(x : Int) else x
def dvalD (a : D) : Int := sg a.f0 (val a.f1 * 10 ^ (a.f2 + 1000).toNat)
theorem sg_mul (n : Bool) (x c : Nat) : sg n (x * c) = sg n x * (c : Int) := by
 unfold sg
 split <;> simp [Int.neg_mul]
theorem cmpI_mul (x y : Int) (c : Nat) (h : 0 < c) : cmpI (x * (c : Int)) (y * (c : Int)) = cmpI x y := by
 have hc : (0 : Int) < c := by omega
 unfold cmpI
 by_cases h1 : x < y
 · rw [if_pos h1, if_pos (Int.mul_lt_mul_of_pos_right h1 hc)]
 · rw [if_neg h1, if_neg (fun h' => h1 (Int.lt_of_mul_lt_mul_right h' (by omega)))]
   by_cases h2 : y < x
   · rw [if_pos h2, if_pos (Int.mul_lt_mul_of_pos_right h2 hc)]
   · rw [if_neg h2, if_neg (fun h' => h2 (Int.lt_of_mul_lt_mul_right h' (by omega)))]
def minusD (d : D) : D := ⟨!d.f0 && decide (d.f1.length ≠ 0), d.f1, d.f2⟩
theorem down_le (v n a b c : Nat) (h : v < 10 ^ a) (hn : n ≤ b) (hc : a + b + 1 ≤ c) : v * 10 ^ n + v * 10 ^ n ≤ 10 ^ c := by
 have h1 : v * 10 ^ n ≤ 10 ^ (a + b) := by
  rw [Nat.pow_add]
  exact Nat.mul_le_mul (by omega) (Nat.pow_le_pow_right (by omega) hn)
 have h2 : 10 ^ (a + b + 1) ≤ 10 ^ c := Nat.pow_le_pow_right (by omega) hc
 rw [Nat.pow_succ] at h2
 omega
theorem dec_ok {d : D} (h : decOkB d = true) : canon d.f1 ∧ d.f1.length ≤ 256 ∧ -1000 ≤ d.f2 ∧ d.f2 ≤ 1000 ∧ (d.f1.length ≠ 0 → val d.f1 < decTop) := by
 unfold decOkB at h
 simp only [Bool.and_eq_true, decide_eq_true_eq] at h
 obtain ⟨⟨h1, h2⟩, h3⟩ := h
 by_cases h0 : d.f1.length = 0
 · rw [if_pos h0] at h3
   simp only [Bool.and_eq_true, beq_iff_eq] at h3
   exact ⟨h2, by omega, by omega, by omega, fun h => absurd h0 h⟩
 · rw [if_neg h0] at h3
   simp only [Bool.and_eq_true, decide_eq_true_eq] at h3
   exact ⟨h2, by omega, by omega, by omega, fun _ => h3.1.1.2⟩
theorem downN_fits {d : D} (h : decOkB d = true) (x : Int) (hx : -1000 ≤ x) (hle : x ≤ d.f2) : downN d x + downN d x ≤ top := by
 obtain ⟨h1, h2, h3, h4, h5⟩ := dec_ok h
 unfold downN
 by_cases h0 : d.f1.length = 0
 · rw [(canon_nil_iff h1).1 h0]; simp
 · unfold top
   refine down_le _ _ decDig 2000 expo (h5 h0) (by omega) (by decide)
theorem dval_down {d : D} (x : Int) (hx : -1000 ≤ x) (hle : x ≤ d.f2) : dvalD d = sg d.f0 (downN d x) * ((10 ^ (x + 1000).toNat : Nat) : Int) := by
 unfold dvalD downN
 rw [← sg_mul, Nat.mul_assoc, ← Nat.pow_add, show (d.f2 - x).toNat + (x + 1000).toNat = (d.f2 + 1000).toNat by omega]
theorem plus_sg (a b : D) (low : Int) (hlow : low = min a.f2 b.f2) : sg (plusD a b).f0 (val (plusD a b).f1) = sg a.f0 (downN a low) + sg b.f0 (downN b low) ∧ canon (plusD a b).f1 := by
 unfold plusD
 simp only [← hlow]
 generalize downN a low = X
 generalize downN b low = Y
 by_cases h : a.f0 = b.f0
 · rw [if_pos h]
   refine ⟨?_, canon_limbs _⟩
   simp only [val_limbs, ← h]
   unfold sg
   split <;> push_cast <;> omega
 · rw [if_neg h]
   by_cases hlt : X < Y
   · rw [if_pos hlt]
     refine ⟨?_, canon_limbs _⟩
     simp only [val_limbs]
     unfold sg
     cases ha : a.f0 <;> cases hb : b.f0 <;> simp [ha, hb] at h ⊢ <;> omega
   · rw [if_neg hlt]
     refine ⟨?_, canon_limbs _⟩
     simp only [val_limbs]
     unfold sg
     cases ha : a.f0 <;> cases hb : b.f0 <;> simp [ha, hb] at h ⊢ <;> omega
theorem minus_sg (d : D) (h : canon d.f1) (x : Int) : sg (minusD d).f0 (downN (minusD d) x) = - sg d.f0 (downN d x) := by
 unfold minusD downN sg
 simp only
 by_cases h0 : d.f1.length = 0
 · rw [(canon_nil_iff h).1 h0]; simp
 · have hd : decide (d.f1.length ≠ 0) = true := by simp [h0]
   rw [hd]
   cases d.f0 <;> simp
def dcmp (a b : D) : Int := cmpI (dvalD a) (dvalD b)
theorem dcmp_plus (a b : D) (ha : decOkB a = true) (hb : decOkB b = true) : dcmp a b = if (plusD a (minusD b)).f1.length = 0 then 0 else if (plusD a (minusD b)).f0 then -1 else 1 := by
 obtain ⟨a1, a2, a3, a4, a5⟩ := dec_ok ha
 obtain ⟨b1, b2, b3, b4, b5⟩ := dec_ok hb
 obtain ⟨low, hlow⟩ : ∃ low, low = min a.f2 b.f2 := ⟨_, rfl⟩
 have h1 := plus_sg a (minusD b) low hlow
 rw [minus_sg b b1] at h1
 unfold dcmp
 rw [dval_down (d := a) low (by omega) (by omega), dval_down (d := b) low (by omega) (by omega), cmpI_mul _ _ _ (Nat.pow_pos (by omega))]
 generalize sg a.f0 (downN a low) = X at *
 generalize sg b.f0 (downN b low) = Y at *
 obtain ⟨h1, h2⟩ := h1
 have h3 := canon_nil_iff h2
 generalize plusD a (minusD b) = p at *
 unfold cmpI
 by_cases h0 : p.f1.length = 0
 · rw [if_pos h0]
   have := h3.1 h0
   rw [this] at h1
   have h4 : sg p.f0 0 = 0 := by unfold sg; split <;> rfl
   rw [h4] at h1
   rw [if_neg (by omega), if_neg (by omega)]
 · rw [if_neg h0]
   have hv : val p.f1 ≠ 0 := fun e => h0 (h3.2 e)
   unfold sg at h1
   cases hp : p.f0
   · rw [hp] at h1
     simp only [Bool.false_eq_true, if_false] at h1 ⊢
     rw [if_neg (by omega), if_pos (by omega)]
   · rw [hp] at h1
     simp only [if_true] at h1 ⊢
     rw [if_pos (by omega)]
theorem row_decs {W : World} {g : Nat} {a b : D} {A B : Option Addr} {c d : Nat} (h : W.heap[g]? = some (.cells #[.bool a.f0, .slice A a.f1.length c, .int .i64 a.f2, .bool b.f0, .slice B b.f1.length d, .int .i64 b.f2] 24 (0, 0))) (ha : k24.K W a [.bool a.f0, .slice A a.f1.length c, .int .i64 a.f2]) (hb : k24.K W b [.bool b.f0, .slice B b.f1.length d, .int .i64 b.f2]) :
 k24.C W (some ⟨g, 0, none⟩) 2 [a, b] := by
 refine ⟨rfl, by decide, fun _ => ⟨_, rfl, fun j p hj => ?_⟩⟩
 have hc := blk_cell h
 rcases j with _ | _ | j
 · simp only [List.getElem?_cons_zero, Option.some.injEq] at hj
   subst hj
   refine ⟨_, rfl, ha, fun i u hu => ?_⟩
   have hi : i < 3 := by have := (List.getElem?_eq_some_iff.1 hu).1; simpa using this
   rw [add_plain]
   show W.cell? ⟨g, 0 * 3 + i, none⟩ = some u
   rw [show 0 * 3 + i = i by omega, hc, ← hu]
   rcases i with _ | _ | _ | i
   · rfl
   · rfl
   · rfl
   · omega
 · simp only [List.getElem?_cons_succ, List.getElem?_cons_zero, Option.some.injEq] at hj
   subst hj
   refine ⟨_, rfl, hb, fun i u hu => ?_⟩
   have hi : i < 3 := by have := (List.getElem?_eq_some_iff.1 hu).1; simpa using this
   rw [add_plain]
   show W.cell? ⟨g, 1 * 3 + i, none⟩ = some u
   rw [show 1 * 3 + i = 3 + i by omega, hc, ← hu]
   rcases i with _ | _ | _ | i
   · rfl
   · rfl
   · rfl
   · omega
 · simp at hj
theorem dsOk_two {a b : D} (ha : decOkB a = true) (hb : decOkB b = true) : dsOk [a, b] = true := by
 unfold dsOk dchk
 simp [ha, hb]
theorem zero_any (b0 : Bool) (A : Option Addr) (n c : Nat) (x : Int) (W : World) : Calls Tryz.prog 146 #[.agg #[.bool b0, .slice A n c, .int .i64 x]] W fun e w' => e = .returned (.bool ((n : Int) == 0)) ∧ Below W.heap.size W w' := by
 go_enter Tryz.func146, Tryz.ntmps146
 go_wp2
 go_ret
 exact ⟨rfl, (Below.refl _ _).alloc (Nat.le_refl _) _⟩
set_option maxHeartbeats 1000000 in
theorem Compare_any (a b : D) (A : Option Addr) (c : Nat) (B : Option Addr) (d : Nat) (w : World) (hc : a.f1.length ≤ c) (hA : Kd.C (Kd.int .u32) w A a.f1.length a.f1) (hd : b.f1.length ≤ d) (hB : Kd.C (Kd.int .u32) w B b.f1.length b.f1) (hOa : OkD a) (hOb : OkD b) (ha : decOkB a = true) (hb : decOkB b = true) :
 Calls Tryz.prog 103 #[.agg #[.bool a.f0, .slice A a.f1.length c, .int .i64 a.f2], .agg #[.bool b.f0, .slice B b.f1.length d, .int .i64 b.f2]] w fun e w' => e = .returned (.tuple #[.int .i64 (dcmp a b), .int .i64 0]) ∧ Below w.heap.size w w' := by
 rw [dcmp_plus a b ha hb]
 obtain ⟨r, hr⟩ : ∃ r : Int, r = if (plusD a (minusD b)).f1.length = 0 then 0 else if (plusD a (minusD b)).f0 then -1 else 1 := ⟨_, rfl⟩
 rw [← hr]
 have HR := Lib.hid hr
 clear hr
 have hpl : ∀ W, Below w.heap.size w W → Calls Tryz.prog 144 #[.agg #[.bool a.f0, .slice A a.f1.length c, .int .i64 a.f2], .agg #[.bool (!b.f0 && decide (b.f1.length ≠ 0)), .slice B b.f1.length d, .int .i64 b.f2]] W fun e w' => ∃ E ee, e = .returned (.agg #[.bool (plusD a (minusD b)).f0, .slice E (plusD a (minusD b)).f1.length ee, .int .i64 (plusD a (minusD b)).f2]) ∧ (plusD a (minusD b)).f1.length ≤ ee ∧ Kd.C (Kd.int .u32) w' E (plusD a (minusD b)).f1.length (plusD a (minusD b)).f1 ∧ Below W.heap.size W w' := fun W hW => by
  obtain ⟨a1, a2, a3, a4, a5⟩ := dec_ok ha
  obtain ⟨b1, b2, b3, b4, b5⟩ := dec_ok hb
  have h1 := downN_fits ha (min a.f2 b.f2) (by omega) (by omega)
  have h2 := downN_fits hb (min a.f2 b.f2) (by omega) (by omega)
  have h3 : downN (minusD b) (min a.f2 b.f2) = downN b (min a.f2 b.f2) := rfl
  exact plus_any a (minusD b) A c B d W hc (Kd.C_below hA hW) hd (Kd.C_below hB hW) a1 b1 a2 b2 (min a.f2 b.f2) rfl (fun _ => by show a.f2 - min a.f2 b.f2 ≤ 2400; omega) (fun _ => by show b.f2 - min a.f2 b.f2 ≤ 2400; omega) ⟨by omega, by omega, by show -9000000 ≤ b.f2; omega, by show b.f2 ≤ 9000000; omega⟩ (by rw [h3]; omega)
 have hmi := fun W => minus_any b B d W
 obtain ⟨nb, hnb⟩ : ∃ nb, nb = (!b.f0 && decide (b.f1.length ≠ 0)) := ⟨_, rfl⟩
 rw [← hnb] at hpl
 simp only [← hnb] at hmi
 have HMI := Lib.hid hmi
 clear hnb hmi
 have HPL := Lib.hid hpl
 have HDS := Lib.hid (dsOk_two ha hb)
 have HA := Lib.hid hA
 have HB := Lib.hid hB
 have HOa := Lib.hid hOa
 have HOb := Lib.hid hOb
 have HC := Lib.hid hc
 have HD := Lib.hid hd
 clear hpl ha hb hA hB hOa hOb
 generalize plusD a (minusD b) = p at *
 obtain ⟨W2, hW2⟩ : ∃ W2, W2 = (w.alloc (.cells #[.bool a.f0, .slice A a.f1.length c, .int .i64 a.f2] 24)).alloc (.cells #[.bool b.f0, .slice B b.f1.length d, .int .i64 b.f2] 24) := ⟨_, rfl⟩
 have hz : W2.heap.size = w.heap.size + 2 := by rw [hW2]; simp
 have hA2 : Below w.heap.size w W2 := by rw [hW2]; exact ((Below.refl _ _).alloc (Nat.le_refl _) _).alloc (by simp) _
 have hx : W2.heap[w.heap.size]? = some (.cells #[.bool a.f0, .slice A a.f1.length c, .int .i64 a.f2] 24 (0, 0)) := by rw [hW2]; exact blk_alloc (blk_new _ _) _
 have hy : W2.heap[w.heap.size + 1]? = some (.cells #[.bool b.f0, .slice B b.f1.length d, .int .i64 b.f2] 24 (0, 0)) := by
  rw [hW2]
  have := blk_new (w.alloc (.cells #[.bool a.f0, .slice A a.f1.length c, .int .i64 a.f2] 24)) (.cells #[.bool b.f0, .slice B b.f1.length d, .int .i64 b.f2] 24)
  rw [World.size_alloc] at this
  exact this
 have hask : Calls Tryz.prog 143 #[.slice (some ⟨w.heap.size + 1 + 1, 0, none⟩) 2 2] (W2.alloc (.cells #[.bool a.f0, .slice A a.f1.length c, .int .i64 a.f2, .bool b.f0, .slice B b.f1.length d, .int .i64 b.f2] 24)) fun e w' => e = .returned (.int .i64 0) ∧ Below (W2.alloc (.cells #[.bool a.f0, .slice A a.f1.length c, .int .i64 a.f2, .bool b.f0, .slice B b.f1.length d, .int .i64 b.f2] 24)).heap.size (W2.alloc (.cells #[.bool a.f0, .slice A a.f1.length c, .int .i64 a.f2, .bool b.f0, .slice B b.f1.length d, .int .i64 b.f2] 24)) w' := by
  have hbW : Below w.heap.size w (W2.alloc (.cells #[.bool a.f0, .slice A a.f1.length c, .int .i64 a.f2, .bool b.f0, .slice B b.f1.length d, .int .i64 b.f2] 24)) := hA2.alloc hA2.size _
  have h := ask_any (some ⟨w.heap.size + 1 + 1, 0, none⟩) 2 [a, b] (W2.alloc (.cells #[.bool a.f0, .slice A a.f1.length c, .int .i64 a.f2, .bool b.f0, .slice B b.f1.length d, .int .i64 b.f2] 24)) (row_decs (by have := blk_new W2 (.cells #[.bool a.f0, .slice A a.f1.length c, .int .i64 a.f2, .bool b.f0, .slice B b.f1.length d, .int .i64 b.f2] 24); rw [hz] at this; exact this) (k24_mk _ a hc (Kd.C_below HA.out hbW)) (k24_mk _ b hd (Kd.C_below HB.out hbW))) (fun x hx => by
   rcases List.mem_cons.1 hx with rfl | hx
   · exact HOa.out
   · rw [List.mem_singleton.1 hx]; exact HOb.out) (by show 2 ≤ 4611686018427387904; decide)
  rw [HDS.out] at h
  exact h
 have hzr : (W2.alloc (.cells #[.bool a.f0, .slice A a.f1.length c, .int .i64 a.f2, .bool b.f0, .slice B b.f1.length d, .int .i64 b.f2] 24)).heap.size = w.heap.size + 3 := by simp [hz]
 rw [hzr, hW2] at hask
 have HASK := Lib.hid hask
 have HZ := Lib.hid hz
 have HA2 := Lib.hid hA2
 have HX := Lib.hid hx
 have HY := Lib.hid hy
 have HW2 := Lib.hid hW2
 clear hz hA2 hx hy hW2 hask hzr
 go_enter Tryz.func103, Tryz.ntmps103
 go_upto_region 4 with (first | (go_at_call 143; go_loud (with_reducible refine HASK.out.mono ?_); rintro e w3 ⟨rfl, hB3⟩; rw [← HW2.out] at hB3; have hB23 := ((Below.refl W2.heap.size W2).alloc (Nat.le_refl _) _).trans (hB3.mono (by rw [HZ.out]; omega)); obtain ⟨hx3, hxf3⟩ := bcells HX.out hB23; obtain ⟨hy3, hyf3⟩ := bcells HY.out hB23))
 have HA3 := Lib.hid (HA2.out.trans (hB23.mono HA2.out.size))
 have HX3 := Lib.hid (blk_below3 HX.out hB23)
 have HY3 := Lib.hid (blk_below3 HY.out hB23)
 obtain ⟨hx4, hxf4⟩ := bcells HX3.out (Below.refl _ _)
 obtain ⟨hy4, hyf4⟩ := bcells HY3.out (Below.refl _ _)
 have hxa := fun o => (bcells (blk_alloc HX3.out o) (Below.refl _ _)).1
 have hya := fun o => (bcells (blk_alloc HY3.out o) (Below.refl _ _)).1
 have hs3 : w.heap.size + 2 ≤ w3.heap.size := by have := hB23.size; rw [HZ.out] at this; exact this
 clear hx3 hxf3 hy3 hyf3 hB3 hB23 HX HY HA2 HASK HW2
 go_region_law (first
  | (go_simp; go_at_call 145; (with_reducible refine (HMI.out _).mono ?_); rintro e w5 ⟨rfl, hB5⟩; have hs5 : w.heap.size + 2 ≤ w5.heap.size := (by have := hB5.size; first | (rw [World.size_drew] at this; omega) | (rw [World.size_drew, World.size_alloc] at this; omega)); have HA5 : Hid (Below w.heap.size w w5) := Lib.hid (by first | exact (below_drew HA3.out).trans (hB5.mono (by rw [World.size_drew]; omega)) | exact (below_drew (HA3.out.alloc (by omega) _)).trans (hB5.mono (by rw [World.size_drew, World.size_alloc]; omega))); obtain ⟨hx5, hxf5⟩ := (show (∀ i, w5.cell? ⟨w.heap.size, i, none⟩ = #[.bool a.f0, .slice A a.f1.length c, .int .i64 a.f2][i]?) ∧ (∀ i, w5.frozen? ⟨w.heap.size, i, none⟩ = false) from by first | exact bcells (blk_drew HX3.out) hB5 | exact bcells (blk_drew (blk_alloc HX3.out _)) hB5); have hxa5 := fun o => (bcells (show (w5.alloc o).heap[w.heap.size]? = some (.cells #[.bool a.f0, .slice A a.f1.length c, .int .i64 a.f2] 24 (0, 0)) from by first | exact blk_alloc (blk_below3 (blk_drew HX3.out) hB5) o | exact blk_alloc (blk_below3 (blk_drew (blk_alloc HX3.out _)) hB5) o) (Below.refl _ _)).1; (first | (have hz5 := Lib.hid (blk_below3 (blk_drew (blk_new w3 (.cells #[.bool false, .slice none 0 0, .int .i64 0] 137 (0, 0)))) hB5)) | skip))
  | (go_simp; go_at_call 144; (with_reducible refine (HPL.out _ (by first | exact HA5.out | exact HA5.out.alloc (by omega) _)).mono ?_); rintro e w6 ⟨E, ee, rfl, hk6, hC6, hB6⟩; (first | (have hz6 := Lib.hid (blk_below3 (blk_new w5 (.cells #[.bool false, .slice none 0 0, .int .i64 0] 137 (0, 0))) hB6); obtain ⟨hzc, hzf⟩ := bcells hz6.out (Below.refl _ _)) | (have hz6 := Lib.hid (blk_below3 hz5.out hB6); obtain ⟨hzc, hzf⟩ := bcells hz6.out (Below.refl _ _)) | skip)))
 all_goals
  have HB6 : Hid (Below w.heap.size w w6) := Lib.hid (by first | exact HA5.out.trans (hB6.mono (by omega)) | exact (HA5.out.alloc (by omega) _).trans (hB6.mono (by simp; omega)))
  have hs6 : w.heap.size + 2 ≤ w6.heap.size := by have := hB6.size; first | omega | (rw [World.size_alloc] at this; omega)
  rename_i q_ k_ a_
  refine a_ _ _ ?_
  clear a_ hx4 hxf4 hy4 hyf4 hxa hya hx5 hxf5 hxa5
  first
   | (have hz7 : Hid (w6.heap[w5.heap.size]? = some (.cells #[.bool false, .slice none 0 0, .int .i64 0] 137 (0, 0))) := (by with_reducible exact hz6); obtain ⟨Z, g7, hg7, hZ, hbz, hBz⟩ : ∃ Z g7, g7 = w5.heap.size ∧ Z = (((w6.setCell ⟨w5.heap.size, 0, none⟩ (.bool p.f0)).setCell ⟨w5.heap.size, 1, none⟩ (.slice E p.f1.length ee)).setCell ⟨w5.heap.size, 2, none⟩ (.int .i64 p.f2)) ∧ Z.heap[g7]? = some (.cells #[.bool p.f0, .slice E p.f1.length ee, .int .i64 p.f2] 137 (0, 0)) ∧ Below w.heap.size w Z := ⟨_, _, rfl, rfl, box3_out hz7.out _ _ _, ((HB6.out.setCell (p := ⟨w5.heap.size, 0, none⟩) HA5.out.size _).setCell (p := ⟨w5.heap.size, 1, none⟩) HA5.out.size _).setCell (p := ⟨w5.heap.size, 2, none⟩) HA5.out.size _⟩; rw [← hZ, ← hg7])
   | (have hz7 : Hid (w6.heap[w3.heap.size]? = some (.cells #[.bool false, .slice none 0 0, .int .i64 0] 137 (0, 0))) := (by with_reducible exact hz6); obtain ⟨Z, g7, hg7, hZ, hbz, hBz⟩ : ∃ Z g7, g7 = w3.heap.size ∧ Z = (((w6.setCell ⟨w3.heap.size, 0, none⟩ (.bool p.f0)).setCell ⟨w3.heap.size, 1, none⟩ (.slice E p.f1.length ee)).setCell ⟨w3.heap.size, 2, none⟩ (.int .i64 p.f2)) ∧ Z.heap[g7]? = some (.cells #[.bool p.f0, .slice E p.f1.length ee, .int .i64 p.f2] 137 (0, 0)) ∧ Below w.heap.size w Z := ⟨_, _, rfl, rfl, box3_out hz7.out _ _ _, ((HB6.out.setCell (p := ⟨w3.heap.size, 0, none⟩) HA3.out.size _).setCell (p := ⟨w3.heap.size, 1, none⟩) HA3.out.size _).setCell (p := ⟨w3.heap.size, 2, none⟩) HA3.out.size _⟩; rw [← hZ, ← hg7])
   | (obtain ⟨Z, g7, hg7, hZ, hbz, hBz⟩ : ∃ Z g7, g7 = w6.heap.size ∧ Z = w6.alloc (.cells #[.bool p.f0, .slice E p.f1.length ee, .int .i64 p.f2] 137) ∧ Z.heap[g7]? = some (.cells #[.bool p.f0, .slice E p.f1.length ee, .int .i64 p.f2] 137 (0, 0)) ∧ Below w.heap.size w Z := ⟨_, _, rfl, rfl, blk_new _ _, HB6.out.alloc HB6.out.size _⟩; rw [← hZ, ← hg7])
  clear hZ hg7
  obtain ⟨hz0, hzf0⟩ := bcells hbz (Below.refl _ _)
  have HBZ := Lib.hid hBz
  have HBX := Lib.hid hbz
  have hsz := hBz.size
  clear hbz hBz hB6 hB5
  cases hzero : ((p.f1.length : Int) == 0) with
  | true =>
   have h0 : p.f1.length = 0 := by have := eq_of_beq hzero; omega
   have hr := HR.out
   rw [if_pos h0] at hr
   clear HR h0
   subst hr
   go_wp2_with (first | (go_at_call 146; (with_reducible refine (zero_any p.f0 E p.f1.length ee p.f2 _).mono ?_); rw [hzero]; rintro e w7 ⟨rfl, hB7⟩))
   go_ret2
   exact ⟨rfl, HBZ.out.trans (hB7.mono hsz)⟩
  | false =>
   have h0 : p.f1.length ≠ 0 := by intro h; rw [h] at hzero; simp at hzero
   have hr := HR.out
   rw [if_neg h0] at hr
   clear HR h0
   cases hp : p.f0 with
   | true =>
    rw [hp] at hr
    simp only [if_true] at hr
    subst hr
    rw [hp] at hz0 HBX
    go_wp2_with (first | (go_at_call 146; (with_reducible refine (zero_any _ E p.f1.length ee p.f2 _).mono ?_); rw [hzero]; rintro e w7 ⟨rfl, hB7⟩; obtain ⟨hz7, hzf7⟩ := bcells HBX.out hB7))
    go_ret2
    exact ⟨rfl, HBZ.out.trans (hB7.mono hsz)⟩
   | false =>
    rw [hp] at hr
    simp only [Bool.false_eq_true, if_false] at hr
    subst hr
    rw [hp] at hz0 HBX
    go_wp2_with (first | (go_at_call 146; (with_reducible refine (zero_any _ E p.f1.length ee p.f2 _).mono ?_); rw [hzero]; rintro e w7 ⟨rfl, hB7⟩; obtain ⟨hz7, hzf7⟩ := bcells HBX.out hB7))
    go_ret2
    exact ⟨rfl, HBZ.out.trans (hB7.mono hsz)⟩
theorem wrap64_up (t : Nat) (h : t ≤ 4611686018427387904) : wrap64 ((t : Int) + 1) = ((t + 1 : Nat) : Int) := by unfold wrap64; omega
def strC (a b : ByteArray) : Int := if Op.bytesLess a.toList b.toList = true then -1 else if (a.toList == b.toList) = true then 0 else 1
def lexC {α : Type} (f : α → α → Int) : List α → List α → Int
 | [], [] => 0
 | [], _ :: _ => -1
 | _ :: _, [] => 1
 | x :: l, y :: r => if f x y = 0 then lexC f l r else f x y
theorem lexC_drop {α : Type} (f : α → α → Int) (z : α) : ∀ (k : Nat) (l r : List α), k ≤ l.length → k ≤ r.length → (∀ i, i < k → f (l.getD i z) (r.getD i z) = 0) → lexC f l r = lexC f (l.drop k) (r.drop k)
 | 0, l, r, _, _, _ => by simp
 | k + 1, [], r, h, _, _ => by simp at h
 | k + 1, x :: l, [], _, h, _ => by simp at h
 | k + 1, x :: l, y :: r, h1, h2, h => by
  have h0 := h 0 (by omega)
  simp at h0
  rw [lexC, if_pos h0, List.drop_succ_cons, List.drop_succ_cons]
  refine lexC_drop f z k l r (by simpa using h1) (by simpa using h2) (fun i hi => ?_)
  have := h (i + 1) (by omega)
  simpa using this
theorem lexC_at {α : Type} (f : α → α → Int) (z : α) (k : Nat) (l r : List α) (h1 : k < l.length) (h2 : k < r.length) (h : ∀ i, i < k → f (l.getD i z) (r.getD i z) = 0) (hn : f (l.getD k z) (r.getD k z) ≠ 0) : lexC f l r = f (l.getD k z) (r.getD k z) := by
 rw [lexC_drop f z k l r (by omega) (by omega) h, List.drop_eq_getElem_cons h1, List.drop_eq_getElem_cons h2]
 simp only [List.getD_eq_getElem?_getD, List.getElem?_eq_getElem h1, List.getElem?_eq_getElem h2, Option.getD_some] at hn ⊢
 rw [lexC, if_neg hn]
theorem lexC_long {α : Type} (f : α → α → Int) (z : α) (l r : List α) (h1 : r.length < l.length) (h : ∀ i, i < r.length → f (l.getD i z) (r.getD i z) = 0) : lexC f l r = 1 := by
 rw [lexC_drop f z r.length l r (by omega) (Nat.le_refl _) h, List.drop_eq_getElem_cons h1, List.drop_length, lexC]
theorem lexC_end {α : Type} (f : α → α → Int) (z : α) (l r : List α) (h1 : l.length ≤ r.length) (h : ∀ i, i < l.length → f (l.getD i z) (r.getD i z) = 0) : lexC f l r = if l.length < r.length then -1 else 0 := by
 rw [lexC_drop f z l.length l r (Nat.le_refl _) h1 h, List.drop_length]
 by_cases hlt : l.length < r.length
 · rw [if_pos hlt, List.drop_eq_getElem_cons hlt, lexC]
 · rw [if_neg hlt, List.drop_eq_nil_of_le (by omega), lexC]
set_option maxHeartbeats 1000000 in
theorem CompareStr_any (a b : ByteArray) (w : World) : Calls Tryz.prog 100 #[.string a, .string b] w fun e w' => e = .returned (.int .i64 (strC a b)) ∧ w = w' := by
 have hnan : ∀ (x : ByteArray) (W : World), Calls Tryz.prog 142 #[.string x] W fun e w' => e = .returned (.bool false) ∧ W = w' := by
  intro x W
  have hx : (x.toList == x.toList) = true := by simp
  go_enter Tryz.func142, Tryz.ntmps142
  go_wp2
  go_ret
  exact ⟨by simp, rfl⟩
 have HN := Lib.hid hnan
 clear hnan
 cases h1 : Op.bytesLess a.toList b.toList with
 | true =>
  have hr : Hid (strC a b = -1) := Lib.hid (by unfold strC; rw [if_pos h1])
  rw [hr.out]
  go_enter Tryz.func100, Tryz.ntmps100
  go_wp2_with (first | (go_at_call 142; (with_reducible refine (HN.out _ _).mono ?_); rintro e w' ⟨rfl, rfl⟩))
  go_ret
  exact ⟨rfl, rfl⟩
 | false =>
  cases h2 : (a.toList == b.toList) with
  | true =>
   have hr : Hid (strC a b = 0) := Lib.hid (by unfold strC; rw [if_neg (by rw [h1]; simp), if_pos h2])
   rw [hr.out]
   go_enter Tryz.func100, Tryz.ntmps100
   go_wp2_with (first | (go_at_call 142; (with_reducible refine (HN.out _ _).mono ?_); rintro e w' ⟨rfl, rfl⟩))
   go_ret
   exact ⟨rfl, rfl⟩
  | false =>
   have hr : Hid (strC a b = 1) := Lib.hid (by unfold strC; rw [if_neg (by rw [h1]; simp), if_neg (by rw [h2]; simp)])
   rw [hr.out]
   go_enter Tryz.func100, Tryz.ntmps100
   go_wp2_with (first | (go_at_call 142; (with_reducible refine (HN.out _ _).mono ?_); rintro e w' ⟨rfl, rfl⟩))
   go_ret
   exact ⟨rfl, rfl⟩
set_option maxHeartbeats 1000000 in
theorem or_int (A : Option Addr) (c : Nat) (l : List Int) (w : World) (hC : Kd.C (Kd.int .i64) w A l.length l) :
 Calls Tryz.prog 99 #[.slice A l.length c] w fun e w' => e = .returned (.int .i64 (orL l)) ∧ w = w' := by
 have HC := Lib.hid hC
 have hlen := hC.2.1
 clear hC
 go_enter Tryz.func99, Tryz.ntmps99
 go_wp2
 go_loopw [8] (fun vi wr => ∃ k : Nat, k ≤ l.length ∧ vi = .int .i64 k ∧ Hid (∀ i, i < k → rd l (i : Int) = 0) ∧ wr = w) (fun vi _ => l.length - (intOf vi).toNat)
 case atStart => exact ⟨0, Nat.zero_le _, rfl, Lib.hid (fun i hi => by omega), rfl⟩
 case round =>
  obtain ⟨k, hk, rfl, hz, hw⟩ := hrel
  obtain rfl := hw.symm
  clear hw
  by_cases hlt : k < l.length
  · obtain ⟨ad, rfl, hx⟩ := Kd.at_int HC.out (k : Int) (by omega) (by omega)
    rw [Int.toNat_natCast] at hx
    have hw : wrap64 ((k : Int) + 1) = ((k + 1 : Nat) : Int) := by unfold wrap64; omega
    by_cases h0 : rd l (k : Int) = 0
    · have hn : (rd l (k : Int) != 0) = false := by simp [h0]
      have H0 := Lib.hid h0
      clear h0
      go_wp2
      go_roundw
      case rel => exact ⟨k + 1, by omega, by go_num, Lib.hid (fun i hi => by rcases Nat.lt_or_ge i k with h | h; exact hz.out i h; rw [show i = k by omega]; exact H0.out), trivial⟩
      case measure => simp [intOf]; omega
    · have hn : (rd l (k : Int) != 0) = true := by simp [h0]
      have hr : Hid (orL l = rd l (k : Int)) := Lib.hid (by
       rw [← orL_skip l k hz.out, List.drop_eq_getElem_cons hlt, orL]
       have e : l[k] = rd l (k : Int) := by simp [rd, hlt]
       rw [e, if_neg h0])
      clear h0
      go_wp2
      go_ret
      exact ⟨by rw [hr.out]; rfl, rfl⟩
  · obtain rfl : k = l.length := by omega
    have hr : Hid (orL l = 0) := Lib.hid (by rw [← orL_skip l _ hz.out, List.drop_length]; rfl)
    go_wp2
    go_ret
    exact ⟨by rw [hr.out]; rfl, rfl⟩
set_option maxHeartbeats 1000000 in
theorem CompareKeys_any (l r : List ByteArray) (A : Option Addr) (c : Nat) (B : Option Addr) (d : Nat) (w : World) (hA : Kd.string.C w A l.length l) (hB : Kd.string.C w B r.length r) (hl : l.length ≤ 1073741824) :
 Calls Tryz.prog 101 #[.slice A l.length c, .slice B r.length d] w fun e w' => e = .returned (.int .i64 (lexC strC l r)) ∧ w = w' := by
 have HA := Lib.hid hA
 have HB := Lib.hid hB
 have hlen := hB.2.1
 clear hA hB
 go_enter Tryz.func101, Tryz.ntmps101
 go_wp2
 go_loopw [11] (fun vi wr => ∃ k : Nat, k ≤ l.length ∧ k ≤ r.length ∧ vi = .int .i64 k ∧ Hid (∀ i, i < k → strC (l.getD i ByteArray.empty) (r.getD i ByteArray.empty) = 0) ∧ wr = w) (fun vi _ => l.length - (intOf vi).toNat)
 case atStart => exact ⟨0, Nat.zero_le _, Nat.zero_le _, rfl, Lib.hid (fun i hi => by omega), rfl⟩
 case round =>
  obtain ⟨k, hk, hk2, rfl, hz, hw⟩ := hrel
  obtain rfl := hw.symm
  clear hw
  by_cases hlt : k < l.length
  · obtain ⟨ad, rfl, hx⟩ := Kd.at_string HA.out (k : Int) (by omega) (by omega)
    rw [Int.toNat_natCast] at hx
    have e1 : rdOf ByteArray.empty l (k : Int) = l.getD k ByteArray.empty := by unfold rdOf; rw [Int.toNat_natCast]
    rw [e1] at hx
    clear e1
    by_cases hlt2 : k < r.length
    · obtain ⟨bd, rfl, hy⟩ := Kd.at_string HB.out (k : Int) (by omega) (by omega)
      rw [Int.toNat_natCast] at hy
      have e2 : rdOf ByteArray.empty r (k : Int) = r.getD k ByteArray.empty := by unfold rdOf; rw [Int.toNat_natCast]
      rw [e2] at hy
      clear e2
      have g1 : ¬ (r.length : Int) ≤ (k : Int) := by omega
      have HZ : Hid (strC (l.getD k ByteArray.empty) (r.getD k ByteArray.empty) ≠ 0 → lexC strC l r = strC (l.getD k ByteArray.empty) (r.getD k ByteArray.empty)) := Lib.hid (fun h => lexC_at strC _ k l r hlt hlt2 hz.out h)
      have HZ2 : Hid (strC (l.getD k ByteArray.empty) (r.getD k ByteArray.empty) = 0 → ∀ i, i < k + 1 → strC (l.getD i ByteArray.empty) (r.getD i ByteArray.empty) = 0) := Lib.hid (fun h i hi => by
       rcases Nat.lt_or_ge i k with h' | h'
       · exact hz.out i h'
       · rw [show i = k by omega]; exact h)
      have HC := Lib.hid (CompareStr_any (l.getD k ByteArray.empty) (r.getD k ByteArray.empty))
      generalize hcv : strC (l.getD k ByteArray.empty) (r.getD k ByteArray.empty) = cv at *
      generalize l.getD k ByteArray.empty = x at *
      generalize r.getD k ByteArray.empty = y at *
      clear hcv hz
      have hki : (k : Int) < (l.length : Int) := by omega
      have hki2 : (k : Int) < (r.length : Int) := by omega
      have HK1 : Hid (k + 1 ≤ l.length ∧ k + 1 ≤ r.length) := Lib.hid ⟨hlt, hlt2⟩
      have hw := wrap64_up k (by omega)
      by_cases h0 : cv = 0
      · have hn : (cv != 0) = false := by simp [h0]
        have HZ3 := Lib.hid (HZ2.out h0)
        clear HZ HZ2 h0
        go_wp2_with (first | (go_at_call 100; (with_reducible refine (HC.out _).mono ?_); rintro e w' ⟨rfl, rfl⟩))
        go_roundw
        case rel => exact ⟨k + 1, HK1.out.1, HK1.out.2, by first | exact congrArg (Value.int .i64) hw | rfl, HZ3, trivial⟩
        case measure => first | (rw [hw]; show l.length - (k + 1) < l.length - k; clear hw; omega) | (show l.length - (k + 1) < l.length - k; clear hw; omega)
      · have hn : (cv != 0) = true := by simp [h0]
        have hr := Lib.hid (HZ.out h0)
        clear HZ HZ2 h0 hw
        go_wp2_with (first | (go_at_call 100; (with_reducible refine (HC.out _).mono ?_); rintro e w' ⟨rfl, rfl⟩))
        go_ret
        exact ⟨by rw [hr.out]; rfl, rfl⟩
    · obtain rfl : k = r.length := by omega
      have hr : Hid (lexC strC l r = 1) := Lib.hid (lexC_long strC _ l r hlt hz.out)
      have g1 : (r.length : Int) ≤ (r.length : Int) := by omega
      have hki : (r.length : Int) < (l.length : Int) := by omega
      clear hz
      go_wp2
      go_ret
      exact ⟨by rw [hr.out]; rfl, rfl⟩
  · obtain rfl : k = l.length := by omega
    have hr : Hid (lexC strC l r = if l.length < r.length then -1 else 0) := Lib.hid (lexC_end strC _ l r hk2 hz.out)
    clear hz
    by_cases hlr : l.length < r.length
    · have hlr2 : (l.length : Int) < (r.length : Int) := by omega
      rw [if_pos hlr] at hr
      clear hlr
      go_wp2
      go_ret
      exact ⟨by rw [hr.out]; rfl, rfl⟩
    · have hlr2 : ¬ (l.length : Int) < (r.length : Int) := by omega
      rw [if_neg hlr] at hr
      clear hlr
      go_wp2
      go_ret
      exact ⟨by rw [hr.out]; rfl, rfl⟩
def vown (x : V) : Int := if x.f0 < 0 ∨ 6 < x.f0 then 23 else if vtexts x ≠ 0 then vtexts x else if 4096 < max x.f3.length x.f4.length then 5 else if vnumbers x && vused x && vrises x.f4 then 0 else 9
set_option maxHeartbeats 4000000 in
theorem own_any (x : V) (cs : List Value) (w : World) (hLD : LaidW w) (hK : k28.K w x cs) (hO : OkV x) :
 Calls Tryz.prog 97 #[.agg cs.toArray] w fun e w' => e = .returned (.int .i64 (vown x)) ∧ Below w.heap.size w w' := by
 obtain ⟨A2, c2, A5, c5, A6, c6, rfl, l2, g2, l5, g5, l6, g6⟩ := k28_open hK
 have HK := Lib.hid hK
 have HC := Lib.hid g6
 have HO := Lib.hid hO
 have HL := Lib.hid hLD
 have n3 := hO.len3
 have n4 := hO.len4
 clear g2 l2 l5 g5 l6 g6 hK hO hLD
 unfold vown
 by_cases hlo : x.f0 < 0
 · rw [if_pos (.inl hlo)]
   go_enter Tryz.func97, Tryz.ntmps97
   go_wp2
   go_ret
   exact ⟨rfl, (Below.refl _ _).alloc (Nat.le_refl _) _⟩
 by_cases hhi : 6 < x.f0
 · rw [if_pos (.inr hhi)]
   go_enter Tryz.func97, Tryz.ntmps97
   go_wp2
   go_ret
   exact ⟨rfl, (Below.refl _ _).alloc (Nat.le_refl _) _⟩
 rw [if_neg (by omega)]
 have hB0 : Hid (Below w.heap.size w (w.alloc (.cells #[.int .i64 x.f0, .bool x.f1.f0, .slice A2 x.f1.f1.length c2, .int .i64 x.f1.f2, .string x.f2, .slice A5 x.f3.length c5, .slice A6 x.f4.length c6] 28))) := Lib.hid ((Below.refl _ _).alloc (Nat.le_refl _) _)
 by_cases ht : vtexts x = 0
 · rw [if_neg (by simpa using ht)]
   by_cases hl : 4096 < max x.f3.length x.f4.length
   · rw [if_pos hl]
     have hl2 : (4096 : Int) < max (x.f3.length : Int) (x.f4.length : Int) := by omega
     go_enter Tryz.func97, Tryz.ntmps97
     go_wp2_with (first | (go_at_call 137; (with_reducible refine (texts_any x _ _ ?hl ?hk HO.out).mono ?_); (case hl => exact HL.out.below hB0.out); (case hk => exact k28.K_below hB0.out HK.out); rw [ht]; rintro e w1 ⟨rfl, hB1⟩; obtain ⟨hcl, hfz⟩ := bcells (blk_new w _) hB1; have hB2 := below_box (Below.refl _ _) (Nat.le_refl _) hB1))
     go_ret
     exact ⟨rfl, hB2⟩
   · rw [if_neg hl]
     have hl2 : ¬ (4096 : Int) < max (x.f3.length : Int) (x.f4.length : Int) := by omega
     cases hn : vnumbers x with
     | false =>
      go_enter Tryz.func97, Tryz.ntmps97
      go_wp2_with (first | (go_at_call 137; (with_reducible refine (texts_any x _ _ ?hl ?hk HO.out).mono ?_); (case hl => exact HL.out.below hB0.out); (case hk => exact k28.K_below hB0.out HK.out); rw [ht]; rintro e w1 ⟨rfl, hB1⟩; obtain ⟨hcl, hfz⟩ := bcells (blk_new w _) hB1; have hB2 := below_box (Below.refl _ _) (Nat.le_refl _) hB1; have hb2 := blk_below2 (blk_new w _) hB1) | (go_at_call 138; (with_reducible refine (numbers_any x _ _ ?hk HO.out).mono ?_); (case hk => exact k28.K_below hB2 HK.out); rw [hn]; rintro e w3 ⟨rfl, hB3⟩; obtain ⟨hcl3, hfz3⟩ := bcells hb2 hB3; have hB4 := hB2.trans (hB3.mono hB2.size); have hb4 := blk_below2 hb2 hB3) | (go_at_call 139; (with_reducible refine (used_any x _ _ ?hk).mono ?_); (case hk => exact k28.K_below hB4 HK.out); rw [hu]; rintro e w5 ⟨rfl, hB5⟩; obtain ⟨hcl5, hfz5⟩ := bcells hb4 hB5; have hB6 := hB4.trans (hB5.mono hB4.size)) | (go_at_call 140; (with_reducible refine (rises_any _ _ _ _ ?hc).mono ?_); (case hc => exact Kd.C_below HC.out hB6); rw [hr]; rintro e w7 ⟨rfl, hB7⟩; have hB8 := hB6.trans (hB7.mono hB6.size)))
      go_ret
      exact ⟨rfl, hB4⟩
     | true =>
      cases hu : vused x with
      | false =>
       go_enter Tryz.func97, Tryz.ntmps97
       go_wp2_with (first | (go_at_call 137; (with_reducible refine (texts_any x _ _ ?hl ?hk HO.out).mono ?_); (case hl => exact HL.out.below hB0.out); (case hk => exact k28.K_below hB0.out HK.out); rw [ht]; rintro e w1 ⟨rfl, hB1⟩; obtain ⟨hcl, hfz⟩ := bcells (blk_new w _) hB1; have hB2 := below_box (Below.refl _ _) (Nat.le_refl _) hB1; have hb2 := blk_below2 (blk_new w _) hB1) | (go_at_call 138; (with_reducible refine (numbers_any x _ _ ?hk HO.out).mono ?_); (case hk => exact k28.K_below hB2 HK.out); rw [hn]; rintro e w3 ⟨rfl, hB3⟩; obtain ⟨hcl3, hfz3⟩ := bcells hb2 hB3; have hB4 := hB2.trans (hB3.mono hB2.size); have hb4 := blk_below2 hb2 hB3) | (go_at_call 139; (with_reducible refine (used_any x _ _ ?hk).mono ?_); (case hk => exact k28.K_below hB4 HK.out); rw [hu]; rintro e w5 ⟨rfl, hB5⟩; obtain ⟨hcl5, hfz5⟩ := bcells hb4 hB5; have hB6 := hB4.trans (hB5.mono hB4.size)) | (go_at_call 140; (with_reducible refine (rises_any _ _ _ _ ?hc).mono ?_); (case hc => exact Kd.C_below HC.out hB6); rw [hr]; rintro e w7 ⟨rfl, hB7⟩; have hB8 := hB6.trans (hB7.mono hB6.size)))
       go_ret
       exact ⟨rfl, hB6⟩
      | true =>
       cases hr : vrises x.f4 with
       | false =>
        go_enter Tryz.func97, Tryz.ntmps97
        go_wp2_with (first | (go_at_call 137; (with_reducible refine (texts_any x _ _ ?hl ?hk HO.out).mono ?_); (case hl => exact HL.out.below hB0.out); (case hk => exact k28.K_below hB0.out HK.out); rw [ht]; rintro e w1 ⟨rfl, hB1⟩; obtain ⟨hcl, hfz⟩ := bcells (blk_new w _) hB1; have hB2 := below_box (Below.refl _ _) (Nat.le_refl _) hB1; have hb2 := blk_below2 (blk_new w _) hB1) | (go_at_call 138; (with_reducible refine (numbers_any x _ _ ?hk HO.out).mono ?_); (case hk => exact k28.K_below hB2 HK.out); rw [hn]; rintro e w3 ⟨rfl, hB3⟩; obtain ⟨hcl3, hfz3⟩ := bcells hb2 hB3; have hB4 := hB2.trans (hB3.mono hB2.size); have hb4 := blk_below2 hb2 hB3) | (go_at_call 139; (with_reducible refine (used_any x _ _ ?hk).mono ?_); (case hk => exact k28.K_below hB4 HK.out); rw [hu]; rintro e w5 ⟨rfl, hB5⟩; obtain ⟨hcl5, hfz5⟩ := bcells hb4 hB5; have hB6 := hB4.trans (hB5.mono hB4.size)) | (go_at_call 140; (with_reducible refine (rises_any _ _ _ _ ?hc).mono ?_); (case hc => exact Kd.C_below HC.out hB6); rw [hr]; rintro e w7 ⟨rfl, hB7⟩; have hB8 := hB6.trans (hB7.mono hB6.size)))
        go_ret
        exact ⟨rfl, hB8⟩
       | true =>
        go_enter Tryz.func97, Tryz.ntmps97
        go_wp2_with (first | (go_at_call 137; (with_reducible refine (texts_any x _ _ ?hl ?hk HO.out).mono ?_); (case hl => exact HL.out.below hB0.out); (case hk => exact k28.K_below hB0.out HK.out); rw [ht]; rintro e w1 ⟨rfl, hB1⟩; obtain ⟨hcl, hfz⟩ := bcells (blk_new w _) hB1; have hB2 := below_box (Below.refl _ _) (Nat.le_refl _) hB1; have hb2 := blk_below2 (blk_new w _) hB1) | (go_at_call 138; (with_reducible refine (numbers_any x _ _ ?hk HO.out).mono ?_); (case hk => exact k28.K_below hB2 HK.out); rw [hn]; rintro e w3 ⟨rfl, hB3⟩; obtain ⟨hcl3, hfz3⟩ := bcells hb2 hB3; have hB4 := hB2.trans (hB3.mono hB2.size); have hb4 := blk_below2 hb2 hB3) | (go_at_call 139; (with_reducible refine (used_any x _ _ ?hk).mono ?_); (case hk => exact k28.K_below hB4 HK.out); rw [hu]; rintro e w5 ⟨rfl, hB5⟩; obtain ⟨hcl5, hfz5⟩ := bcells hb4 hB5; have hB6 := hB4.trans (hB5.mono hB4.size)) | (go_at_call 140; (with_reducible refine (rises_any _ _ _ _ ?hc).mono ?_); (case hc => exact Kd.C_below HC.out hB6); rw [hr]; rintro e w7 ⟨rfl, hB7⟩; have hB8 := hB6.trans (hB7.mono hB6.size)))
        go_ret
        exact ⟨rfl, hB8⟩
 · rw [if_pos ht]
   have htb : (vtexts x != 0) = true := by simpa using ht
   clear ht
   go_enter Tryz.func97, Tryz.ntmps97
   go_wp2_with (first | (go_at_call 137; (with_reducible refine (texts_any x _ _ ?hl ?hk HO.out).mono ?_); (case hl => exact HL.out.below hB0.out); (case hk => exact k28.K_below hB0.out HK.out); rintro e w1 ⟨rfl, hB1⟩; obtain ⟨hcl, hfz⟩ := bcells (blk_new w _) hB1; have hB2 := below_box (Below.refl _ _) (Nat.le_refl _) hB1))
   go_ret
   exact ⟨rfl, hB2⟩
end Go.Proofs.YthigbklhngihkaaGreatDoor.P

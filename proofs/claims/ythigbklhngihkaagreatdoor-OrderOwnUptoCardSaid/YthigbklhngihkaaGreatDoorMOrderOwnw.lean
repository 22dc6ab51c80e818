import Derived.Test.YthigbklhngihkaaGreatDoorMOrderOwnv
import Derived.Test.YthigbklhngihkaaGreatDoorRows
import Derived.ChangeArms
import Derived.ChangeSlices
import Derived.DataReads
import Derived.DataElems
set_option linter.unusedVariables false
set_option linter.unusedSimpArgs false
set_option maxRecDepth 100000
namespace Go.Proofs.YthigbklhngihkaaGreatDoor.P
open Go.RowKit Go.Proofs.YthigbklhngihkaaGreatDoorW.PrintWords Go.Proofs.YthigbklhngihkaaGreatDoorW.PrintMore Go.Proofs.YthigbklhngihkaaGreatDoorW.PrintLast
set_option maxHeartbeats 2000000 in
theorem SpoilLimbs_in (S : Nat → Nat → Nat → Prop) (v : Value) (w : World) (hG : Good S w) (hv : GoodS S 131 v) :
 Calls Tryz.prog 70 #[v] w fun e w' => (∃ r, e = .returned r) ∧ Good S w' ∧ Only S w w' := by
 obtain ⟨A, m, c, rfl, hm, hp⟩ := hv
 have HP := Lib.hid hp
 have HG := Lib.hid hG
 clear hp hG
 go_enter Tryz.func70, Tryz.ntmps70
 go_wp2
 go_loopw [2] (fun vi wr => ∃ k : Nat, k ≤ m ∧ vi = .int .i64 k ∧ Good S wr ∧ Only S w wr) (fun vi _ => m - (intOf vi).toNat)
 case atStart => exact ⟨0, Nat.zero_le _, rfl, HG.out, Only.refl _ _⟩
 case round =>
  obtain ⟨k, hk, rfl, hG, hO⟩ := hrel
  by_cases hlt : k < m
  · obtain ⟨g, n, rfl, hs, hmn⟩ := HP.out (by omega)
    obtain ⟨x0, hx0⟩ := hG.num g n hs k (by omega)
    obtain ⟨⟨cs, hc⟩, _⟩ := hG.blk _ _ _ hs
    have hfz := blk_frozen hc k
    have hG2 := Lib.hid (hG.setNum hs k 7)
    have hO2 := Lib.hid (hO.setCell hs k (.int .u32 7))
    have hw : wrap64 ((k : Int) + 1) = ((k + 1 : Nat) : Int) := by unfold wrap64; omega
    clear hG hO hc hs
    go_wp2
    go_roundw
    case rel => exact ⟨k + 1, hlt, by go_num, hG2.out, hO2.out⟩
    case measure => simp [intOf]; omega
  · obtain rfl : k = m := by omega
    go_wp2
    exact bodyPost_end (v := .tuple #[]) (by simp [results, Tryz.f70, go_sem]) rfl ⟨⟨_, rfl⟩, hG, hO⟩
set_option maxHeartbeats 2000000 in
theorem SpoilValue_in (S : Nat → Nat → Nat → Prop) : ∀ (left : Nat) (cs : List Value) (w : World), left ≤ 1000 → Good S w → GoodV S cs →
 Calls Tryz.prog 23 #[.agg cs.toArray, .int .i64 left] w fun e w' => (∃ r, e = .returned r) ∧ Good S w' ∧ Only S w w' := by
 intro left
 induction left using Nat.strongRecOn with
 | _ left ih =>
  intro cs w hl hG hV
  obtain ⟨a0, a1, v2, a3, a4, v5, v6, rfl, h2, h5, h6⟩ := hV
  have H2 := Lib.hid h2
  have H5 := Lib.hid h5
  have H6 := Lib.hid h6
  obtain ⟨A2, m2, c2, rfl, hm2, hp2⟩ := h2
  obtain ⟨A5, m5, c5, rfl, hm5, hp5⟩ := h5
  obtain ⟨A6, m6, c6, rfl, hm6, hp6⟩ := h6
  have HP5 := Lib.hid hp5
  have HP6 := Lib.hid hp6
  have IH := Lib.hid ih
  obtain ⟨W1, hW1⟩ : ∃ W1, W1 = w.alloc (.cells #[.int .i64 a0, .bool a1, .slice A2 m2 c2, .int .i64 a3, .string a4, .slice A5 m5 c5, .slice A6 m6 c6] 28) := ⟨_, rfl⟩
  have hb1 : Below w.heap.size w W1 := by rw [hW1]; exact (Below.refl _ _).alloc (Nat.le_refl _) _
  have hx1 : W1.heap[w.heap.size]? = some (.cells #[.int .i64 a0, .bool a1, .slice A2 m2 c2, .int .i64 a3, .string a4, .slice A5 m5 c5, .slice A6 m6 c6] 28 (0, 0)) := by rw [hW1]; exact blk_new _ _
  have hG1 := hG.below hb1
  have hns : ∀ t n, ¬ S w.heap.size t n := fun t n hs => Nat.lt_irrefl _ (hG.lt hs)
  have HC := Lib.hid (SpoilLimbs_in S _ W1 hG1 H2.out)
  have HO1 : Hid (Only S w W1) := Lib.hid (by rw [hW1]; exact (Only.refl S w).alloc _)
  have HX := Lib.hid hx1
  have HW1 := Lib.hid hW1
  have HN := Lib.hid hns
  have hsz1 := blk_lt hx1
  rw [hW1] at HC HX HO1 hsz1
  clear hp2 hp5 hp6 ih hG hG1 hb1 hx1 hns hW1
  go_enter Tryz.func23, Tryz.ntmps23
  go_wp2_with (first | (go_at_call 70; refine HC.out.mono ?_; rintro e w2 ⟨⟨r, rfl⟩, hG2, hO2⟩; have hx2 := (hO2.block _ hsz1 HN.out).trans HX.out; have hO3 := HO1.out.trans hO2))
  clear HO1 HC HX H2 hm2 hsz1
  have HX2 := Lib.hid hx2
  have HGG := Lib.hid hG2
  have HOO := Lib.hid hO3
  have HS2 := Lib.hid (blk_lt hx2)
  clear hx2 hG2 hO3 hO2
  go_loopw [4] (fun vi wr => ∃ k : Nat, k ≤ m6 ∧ vi = .int .i64 k ∧ Good S wr ∧ Only S w2 wr) (fun vi _ => m6 - (intOf vi).toNat)
  case atStart => exact ⟨0, Nat.zero_le _, rfl, HGG.out, Only.refl _ _⟩
  case round =>
   obtain ⟨k, hk, rfl, hG, hO⟩ := hrel
   have hx := (hO.block _ HS2.out HN.out).trans HX2.out
   have hbx := blk_cell hx
   have hbf := blk_frozen hx
   by_cases hlt : k < m6
   · obtain ⟨g, n, rfl, hs, hmn⟩ := HP6.out (by omega)
     obtain ⟨x0, hx0⟩ := hG.str g n hs k (by omega)
     obtain ⟨⟨cs, hc⟩, _⟩ := hG.blk _ _ _ hs
     have hfz := blk_frozen hc k
     have hG2 := fun z => hG.setStr hs k z
     have hO2 := fun z => hO.setCell hs k (.string z)
     have hw : wrap64 ((k : Int) + 1) = ((k + 1 : Nat) : Int) := by unfold wrap64; omega
     have hki : (k : Int) < (m6 : Int) := by omega
     clear hG hO hc hs hx
     go_wp2
     go_roundw
     case rel => exact ⟨k + 1, hlt, by go_num, hG2 _, hO2 _⟩
     case measure => simp [intOf]; omega
   · obtain rfl : k = m6 := by omega
     go_wp2
     have HX3 := Lib.hid hx
     have HG3 := Lib.hid hG
     have HO3 := Lib.hid (HOO.out.trans hO)
     have HS3 := Lib.hid (blk_lt hx)
     clear hG hO hx hbx hbf
     go_loopw [5] (fun vi wr3 => ∃ k : Nat, k ≤ m5 ∧ vi = .int .i64 k ∧ Good S wr3 ∧ Only S wr wr3) (fun vi _ => m5 - (intOf vi).toNat)
     case atStart => exact ⟨0, Nat.zero_le _, rfl, HG3.out, Only.refl _ _⟩
     case round =>
      obtain ⟨k, hk, rfl, hG, hO⟩ := hrel
      have hx := (hO.block _ HS3.out HN.out).trans HX3.out
      have hbx := blk_cell hx
      have hbf := blk_frozen hx
      by_cases hlt : k < m5
      · have hki : (k : Int) < (m5 : Int) := by omega
        by_cases hp : 0 < left
        · obtain ⟨g, n, rfl, hs, hmn⟩ := HP5.out (by omega)
          obtain ⟨cs, hV, hcc⟩ := hG.val g n hs k (by omega)
          have hV' := Lib.hid hV
          obtain ⟨b0, b1, u2, b3, b4, u5, u6, rfl, h2, h5, h6⟩ := hV
          obtain ⟨l1, hl1⟩ : ∃ l1 : Nat, l1 + 1 = left := ⟨left - 1, by omega⟩
          have hw1 : wrap64 ((left : Int) - 1) = (l1 : Int) := by unfold wrap64; omega
          have hw2 : IntKind.i64.wrap ((left : Int) - 1) = (l1 : Int) := by rw [wrap_in _ (by omega)]; omega
          have hpi : (0 : Int) < (left : Int) := by omega
          have q0 := hcc 0 _ rfl
          have q1 := hcc 1 _ rfl
          have q2 := hcc 2 _ rfl
          have q3 := hcc 3 _ rfl
          have q4 := hcc 4 _ rfl
          have q5 := hcc 5 _ rfl
          have q6 := hcc 6 _ rfl
          rw [Nat.add_zero] at q0
          have hw : wrap64 ((k : Int) + 1) = ((k + 1 : Nat) : Int) := by unfold wrap64; omega
          obtain ⟨⟨gc, hgc⟩, _⟩ := hG.blk _ _ _ hs
          have HC := Lib.hid (IH.out l1 (by omega) _ wr (by omega) hG hV'.out)
          have HOP := Lib.hid hO
          have HSS := Lib.hid hs
          clear hO hcc h2 h5 h6
          go_wp2_with (first | (go_at_call 23; refine HC.out.mono ?_; rintro e w5 ⟨⟨r5, rfl⟩, hG5, hO5⟩; obtain ⟨cs5, hV5, hcc5⟩ := hG5.val g n HSS.out k (by omega); obtain ⟨⟨gc5, hgc5⟩, _⟩ := hG5.blk _ _ _ HSS.out; have hfz5 := blk_frozen hgc5; obtain ⟨e0, e1, e2, e3, e4, e5, e6, rfl, _⟩ := hV5; have t0 := hcc5 0 _ rfl; have t1 := hcc5 1 _ rfl; have t2 := hcc5 2 _ rfl; have t3 := hcc5 3 _ rfl; have t4 := hcc5 4 _ rfl; have t5 := hcc5 5 _ rfl; have t6 := hcc5 6 _ rfl; rw [Nat.add_zero] at t0; have hx5 := (hO5.block _ (Nat.lt_of_lt_of_le HS3.out HOP.out.size) HN.out).trans hx; have hbx5 := blk_cell hx5; have hbf5 := blk_frozen hx5))
          have hz : GoodV S [.int .i64 77, .bool false, .slice none 0 0, .int .i64 0, .string ⟨#[]⟩, .slice none 0 0, .slice none 0 0] := ⟨_, _, _, _, _, _, _, rfl, ⟨none, 0, 0, rfl, by omega, fun h => absurd h (by omega)⟩, ⟨none, 0, 0, rfl, by omega, fun h => absurd h (by omega)⟩, ⟨none, 0, 0, rfl, by omega, fun h => absurd h (by omega)⟩⟩
          have hfin := hG5.setVal HSS.out (by omega : k < n) hz
          have hon := (HOP.out.trans hO5).setCells HSS.out (k * 7) [.int .i64 77, .bool false, .slice none 0 0, .int .i64 0, .string ⟨#[]⟩, .slice none 0 0, .slice none 0 0]
          rw [setCells7] at hfin hon
          go_roundw
          case rel => exact ⟨k + 1, hlt, by go_num, hfin, hon⟩
          case measure => simp [intOf]; omega
        · obtain rfl : left = 0 := by omega
          go_wp2
          exact bodyPost_end (v := .tuple #[]) (by simp [results, Tryz.f23, go_sem]) rfl ⟨⟨_, rfl⟩, hG, HO3.out.trans hO⟩
      · obtain rfl : k = m5 := by omega
        go_wp2
        exact bodyPost_end (v := .tuple #[]) (by simp [results, Tryz.f23, go_sem]) rfl ⟨⟨_, rfl⟩, hG, HO3.out.trans hO⟩
def Made (W : World) (base : Nat) (b t n : Nat) : Prop :=
 base ≤ b ∧ 0 < n ∧ ((t = 131 ∧ ∃ c xs, xs.length = n ∧ (Kd.int .u32).R 131 W base (fun _ => True) (.slice (some ⟨b, 0, none⟩) n c) xs) ∨
  (t = 9 ∧ ∃ c xs, xs.length = n ∧ Kd.string.R 9 W base (fun _ => True) (.slice (some ⟨b, 0, none⟩) n c) xs) ∨
  (t = 28 ∧ ∃ c xs, xs.length = n ∧ k28.R 28 W base (fun _ => True) (.slice (some ⟨b, 0, none⟩) n c) xs))
theorem R_blk {α : Type} {d : Kd α} {e b n c : Nat} {W : World} {base : Nat} {ok : Nat → Prop} {xs : List α} (h : d.R e W base ok (.slice (some ⟨b, 0, none⟩) n c) xs) (hl : xs.length = n) (hn : 0 < n) : ∃ cs, W.heap[b]? = some (.cells cs e (0, 0)) := by
 obtain ⟨g, cap, he, hb, hlt, cells, hc⟩ := Kd.R_form h (by omega)
 injection he with e1 _ _
 injection e1 with e1
 injection e1 with e1 _ _
 subst e1
 exact ⟨cells, hc⟩
theorem goodS_of_R {α : Type} {d : Kd α} {t : Nat} {W : World} {base : Nat} {v : Value} {xs : List α} (h : d.R t W base (fun _ => True) v xs)
 (hS : ∀ g c, d.R t W base (fun _ => True) (.slice (some ⟨g, 0, none⟩) xs.length c) xs → base ≤ g → 0 < xs.length → Made W base g t xs.length) : GoodS (Made W base) t v := by
 obtain ⟨A, c, rfl⟩ := Kd.R_slice h
 have hl : xs.length ≤ 9223372036854775807 := (Kd.R_reads' h).2.2.2.1
 refine ⟨A, xs.length, c, rfl, hl, fun hp => ?_⟩
 obtain ⟨g, cap, he, hb, hlt, _⟩ := Kd.R_form h hp
 injection he with e1 _ _
 subst e1
 exact ⟨g, xs.length, rfl, hS g c h hb hp, Nat.le_refl _⟩
theorem goodV_of_M {W : World} {base : Nat} {x : V} {cs : List Value} (h : k28.M W base (fun _ => True) x cs) : GoodV (Made W base) cs := by
 obtain ⟨v2, v5, v6, rfl, r2, r5, r6⟩ := k28_openM h
 exact ⟨_, _, _, _, _, _, _, rfl, goodS_of_R r2 (fun g c hr hb hp => ⟨hb, hp, .inl ⟨rfl, c, _, rfl, hr⟩⟩), goodS_of_R r5 (fun g c hr hb hp => ⟨hb, hp, .inr (.inr ⟨rfl, c, _, rfl, hr⟩)⟩), goodS_of_R r6 (fun g c hr hb hp => ⟨hb, hp, .inr (.inl ⟨rfl, c, _, rfl, hr⟩)⟩)⟩
theorem R_at {W : World} {base b n c : Nat} {xs : List V} (h : k28.R 28 W base (fun _ => True) (.slice (some ⟨b, 0, none⟩) n c) xs) (j : Nat) (hj : j < xs.length) :
 ∃ cs, k28.M W base (fun _ => True) (rd_T28 xs (j : Int)) cs ∧ ∀ i u, cs[i]? = some u → W.cell? ⟨b, j * 7 + i, none⟩ = some u := by
 obtain ⟨A, c', he, hl, hr⟩ := OwnRow.reads h.2
 injection he with e1 _ _
 subst e1
 obtain ⟨ad, cs, ha, hlen, hm, hc⟩ := ReadsRow.get_ hr z28 (j : Int) (by omega) (by omega)
 injection ha with ha
 subst ha
 refine ⟨cs, k28.M_mono (fun _ _ => trivial) hm, fun i u hu => ?_⟩
 have := hc i u hu
 rw [Int.toNat_natCast, add_plain] at this
 exact this
theorem rows_good (W : World) (base : Nat) : Good (Made W base) W := by
 refine ⟨fun b t n hs => ?_, fun b n hs j hj => ?_, fun b n hs j hj => ?_, fun b n hs j hj => ?_⟩
 · obtain ⟨hb, hn, ⟨rfl, c, xs, hl, hr⟩ | ⟨rfl, c, xs, hl, hr⟩ | ⟨rfl, c, xs, hl, hr⟩⟩ := hs
   · exact ⟨R_blk hr hl hn, .inl rfl⟩
   · exact ⟨R_blk hr hl hn, .inr (.inr rfl)⟩
   · exact ⟨R_blk hr hl hn, .inr (.inl rfl)⟩
 · obtain ⟨hb, hn, ⟨_, c, xs, hl, hr⟩ | ⟨h, _⟩ | ⟨h, _⟩⟩ := hs
   · obtain ⟨_, _, hC⟩ := Kd.R_reads' hr
     obtain ⟨ad, ha, hx⟩ := Kd.at_int hC (j : Int) (by omega) (by omega)
     injection ha with ha
     subst ha
     rw [Int.toNat_natCast, add_plain] at hx
     exact ⟨_, hx⟩
   · exact absurd h (by decide)
   · exact absurd h (by decide)
 · obtain ⟨hb, hn, ⟨h, _⟩ | ⟨_, c, xs, hl, hr⟩ | ⟨h, _⟩⟩ := hs
   · exact absurd h (by decide)
   · obtain ⟨_, _, hC⟩ := Kd.R_reads' hr
     obtain ⟨ad, ha, hx⟩ := Kd.at_string hC (j : Int) (by omega) (by omega)
     injection ha with ha
     subst ha
     rw [Int.toNat_natCast, add_plain] at hx
     exact ⟨_, hx⟩
   · exact absurd h (by decide)
 · obtain ⟨hb, hn, ⟨h, _⟩ | ⟨h, _⟩ | ⟨_, c, xs, hl, hr⟩⟩ := hs
   · exact absurd h (by decide)
   · exact absurd h (by decide)
   · obtain ⟨cs, hm, hc⟩ := R_at hr j (by omega)
     exact ⟨cs, goodV_of_M hm, hc⟩
theorem Only.below {W w w' : World} {base : Nat} (h : Only (Made W base) w w') (hw : base ≤ w.heap.size) : Below base w w' :=
 ⟨h.os, h.tape, h.output, h.size, fun b hb => h.block b (by omega) (fun t n hs => by have := hs.1; omega)⟩
theorem Only.later {α : Type} {d : Kd α} {W w w' : World} {base e b : Nat} {v : Value} {xs : List α} (h : Only (Made W base) w w') (hW : W.heap.size ≤ b) (hr : d.R e w b (fun _ => True) v xs) : d.R e w' b (fun _ => True) v xs :=
 Kd.R_mono (Kd.R_move (Kd.R_bound hr) (fun k hk => h.block k (by have := hk.2.2.1; exact this) (fun t n hs => by
  have := (rows_good W base).lt hs
  have := hk.2.1
  omega))) (fun _ _ => trivial)
theorem good_row {S : Nat → Nat → Nat → Prop} {w : World} {A : Option Addr} {m c : Nat} (hG : Good S w) (h : GoodS S 28 (.slice A m c)) (k : Nat) (hk : k < m) :
 ∃ g a0 a1 v2 a3 a4 v5 v6, A = some ⟨g, 0, none⟩ ∧ GoodV S [.int .i64 a0, .bool a1, v2, .int .i64 a3, .string a4, v5, v6] ∧ w.cell? ⟨g, k * 7, none⟩ = some (.int .i64 a0) ∧ w.cell? ⟨g, k * 7 + 1, none⟩ = some (.bool a1) ∧ w.cell? ⟨g, k * 7 + 2, none⟩ = some v2 ∧ w.cell? ⟨g, k * 7 + 3, none⟩ = some (.int .i64 a3) ∧ w.cell? ⟨g, k * 7 + 4, none⟩ = some (.string a4) ∧ w.cell? ⟨g, k * 7 + 5, none⟩ = some v5 ∧ w.cell? ⟨g, k * 7 + 6, none⟩ = some v6 := by
 obtain ⟨A', m', c', e, _, hp⟩ := h
 injection e with e1 e2 e3
 subst e1 e2 e3
 obtain ⟨g, n, rfl, hs, hmn⟩ := hp (by omega)
 obtain ⟨cs, hV, hc⟩ := hG.val g n hs k (by omega)
 have hV2 := hV
 obtain ⟨a0, a1, v2, a3, a4, v5, v6, rfl, _⟩ := hV2
 exact ⟨g, a0, a1, v2, a3, a4, v5, v6, rfl, hV, hc 0 _ rfl, hc 1 _ rfl, hc 2 _ rfl, hc 3 _ rfl, hc 4 _ rfl, hc 5 _ rfl, hc 6 _ rfl⟩
theorem goodS_vals {W : World} {base : Nat} {v : Value} {xs : List V} (h : k28.R 28 W base (fun _ => True) v xs) : GoodS (Made W base) 28 v :=
 goodS_of_R h (fun g c hr hb hp => ⟨hb, hp, .inr (.inr ⟨rfl, c, _, rfl, hr⟩)⟩)
def Res (l ys : List V) : Prop := (lask l l ≠ 0 ∧ ys = []) ∨ (lask l l = 0 ∧ Sorted l l ys)
theorem Res.one {l ys zs : List V} (h : Res l ys) (k : Res l zs) : ys = zs := by
 rcases h with ⟨h0, rfl⟩ | ⟨h0, S, h1, h2, rfl⟩
 · rcases k with ⟨_, rfl⟩ | ⟨k0, _⟩
   · rfl
   · exact absurd k0 h0
 · rcases k with ⟨k0, _⟩ | ⟨_, T, k1, k2, rfl⟩
   · exact absurd h0 k0
   · rw [kept_unique h1 h2 k1 k2]
theorem SortDone.res {l : List V} {w w' : World} {e : Ending} (h : SortDone l l w e w') : ∃ v ys, e = .returned (.tuple #[v, .int .i64 (lask l l)]) ∧ Hid (Res l ys) ∧ Hid (k28.R 28 w' w.heap.size (fun _ => True) v ys) ∧ Below w.heap.size w w' := by
 rcases h with ⟨⟨h1, rfl⟩ | ⟨h1, v, ys, rfl, hs, hr⟩, hb⟩
 · exact ⟨_, [], rfl, Lib.hid (.inl ⟨h1, rfl⟩), Lib.hid (Kd.R_nil _ _ _ _ _), hb⟩
 · exact ⟨_, ys, by rw [h1], Lib.hid (.inr ⟨h1, hs⟩), Lib.hid hr, hb⟩
set_option maxHeartbeats 4000000 in
theorem owns_walk (l : List V) (A : Option Addr) (c : Nat) (w : World) (hLD : LaidW w) (hl : l.length ≤ c) (hA : k28.C w A l.length l) (hO : ∀ x ∈ l, OkV x) (hn : l.length ≤ 1048576) :
 Calls Tryz.prog 8 #[.slice A l.length c] w fun e w' => e = .returned (.bool true) ∧ Below w.heap.size w w' := by
 have HL := Lib.hid hLD
 have HS : Hid (∀ W A1 c1, Below w.heap.size w W → k28.C W A1 l.length l → Calls Tryz.prog 33 #[.slice A1 l.length c1] W fun e w' => ∃ v ys, e = .returned (.tuple #[v, .int .i64 (lask l l)]) ∧ Hid (Res l ys) ∧ Hid (k28.R 28 w' W.heap.size (fun _ => True) v ys) ∧ Below W.heap.size W w') := Lib.hid (fun W A1 c1 hW hC => (Sort_any l A1 c1 W (hLD.below hW) hC hO hn).mono fun e w' h => h.res)
 have HQ : Hid (∀ W, Below w.heap.size w W → Calls Tryz.prog 34 #[.slice A l.length c] W fun e w' => ∃ v ys, e = .returned (.tuple #[v, .int .i64 (lask l l)]) ∧ Hid (Res l ys) ∧ Hid (k28.R 28 w' W.heap.size (fun _ => True) v ys) ∧ Below W.heap.size W w') := Lib.hid (fun W hW => (rsort_any l A c W (Kd.C_below hA hW) hO hn).mono fun e w' h => h.res)
 have HCO : Hid (∀ W, Below w.heap.size w W → Calls Tryz.prog 21 #[.slice A l.length c] W fun e w' => ∃ v, e = .returned v ∧ k28.R 28 w' W.heap.size (fun _ => True) v l ∧ Below W.heap.size W w') := Lib.hid (fun W hW => Copies_any l A c W (Kd.C_below hA hW) hO (Nat.le_trans hn (by decide)))
 obtain ⟨n, hnn⟩ : ∃ n, n = l.length := ⟨_, rfl⟩
 have HN := Lib.hid hnn
 generalize lask l l = r at HS HQ
 rw [← hnn] at HS HQ HCO hl hn
 rw [← hnn]
 clear hA hO hLD hnn
 go_enter Tryz.func8, Tryz.ntmps8
 go_wp2_with (first
  | (go_at_call 32; (with_reducible refine (alive_any _ HL.out).mono ?_); rintro e w0 ⟨rfl, hB0⟩; have HB0 := Lib.hid hB0; clear hB0)
  | (go_at_call 21; (with_reducible refine (HCO.out _ HB0.out).mono ?_); rintro e w1 ⟨v1, rfl, hR1, hB1⟩; obtain ⟨A1, c1, rfl⟩ := Kd.R_slice hR1; have HR1 := Lib.hid hR1; have HB1 := Lib.hid (HB0.out.trans (hB1.mono HB0.out.size)); have HB1' := Lib.hid hB1; have HC1 := Lib.hid (Kd.R_reads' hR1).2.2; rw [← HN.out] at hR1 ⊢; rw [← HN.out] at HC1; clear hR1 hB1)
  | (go_at_call 33; (with_reducible refine (HS.out _ _ _ HB1.out (by rw [HN.out]; exact (Kd.R_reads' HR1.out).2.2)).mono ?_); rintro e w2 ⟨v2, ys, rfl, HY, HR2, hB2⟩; obtain ⟨A2, c2, rfl⟩ := Kd.R_slice HR2.out; have HB2 := Lib.hid hB2; have HB3 := Lib.hid (HB1.out.trans (hB2.mono HB1.out.size)); clear hB2))
 have HG : Hid (Good (Made w1 w0.heap.size) w2) := Lib.hid ((rows_good w1 w0.heap.size).below HB2.out)
 have HGS : Hid (GoodS (Made w1 w0.heap.size) 28 (.slice A1 n c1)) := Lib.hid (by rw [HN.out]; exact goodS_vals HR1.out)
 go_loopw [6] (fun vi wr => ∃ k : Nat, k ≤ n ∧ vi = .int .i64 k ∧ Hid (Good (Made w1 w0.heap.size) wr ∧ Only (Made w1 w0.heap.size) w2 wr)) (fun vi _ => n - (intOf vi).toNat)
 case atStart => exact ⟨0, Nat.zero_le _, rfl, Lib.hid ⟨HG.out, Only.refl _ _⟩⟩
 case round =>
  obtain ⟨k, hk, rfl, HGO⟩ := hrel
  by_cases hlt : k < n
  · obtain ⟨g, x0, x1, x2, x3, x4, x5, x6, rfl, hV, q0, q1, q2, q3, q4, q5, q6⟩ := good_row HGO.out.1 HGS.out k hlt
    have hV2 := hV
    obtain ⟨_, _, _, _, _, _, _, e, ⟨_, _, _, rfl, _⟩, ⟨_, _, _, rfl, _⟩, ⟨_, _, _, rfl, _⟩⟩ := hV2
    simp only [List.cons.injEq, Value.int.injEq, Value.bool.injEq, Value.string.injEq, true_and, and_true] at e
    obtain ⟨rfl, rfl, rfl, rfl, rfl, rfl, rfl⟩ := e
    have HSP := Lib.hid (SpoilValue_in (Made w1 w0.heap.size) 5 _ wr (by decide) HGO.out.1 hV)
    have hlt2 : (k : Int) < (n : Int) := by omega
    have hk0 : (0 : Int) ≤ (k : Int) := by omega
    clear hV
    go_wp2_with (go_at_call 23; refine HSP.out.mono ?_; rintro e w4 ⟨⟨r4, rfl⟩, hG4, hO4⟩; have HG4 := Lib.hid (And.intro hG4 (HGO.out.2.trans hO4)); clear hG4 hO4)
    go_roundw
    case rel => exact ⟨k + 1, hlt, by go_num, HG4⟩
    case measure => simp [intOf]; omega
  · obtain rfl : k = n := by omega
    have hlt2 : ¬ (k : Int) < (k : Int) := by omega
    have HR2b := Lib.hid (HGO.out.2.later (Nat.le_refl _) HR2.out)
    have HB4 := Lib.hid (HB3.out.trans ((HGO.out.2.below (Nat.le_trans HB1'.out.size HB2.out.size)).mono HB0.out.size))
    go_wp2_with (first
     | (go_at_call 34; (with_reducible refine (HQ.out _ HB4.out).mono ?_); rintro e w5 ⟨v5, zs, rfl, HZ, HR5, hB5⟩; obtain rfl := HY.out.one HZ.out; obtain ⟨A5, c5, rfl⟩ := Kd.R_slice HR5.out; have HB5 := Lib.hid (HB4.out.trans (hB5.mono HB4.out.size)); have HSA := Lib.hid (SameAll_any _ _ A2 c2 A5 c5 w5 (Kd.R_reads' HR2b.out).2.1 (Kd.C_below (Kd.R_reads' HR2b.out).2.2 hB5) (Kd.R_reads' HR5.out).2.1 (Kd.R_reads' HR5.out).2.2); clear hB5)
     | (go_at_call 35; refine HSA.out.mono ?_; rw [same_refl]; rintro e w6 ⟨rfl, hB6⟩; have HB6 := Lib.hid (HB5.out.trans (hB6.mono HB5.out.size)); clear hB6)
     | (go_at_call 36; (with_reducible refine (num_any _ _).mono ?_); rintro e w7 ⟨rfl, hw7⟩; obtain rfl := hw7.symm))
    go_ret
    exact ⟨rfl, HB6.out⟩
end Go.Proofs.YthigbklhngihkaaGreatDoor.P
namespace Go.Proofs.YthigbklhngihkaaGreatDoor.P
open Go.RowKit Go.Proofs.YthigbklhngihkaaGreatDoorW.PrintWords Go.Proofs.YthigbklhngihkaaGreatDoorW.PrintMore
section
open _root_.Go.Proofs.YthigbklhngihkaaGreatDoor.Rows
theorem one_le_bulk {H : Type} (d : DataW H) : 1 ≤ uptoBulk d := by
 cases d with
 | lit l => cases l <;> simp [uptoBulk]
 | nil => simp [uptoBulk]
 | ptr d => simp [uptoBulk]
 | slice elems spare => simp [uptoBulk]
 | agg parts => simp [uptoBulk]
 | iface t d => simp [uptoBulk]
 | map entries => simp [uptoBulk]
 | held h => simp [uptoBulk]
theorem length_le_bulk {H : Type} (l : List (DataW H)) : l.length ≤ uptoBulkAll l := by
 induction l with
 | nil => simp [uptoBulkAll]
 | cons x r ih => have := one_le_bulk x; simp only [uptoBulkAll, List.length_cons]; omega
theorem mem_le_bulk {H : Type} {l : List (DataW H)} {d : DataW H} (h : d ∈ l) : uptoBulk d ≤ uptoBulkAll l := by
 induction l with
 | nil => simp at h
 | cons x r ih =>
  simp only [uptoBulkAll]
  rcases List.mem_cons.1 h with rfl | h
  · omega
  · have := ih h; omega
end
section
variable {H : Type} {enc : TypeId × Value → H} {P : Program} {w : World} {base : Nat} {spare : Nat → Bool} {held : Bool}
theorem open_row {α : Type} {d : Kd α} {okv : α → Prop} {t e : TypeId} {fuel : Nat} {cs : List Value} {x : DataW H × List MemPlace} (ht : P.underlying t = some (.slice e)) (hsz : d.sz = P.cellsOf e)
 (ih : ∀ n cs x, n < fuel → DataW.trod enc P w base spare held n e cs = some x → Rows.uptoBulk x.1 ≤ 1048576 → ∃ y : α, d.K w y cs ∧ okv y) (hbulk : Rows.uptoBulk x.1 ≤ 1048576) (h : DataW.trod enc P w base spare held fuel t cs = some x) :
 ∃ (A : Option Addr) (c : Nat) (ys : List α), cs = [.slice A ys.length c] ∧ ys.length ≤ c ∧ ys.length ≤ 1048576 ∧ d.C w A ys.length ys ∧ ∀ y ∈ ys, okv y := by
 rcases DataW.trod_slice ht h with ⟨rfl, _⟩ | ⟨a, len, cap, elems, rest, n, rfl, rfl, rfl, hb, hl, hm, hel0, hel, _, _⟩
 · exact ⟨none, 0, [], rfl, Nat.le_refl _, Nat.zero_le _, Kd.C_nil d w, fun y hy => by simp at hy⟩
 · have each : ∀ i, i < len → ∃ (cs : List Value) (y : α), w.cells? base (a.add (i * P.cellsOf e)) (P.cellsOf e) = some cs ∧ d.K w y cs ∧ okv y := fun i hi => by
    have h1 := hel i hi
    obtain ⟨z, hz⟩ : ∃ z, elems[i]? = some z := ⟨elems[i], List.getElem?_eq_getElem (by omega)⟩
    rw [hz, Option.bind_eq_some_iff] at h1
    obtain ⟨cs, h2, h3⟩ := h1
    obtain ⟨y, hy, hk⟩ := ih n cs z (Nat.lt_succ_self _) h3 (by
     have hm : z.1 ∈ elems.map (·.1) := List.mem_map_of_mem (List.mem_of_getElem? hz)
     have := mem_le_bulk hm
     replace hbulk : Rows.uptoBulk (DataW.slice (elems.map (·.1)) (rest.map (·.1))) ≤ 1048576 := hbulk
     rw [Rows.uptoBulk] at hbulk
     omega)
    exact ⟨cs, y, h2, hy, hk⟩
   have pick : ∀ m, m ≤ len → ∃ ys : List α, ys.length = m ∧ ∀ i y, ys[i]? = some y → (∃ cs, w.cells? base (a.add (i * P.cellsOf e)) (P.cellsOf e) = some cs ∧ d.K w y cs) ∧ okv y := by
    intro m
    induction m with
    | zero => exact fun _ => ⟨[], rfl, fun i y hy => by simp at hy⟩
    | succ m ihm =>
     intro hm
     obtain ⟨ys, hy1, hy2⟩ := ihm (by omega)
     obtain ⟨cs, y, h1, h2, h3⟩ := each m (by omega)
     refine ⟨ys ++ [y], by simp [hy1], fun i z hz => ?_⟩
     rcases Nat.lt_or_ge i m with hi | hi
     · rw [List.getElem?_append_left (by omega)] at hz
       exact hy2 i z hz
     · rw [List.getElem?_append_right (by omega), hy1] at hz
       have : i = m := by
        rcases Nat.lt_or_ge m i with h | h
        · rw [List.getElem?_eq_none (by simp; omega)] at hz; simp at hz
        · omega
       subst this
       simp at hz
       subst hz
       exact ⟨⟨cs, h1, h2⟩, h3⟩
   obtain ⟨ys, hy1, hy2⟩ := pick len (Nat.le_refl _)
   have hll : len ≤ 1048576 := by
    have := length_le_bulk (elems.map (·.1))
    rw [List.length_map, hel0] at this
    replace hbulk : Rows.uptoBulk (DataW.slice (elems.map (·.1)) (rest.map (·.1))) ≤ 1048576 := hbulk
    rw [Rows.uptoBulk] at hbulk
    omega
   refine ⟨some a, cap, ys, by rw [hy1], by omega, by omega, ⟨rfl, by unfold maxLen at hm; omega, fun _ => ⟨a, rfl, fun j p hj => ?_⟩⟩, fun y hy => ?_⟩
   · obtain ⟨⟨cs, h1, h2⟩, _⟩ := hy2 j p hj
     obtain ⟨_, h4, h5⟩ := World.cells?_some h1
     refine ⟨cs, by rw [hsz]; exact h4, h2, fun i u hu => ?_⟩
     have hi : i < P.cellsOf e := by have := (List.getElem?_eq_some_iff.1 hu).1; omega
     have := h5 i hi
     rw [hu] at this
     rw [← this, hsz, Addr.add_add]
   · obtain ⟨i, hi⟩ := List.getElem?_of_mem hy
     exact (hy2 i y hi).2
end
theorem field_at {H : Type} {enc : TypeId × Value → H} {P : Program} {w : World} {base : Nat} {spare : Nat → Bool} {held : Bool} {n : Nat} {cs : List Value} {xs : List (DataW H × List MemPlace)} {fs : Array Field}
 (hf : ∀ (i : Nat) (f : Field), fs[i]? = some f → DataW.trod enc P w base spare held n f.type ((cs.drop f.offset).take (P.cellsOf f.type)) = xs[i]?) (i t off k : Nat) (h : (fs[i]?).map (fun f => (f.type, f.offset)) = some (t, off)) (hk : P.cellsOf t = k) :
 DataW.trod enc P w base spare held n t ((cs.drop off).take k) = xs[i]? := by
 obtain ⟨f, h1, h2⟩ := Option.map_eq_some_iff.1 h
 simp only [Prod.mk.injEq] at h2
 obtain ⟨rfl, rfl⟩ := h2
 subst hk
 exact hf i f h1
section
variable {H : Type} {enc : TypeId × Value → H} {w : World} {base : Nat} {spare : Nat → Bool} {held : Bool}
theorem open_val : ∀ (fuel : Nat) (cs : List Value) (x : DataW H × List MemPlace), DataW.trod enc Tryz.prog w base spare held fuel 28 cs = some x → Rows.uptoBulk x.1 ≤ 1048576 → ∃ y : S28, k28.K w y cs ∧ OkV y := by
 intro fuel
 induction fuel using Nat.strongRecOn with
 | _ fuel ih =>
  intro cs x h hbulk
  obtain ⟨xs, n, rfl, rfl, hlen, hxl, hf⟩ := DataW.trod_struct Tryz.underlying28 h
  replace hbulk : Rows.uptoBulk (DataW.agg (xs.map (·.1))) ≤ 1048576 := hbulk
  rw [Rows.uptoBulk] at hbulk
  have part : ∀ (i : Nat) y, xs[i]? = some y → Rows.uptoBulk y.1 ≤ 1048576 := fun i y hy => by
   have := mem_le_bulk (List.mem_map_of_mem (f := (·.1)) (List.mem_of_getElem? hy))
   omega
  have hsz : Tryz.prog.cellsOf 28 = 7 := by kernel_rfl
  rw [hsz] at hlen
  obtain ⟨c0, c1, c2, c3, c4, c5, c6, rfl⟩ := list7 hlen
  have e3 : Tryz.prog.cellsOf 3 = 1 := by kernel_rfl
  have e24 : Tryz.prog.cellsOf 24 = 3 := by kernel_rfl
  have e9 : Tryz.prog.cellsOf 9 = 1 := by kernel_rfl
  have e25 : Tryz.prog.cellsOf 25 = 1 := by kernel_rfl
  have e26 : Tryz.prog.cellsOf 26 = 1 := by kernel_rfl
  have q0 : DataW.trod enc Tryz.prog w base spare held n 3 [c0] = xs[0]? := field_at hf 0 3 0 1 rfl e3
  have q1 : DataW.trod enc Tryz.prog w base spare held n 24 [c1, c2, c3] = xs[1]? := field_at hf 1 24 1 3 rfl e24
  have q2 : DataW.trod enc Tryz.prog w base spare held n 9 [c4] = xs[2]? := field_at hf 2 9 4 1 rfl e9
  have q3 : DataW.trod enc Tryz.prog w base spare held n 25 [c5] = xs[3]? := field_at hf 3 25 5 1 rfl e25
  have q4 : DataW.trod enc Tryz.prog w base spare held n 26 [c6] = xs[4]? := field_at hf 4 26 6 1 rfl e26
  obtain ⟨y0, g0⟩ : ∃ y, xs[0]? = some y := ⟨xs[0]'(by rw [hxl]; decide), List.getElem?_eq_getElem _⟩
  obtain ⟨y1, g1⟩ : ∃ y, xs[1]? = some y := ⟨xs[1]'(by rw [hxl]; decide), List.getElem?_eq_getElem _⟩
  obtain ⟨y2, g2⟩ : ∃ y, xs[2]? = some y := ⟨xs[2]'(by rw [hxl]; decide), List.getElem?_eq_getElem _⟩
  obtain ⟨y3, g3⟩ : ∃ y, xs[3]? = some y := ⟨xs[3]'(by rw [hxl]; decide), List.getElem?_eq_getElem _⟩
  obtain ⟨y4, g4⟩ : ∃ y, xs[4]? = some y := ⟨xs[4]'(by rw [hxl]; decide), List.getElem?_eq_getElem _⟩
  rw [g0] at q0
  rw [g1] at q1
  rw [g2] at q2
  rw [g3] at q3
  rw [g4] at q4
  obtain ⟨n0, p0, _, w0⟩ := DataW.trod_int Tryz.underlying3 q0
  obtain ⟨s, p2, hy2, _⟩ := DataW.trod_string Tryz.underlying9 q2
  have w2 : s.size ≤ 1073741824 := by
   have := part _ _ g2
   rw [hy2] at this
   replace this : Rows.uptoBulk (DataW.lit (.string s.data.toList) : DataW H) ≤ 1048576 := this
   rw [Rows.uptoBulk, Array.length_toList] at this
   have : s.size = s.data.size := rfl
   omega
  obtain ⟨zs, m, rfl, hy1, _, hzl, hz⟩ := DataW.trod_struct Tryz.underlying24 q1
  have e4 : Tryz.prog.cellsOf 4 = 1 := by kernel_rfl
  have e22 : Tryz.prog.cellsOf 22 = 1 := by kernel_rfl
  have r0 : DataW.trod enc Tryz.prog w base spare held m 4 [c1] = zs[0]? := field_at hz 0 4 0 1 rfl e4
  have r1 : DataW.trod enc Tryz.prog w base spare held m 22 [c2] = zs[1]? := field_at hz 1 22 1 1 rfl e22
  have r2 : DataW.trod enc Tryz.prog w base spare held m 3 [c3] = zs[2]? := field_at hz 2 3 2 1 rfl e3
  obtain ⟨z0, t0⟩ : ∃ y, zs[0]? = some y := ⟨zs[0]'(by rw [hzl]; decide), List.getElem?_eq_getElem _⟩
  obtain ⟨z1, t1⟩ : ∃ y, zs[1]? = some y := ⟨zs[1]'(by rw [hzl]; decide), List.getElem?_eq_getElem _⟩
  obtain ⟨z2, t2⟩ : ∃ y, zs[2]? = some y := ⟨zs[2]'(by rw [hzl]; decide), List.getElem?_eq_getElem _⟩
  rw [t0] at r0
  rw [t1] at r1
  rw [t2] at r2
  have hb1 := part _ _ g1
  rw [hy1] at hb1
  replace hb1 : Rows.uptoBulk (DataW.agg (zs.map (·.1))) ≤ 1048576 := hb1
  rw [Rows.uptoBulk] at hb1
  have hbz : Rows.uptoBulk z1.1 ≤ 1048576 := by
   have := mem_le_bulk (List.mem_map_of_mem (f := (·.1)) (List.mem_of_getElem? t1))
   omega
  obtain ⟨b, b0, _⟩ := DataW.trod_bool Tryz.underlying4 r0
  obtain ⟨ex, b2, _, w3⟩ := DataW.trod_int Tryz.underlying3 r2
  obtain ⟨A1, k1, co, b1, l1, m1, C1, ok1⟩ := open_row (d := Kd.int .u32) (okv := fun n => (Lit.int .u32 n).wf = true) Tryz.underlying22 (by kernel_rfl) (fun n cs x _ hx _ => by
   obtain ⟨v, rfl, _, hv⟩ := DataW.trod_int Tryz.underlying131 hx
   exact ⟨v, rfl, hv⟩) hbz r1
  obtain ⟨A3, k3, li, b3, l3, m3, C3, ok3⟩ := open_row (d := k28) (okv := OkV) Tryz.underlying25 (by rw [hsz]; rfl) (fun n cs x hn hx hb => ih n (by omega) cs x hx hb) (part _ _ g3) q3
  obtain ⟨A4, k4, ke, b4, l4, m4, C4, ok4⟩ := open_row (d := Kd.string) (okv := fun s => s.size ≤ 1073741824) Tryz.underlying26 (by kernel_rfl) (fun n cs x _ hx hb => by
   obtain ⟨v, rfl, rfl, hv⟩ := DataW.trod_string Tryz.underlying9 hx
   replace hb : Rows.uptoBulk (DataW.lit (.string v.data.toList) : DataW H) ≤ 1048576 := hb
   rw [Rows.uptoBulk, Array.length_toList] at hb
   exact ⟨v, rfl, by have : v.size = v.data.size := rfl; omega⟩) (part _ _ g4) q4
  simp only [List.cons.injEq, and_true] at p0 p2 b0 b1 b2 b3 b4
  subst p0 p2 b0 b1 b2 b3 b4
  exact ⟨⟨n0, ⟨b, co, ex⟩, s, li, ke⟩, k28_mk w ⟨n0, ⟨b, co, ex⟩, s, li, ke⟩ l1 C1 l3 C3 l4 C4, OkV.mk _ w0 ok1 w3 w2 ok4 (by simp only; omega) (by simp only; omega) (by simp only; omega) ok3⟩
end
end Go.Proofs.YthigbklhngihkaaGreatDoor.P

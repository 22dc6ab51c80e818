import Derived.Test.YthigbklhngihkaaGreatDoorMOrderOwnh
import Derived.Deep.MidRow
import Derived.Test.YthigbklhngihkaaGreatDoorMOrderOwng
import Derived.WalkLawsBesides
set_option linter.unusedVariables false
set_option linter.unusedSimpArgs false
set_option maxRecDepth 100000
namespace Go.Proofs.YthigbklhngihkaaGreatDoor.P
open Go.RowKit Go.Shelf Go.Proofs.YthigbklhngihkaaGreatDoorW.PrintWords Go.Proofs.YthigbklhngihkaaGreatDoorW.PrintMore Go.Proofs.YthigbklhngihkaaGreatDoorW.PrintLast
set_option maxHeartbeats 4000000 in
theorem div_less (A B : Option Addr) (ca cb : Nat) (a b : List Int) (w : World) (hCa : Kd.C (Kd.int .u32) w A a.length a) (hca : a.length ≤ ca) (hCb : Kd.C (Kd.int .u32) w B b.length b) (hcb : b.length ≤ cb) (hab : canon a ∧ canon b) (hz : a.length ≤ 268435456) (hzb : b.length ≤ 268435456) (hlt : val a < val b) :
 Calls Tryz.prog 297 #[.slice A a.length ca, .slice B b.length cb] w fun e w' => ∃ v0_ v1_ : Value, e = .returned (.tuple #[v0_, v1_]) ∧ Kd.R (Kd.int .u32) 131 w' w.heap.size (fun k_ => some k_ ≠ (v1_ : Value).ownBlock) v0_ (limbs (val a / val b)) ∧ Kd.R (Kd.int .u32) 131 w' w.heap.size (fun k_ => some k_ ≠ (v0_ : Value).ownBlock) v1_ (limbs (val a % val b)) ∧ Below w.heap.size w w' := by
 have HCa := Lib.hid hCa
 have HCb := Lib.hid hCb
 have HF : Hid (nat_num_compare.f a b = some (-1)) := Lib.hid (by unfold nat_num_compare.f; rw [if_pos ⟨hab, by omega, by omega⟩]; unfold cmpI; rw [if_pos (by omega)])
 have HE : Hid (slices_Clone_num_uint32.f a = some a) := Lib.hid (by unfold slices_Clone_num_uint32.f; rw [if_pos (by omega)])
 have hq : limbs (val a / val b) = [] := by rw [Nat.div_eq_of_lt hlt, limbs_zero]
 have hr : limbs (val a % val b) = a := by rw [Nat.mod_eq_of_lt hlt]; exact hab.1
 clear hCa hCb
 go_enter Tryz.func297, Tryz.ntmps297
 go_wp2_with fail
 refine (nat_num_compare.calls A ca a B cb b _ _ HCa.out hca HCb.out hcb HF.out).mono ?_
 rintro e w1 ⟨rfl, hb1⟩
 have HB1 := Lib.hid hb1
 clear hb1
 go_wp2_with fail
 refine (slices_Clone_num_uint32.calls A ca a a _ (Kd.C_below HCa.out HB1.out) hca HE.out).mono ?_
 rintro e w2 ⟨v, rfl, hR, hb2⟩
 have HR := Lib.hid hR
 have HB2 := Lib.hid hb2
 clear hb2 hR
 go_wp2
 go_ret2
 refine ⟨_, _, rfl, ?_, ?_, HB1.out.trans (HB2.out.mono HB1.out.size)⟩
 · rw [hq]; exact Kd.R_nil _ _ _ _ _
 · rw [hr]; exact Kd.R_mono (Kd.R_lower HR.out HB1.out.size) (fun k _ => by simp [Value.ownBlock])
theorem R_other {w : World} {base : Nat} {v : Value} {l : List Int} {ok : Nat → Prop} (h : Kd.R (Kd.int .u32) 131 w base ok v l) : Kd.R (Kd.int .u32) 131 w base (fun k => ok k ∧ base ≤ k ∧ k < w.heap.size) v l := Kd.R_mono (Kd.R_bound h) (fun k hk => ⟨hk.1, hk.2.1, hk.2.2.1⟩)
set_option maxHeartbeats 4000000 in
theorem div_one (A B : Option Addr) (ca cb : Nat) (a : List Int) (y : Int) (w : World) (hCa : Kd.C (Kd.int .u32) w A a.length a) (hca : a.length ≤ ca) (hCb : Kd.C (Kd.int .u32) w B [y].length [y]) (hcb : [y].length ≤ cb) (hab : canon a ∧ canon [y]) (hz : a.length ≤ 268435456) (hge : ¬ val a < val [y]) :
 Calls Tryz.prog 297 #[.slice A a.length ca, .slice B [y].length cb] w fun e w' => ∃ v0_ v1_ : Value, e = .returned (.tuple #[v0_, v1_]) ∧ Kd.R (Kd.int .u32) 131 w' w.heap.size (fun k_ => some k_ ≠ (v1_ : Value).ownBlock) v0_ (limbs (val a / val [y])) ∧ Kd.R (Kd.int .u32) 131 w' w.heap.size (fun k_ => some k_ ≠ (v0_ : Value).ownBlock) v1_ (limbs (val a % val [y])) ∧ Below w.heap.size w w' := by
 have hy := canon_okL hab.2
 rw [okL_cons] at hy
 have hy0 : y ≠ 0 := by have := canon_last hab.2 (by simp); simpa using this
 have hvy : val [y] = y.toNat := by simp [val]
 obtain ⟨c, hc, hc0⟩ : ∃ c : Int, cmpI (val a) (val [y]) = c ∧ ¬ c < 0 := ⟨_, rfl, by unfold cmpI; rw [if_neg (by omega)]; split <;> omega⟩
 have HF : Hid (nat_num_compare.f a [y] = some c) := Lib.hid (by unfold nat_num_compare.f; rw [if_pos ⟨hab, by omega, by simp⟩, hc])
 have HS : Hid (nat_num_small.f a y = some (limbs (val a / val [y]), ((val a % val [y] : Nat) : Int))) := Lib.hid (by unfold nat_num_small.f; rw [if_pos ⟨canon_okL hab.1, by omega, by omega, by omega⟩, hvy])
 have hmb : val a % val [y] < 4294967296 := Nat.lt_trans (Nat.mod_lt _ (by rw [hvy]; omega)) (by rw [hvy]; omega)
 have HOK : Hid (okL [((val a % val [y] : Nat) : Int)]) := Lib.hid (by rw [okL_cons]; exact ⟨by omega, okL_nil⟩)
 have HV : Hid (val [((val a % val [y] : Nat) : Int)] = val a % val [y]) := Lib.hid (by generalize val a % val [y] = z; simp [val])
 obtain ⟨ad, rfl, hx⟩ := Kd.at_int hCb (0 : Int) (by omega) (by simp)
 have hxy : rd [y] 0 = y := rfl
 rw [hxy] at hx
 have had : ad.add (Int.toNat 0) = ad := by simp [Addr.add]
 rw [had] at hx
 have HX := Lib.hid hx
 have HCa := Lib.hid hCa
 have HCb := Lib.hid hCb
 generalize val a % val [y] = r at *
 generalize limbs (val a / val [y]) = qs at *
 clear hCa hCb hx hxy hc hge hy hy0 hvy
 simp only [List.length_cons, List.length_nil, Nat.zero_add] at *
 go_enter Tryz.func297, Tryz.ntmps297
 go_wp2_with fail
 refine (nat_num_compare.calls A ca a (some ad) cb [y] _ _ HCa.out hca HCb.out hcb HF.out).mono ?_
 rintro e w1 ⟨rfl, hb1⟩
 have HB1 := Lib.hid hb1
 have hx1 : w1.cell? ad = some (.int .u32 y) := pw_cell_below hb1 HX.out
 clear hb1
 go_wp2_with fail
 refine (nat_num_small.calls A ca a y _ _ _ (Kd.C_below HCa.out HB1.out) hca HS.out).mono ?_
 rintro e w2 ⟨v, rfl, hR, hb2⟩
 have HR := Lib.hid (R_other hR)
 have HB2 := Lib.hid hb2
 clear hb2 hR
 go_wp2_with fail
 have ho : (w2.alloc (.cells #[.int .u32 (r : Int)] 131)).ownsRow w2.heap.size 131 1 (.slice (some ⟨w2.heap.size, 0, none⟩) 1 1) 1 (nums .u32 [(r : Int)]) := own_lit w2 w2.heap.size 131 .u32 [(r : Int)] (Nat.le_refl _) (by simp)
 have hR1 : Kd.R (Kd.int .u32) 131 (w2.alloc (.cells #[.int .u32 (r : Int)] 131)) w2.heap.size (fun k => w2.heap.size ≤ k) (.slice (some ⟨w2.heap.size, 0, none⟩) [(r : Int)].length 1) [(r : Int)] := Kd.R_of_own (enc := Value.int .u32) ho (fun k hk => by simp [Value.ownBlock] at hk; omega)
 have HR1 := Lib.hid hR1
 clear ho hR1
 refine (trim_det (some ⟨w2.heap.size, 0, none⟩) 1 [(r : Int)] _ (Kd.R_reads' HR1.out).2.2 (Nat.le_refl _) HOK.out (by simp)).mono ?_
 rintro e w3 ⟨rfl, rfl⟩
 go_wp2
 go_ret2
 have hb1 := HB1.out
 have hb2 := HB2.out
 have hs1 := hb1.size
 have hs2 := hb2.size
 refine ⟨v, _, rfl, ?_, ?_, (hb1.trans (hb2.mono hs1)).alloc (by omega) _⟩
 · refine Kd.R_mono (Kd.R_alloc (Kd.R_lower HR.out hs1) _) fun k hk => ?_
   unfold trimV
   split
   · simp [Value.ownBlock]
   · simp [Value.ownBlock]; omega
 · obtain ⟨t1, t2⟩ := limbs_take HOK.out
   have := trimV_R HR1.out HOK.out t1 t2
   rw [HV.out] at this
   refine Kd.R_mono (Kd.R_lower this (by omega)) fun k hk he => ?_
   have := HR.out.1 k he.symm
   omega
end Go.Proofs.YthigbklhngihkaaGreatDoor.P
namespace Go.Proofs.YthigbklhngihkaaGreatDoor.P
open Go.RowKit Go.Proofs.YthigbklhngihkaaGreatDoorW.PrintWords Go.Proofs.YthigbklhngihkaaGreatDoorW.PrintMore Go.Proofs.YthigbklhngihkaaGreatDoorW.PrintLast
theorem bcells {W w1 : World} {g : Nat} {cs : Array Value} {t : Nat} (hg : W.heap[g]? = some (.cells cs t (0, 0))) (hb : Below W.heap.size W w1) : (∀ i, w1.cell? ⟨g, i, none⟩ = cs[i]?) ∧ (∀ i, w1.frozen? ⟨g, i, none⟩ = false) :=
 ⟨fun i => (hb.cell (p := ⟨g, i, none⟩) (blk_lt hg)).trans (blk_cell hg i), fun i => (hb.frozen (p := ⟨g, i, none⟩) (blk_lt hg)).trans (blk_frozen hg i)⟩
theorem blk_below2 {W w1 : World} {g : Nat} {o : Obj} (hg : W.heap[g]? = some o) (hb : Below W.heap.size W w1) : w1.heap[g]? = some o := (hb.block g (blk_lt hg)).trans hg
theorem box3_out {X : World} {g t : Nat} {o0 o1 o2 : Value} (h : X.heap[g]? = some (.cells #[o0, o1, o2] t (0, 0))) (v0 v1 v2 : Value) : (((X.setCell ⟨g, 0, none⟩ v0).setCell ⟨g, 1, none⟩ v1).setCell ⟨g, 2, none⟩ v2).heap[g]? = some (.cells #[v0, v1, v2] t (0, 0)) := by
 have h1 := blk_set (blk_set (blk_set h 0 v0) 1 v1) 2 v2
 rw [h1]
 rfl
theorem cells3 {W : World} {g t : Nat} {v0 v1 v2 : Value} (h : W.heap[g]? = some (.cells #[v0, v1, v2] t (0, 0))) : W.cell? ⟨g, 0, none⟩ = some v0 ∧ W.cell? ⟨g, 1, none⟩ = some v1 ∧ W.cell? ⟨g, 2, none⟩ = some v2 := ⟨blk_cell h 0, blk_cell h 1, blk_cell h 2⟩
section
variable {P : Program} {md : Region.Mode} {ops : Array Oper} {Q : Exit → Act → World → Prop}
def okB (md : Region.Mode) (ops : Array Oper) (listed : Array Bool) (i : Nat) : Bool := Region.noSelect ops && Region.free md ops listed i && (Region.ready md ops listed).contains i
theorem okB_out {listed : Array Bool} {i : Nat} (h : okB md ops listed i = true) : Region.noSelect ops = true ∧ Region.free md ops listed i = true ∧ (Region.ready md ops listed).contains i = true := by
 unfold okB at h
 rw [Bool.and_eq_true, Bool.and_eq_true] at h
 exact ⟨h.1.1, h.1.2, h.2⟩
theorem put_lit {o : Oper} {k : Nat} (hd : o.dst = some k) (l : List Value) (d : List Deferred) (v : Value) : Act.put ⟨l.toArray, d⟩ o.dst v = ⟨(l.set k v).toArray, d⟩ := by rw [hd]; simp [Act.put]
theorem tk (i : Nat) {k : Nat} {oi : Oper} {v : Value} {fuel : Nat} {listed : Array Bool} {l : List Value} {d : List Deferred} {w : World} (hi : ops[i]? = some oi) (hd : oi.dst = some k) (hk : okB md ops listed i = true) (hQ : ∀ c a w, Q (.panic c) (a.put oi.dst v) w → Q (.panic c) a w) (hw : Region.wanted oi (yielded ops l.toArray) = true) (hy : ∀ w, (execOp (Act.eval ⟨l.toArray, d⟩) oi).run P w = .ok (.value v) w)
 (h : wpAny P md ops Q fuel (listed.setIfInBounds i true) ⟨(l.set k v).toArray, d⟩ w) : wpAny P md ops Q (fuel + 1) listed ⟨l.toArray, d⟩ w :=
 wpAny_take hi (okB_out hk).1 (okB_out hk).2.1 (okB_out hk).2.2 hQ (.inl ⟨hw, hy⟩) (by rw [put_lit hd]; exact h)
theorem sk (i : Nat) {k : Nat} {oi : Oper} {fuel : Nat} {listed : Array Bool} {l : List Value} {d : List Deferred} {w : World} (hi : ops[i]? = some oi) (hd : oi.dst = some k) (hk : okB md ops listed i = true) (hQ : ∀ c a w, Q (.panic c) (a.put oi.dst undef) w → Q (.panic c) a w) (hw : Region.wanted oi (yielded ops l.toArray) = false)
 (h : wpAny P md ops Q fuel (listed.setIfInBounds i true) ⟨(l.set k undef).toArray, d⟩ w) : wpAny P md ops Q (fuel + 1) listed ⟨l.toArray, d⟩ w :=
 wpAny_take hi (okB_out hk).1 (okB_out hk).2.1 (okB_out hk).2.2 hQ (.inr ⟨hw, rfl⟩) (by rw [put_lit hd]; exact h)
theorem one (i : Nat) {oi : Oper} {fuel : Nat} {listed : Array Bool} {a : Act} {w : World} (hi : ops[i]? = some oi) (hr : Region.ready md ops listed = [i]) (hw : Region.wanted oi (yielded ops a.tmps) = true)
 (h : ∀ K : Act → World → Prop, (∀ a w, wpAny P md ops Q fuel (listed.setIfInBounds i true) a w → K a w) → Oper.wp P oi a w K Q) : wpAny P md ops Q (fuel + 1) listed a w :=
 wpAny_ready hr (by simp) (AllReady.cons hi (fun K hK => by rw [if_pos hw]; exact h K hK) AllReady.nil)
theorem two (i j : Nat) {oi oj : Oper} {fuel : Nat} {listed : Array Bool} {a : Act} {w : World} (hi : ops[i]? = some oi) (hj : ops[j]? = some oj) (hr : Region.ready md ops listed = [i, j]) (hwi : Region.wanted oi (yielded ops a.tmps) = true) (hwj : Region.wanted oj (yielded ops a.tmps) = true)
 (h1 : ∀ K : Act → World → Prop, (∀ a w, wpAny P md ops Q fuel (listed.setIfInBounds i true) a w → K a w) → Oper.wp P oi a w K Q) (h2 : ∀ K : Act → World → Prop, (∀ a w, wpAny P md ops Q fuel (listed.setIfInBounds j true) a w → K a w) → Oper.wp P oj a w K Q) : wpAny P md ops Q (fuel + 1) listed a w :=
 wpAny_ready hr (by simp) (AllReady.cons hi (fun K hK => by rw [if_pos hwi]; exact h1 K hK) (AllReady.cons hj (fun K hK => by rw [if_pos hwj]; exact h2 K hK) AllReady.nil))
theorem three (i j k : Nat) {oi oj ok : Oper} {fuel : Nat} {listed : Array Bool} {a : Act} {w : World} (hi : ops[i]? = some oi) (hj : ops[j]? = some oj) (hk : ops[k]? = some ok) (hr : Region.ready md ops listed = [i, j, k]) (hwi : Region.wanted oi (yielded ops a.tmps) = true) (hwj : Region.wanted oj (yielded ops a.tmps) = true) (hwk : Region.wanted ok (yielded ops a.tmps) = true)
 (h1 : ∀ K : Act → World → Prop, (∀ a w, wpAny P md ops Q fuel (listed.setIfInBounds i true) a w → K a w) → Oper.wp P oi a w K Q) (h2 : ∀ K : Act → World → Prop, (∀ a w, wpAny P md ops Q fuel (listed.setIfInBounds j true) a w → K a w) → Oper.wp P oj a w K Q) (h3 : ∀ K : Act → World → Prop, (∀ a w, wpAny P md ops Q fuel (listed.setIfInBounds k true) a w → K a w) → Oper.wp P ok a w K Q) : wpAny P md ops Q (fuel + 1) listed a w :=
 wpAny_ready hr (by simp) (AllReady.cons hi (fun K hK => by rw [if_pos hwi]; exact h1 K hK) (AllReady.cons hj (fun K hK => by rw [if_pos hwj]; exact h2 K hK) (AllReady.cons hk (fun K hK => by rw [if_pos hwk]; exact h3 K hK) AllReady.nil)))
end
theorem tq (i : Nat) {P : Program} {md : Region.Mode} {ops : Array Oper} {Q : Exit → Act → World → Prop} {k : Nat} {oi : Oper} {v : Value} {fuel : Nat} {listed : Array Bool} {l : List Value} {d : List Deferred} {w : World} (hi : ops[i]? = some oi := by rfl) (hd : oi.dst = some k := by rfl) (hk : okB md ops listed i = true := by kernel_rfl) (hQ : ∀ c a w, Q (.panic c) (a.put oi.dst v) w → Q (.panic c) a w := by exact fun _ _ _ h => h) (hw : Region.wanted oi (yielded ops l.toArray) = true := by rfl) (hy : ∀ w, (execOp (Act.eval ⟨l.toArray, d⟩) oi).run P w = .ok (.value v) w := by intro w_; go_simp; try with_reducible rfl)
    (h : wpAny P md ops Q fuel (listed.setIfInBounds i true) ⟨(l.set k v).toArray, d⟩ w) : wpAny P md ops Q (fuel + 1) listed ⟨l.toArray, d⟩ w := tk i hi hd hk hQ hw hy h
theorem sq (i : Nat) {P : Program} {md : Region.Mode} {ops : Array Oper} {Q : Exit → Act → World → Prop} {k : Nat} {oi : Oper} {fuel : Nat} {listed : Array Bool} {l : List Value} {d : List Deferred} {w : World} (hi : ops[i]? = some oi := by rfl) (hd : oi.dst = some k := by rfl) (hk : okB md ops listed i = true := by kernel_rfl) (hQ : ∀ c a w, Q (.panic c) (a.put oi.dst undef) w → Q (.panic c) a w := by exact fun _ _ _ h => h) (hw : Region.wanted oi (yielded ops l.toArray) = false := by rfl)
    (h : wpAny P md ops Q fuel (listed.setIfInBounds i true) ⟨(l.set k undef).toArray, d⟩ w) : wpAny P md ops Q (fuel + 1) listed ⟨l.toArray, d⟩ w := sk i hi hd hk hQ hw h
theorem lst {α : Type} : (∀ (a b : α) (l : List α), (a :: l).set 0 b = b :: l) ∧ ∀ (a : α) (l : List α) (n : Nat) (b : α), (a :: l).set (n + 1) b = a :: l.set n b := ⟨fun _ _ _ => rfl, fun _ _ _ _ => rfl⟩
theorem lgt {α : Type} : (∀ (l : List α) (i : Nat) (h : i < l.toArray.size), l.toArray[i]'h = l[i]'(by simpa using h)) ∧ (∀ (a : α) (l : List α) (i : Nat) (h : i + 1 < (a :: l).length), (a :: l)[i + 1]'h = l[i]'(by simpa using h)) ∧ ∀ (a : α) (l : List α) (h : 0 < (a :: l).length), (a :: l)[0]'h = a := ⟨fun _ _ _ => rfl, fun _ _ _ _ => rfl, fun _ _ _ => rfl⟩
end Go.Proofs.YthigbklhngihkaaGreatDoor.P
namespace Go.Proofs.YthigbklhngihkaaGreatDoor.P
open Go.RowKit Go.Proofs.YthigbklhngihkaaGreatDoorW.PrintWords Go.Proofs.YthigbklhngihkaaGreatDoorW.PrintMore Go.Proofs.YthigbklhngihkaaGreatDoorW.PrintLast
theorem limbs_ten : limbs 10 = [10] := by rw [limbs_pos (by omega), show 10 / 4294967296 = 0 by omega, limbs_zero]; rfl
theorem From_ten (w : World) : Calls Tryz.prog 105 #[.int .u64 10] w fun e w' => ∃ v : Value, e = .returned v ∧ Kd.R (Kd.int .u32) 131 w' w.heap.size (fun _ => True) v [10] ∧ Below w.heap.size w w' := by
 have ho : (w.alloc (.cells #[.int .u32 10, .int .u32 0] 131)).ownsRow w.heap.size 131 1 (.slice (some ⟨w.heap.size, 0, none⟩) 2 2) 2 (nums .u32 [10, 0]) := own_lit w w.heap.size 131 .u32 [10, 0] (Nat.le_refl _) (by simp)
 have hR : Kd.R (Kd.int .u32) 131 (w.alloc (.cells #[.int .u32 10, .int .u32 0] 131)) w.heap.size (fun _ => True) (.slice (some ⟨w.heap.size, 0, none⟩) ([10, 0] : List Int).length 2) [10, 0] := Kd.R_of_own (enc := Value.int .u32) ho (fun _ _ => trivial)
 have HOK : okL [10, 0] := by decide
 have hv : val [10, 0] = 10 := by decide
 obtain ⟨t1, t2⟩ := limbs_take HOK
 have h2 := trimV_R hR HOK t1 t2
 rw [hv, limbs_ten] at h2
 have HR := Lib.hid h2
 have HT := Lib.hid (trim_det (some ⟨w.heap.size, 0, none⟩) 2 [10, 0] _ (Kd.R_reads' hR).2.2 (Nat.le_refl _) HOK (by simp))
 clear ho hR HOK hv t1 t2 h2
 go_enter Tryz.func105, Tryz.ntmps105
 go_wp2_with fail
 refine HT.out.mono ?_
 rintro e w1 ⟨rfl, rfl⟩
 go_wp2
 go_ret
 exact ⟨_, rfl, HR.out, (Below.refl _ _).alloc (Nat.le_refl _) _⟩
theorem Div_ten (l : List Int) (A : Option Addr) (c : Nat) (B : Option Addr) (d : Nat) (w : World) (hC : Kd.C (Kd.int .u32) w A l.length l) (hc : l.length ≤ c) (hD : Kd.C (Kd.int .u32) w B ([10] : List Int).length [10]) (hd : ([10] : List Int).length ≤ d) (hcan : canon l) (hl : l.length ≤ 256) :
 Calls Tryz.prog 267 #[.slice A l.length c, .slice B 1 d] w fun e w' => ∃ v0 v1 : Value, e = .returned (.tuple #[v0, v1, .int .i64 0]) ∧ Kd.R (Kd.int .u32) 131 w' w.heap.size (fun _ => True) v1 (limbs (val l % 10)) ∧ Below w.heap.size w w' := by
 have hct : canon [10] := by rw [← limbs_ten]; exact canon_limbs 10
 have hvt : val [10] = 10 := by decide
 have ht : tw l [10] = 0 := (tw_ok (canon_okL hcan) (canon_okL hct)).2 ⟨⟨hl, hcan⟩, by simp, hct⟩
 have H2 : Hid (Calls Tryz.prog 224 #[.slice A l.length c, .slice B 1 d] w fun e w' => e = .returned (.int .i64 0) ∧ Below w.heap.size w w') := Lib.hid (nat_two.calls 3 A c l B d [10] 0 w hC hc hD hd (by rw [two_f l [10] (by omega) (by simp) 3 (by omega), ht]))
 have HD : Hid (∀ W, Below w.heap.size w W → Calls Tryz.prog 297 #[.slice A l.length c, .slice B 1 d] W fun e w' => ∃ v0 v1 : Value, e = .returned (.tuple #[v0, v1]) ∧ Kd.R (Kd.int .u32) 131 w' W.heap.size (fun _ => True) v1 (limbs (val l % 10)) ∧ Below W.heap.size W w') := Lib.hid (fun W hW => by
  by_cases hlt : val l < val [10]
  · refine (div_less A B c d l [10] W (Kd.C_below hC hW) hc (Kd.C_below hD hW) hd ⟨hcan, hct⟩ (by omega) (by simp) hlt).mono ?_
    rintro e w' ⟨v0, v1, rfl, _, h1, hb⟩
    rw [hvt] at h1
    exact ⟨v0, v1, rfl, Kd.R_mono h1 (fun _ _ => trivial), hb⟩
  · refine (div_one A B c d l 10 W (Kd.C_below hC hW) hc (Kd.C_below hD hW) hd ⟨hcan, hct⟩ (by omega) (by omega)).mono ?_
    rintro e w' ⟨v0, v1, rfl, _, h1, hb⟩
    rw [hvt] at h1
    exact ⟨v0, v1, rfl, Kd.R_mono h1 (fun _ _ => trivial), hb⟩)
 generalize limbs (val l % 10) = q at *
 clear hC hc hD hd hcan hl hct hvt ht
 go_enter Tryz.func267, Tryz.ntmps267
 go_wp2_with (first
  | (go_at_call 224; (with_reducible refine (H2.out).mono ?_); rintro e w1 ⟨rfl, hB1⟩; have HB1 := Lib.hid hB1; clear hB1)
  | (go_at_call 297; (with_reducible refine (HD.out _ HB1.out).mono ?_); rintro e w2 ⟨v0, v1, rfl, hR2, hB2⟩; have HR2 := Lib.hid hR2; have HB2 := Lib.hid hB2; clear hR2 hB2))
 exact bodyPost_ret (v := .tuple #[v0, v1, .int .i64 0]) (by simp [results, Tryz.f267, go_sem]) rfl ⟨_, _, rfl, Kd.R_lower HR2.out HB1.out.size, HB1.out.trans (HB2.out.mono HB1.out.size)⟩
theorem ten_any (l : List Int) (A : Option Addr) (c : Nat) (w : World) (hC : Kd.C (Kd.int .u32) w A l.length l) (hc : l.length ≤ c) (hcan : canon l) (hl : l.length ≤ 256) :
 Calls Tryz.prog 220 #[.slice A l.length c] w fun e w' => ∃ v : Value, e = .returned (.tuple #[v, .bool (decide (val l % 10 = 0))]) ∧ Below w.heap.size w w' := by
 have HD : Hid (∀ W B d, Below w.heap.size w W → Kd.C (Kd.int .u32) W B ([10] : List Int).length [10] → 1 ≤ d → Calls Tryz.prog 267 #[.slice A l.length c, .slice B 1 d] W fun e w' => ∃ v0 v1 : Value, e = .returned (.tuple #[v0, v1, .int .i64 0]) ∧ Kd.R (Kd.int .u32) 131 w' W.heap.size (fun _ => True) v1 (limbs (val l % 10)) ∧ Below W.heap.size W w') := Lib.hid (fun W B d hW hD hd => Div_ten l A c B d W (Kd.C_below hC hW) hc hD hd hcan hl)
 have HB : Hid ((((limbs (val l % 10)).length : Int) == 0) = decide (val l % 10 = 0)) := Lib.hid (by
  by_cases h : val l % 10 = 0
  · rw [h, limbs_zero]; rfl
  · rw [limbs_pos h]
    simp only [List.length_cons, h, decide_false]
    rw [beq_eq_false_iff_ne]
    omega)
 generalize decide (val l % 10 = 0) = b at *
 generalize limbs (val l % 10) = q at *
 clear hC hc hcan hl
 go_enter Tryz.func220, Tryz.ntmps220
 go_wp2_with (first
  | (go_at_call 105; refine (From_ten _).mono ?_; rintro e w1 ⟨v1, rfl, hR1, hB1⟩; obtain ⟨B1, d1, rfl⟩ := Kd.R_slice hR1; have HR1 := Lib.hid hR1; have HB1 := Lib.hid hB1; clear hR1 hB1)
  | (go_at_call 267; refine (HD.out _ _ _ HB1.out (Kd.R_reads' HR1.out).2.2 (Kd.R_reads' HR1.out).2.1).mono ?_; rintro e w2 ⟨v0, v2, rfl, hR2, hB2⟩; obtain ⟨B2, d2, rfl⟩ := Kd.R_slice hR2; have HB2 := Lib.hid hB2; clear hR2 hB2))
 rw [HB.out]
 go_ret2
 exact ⟨_, rfl, HB1.out.trans (HB2.out.mono HB1.out.size)⟩
def RevTo (l : List Int) (i : Nat) (ys : List Int) : Prop := ys.length = l.length ∧ ∀ k, k < l.length → ys.getD k 0 = if k < i ∨ l.length ≤ k + i then l.getD (l.length - 1 - k) 0 else l.getD k 0
theorem RevTo.step {l ys : List Int} {i j : Nat} (h : RevTo l i ys) (hj : i + j + 1 = l.length) (hij : i < j) : RevTo l (i + 1) ((ys.set i (ys.getD j 0)).set j (ys.getD i 0)) := by
 refine ⟨by simp [h.1], fun k hk => ?_⟩
 have hl := h.1
 have ei := h.2 i (by omega)
 have ej := h.2 j (by omega)
 have ek := h.2 k hk
 have hi2 : l.length - 1 - i = j := by omega
 have hj2 : l.length - 1 - j = i := by omega
 rw [if_neg (by omega)] at ei ej
 rw [List.getD_eq_getElem?_getD, List.getElem?_set, List.getElem?_set]
 by_cases h1 : j = k
 · subst h1
   rw [if_pos rfl, if_pos (by simp; omega), if_pos (by omega), hj2, ← ei]
   rfl
 · rw [if_neg h1]
   by_cases h2 : i = k
   · subst h2
     rw [if_pos rfl, if_pos (by omega), if_pos (by omega), hi2, ← ej]
     rfl
   · rw [if_neg h2, ← List.getD_eq_getElem?_getD, ek]
     by_cases h3 : k < i ∨ l.length ≤ k + i
     · rw [if_pos h3, if_pos (by omega)]
     · rw [if_neg h3, if_neg (by omega)]
theorem RevTo.done {l ys : List Int} {i j : Nat} (h : RevTo l i ys) (hj : i + j + 1 = l.length) (hij : ¬ i < j) (hle : i ≤ j + 1) : ys = l.reverse := by
 refine List.ext_getElem (by simp [h.1]) fun k h1 h2 => ?_
 have hk : k < l.length := by rw [← h.1]; exact h1
 have := h.2 k hk
 rw [List.getElem_reverse]
 rw [List.getD_eq_getElem?_getD, List.getElem?_eq_getElem h1] at this
 refine Eq.trans this ?_
 by_cases h3 : k < i ∨ l.length ≤ k + i
 · rw [if_pos h3, List.getD_eq_getElem?_getD, List.getElem?_eq_getElem (by omega)]
   rfl
 · rw [if_neg h3, List.getD_eq_getElem?_getD, List.getElem?_eq_getElem hk]
   show l[k] = _
   congr 1
   omega
set_option maxHeartbeats 2000000 in
theorem reverse_any (g cap base : Nat) (l : List Int) (W : World) (h : Kd.R (Kd.int .u8) 5 W base (fun _ => True) (.slice (some ⟨g, 0, none⟩) l.length cap) l) (hl : l.length ≤ 1048576) (h0 : 0 < l.length) :
 Calls Tryz.prog 230 #[.slice (some ⟨g, 0, none⟩) l.length cap] W fun e w' => e = .returned (.tuple #[]) ∧ Kd.R (Kd.int .u8) 5 w' base (fun _ => True) (.slice (some ⟨g, 0, none⟩) l.length cap) l.reverse ∧ Below base W w' := by
 have hbg : base ≤ g := Kd.R_base h g rfl
 obtain ⟨n, hn⟩ : ∃ n, n = l.length := ⟨_, rfl⟩
 have HN := Lib.hid hn
 rw [← hn]
 rw [← hn] at h hl h0
 have HR := Lib.hid h
 have HG := Lib.hid hbg
 clear h hbg hn
 go_enter Tryz.func230, Tryz.ntmps230
 go_wp2
 go_loopw [2, 3] (fun vi vj wr => ∃ (i j : Nat) (ys : List Int), vi = .int .i64 i ∧ vj = .int .i64 j ∧ i + j + 1 = n ∧ i ≤ j + 1 ∧ Hid (RevTo l i ys) ∧ Hid (Kd.R (Kd.int .u8) 5 wr base (fun _ => True) (.slice (some ⟨g, 0, none⟩) n cap) ys) ∧ Hid (Below base W wr)) (fun vi vj _ => n - (intOf vi).toNat)
 case atStart => exact ⟨0, n - 1, l, rfl, congrArg (Value.int .i64) (by omega), by omega, by omega, Lib.hid ⟨rfl, fun k hk => by
  by_cases h3 : k < 0 ∨ l.length ≤ k + 0
  · omega
  · rw [if_neg h3]⟩, HR, Lib.hid (Below.refl _ _)⟩
 case round =>
  obtain ⟨i, j, ys, rfl, rfl, hij, hle, HV, HRr, HB⟩ := hrel
  have HIJ := Lib.hid hij
  by_cases hlt : i < j
  · have hlt2 : (i : Int) < (j : Int) := by omega
    have hin : (i : Int) < (n : Int) := by omega
    have hjn : (j : Int) < (n : Int) := by omega
    have hi0 : (0 : Int) ≤ (i : Int) := by omega
    have hj0 : (0 : Int) ≤ (j : Int) := by omega
    have hne : i ≠ j := by omega
    have hi4 : (i : Int) ≤ 1048576 := by omega
    have hj4 : (j : Int) ≤ 1048576 := by omega
    have hj5 : (1 : Int) ≤ (j : Int) := by omega
    obtain ⟨c1, f1⟩ := Kd.R_celln (0 : Int) HRr.out (i : Int) (by omega) (by omega)
    obtain ⟨c2, f2⟩ := Kd.R_celln (0 : Int) HRr.out (j : Int) (by omega) (by omega)
    rw [Int.toNat_natCast] at c1 f1 c2 f2
    have e1 : rdOf (0 : Int) ys (i : Int) = ys.getD i 0 := by unfold rdOf; rw [Int.toNat_natCast]
    have e2 : rdOf (0 : Int) ys (j : Int) = ys.getD j 0 := by unfold rdOf; rw [Int.toNat_natCast]
    rw [e1] at c1
    rw [e2] at c2
    have hp1 := Kd.R_putn (Kd.R_drew HRr.out) (i : Int) (ys.getD j 0)
    have hp2 := Kd.R_putn hp1 (j : Int) (ys.getD i 0)
    rw [Int.toNat_natCast] at hp1 hp2
    rw [Int.toNat_natCast] at hp2
    have HP := Lib.hid hp2
    have HBN : Hid (Below base W ((wr.drew.setCell ⟨g, i, none⟩ (.int .u8 (ys.getD j 0))).setCell ⟨g, j, none⟩ (.int .u8 (ys.getD i 0)))) := Lib.hid (((below_drew HB.out).setCell (p := ⟨g, i, none⟩) HG.out _).setCell (p := ⟨g, j, none⟩) HG.out _)
    have HV2 : Hid (RevTo l (i + 1) ((ys.set i (ys.getD j 0)).set j (ys.getD i 0))) := Lib.hid (HV.out.step (by rw [HIJ.out, HN.out]) hlt)
    generalize ys.getD i 0 = xi at *
    generalize ys.getD j 0 = xj at *
    clear hp1 hp2 e1 e2 hij hle HV HRr
    go_upto_region 3 with (fail)
    refine wp_region_any (by kernel_rfl) ?_
    change wpAny _ _ _ _ _ _ _ (World.drew _)
    refine tq 0 (h := ?_)
    refine tq 1 (h := ?_)
    simp only [lst]
    refine tq 2 (h := ?_)
    refine tq 3 (h := ?_)
    simp only [lst]
    refine tq 4 (h := ?_)
    refine tq 5 (h := ?_)
    simp only [lst]
    refine tq 6 (h := ?_)
    refine tq 8 (h := ?_)
    simp only [lst]
    refine tq 9 (h := ?_)
    refine tq 10 (h := ?_)
    simp only [lst]
    refine two 7 11 rfl rfl (by kernel_rfl) (by rfl) (by rfl) (fun K_ hK_ => ?_) (fun K_ hK_ => ?_)
    simp only [lgt]
    go_simp
    refine hK_ _ _ ?_
    clear hK_ K_
    refine one 11 rfl (by kernel_rfl) (by rfl) fun K_ hK_ => ?_
    simp only [lgt]
    go_simp
    refine hK_ _ _ ?_
    clear hK_ K_
    refine tq 12 (h := ?_)
    simp only [lst]
    refine one 13 rfl (by kernel_rfl) (by rfl) fun K_ hK_ => ?_
    simp only [lgt]
    go_simp
    refine hK_ _ _ ?_
    clear hK_ K_
    refine tq 14 (h := ?_)
    simp only [lst]
    refine one 15 rfl (by kernel_rfl) (by rfl) fun K_ hK_ => ?_
    simp only [lgt]
    go_simp
    refine hK_ _ _ ?_
    clear hK_ K_
    refine wpAny_done (by kernel_rfl) ?_ _
    rotate_left
    simp only [lgt]
    go_simp
    refine hK_ _ _ ?_
    clear hK_ K_
    refine one 7 rfl (by kernel_rfl) (by rfl) fun K_ hK_ => ?_
    simp only [lgt]
    go_simp
    refine hK_ _ _ ?_
    clear hK_ K_
    refine tq 12 (h := ?_)
    simp only [lst]
    refine one 13 rfl (by kernel_rfl) (by rfl) fun K_ hK_ => ?_
    simp only [lgt]
    go_simp
    refine hK_ _ _ ?_
    clear hK_ K_
    refine tq 14 (h := ?_)
    simp only [lst]
    refine one 15 rfl (by kernel_rfl) (by rfl) fun K_ hK_ => ?_
    simp only [lgt]
    go_simp
    refine hK_ _ _ ?_
    clear hK_ K_
    refine wpAny_done (by kernel_rfl) ?_ _
    rotate_left
    all_goals
     have HIJ2 : Hid (i + 1 + (j - 1) + 1 = n ∧ i + 1 ≤ j - 1 + 1 ∧ (j : Int) - 1 = ((j - 1 : Nat) : Int)) := Lib.hid ⟨by have := HIJ.out; omega, by omega, by omega⟩
     clear c1 f1 c2 f2
     go_wp2_with fail
     go_roundw
     case rel => exact ⟨i + 1, j - 1, _, by go_num, congrArg (Value.int .i64) HIJ2.out.2.2, HIJ2.out.1, HIJ2.out.2.1, HV2, HP, HBN⟩
     case measure => simp [intOf]; omega
  · have hlt2 : ¬ (i : Int) < (j : Int) := by omega
    have HD : Hid (ys = l.reverse) := Lib.hid (HV.out.done (by rw [HIJ.out, HN.out]) hlt hle)
    go_wp2
    exact bodyPost_end (v := .tuple #[]) (by simp [results, Tryz.f230, go_sem]) rfl ⟨rfl, by rw [← HD.out]; exact HRr.out, HB.out⟩
theorem infoB_ : (Tryz.prog.info? 5).map (fun i => (i.zero, i.size, i.bytes)) = some (some (.int .u8 0), (Kd.int .u8).sz, 1) := by kernel_rfl
def p9 (i : Nat) : Nat := 10 ^ (9 - i)
theorem p9_succ {i : Nat} (h : i < 9) : p9 i = 10 * p9 (i + 1) := by
 unfold p9
 rw [show 9 - i = (9 - (i + 1)) + 1 by omega, Nat.pow_succ, Nat.mul_comm]
theorem num_step (q p r : Nat) (h : r < 10 * p) : (q * (10 * p) + r) / 10 = q * p + r / 10 ∧ (q * (10 * p) + r) % 10 = r % 10 ∧ r / 10 < p := by
 rw [show q * (10 * p) = 10 * (q * p) by rw [Nat.mul_left_comm]]
 generalize q * p = t
 omega
theorem asc_step {m : Nat} (h : m ≠ 0) (o : List Int) (N : Nat) (ho : o ++ asc m = asc N) : (o ++ [48 + ((m % 10 : Nat) : Int)]) ++ asc (m / 10) = asc N := by
 rw [asc_pos h] at ho
 rw [← ho]
 simp
set_option maxHeartbeats 4000000 in
theorem Print_any (l : List Int) (A : Option Addr) (c : Nat) (w : World) (hC : Kd.C (Kd.int .u32) w A l.length l) (hc : l.length ≤ c) (hcan : canon l) (hl : l.length ≤ 256) :
 Calls Tryz.prog 181 #[.slice A l.length c] w fun e w' => e = .returned (.tuple #[.string (text (val l)), .int .i64 0]) ∧ Below w.heap.size w w' := by
 have hck : chk l = 0 := (chk_ok (canon_okL hcan)).2 ⟨hl, hcan⟩
 have HCK := Lib.hid (nat_Check.calls A c l 0 w hC hc (by rw [check_f l (by omega), hck]))
 obtain ⟨N, hN⟩ : ∃ N, N = val l := ⟨_, rfl⟩
 have hlen := decs_256 (canon_okL hcan) hl
 rw [← hN] at hlen
 rw [← hN]
 have hlN : l = limbs N := by rw [hN]; exact hcan.symm
 have HLEN : Hid (∀ o m, o ++ asc m = asc N → o.length ≤ 2467) := Lib.hid (fun o m h => by
  have := congrArg List.length h
  rw [List.length_append, asc_len, asc_len] at this
  omega)
 have HNL : Hid (∀ m, m ≤ N → (limbs m).length ≤ 256) := Lib.hid (fun m hm => limbs_len (Nat.lt_of_le_of_lt hm (by rw [hN]; exact val_256 (canon_okL hcan) hl)))
 have HC := Lib.hid hC
 have HHC := Lib.hid hc
 have HL := Lib.hid hlN
 clear hC hc hcan hl hck hN hlen hlN
 go_enter Tryz.func181, Tryz.ntmps181
 go_wp2_with (first | (go_at_call 219; (with_reducible refine (HCK.out).mono ?_); rintro e w1 ⟨rfl, hD1⟩; obtain ⟨n1, rfl⟩ := hD1.out; clear hD1))
 go_loopg [5, 6] N (fun gk vo vl wr => ∃ (o : List Int) (G : Option Addr) (cap : Nat) (B : Option Addr) (d nl : Nat), vo = .slice G o.length cap ∧ vl = .slice B nl d ∧ gk ≤ N ∧ Hid (nl = (limbs gk).length ∧ nl ≤ d ∧ Kd.C (Kd.int .u32) wr B nl (limbs gk)) ∧ Hid (Kd.R (Kd.int .u8) 5 wr w.heap.size (fun _ => True) (.slice G o.length cap) o) ∧ Hid (o ++ asc gk = asc N) ∧ Below w.heap.size w wr)
 case atStart => exact ⟨[], none, 0, A, c, l.length, rfl, rfl, Nat.le_refl _, Lib.hid (by rw [← HL.out]; exact ⟨rfl, HHC.out, Kd.C_drewN HC.out _⟩), Lib.hid (Kd.R_nil _ _ _ _ _), Lib.hid rfl, pw_below_drewN (Below.refl _ _) _⟩
 case round =>
  obtain ⟨o, G, cap, B, d, nl, rfl, rfl, hgk, HB, HO, HE, hbw⟩ := hrel
  by_cases hm : gk = 0
  · subst hm
    have hz : nl = 0 := by rw [HB.out.1, limbs_zero]; rfl
    subst hz
    have hoE : o = asc N := by have := HE.out; rw [asc_zero, List.append_nil] at this; exact this
    have HOE := Lib.hid hoE
    have HBW := Lib.hid hbw
    clear HB HE hbw hoE
    by_cases hn : o.length = 0
    · have hn2 : ((o.length : Int) == 0) = true := by rw [hn]; rfl
      have HT : Hid (text N = ⟨#[48]⟩) := Lib.hid (by unfold text fin; rw [← HOE.out, if_pos hn])
      clear hn
      go_wp2
      exact bodyPost_ret (v := .tuple #[.string ⟨#[48]⟩, .int .i64 0]) (by simp [results, Tryz.f181, go_sem]) rfl ⟨by rw [HT.out], HBW.out⟩
    · have hn2 : ((o.length : Int) == 0) = false := by rw [beq_eq_false_iff_ne]; omega
      have HT : Hid (text N = strOfNums o.reverse) := Lib.hid (by unfold text fin; rw [← HOE.out, if_neg hn])
      obtain ⟨g, cap2, e, -⟩ := Kd.R_form HO.out (by omega)
      injection e with e1 e2 e3
      subst e1 e3
      have HRV := Lib.hid (reverse_any g cap w.heap.size o wr HO.out (by have := HLEN.out o 0 (by rw [asc_zero, List.append_nil]; exact HOE.out); omega) (by omega))
      clear hn
      go_wp2_with (first | (go_at_call 230; (with_reducible refine (HRV.out).mono ?_); rintro e w5 ⟨rfl, hR5, hB5⟩; have HB5 := Lib.hid (HBW.out.trans hB5); have hcv := Kd.C_string (P := Tryz.prog) (src := 247) (dst := 9) (e := 5) (c := cap) Tryz.underlying247 Tryz.underlying5 Tryz.underlying9 (by have := (Kd.R_reads' hR5).2.2; rw [List.length_reverse] at this; exact this); clear hR5 hB5))
      rw [← HT.out]
      go_ret2
      exact ⟨rfl, HB5.out⟩
  · have hpos : 0 < nl := by rw [HB.out.1, limbs_pos hm]; simp
    obtain ⟨r, hr⟩ : ∃ r, r = gk % 1000000000 := ⟨_, rfl⟩
    obtain ⟨q, hq⟩ : ∃ q, q = gk / 1000000000 := ⟨_, rfl⟩
    have hqr : gk = q * 1000000000 + r ∧ r < 1000000000 := by omega
    have hql : q < gk := by omega
    have HSM : Hid (Calls Tryz.prog 229 #[.slice B nl d, .int .u32 1000000000] wr fun e w' => ∃ v0_ : Value, e = .returned (.tuple #[v0_, .int .u32 (r : Nat)]) ∧ Kd.R (Kd.int .u32) 131 w' wr.heap.size (fun _ => True) v0_ (limbs q) ∧ Below wr.heap.size wr w') := Lib.hid (by
     obtain ⟨b1, b2, b3⟩ := HB.out
     have hle := HNL.out gk hgk
     subst b1
     exact nat_num_small.calls B d (limbs gk) 1000000000 (limbs q) (r : Nat) wr b3 b2 (by
      unfold nat_num_small.f
      rw [if_pos ⟨okL_limbs gk, by omega, by omega, by omega⟩, val_limbs, hq, hr]
      rfl))
    have HQR := Lib.hid hqr
    have HO2 := Lib.hid HO.out
    have HBW := Lib.hid hbw
    have HM := Lib.hid hm
    clear hqr hr hq hbw HB hm
    go_wp2_with (first | (go_at_call 229; (with_reducible refine (HSM.out).mono ?_); rintro e w2 ⟨v0, rfl, hR2, hB2⟩; obtain ⟨Q, dq, rfl⟩ := Kd.R_slice hR2; have HR2 := Lib.hid hR2; have HB2 := Lib.hid hB2; clear hR2 hB2))
    obtain ⟨nq, hnq⟩ : ∃ nq, nq = (limbs q).length := ⟨_, rfl⟩
    rw [← hnq]
    have HNQ := Lib.hid hnq
    clear hnq
    have HO3 : Hid (Kd.R (Kd.int .u8) 5 w2 w.heap.size (fun _ => True) (.slice G o.length cap) o) := Lib.hid (Kd.R_below HO2.out HB2.out)
    have HBW2 : Hid (Below w.heap.size w w2) := Lib.hid (HBW.out.trans (HB2.out.mono HBW.out.size))
    go_loopw [5, 8, 9] (fun vo vr vi w3 => ∃ (i s : Nat) (p : List Int) (G2 : Option Addr) (cap2 : Nat), i ≤ 9 ∧ s < 1000000000 ∧ vi = .int .i64 i ∧ vr = .int .u32 s ∧ vo = .slice G2 p.length cap2 ∧ Hid (s < p9 i ∧ q * p9 i + s ≤ N ∧ p ++ asc (q * p9 i + s) = asc N) ∧ Hid (Kd.R (Kd.int .u8) 5 w3 w.heap.size (fun _ => True) (.slice G2 p.length cap2) p) ∧ Hid (Kd.R (Kd.int .u32) 131 w3 w.heap.size (fun _ => True) (.slice Q nq dq) (limbs q) ∧ Below w.heap.size w w3)) (fun vo vr vi _ => 9 - (intOf vi).toNat)
    case atStart => exact ⟨0, r, o, G, cap, by omega, HQR.out.2, rfl, rfl, rfl, Lib.hid (by
     have hp : p9 0 = 1000000000 := rfl
     rw [hp, ← HQR.out.1]
     exact ⟨HQR.out.2, hgk, HE.out⟩), HO3, Lib.hid ⟨by rw [HNQ.out]; exact Kd.R_lower HR2.out HBW.out.size, HBW2.out⟩⟩
    case round =>
     obtain ⟨i, s, p, G2, cap2, hi, hs, rfl, rfl, rfl, HP, HRP, HB3⟩ := hrel
     have HEXIT : Hid ((q = 0 ∧ s = 0 ∨ i = 9) → p ++ asc q = asc N) := Lib.hid (fun h => by
      obtain ⟨p1, p2, p3⟩ := HP.out
      rcases h with ⟨rfl, rfl⟩ | rfl
      · rw [Nat.zero_mul, Nat.zero_add] at p3; exact p3
      · have h9 : p9 9 = 1 := rfl
        rw [h9] at p1 p3
        have hs0 : s = 0 := by omega
        rw [hs0, Nat.mul_one, Nat.add_zero] at p3
        exact p3)
     have HQ3 : Hid (nq = (limbs q).length ∧ nq ≤ dq ∧ Kd.C (Kd.int .u32) wr Q nq (limbs q)) := Lib.hid (by
      have := Kd.R_reads' HB3.out.1
      rw [HNQ.out] at this ⊢
      exact ⟨rfl, this.2.1, this.2.2⟩)
     have hqN : q ≤ N := by omega
     by_cases h9 : i < 9
     · have h9i : (i : Int) < 9 := by omega
       by_cases hz : q = 0 ∧ s = 0
       · have hX := HEXIT.out (.inl hz)
         have HX := Lib.hid hX
         have hnq : ¬ 0 < nq := by rw [HNQ.out, hz.1, limbs_zero]; simp
         have hs0 : ¬ (0 : Int) < (s : Int) := by omega
         clear hX HEXIT HP hz
         go_wp2
         go_roundg q
         case measure => exact hql
         case rel => exact ⟨p, G2, cap2, Q, dq, nq, rfl, rfl, hqN, HQ3, HRP, HX, HB3.out.2⟩
       · have hstep := num_step q (p9 (i + 1)) s (by rw [← p9_succ h9]; exact HP.out.1)
         have hm0 : q * p9 i + s ≠ 0 := by
          intro e
          have h1 : q * p9 i = 0 := by omega
          have h2 : 0 < p9 i := Nat.pow_pos (by omega)
          rcases Nat.mul_eq_zero.1 h1 with h3 | h3
          · exact hz ⟨h3, by omega⟩
          · omega
         have HN2 : Hid (s / 10 < p9 (i + 1) ∧ q * p9 (i + 1) + s / 10 ≤ N ∧ (p ++ [48 + (s : Int) % 10]) ++ asc (q * p9 (i + 1) + s / 10) = asc N) := Lib.hid (by
          have h1 := asc_step hm0 p N HP.out.2.2
          rw [p9_succ h9, hstep.1, hstep.2.1, show ((s % 10 : Nat) : Int) = (s : Int) % 10 by omega] at h1
          refine ⟨hstep.2.2, ?_, h1⟩
          have h2 := HP.out.2.1
          rw [p9_succ h9] at h2
          have := hstep.1
          omega)
         have hpl : p.length ≤ 2467 := HLEN.out _ _ HP.out.2.2
         have hs0 : (0 : Int) ≤ (s : Int) := by omega
         have HS1 := Lib.hid hs
         have HSZ : Hid (w.heap.size ≤ wr.heap.size) := Lib.hid HB3.out.2.size
         clear hstep hm0 HP HEXIT hs
         have hor : 0 < nq ∨ ¬ 0 < nq ∧ (0 : Int) < (s : Int) := by
          by_cases hq0 : q = 0
          · exact .inr ⟨by rw [HNQ.out, hq0, limbs_zero]; simp, by have : s ≠ 0 := fun e => hz ⟨hq0, e⟩; omega⟩
          · exact .inl (by rw [HNQ.out, limbs_pos hq0]; simp)
         clear hz
         rcases hor with hnq | ⟨hnq, hsp⟩
         all_goals
          go_wp2_with (at_builtin; refine Kd.R_append (Kd.int .u8) (w0 := w) w.heap.size rfl (.tmp 37) (.tmp 42) 247 5 (.int .u8 0) 1 rfl Tryz.underlying247 infoB_ rfl (by decide) (by decide) (.slice G2 p.length cap2) p _ _ (fun _ => True) (fun _ => False) rfl rfl rfl (fun _ h => h.elim) (fun _ _ => trivial) HRP.out HB3.out.2 HSZ.out (by omega) ?_; intro v1 w7 hR7 hB7 hg7 hat7; obtain ⟨G7, cap7, rfl⟩ := Kd.R_slice hR7)
          have HR7 := Lib.hid (Kd.R_over' HB3.out.1 (Kd.R_typed HRP.out) (by decide) hg7)
          have HO7 := Lib.hid hR7
          have HB7 := Lib.hid hB7
          clear hR7 hB7 hg7 hat7
          go_roundw
          case rel => exact ⟨i + 1, s / 10, p ++ [48 + (s : Int) % 10], G7, cap7, h9, by have := HS1.out; omega, by go_num, congrArg (Value.int .u32) (by have := HS1.out; omega), by rw [List.length_append]; rfl, HN2, HO7, Lib.hid ⟨HR7.out, HB7.out⟩⟩
          case measure => simp [intOf]; omega
     · obtain rfl : i = 9 := by omega
       have h9i : ¬ (((9 : Nat) : Int) < 9) := by omega
       have hX := HEXIT.out (.inr rfl)
       have HX := Lib.hid hX
       clear hX HEXIT HP
       go_wp2
       go_roundg q
       case measure => exact hql
       case rel => exact ⟨p, G2, cap2, Q, dq, nq, rfl, rfl, hqN, HQ3, HRP, HX, HB3.out.2⟩
abbrev D := S24
instance (l : List Int) : Decidable (canon l) := by unfold canon; infer_instance
def decDig : Nat := 300
def decTop : Nat := 10 ^ decDig
def decOkB (d : D) : Bool := decide (d.f1.length ≤ 40) && decide (canon d.f1) && (if d.f1.length = 0 then !d.f0 && d.f2 == 0 else decide (val d.f1 % 10 ≠ 0) && decide (val d.f1 < decTop) && decide (-1000 ≤ d.f2) && decide (d.f2 ≤ 1000))
def dchk (d : D) : Int := if decOkB d then 0 else 9
structure OkD (d : D) : Prop where
 limbs : okL d.f1
 exp : (Lit.int .i64 d.f2).wf = true
 len : d.f1.length ≤ 1073741824
theorem OkV.dec {x : V} (h : OkV x) : OkD x.f1 := by
 cases h with
 | mk _ h0 h1 h2 h3 h4 l1 => exact ⟨okL_of_wf h1, h2, l1⟩
theorem decs_lt_iff {n k : Nat} (h : n ≠ 0) : (decs n).length ≤ k ↔ n < 10 ^ k := by
 constructor
 · intro hl
   have := dval_lt (okD_decs n)
   rw [dval_decs] at this
   exact Nat.lt_of_lt_of_le this (Nat.pow_le_pow_right (by omega) hl)
 · exact decs_len
theorem digits_any (l : List Int) (A : Option Addr) (c : Nat) (w : World) (hC : Kd.C (Kd.int .u32) w A l.length l) (hc : l.length ≤ c) (hcan : canon l) (hl : l.length ≤ 256) (h0 : l.length ≠ 0) :
 Calls Tryz.prog 148 #[.slice A l.length c] w fun e w' => e = .returned (.int .i64 (decs (val l)).length) ∧ Below w.heap.size w w' := by
 have HP := Lib.hid (Print_any l A c w hC hc hcan hl)
 have hv : val l ≠ 0 := by intro e; unfold canon at hcan; rw [e, limbs_zero] at hcan; rw [← hcan] at h0; exact h0 rfl
 have hs : (text (val l)).size = (decs (val l)).length := by
  unfold text fin
  rw [if_neg (by rw [asc_len, decs_pos hv]; simp)]
  unfold strOfNums
  simp [asc_len, ByteArray.size]
 have HS : Hid (((text (val l)).size : Int) = ((decs (val l)).length : Int)) := Lib.hid (by rw [hs])
 have hn : ((l.length : Int) == 0) = false := by rw [beq_eq_false_iff_ne]; omega
 generalize text (val l) = t at *
 clear hC hc hcan hl h0 hv hs
 go_enter Tryz.func148, Tryz.ntmps148
 go_wp2_with (first | (go_at_call 181; (with_reducible refine (HP.out).mono ?_); rintro e w1 ⟨rfl, hB1⟩; have HB1 := Lib.hid hB1; clear hB1))
 exact bodyPost_ret (v := .int .i64 t.size) (by simp [results, Tryz.f148, go_sem]) rfl ⟨by rw [HS.out], HB1.out⟩
def CheckPost (x : Int) (w : World) (e : Ending) (w' : World) : Prop := e = .returned (.int .i64 x) ∧ Below w.heap.size w w'
set_option maxHeartbeats 2000000 in
theorem decCheck_any (d : D) (A : Option Addr) (c : Nat) (w : World) (hc : d.f1.length ≤ c) (hC : Kd.C (Kd.int .u32) w A d.f1.length d.f1) (hO : OkD d) :
 Calls Tryz.prog 172 #[.agg #[.bool d.f0, .slice A d.f1.length c, .int .i64 d.f2]] w fun e w' => e = .returned (.int .i64 (dchk d)) ∧ Below w.heap.size w w' := by
 have hlen := hO.len
 obtain ⟨W1, hW1⟩ : ∃ W1, W1 = w.alloc (.cells #[.bool d.f0, .slice A d.f1.length c, .int .i64 d.f2] 24) := ⟨_, rfl⟩
 have hb1 : Below w.heap.size w W1 := by rw [hW1]; exact (Below.refl _ _).alloc (Nat.le_refl _) _
 have hx1 : W1.heap[w.heap.size]? = some (.cells #[.bool d.f0, .slice A d.f1.length c, .int .i64 d.f2] 24 (0, 0)) := by rw [hW1]; exact blk_new _ _
 have HCK := Lib.hid (nat_Check.calls A c d.f1 (chk d.f1) W1 (Kd.C_below hC hb1) hc (by rw [check_f d.f1 (by omega)]))
 have HB1 := Lib.hid hb1
 have HX1 := Lib.hid hx1
 have HW1 := Lib.hid hW1
 obtain ⟨hc1, hf1⟩ := bcells hx1 (Below.refl _ _)
 clear hb1 hx1 hW1
 show Calls _ _ _ _ (CheckPost (dchk d) w)
 by_cases hk : chk d.f1 = 0
 · obtain ⟨h1, h2⟩ := (chk_ok hO.limbs).1 hk
   rw [hk] at HCK
   by_cases h40 : d.f1.length ≤ 40
   · have h40n : ¬ (40 : Int) < (d.f1.length : Int) := by omega
     by_cases h0 : d.f1.length = 0
     · have h0b : ((d.f1.length : Int) == 0) = true := by rw [h0]; rfl
       have hr : (d.f0 = true ∧ dchk d = 9) ∨ (d.f0 = false ∧ (d.f2 != 0) = true ∧ dchk d = 9) ∨ (d.f0 = false ∧ (d.f2 != 0) = false ∧ dchk d = 0) := by
        unfold dchk decOkB
        rw [if_pos h0]
        cases hn : d.f0 with
        | true => simp
        | false =>
         by_cases he : d.f2 = 0
         · simp [he, h40, h2]
         · simp [he]
       clear hk h1 h2 h40 h0 hC hc hO hlen
       generalize d.f0 = b0 at *
       rcases hr with ⟨rfl, hr⟩ | ⟨rfl, he, hr⟩ | ⟨rfl, he, hr⟩
       all_goals
        rw [hr]
        clear hr
        go_enter Tryz.func172, Tryz.ntmps172
        go_upto_region 1 with (fail)
        rw [← HW1.out]
        go_wp2_with (first | (go_at_call 219; (with_reducible refine (HCK.out).mono ?_); rintro e w1 ⟨rfl, hD1⟩; obtain ⟨n1, rfl⟩ := hD1.out; clear hD1))
        go_ret
        exact ⟨rfl, pw_below_drewN HB1.out _⟩
     · have h0b : ((d.f1.length : Int) == 0) = false := by rw [beq_eq_false_iff_ne]; omega
       have HT : Hid (∀ W, Below w.heap.size w W → Calls Tryz.prog 220 #[.slice A d.f1.length c] W fun e w' => ∃ v : Value, e = .returned (.tuple #[v, .bool (decide (val d.f1 % 10 = 0))]) ∧ Below W.heap.size W w') := Lib.hid (fun W hW => ten_any d.f1 A c W (Kd.C_below hC hW) hc h2 h1)
       have HG : Hid (∀ W, Below w.heap.size w W → Calls Tryz.prog 148 #[.slice A d.f1.length c] W fun e w' => e = .returned (.int .i64 (decs (val d.f1)).length) ∧ Below W.heap.size W w') := Lib.hid (fun W hW => digits_any d.f1 A c W (Kd.C_below hC hW) hc h2 h1 h0)
       have hv : val d.f1 ≠ 0 := by intro e; unfold canon at h2; rw [e, limbs_zero] at h2; rw [← h2] at h0; exact h0 rfl
       have hlen3 : (decs (val d.f1)).length ≤ 300 ↔ val d.f1 < decTop := decs_lt_iff (k := decDig) hv
       have hdk : dchk d = if decide (val d.f1 % 10 ≠ 0) && decide (val d.f1 < decTop) && decide (-1000 ≤ d.f2) && decide (d.f2 ≤ 1000) then 0 else 9 := by
        unfold dchk decOkB
        rw [if_neg h0]
        simp [h40, h2]
       have hr : ((decide (val d.f1 % 10 = 0)) = true ∧ dchk d = 9) ∨ ((decide (val d.f1 % 10 = 0)) = false ∧ (300 : Int) < ((decs (val d.f1)).length : Int) ∧ dchk d = 9) ∨ ((decide (val d.f1 % 10 = 0)) = false ∧ ¬ (300 : Int) < ((decs (val d.f1)).length : Int) ∧ d.f2 < -1000 ∧ dchk d = 9) ∨ ((decide (val d.f1 % 10 = 0)) = false ∧ ¬ (300 : Int) < ((decs (val d.f1)).length : Int) ∧ ¬ d.f2 < -1000 ∧ (1000 : Int) < d.f2 ∧ dchk d = 9) ∨ ((decide (val d.f1 % 10 = 0)) = false ∧ ¬ (300 : Int) < ((decs (val d.f1)).length : Int) ∧ ¬ d.f2 < -1000 ∧ ¬ (1000 : Int) < d.f2 ∧ dchk d = 0) := by
        rw [hdk]
        by_cases ht : val d.f1 % 10 = 0
        · simp [ht]
        · by_cases hg : (decs (val d.f1)).length ≤ 300
          · have hlt := hlen3.1 hg
            have hg2 : ¬ (300 : Int) < ((decs (val d.f1)).length : Int) := by omega
            by_cases hlo : d.f2 < -1000
            · have : ¬ (-1000 ≤ d.f2) := by omega
              exact .inr (.inr (.inl ⟨by simp [ht], hg2, hlo, by simp [this]⟩))
            · by_cases hhi : (1000 : Int) < d.f2
              · have : ¬ (d.f2 ≤ 1000) := by omega
                exact .inr (.inr (.inr (.inl ⟨by simp [ht], hg2, hlo, hhi, by simp [this]⟩)))
              · have a1 : -1000 ≤ d.f2 := by omega
                have a2 : d.f2 ≤ 1000 := by omega
                exact .inr (.inr (.inr (.inr ⟨by simp [ht], hg2, hlo, hhi, by simp [ht, hlt, a1, a2]⟩)))
          · have hlt : ¬ val d.f1 < decTop := fun h => hg (hlen3.2 h)
            exact .inr (.inl ⟨by simp [ht], by omega, by simp [hlt]⟩)
       generalize decide (val d.f1 % 10 = 0) = t at *
       generalize (decs (val d.f1)).length = dg at *
       clear hk h1 h2 h40 h0 hC hc hO hlen hv hlen3 hdk
       rcases hr with ⟨rfl, hr⟩ | ⟨rfl, g1, hr⟩ | ⟨rfl, g1, g2, hr⟩ | ⟨rfl, g1, g2, g3, hr⟩ | ⟨rfl, g1, g2, g3, hr⟩
       all_goals
        rw [hr]
        clear hr
        go_enter Tryz.func172, Tryz.ntmps172
        go_upto_region 1 with (fail)
        rw [← HW1.out]
        go_wp2_with (first
         | (go_at_call 219; (with_reducible refine (HCK.out).mono ?_); rintro e w1 ⟨rfl, hD1⟩; obtain ⟨n1, rfl⟩ := hD1.out; clear hD1; have HD2 := Lib.hid (pw_below_drewN HB1.out n1); have HX2 : Hid (_ = _) := Lib.hid (blk_below2 HX1.out (pw_below_drewN (Below.refl W1.heap.size W1) n1)))
         | (go_at_call 220; (with_reducible refine (HT.out _ HD2.out).mono ?_); rintro e w2 ⟨v2, rfl, hB2⟩; obtain ⟨hc2, hf2⟩ := bcells HX2.out hB2; have HX3 := Lib.hid (blk_below2 HX2.out hB2); have HB2 := Lib.hid (HD2.out.trans (hB2.mono HD2.out.size)); clear hB2)
         | (go_at_call 148; (with_reducible refine (HG.out _ HB2.out).mono ?_); rintro e w3 ⟨rfl, hB3⟩; obtain ⟨hc3, hf3⟩ := bcells HX3.out hB3; have HB2 := Lib.hid (HB2.out.trans (hB3.mono HB2.out.size)); clear hB3))
        go_ret
        exact ⟨rfl, HB2.out⟩
   · have h40p : (40 : Int) < (d.f1.length : Int) := by omega
     have hr : dchk d = 9 := by unfold dchk decOkB; simp [h40]
     rw [hr]
     clear hk h1 h2 h40 hr hC hc hO hlen
     go_enter Tryz.func172, Tryz.ntmps172
     go_upto_region 1 with (fail)
     rw [← HW1.out]
     go_wp2_with (first | (go_at_call 219; (with_reducible refine (HCK.out).mono ?_); rintro e w1 ⟨rfl, hD1⟩; obtain ⟨n1, rfl⟩ := hD1.out; clear hD1))
     go_ret
     exact ⟨rfl, pw_below_drewN HB1.out _⟩
 · have hr : dchk d = 9 := by
    unfold dchk decOkB
    have : ¬ (d.f1.length ≤ 40 ∧ canon d.f1) := fun hh => hk ((chk_ok hO.limbs).2 ⟨by omega, hh.2⟩)
    by_cases a : d.f1.length ≤ 40
    · simp [a, show ¬ canon d.f1 from fun hh => this ⟨a, hh⟩]
    · simp [a]
   rw [hr]
   have hk2 : (chk d.f1 != 0) = true := by simpa using hk
   generalize chk d.f1 = q at *
   clear hk hr hC hc hO hlen
   go_enter Tryz.func172, Tryz.ntmps172
   go_upto_region 1 with (fail)
   rw [← HW1.out]
   go_wp2_with (first | (go_at_call 219; (with_reducible refine (HCK.out).mono ?_); rintro e w1 ⟨rfl, hD1⟩; obtain ⟨n1, rfl⟩ := hD1.out; clear hD1))
   go_ret
   exact ⟨rfl, pw_below_drewN HB1.out _⟩
def txt (s : ByteArray) : Int := (value_letters.f s).getD 0
theorem txt_f {s : ByteArray} (h : s.size ≤ 1073741824) : value_letters.f s = some (txt s) := by
 have h1 : s.size ≤ 1152921504606846976 := by omega
 have : ∃ r, value_letters.f s = some r := by
  unfold value_letters.f utf_Check.f
  rw [if_pos h1]
  cases checkL (uitems s s.size 0) <;> simp <;> split <;> simp <;> split <;> simp
 obtain ⟨r, hr⟩ := this
 unfold txt
 rw [hr]; rfl
def vtextsUp (v : V) (k : Nat) : Int := (v.f4.take k).foldl (fun e s => if e = 0 then txt s else e) (txt v.f2)
def vtexts (v : V) : Int := vtextsUp v v.f4.length
theorem vtextsUp_succ (v : V) (k : Nat) (h : k < v.f4.length) : vtextsUp v (k + 1) = orL [vtextsUp v k, txt (rdOf ByteArray.empty v.f4 (k : Int))] := by
 unfold vtextsUp
 rw [List.take_succ_eq_append_getElem h, List.foldl_append]
 have e : rdOf ByteArray.empty v.f4 (k : Int) = v.f4[k] := by unfold rdOf; simp [h]
 rw [e]
 simp only [List.foldl_cons, List.foldl_nil, orL]
 split
 · split <;> simp [*]
 · rfl
set_option maxHeartbeats 1000000 in
theorem texts_any (x : V) (cs : List Value) (w : World) (hLD : LaidW w) (hK : k28.K w x cs) (hO : OkV x) :
 Calls Tryz.prog 137 #[.agg cs.toArray] w fun e w' => e = .returned (.int .i64 (vtexts x)) ∧ Below w.heap.size w w' := by
 obtain ⟨A2, c2, A5, c5, A6, c6, rfl, l2, g2, l5, g5, l6, g6⟩ := k28_open hK
 have HC := Lib.hid g6
 have hlen := g6.2.1
 have HL := Lib.hid hLD
 have ht2 : Hid (value_letters.f x.f2 = some (txt x.f2)) := Lib.hid (txt_f hO.text)
 have ht4 : Hid (∀ s ∈ x.f4, value_letters.f s = some (txt s)) := Lib.hid (fun s hs => txt_f (hO.keys s hs))
 clear l2 g2 l5 g5 l6 g6 hK hLD hO
 have e0 : vtextsUp x 0 = txt x.f2 := rfl
 have H0 := Lib.hid e0
 clear e0
 go_enter Tryz.func137, Tryz.ntmps137
 go_wp2_with (first | (go_at_call 171; (with_reducible refine (value_letters.calls x.f2 (txt x.f2) _ ?hl ht2.out).mono ?_); (case hl => exact HL.out.below ((Below.refl _ _).alloc (Nat.le_refl _) _)); rintro e w1 ⟨rfl, hB1⟩; have hB2 : Below w.heap.size w w1 := below_box (Below.refl _ _) (Nat.le_refl _) hB1; have hcl2 : w1.cell? ⟨w.heap.size, 6, none⟩ = some (.slice A6 x.f4.length c6) := pw_cell_below hB1 ((blk_cell (blk_new w _) _).trans rfl)))
 go_loopw [3, 12] (fun ve vi wr => ∃ k : Nat, k ≤ x.f4.length ∧ vi = .int .i64 k ∧ ve = .int .i64 (vtextsUp x k) ∧ Below w.heap.size w wr) (fun _ vi _ => x.f4.length - (intOf vi).toNat)
 case atStart => exact ⟨0, Nat.zero_le _, rfl, by rw [H0.out], hB2⟩
 case round =>
  obtain ⟨k, hk, rfl, rfl, hB⟩ := hrel
  have HB := Lib.hid hB
  clear hB hB2 hcl2 hB1
  by_cases hlt : k < x.f4.length
  · obtain ⟨ad, rfl, hx⟩ := Kd.at_string (Kd.C_below HC.out HB.out) (k : Int) (by omega) (by omega)
    rw [Int.toNat_natCast] at hx
    have hs := Lib.hid (vtextsUp_succ x k hlt)
    have hf : Hid (value_letters.f (rdOf ByteArray.empty x.f4 (k : Int)) = some (txt (rdOf ByteArray.empty x.f4 (k : Int)))) := Lib.hid (ht4.out _ (by unfold rdOf; simp [hlt]))
    have hw : wrap64 ((k : Int) + 1) = ((k + 1 : Nat) : Int) := by unfold wrap64; omega
    go_wp2_with (first | (go_at_call 171; (with_reducible refine (value_letters.calls _ _ _ ?hl hf.out).mono ?_); (case hl => exact HL.out.below HB.out); rintro e w2 ⟨rfl, hB2⟩) | (go_at_call 61; (with_reducible refine (or_err2 _ _ _ _).mono ?_); rintro e w3 ⟨rfl, rfl⟩))
    have hB3 : Below w.heap.size w w2 := HB.out.trans (hB2.mono HB.out.size)
    clear hB2
    go_roundw
    case rel => exact ⟨k + 1, by omega, by go_num, by rw [hs.out], hB3.alloc (by have := hB3.size; omega) _⟩
    case measure => simp [intOf]; omega
  · obtain rfl : k = x.f4.length := by omega
    go_wp2
    go_ret
    exact ⟨rfl, HB.out⟩
def strLe (a b : ByteArray) : Bool := Op.bytesLess a.toList b.toList || a.toList == b.toList
def vrisesUp (l : List ByteArray) (k : Nat) : Bool := (List.range k).all fun i => i == 0 || !strLe (l.getD i ByteArray.empty) (l.getD (i - 1) ByteArray.empty)
def vrises (l : List ByteArray) : Bool := vrisesUp l l.length
theorem vrisesUp_succ (l : List ByteArray) (k : Nat) : vrisesUp l (k + 1) = (vrisesUp l k && (k == 0 || !strLe (l.getD k ByteArray.empty) (l.getD (k - 1) ByteArray.empty))) := by
 unfold vrisesUp
 rw [List.range_succ, List.all_append]
 simp
theorem vrisesUp_false (l : List ByteArray) {k : Nat} (h : vrisesUp l k = false) : ∀ n, k ≤ n → vrisesUp l n = false := by
 intro n hn
 induction n with
 | zero => rw [show k = 0 by omega] at h; exact h
 | succ n ih =>
  rcases Nat.lt_or_ge n k with hlt | hge
  · rw [show k = n + 1 by omega] at h; exact h
  · rw [vrisesUp_succ, ih hge]; rfl
set_option maxHeartbeats 1000000 in
theorem rises_any (A : Option Addr) (c : Nat) (l : List ByteArray) (w : World) (hC : Kd.C Kd.string w A l.length l) :
 Calls Tryz.prog 140 #[.slice A l.length c] w fun e w' => e = .returned (.bool (vrises l)) ∧ Below w.heap.size w w' := by
 have HC := Lib.hid hC
 have hlen := hC.2.1
 clear hC
 go_enter Tryz.func140, Tryz.ntmps140
 go_wp2
 go_loopw [6] (fun vi wr => ∃ k : Nat, k ≤ l.length ∧ vi = .int .i64 k ∧ Hid (vrisesUp l k = true) ∧ Below w.heap.size w wr) (fun vi _ => l.length - (intOf vi).toNat)
 case atStart => exact ⟨0, Nat.zero_le _, rfl, Lib.hid rfl, Below.refl _ _⟩
 case round =>
  obtain ⟨k, hk, rfl, hu, hB⟩ := hrel
  have HB := Lib.hid hB
  clear hB
  by_cases hlt : k < l.length
  · by_cases h0 : k = 0
    · subst h0
      have hu1 : Hid (vrisesUp l 1 = true) := Lib.hid rfl
      go_wp2
      go_quiet (fail)
      go_wp2
      go_roundw
      case rel => exact ⟨1, by omega, rfl, hu1, pw_below_drewN HB.out _⟩
      case measure => simp [intOf]; omega
    · obtain ⟨j, hj⟩ : ∃ j, j + 1 = k := ⟨k - 1, by omega⟩
      obtain ⟨ad, rfl, hx⟩ := Kd.at_string (Kd.C_below HC.out HB.out) (k : Int) (by omega) (by omega)
      obtain ⟨ad', he, hy⟩ := Kd.at_string (Kd.C_below HC.out HB.out) (j : Int) (by omega) (by omega)
      obtain rfl := Option.some.inj he
      rw [Int.toNat_natCast] at hx hy
      have e1 : rdOf ByteArray.empty l (k : Int) = l.getD k ByteArray.empty := by unfold rdOf; rw [Int.toNat_natCast]
      have e2 : rdOf ByteArray.empty l (j : Int) = l.getD j ByteArray.empty := by unfold rdOf; rw [Int.toNat_natCast]
      rw [e1] at hx
      rw [e2] at hy
      have hs := vrisesUp_succ l k
      rw [hu.out, show (k == 0) = false by simpa using h0, show k - 1 = j by omega] at hs
      obtain ⟨a, ha⟩ : ∃ a, a = l.getD k ByteArray.empty := ⟨_, rfl⟩
      obtain ⟨b, hb⟩ : ∃ b, b = l.getD j ByteArray.empty := ⟨_, rfl⟩
      rw [← ha] at hx
      rw [← hb] at hy
      rw [← ha, ← hb] at hs
      have g0 : decide (0 < k) = true := by simp; omega
      have g3 : (k : Int) < (l.length : Int) := by omega
      have g5 : IntKind.i64.wrap ((k : Int) - 1) = (j : Int) := by rw [wrap_in _ (by omega)]; omega
      have g6 : (j : Int) < (l.length : Int) := by omega
      have hw : wrap64 ((k : Int) + 1) = ((k + 1 : Nat) : Int) := by unfold wrap64; omega
      clear ha hb hu e1 e2 h0 hj
      cases hle : strLe a b with
      | true =>
       rw [hle] at hs
       have hr : Hid (vrises l = false) := Lib.hid (vrisesUp_false l (by rw [hs]; simp) _ (by omega))
       have hle' : (Op.bytesLess a.toList b.toList || a.toList == b.toList) = true := hle
       clear hs hle
       go_wp2
       go_quiet (fail)
       go_wp2
       go_ret
       exact ⟨by rw [hr.out]; rfl, pw_below_drewN HB.out _⟩
      | false =>
       rw [hle] at hs
       have hr : Hid (vrisesUp l (k + 1) = true) := Lib.hid (by rw [hs]; simp)
       have hle' : (Op.bytesLess a.toList b.toList || a.toList == b.toList) = false := hle
       clear hs hle
       go_wp2
       go_quiet (fail)
       go_wp2
       go_roundw
       case rel => exact ⟨k + 1, by omega, by go_num, hr, pw_below_drewN HB.out _⟩
       case measure => simp [intOf]; omega
  · obtain rfl : k = l.length := by omega
    go_wp2
    go_ret
    exact ⟨by rw [show vrises l = true from hu.out]; rfl, HB.out⟩
def vnumbers (x : V) : Bool := if x.f0 = 3 then dchk x.f1 == 0 else !x.f1.f0 && x.f1.f1.length == 0 && x.f1.f2 == 0
set_option maxHeartbeats 1000000 in
theorem numbers_any (x : V) (cs : List Value) (w : World) (hK : k28.K w x cs) (hO : OkV x) :
 Calls Tryz.prog 138 #[.agg cs.toArray] w fun e w' => e = .returned (.bool (vnumbers x)) ∧ Below w.heap.size w w' := by
 obtain ⟨A2, c2, A5, c5, A6, c6, rfl, l2, g2, l5, g5, l6, g6⟩ := k28_open hK
 have HC := Lib.hid g2
 have HDC : Hid (∀ W, Below w.heap.size w W → Calls Tryz.prog 172 #[.agg #[.bool x.f1.f0, .slice A2 x.f1.f1.length c2, .int .i64 x.f1.f2]] W fun e w' => e = .returned (.int .i64 (dchk x.f1)) ∧ Below W.heap.size W w') := Lib.hid (fun W hW => decCheck_any x.f1 A2 c2 W l2 (Kd.C_below g2 hW) hO.dec)
 clear g2 l5 g5 l6 g6 hK hO
 by_cases h3 : x.f0 = 3
 · have hv : vnumbers x = (dchk x.f1 == 0) := by unfold vnumbers; rw [if_pos h3]
   have hb : (x.f0 == 3) = true := by simp [h3]
   rw [hv]
   clear h3 hv
   go_enter Tryz.func138, Tryz.ntmps138
   go_wp2_with (first | (go_at_call 172; (with_reducible refine (HDC.out _ ?hb).mono ?_); (case hb => exact (Below.refl _ _).alloc (Nat.le_refl _) _); rintro e w1 ⟨rfl, hB1⟩))
   go_ret
   exact ⟨rfl, below_box (Below.refl _ _) (Nat.le_refl _) hB1⟩
 · have hb : (x.f0 == 3) = false := by simpa using h3
   have hv : vnumbers x = (!x.f1.f0 && x.f1.f1.length == 0 && x.f1.f2 == 0) := by unfold vnumbers; rw [if_neg h3]
   rw [hv]
   clear h3 hv
   cases h0 : x.f1.f0 with
   | true =>
    go_enter Tryz.func138, Tryz.ntmps138
    go_wp2
    go_ret
    exact ⟨rfl, (Below.refl _ _).alloc (Nat.le_refl _) _⟩
   | false =>
    by_cases h1 : x.f1.f1.length = 0
    · have h1b : ((x.f1.f1.length : Int) == 0) = true := by simp [h1]
      rw [show (x.f1.f1.length == 0) = true by simp [h1]]
      clear h1
      go_enter Tryz.func138, Tryz.ntmps138
      go_wp2
      go_ret
      exact ⟨rfl, (Below.refl _ _).alloc (Nat.le_refl _) _⟩
    · have h1b : ((x.f1.f1.length : Int) == 0) = false := beq_eq_false_iff_ne.mpr (by omega)
      rw [show (x.f1.f1.length == 0) = false by simpa using h1]
      clear h1
      go_enter Tryz.func138, Tryz.ntmps138
      go_wp2
      go_ret
      exact ⟨rfl, (Below.refl _ _).alloc (Nat.le_refl _) _⟩
def vused (x : V) : Bool := (x.f0 == 4 || x.f2.toList.isEmpty) && (decide (5 ≤ x.f0) || (x.f3.length : Int) == 0) && (x.f4.length : Int) == if x.f0 == 6 then (x.f3.length : Int) else 0
set_option maxHeartbeats 4000000 in
theorem used_any (x : V) (cs : List Value) (w : World) (hK : k28.K w x cs) :
 Calls Tryz.prog 139 #[.agg cs.toArray] w fun e w' => e = .returned (.bool (vused x)) ∧ Below w.heap.size w w' := by
 obtain ⟨A2, c2, A5, c5, A6, c6, rfl, l2, g2, l5, g5, l6, g6⟩ := k28_open hK
 clear g2 l2 l5 g5 l6 g6 hK
 unfold vused
 obtain ⟨b6, h6⟩ : ∃ b, (x.f0 == 6) = b := ⟨_, rfl⟩
 obtain ⟨b4, h4⟩ : ∃ b, (x.f0 == 4) = b := ⟨_, rfl⟩
 obtain ⟨b5, h5⟩ : ∃ b, decide (5 ≤ x.f0) = b := ⟨_, rfl⟩
 obtain ⟨bt, ht⟩ : ∃ b, x.f2.toList.isEmpty = b := ⟨_, rfl⟩
 obtain ⟨b3, h3⟩ : ∃ b, ((x.f3.length : Int) == 0) = b := ⟨_, rfl⟩
 rw [h6, h4, h5, ht, h3]
 cases b6 with
 | true =>
  rw [if_pos rfl]
  have h4' : b4 = false := by subst h4; simp at h6 ⊢; omega
  have h5' : b5 = true := by subst h5; simp at h6 ⊢; omega
  subst h4' h5'
  obtain ⟨bk, hk⟩ : ∃ b, ((x.f4.length : Int) == (x.f3.length : Int)) = b := ⟨_, rfl⟩
  rw [hk]
  cases bt <;> cases bk <;>
  · go_enter Tryz.func139, Tryz.ntmps139
    go_wp2
    go_ret
    exact ⟨rfl, (Below.refl _ _).alloc (Nat.le_refl _) _⟩
 | false =>
  rw [if_neg (by simp)]
  obtain ⟨bk, hk⟩ : ∃ b, ((x.f4.length : Int) == 0) = b := ⟨_, rfl⟩
  rw [hk]
  cases b4 with
  | true =>
   have h5' : b5 = false := by subst h5; simp at h4 ⊢; omega
   subst h5'
   cases b3 <;> cases bk <;>
   · go_enter Tryz.func139, Tryz.ntmps139
     go_wp2
     go_ret
     exact ⟨rfl, (Below.refl _ _).alloc (Nat.le_refl _) _⟩
  | false =>
   cases b5 <;> cases bt <;> cases b3 <;> cases bk <;>
   · go_enter Tryz.func139, Tryz.ntmps139
     go_wp2
     go_ret
     exact ⟨rfl, (Below.refl _ _).alloc (Nat.le_refl _) _⟩
theorem infoS_ : (Tryz.prog.info? 9).map (fun i => (i.zero, i.size, i.bytes)) = some (some (.string ⟨#[]⟩), 1, 16) := by kernel_rfl
theorem infoU_ : (Tryz.prog.info? 131).map (fun i => (i.zero, i.size, i.bytes)) = some (some (.int .u32 0), 1, 4) := by kernel_rfl
theorem infoV_ : (Tryz.prog.info? 28).map (fun i => (i.zero, i.size, i.bytes)) = some (some (.agg #[(.int .i64 0), (.bool false), (.slice none 0 0), (.int .i64 0), (.string ⟨#[]⟩), (.slice none 0 0), (.slice none 0 0)]), 7, 112) := by kernel_rfl
theorem own_empty' (w : World) (e size : Nat) : (w.alloc (.cells #[] e)).ownsRow w.heap.size e size (.slice (some ⟨w.heap.size, 0, none⟩) 0 0) 0 [] :=
 ⟨by simp, .inr ⟨w.heap.size, 0, #[], rfl, Nat.le_refl _, heap_alloc_new _ _, Nat.le_refl _, by simp [maxLen], by simp, by simp⟩⟩
theorem C_none {α : Type} {d : Kd α} {w : World} {n : Nat} {xs : List α} (h : d.C w none n xs) : xs = [] := by
 rcases Nat.eq_zero_or_pos n with h0 | h0
 · exact List.eq_nil_of_length_eq_zero (h.1.trans h0)
 · obtain ⟨ad, e, _⟩ := h.2.2 h0; cases e
set_option maxHeartbeats 4000000 in
theorem clone_u32 (A : Option Addr) (c : Nat) (l : List Int) (w : World) (hr : Kd.C (Kd.int .u32) w A l.length l) (hc : l.length ≤ c) (hz : l.length ≤ 1073741824) :
 Calls Tryz.prog 106 #[.slice A l.length c] w fun e w' => ∃ v0_ : Value, e = .returned (v0_) ∧ Kd.R (Kd.int .u32) 131 w' w.heap.size (fun _ => True) v0_ l ∧ Below w.heap.size w w' := by
 have HR := Lib.hid hr
 clear hr
 cases A with
 | none =>
  obtain rfl := C_none HR.out
  have hq := _root_.Go.run_eql_slice_nil (P := Tryz.prog) (w := w) (t := 22) (e := 131) (a := none) (l := ([] : List Int).length) (c := c) (h := Tryz.underlying22)
  simp only [List.length_nil, Option.isNone_none] at hq ⊢
  go_enter Tryz.func106, Tryz.ntmps106
  go_wp2
  go_ret
  exact ⟨_, rfl, Kd.R_nil _ _ _ _ _, Below.refl _ _⟩
 | some ad =>
  have hq := _root_.Go.run_eql_slice_nil (P := Tryz.prog) (w := w) (t := 22) (e := 131) (a := (some ad)) (l := l.length) (c := c) (h := Tryz.underlying22)
  simp only [Option.isNone_some, Option.isNone_none] at hq
  have HE : Hid (Kd.R (Kd.int .u32) 131 (w.alloc (.cells #[] 131)) w.heap.size (fun _ => True) (.slice (some ⟨w.heap.size, 0, none⟩) 0 0) []) := Lib.hid (Kd.R_of_own (enc := Value.int .u32) (xs := []) (own_empty' w 131 1) (fun _ _ => trivial))
  have HC := Lib.hid (Kd.C_alloc HR.out (.cells #[] 131))
  go_enter Tryz.func106, Tryz.ntmps106
  go_wp2_with (first | (at_builtin; refine Kd.R_append_row (Value.int .u32) (0 : Int) w.heap.size rfl (.tmp 5) (.tmp 6) 22 131 (.int .u32 0) 4 rfl Tryz.underlying22 infoU_ rfl (by decide) _ _ _ _ _ _ _ rfl rfl (fun _ _ => trivial) HE.out HC.out ((Below.refl _ w).alloc (Nat.le_refl _) _) (by simp) (by simp; omega) ?_; intro v1 w1 hR1 hB1 _ _))
  go_ret
  exact ⟨v1, rfl, by have h := hR1; rw [List.nil_append] at h; exact h, hB1⟩
set_option maxHeartbeats 4000000 in
theorem clone_str (A : Option Addr) (c : Nat) (l : List ByteArray) (w : World) (hr : Kd.C (Kd.string) w A l.length l) (hc : l.length ≤ c) (hz : l.length ≤ 1073741824) :
 Calls Tryz.prog 107 #[.slice A l.length c] w fun e w' => ∃ v0_ : Value, e = .returned (v0_) ∧ Kd.R (Kd.string) 9 w' w.heap.size (fun _ => True) v0_ l ∧ Below w.heap.size w w' := by
 have HR := Lib.hid hr
 clear hr
 cases A with
 | none =>
  obtain rfl := C_none HR.out
  have hq := _root_.Go.run_eql_slice_nil (P := Tryz.prog) (w := w) (t := 26) (e := 9) (a := none) (l := ([] : List ByteArray).length) (c := c) (h := Tryz.underlying26)
  simp only [List.length_nil, Option.isNone_none] at hq ⊢
  go_enter Tryz.func107, Tryz.ntmps107
  go_wp2
  go_ret
  exact ⟨_, rfl, Kd.R_nil _ _ _ _ _, Below.refl _ _⟩
 | some ad =>
  have hq := _root_.Go.run_eql_slice_nil (P := Tryz.prog) (w := w) (t := 26) (e := 9) (a := (some ad)) (l := l.length) (c := c) (h := Tryz.underlying26)
  simp only [Option.isNone_some, Option.isNone_none] at hq
  have HE : Hid (Kd.R (Kd.string) 9 (w.alloc (.cells #[] 9)) w.heap.size (fun _ => True) (.slice (some ⟨w.heap.size, 0, none⟩) 0 0) []) := Lib.hid (Kd.R_of_own (enc := Value.string) (xs := []) (own_empty' w 9 1) (fun _ _ => trivial))
  have HC := Lib.hid (Kd.C_alloc HR.out (.cells #[] 9))
  go_enter Tryz.func107, Tryz.ntmps107
  go_wp2_with (first | (at_builtin; refine Kd.R_append_row (Value.string) (⟨#[]⟩ : ByteArray) w.heap.size rfl (.tmp 5) (.tmp 6) 26 9 (.string ⟨#[]⟩) 16 rfl Tryz.underlying26 infoS_ rfl (by decide) _ _ _ _ _ _ _ rfl rfl (fun _ _ => trivial) HE.out HC.out ((Below.refl _ w).alloc (Nat.le_refl _) _) (by simp) (by simp; omega) ?_; intro v1 w1 hR1 hB1 _ _))
  go_ret
  exact ⟨v1, rfl, by have h := hR1; rw [List.nil_append] at h; exact h, hB1⟩
def Shallow (w0 w : World) (base : Nat) (v : Value) (l : List S28) : Prop := ∃ rows : List (List Value), rows.length = l.length ∧ Kd.R (Kd.raw 7) 28 w base (fun _ => True) v rows ∧ ∀ (j : Nat) (x : S28) (c : List Value), l[j]? = some x → rows[j]? = some c → k28.K w0 x c
set_option maxHeartbeats 4000000 in
theorem clone_val (A : Option Addr) (c : Nat) (l : List S28) (w0 w : World) (hr : Kd.C k28 w0 A l.length l) (hb : Below w0.heap.size w0 w) (hc : l.length ≤ c) (hz : l.length ≤ 1073741824) :
 Calls Tryz.prog 108 #[.slice A l.length c] w fun e w' => ∃ v0_ : Value, e = .returned (v0_) ∧ Shallow w0 w' w.heap.size v0_ l ∧ Below w.heap.size w w' := by
 obtain ⟨news, hnl, hnr, hnf⟩ := Kd.reads_raw (sz := 7) hr (fun y c hk => ⟨k28.K_len hk, k28.K_one hk⟩)
 have HR := Lib.hid hr
 have HN := Lib.hid (Kd.C_below (d := Kd.raw 7) hnr hb)
 have HF := Lib.hid hnf
 clear hr hnr hnf hb
 cases A with
 | none =>
  obtain rfl := C_none HR.out
  have hq := _root_.Go.run_eql_slice_nil (P := Tryz.prog) (w := w) (t := 25) (e := 28) (a := none) (l := ([] : List S28).length) (c := c) (h := Tryz.underlying25)
  simp only [List.length_nil, Option.isNone_none] at hq ⊢
  go_enter Tryz.func108, Tryz.ntmps108
  go_wp2
  go_ret
  exact ⟨_, rfl, ⟨[], rfl, Kd.R_nil _ _ _ _ _, fun j x c hx => by simp at hx⟩, Below.refl _ _⟩
 | some ad =>
  have hq := _root_.Go.run_eql_slice_nil (P := Tryz.prog) (w := w) (t := 25) (e := 28) (a := (some ad)) (l := l.length) (c := c) (h := Tryz.underlying25)
  simp only [Option.isNone_some, Option.isNone_none] at hq
  have HE : Hid (Kd.R (Kd.raw 7) 28 (w.alloc (.cells #[] 28)) w.heap.size (fun _ => True) (.slice (some ⟨w.heap.size, 0, none⟩) 0 0) []) := Lib.hid ⟨fun _ _ => trivial, [], own_empty' w 28 7, ⟨by simp, fun j p hj => by simp at hj⟩⟩
  have HC : Hid (Kd.C (Kd.raw 7) (w.alloc (.cells #[] 28)) (some ad) l.length news) := Lib.hid (Kd.C_alloc (d := Kd.raw 7) HN.out (.cells #[] 28))
  go_enter Tryz.func108, Tryz.ntmps108
  go_wp2_with (first | (at_builtin; refine Kd.R_append_rows (Kd.raw 7) (Rr := (Kd.raw 7).K w) (w0 := w) w.heap.size rfl (.tmp 5) (.tmp 6) 25 28 _ 112 rfl Tryz.underlying25 infoV_ rfl (by decide) (by decide) _ [] news (some ad) l.length c (fun _ => True) (fun _ => False) rfl rfl HE.out HC.out (fun _ _ hk => hk) (fun _ hk => hk.elim) (fun _ _ => trivial) ((Below.refl _ w).alloc (Nat.le_refl _) _) (by simp) (by simp; omega) ?_; intro v1 w1 hR1 hB1 _ _))
  go_ret
  exact ⟨v1, rfl, ⟨news, hnl, by simpa using hR1, HF.out⟩, hB1⟩
end Go.Proofs.YthigbklhngihkaaGreatDoor.P

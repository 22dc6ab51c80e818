import Derived.Test.YthigbklhngihkaaGreatDoorMOrderOwns
import Derived.Test.YthigbklhngihkaaGreatDoorMOrderOwnt
set_option linter.unusedVariables false
set_option linter.unusedSimpArgs false
set_option maxRecDepth 100000
namespace Go.Proofs.YthigbklhngihkaaGreatDoor.P
open Go.RowKit Go.Proofs.YthigbklhngihkaaGreatDoorW.PrintWords Go.Proofs.YthigbklhngihkaaGreatDoorW.PrintMore Go.Proofs.YthigbklhngihkaaGreatDoorW.PrintLast
structure Plc (ks : List V) (k : Nat) (o : List Nat) : Prop where
 perm : o.Perm (List.range k)
 srt : o.Pairwise (fun a b => elt (pel [] ks ks a) (pel [] ks ks b))
theorem Plc.nil (ks : List V) : Plc ks 0 [] := ⟨List.Perm.refl _, List.Pairwise.nil⟩
theorem Plc.lt {ks : List V} {k : Nat} {o : List Nat} (h : Plc ks k o) : ∀ x ∈ o, x < k := fun x hx => List.mem_range.1 (h.perm.mem_iff.1 hx)
theorem Plc.len {ks : List V} {k : Nat} {o : List Nat} (h : Plc ks k o) : o.length = k := by rw [h.perm.length_eq, List.length_range]
theorem elt_pel {ks : List V} {a b : Nat} : elt (pel [] ks ks a) (pel [] ks ks b) ↔ vord (rd_T28 ks (a : Int)) (rd_T28 ks (b : Int)) < 0 ∨ (vord (rd_T28 ks (a : Int)) (rd_T28 ks (b : Int)) = 0 ∧ a < b) := Iff.rfl
theorem Plc.ins {ks : List V} {k : Nat} {o : List Nat} (h : Plc ks k o) {p : Nat} (hp : p ≤ o.length) (hup : ∀ j, p ≤ j → j < o.length → 0 < vord (rd_T28 ks ((o.getD j 0 : Nat) : Int)) (rd_T28 ks (k : Int))) (hlo : p = 0 ∨ vord (rd_T28 ks ((o.getD (p - 1) 0 : Nat) : Int)) (rd_T28 ks (k : Int)) ≤ 0) : Plc ks (k + 1) (o.take p ++ k :: o.drop p) := by
 have hs := List.pairwise_iff_getElem.1 h.srt
 refine ⟨?_, ?_⟩
 · rw [List.range_succ]
   refine (List.perm_middle.trans ((List.Perm.cons k (by rw [List.take_append_drop])).trans ?_))
   refine (List.Perm.cons k h.perm).trans ?_
   exact (List.perm_append_singleton k (List.range k)).symm
 · rw [List.pairwise_append]
   have hdrop : ∀ x ∈ o.drop p, elt (pel [] ks ks k) (pel [] ks ks x) := fun x hx => by
    obtain ⟨j, hj, rfl⟩ := List.mem_iff_getElem.1 hx
    rw [List.length_drop] at hj
    rw [List.getElem_drop]
    have h1 := hup (p + j) (by omega) (by omega)
    rw [List.getD_eq_getElem?_getD, List.getElem?_eq_getElem (by omega)] at h1
    have h2 := vord_anti (rd_T28 ks ((o[p + j] : Nat) : Int)) (rd_T28 ks (k : Int))
    refine elt_pel.2 (.inl ?_)
    simp only [Option.getD_some] at h1
    omega
   have htake : ∀ x ∈ o.take p, elt (pel [] ks ks x) (pel [] ks ks k) := fun x hx => by
    obtain ⟨j, hj, rfl⟩ := List.mem_iff_getElem.1 hx
    rw [List.length_take] at hj
    rw [List.getElem_take]
    rcases hlo with h0 | hlo
    · omega
    · have hp1 : p - 1 < o.length := by omega
      rw [List.getD_eq_getElem?_getD, List.getElem?_eq_getElem hp1] at hlo
      simp only [Option.getD_some] at hlo
      have hlast : elt (pel [] ks ks o[p - 1]) (pel [] ks ks k) := by
       refine elt_pel.2 ?_
       by_cases h0 : vord (rd_T28 ks ((o[p - 1] : Nat) : Int)) (rd_T28 ks (k : Int)) = 0
       · exact .inr ⟨h0, h.lt _ (List.getElem_mem hp1)⟩
       · exact .inl (by omega)
      by_cases hj2 : j = p - 1
      · subst hj2; exact hlast
      · exact elt_trans (hs j (p - 1) (by omega) hp1 (by omega)) hlast
   refine ⟨h.srt.sublist (List.take_sublist _ _), List.pairwise_cons.2 ⟨hdrop, h.srt.sublist (List.drop_sublist _ _)⟩, fun x hx y hy => ?_⟩
   rcases List.mem_cons.1 hy with rfl | hy
   · exact htake x hx
   · exact elt_trans (htake x hx) (hdrop y hy)
theorem Plc.sorted {ks l : List V} {o : List Nat} (h : Plc ks ks.length o) : Sorted ks l (o.map fun j => rd_T28 l ((j : Nat) : Int)) := by
 refine ⟨o.map (pel [] ks l), ?_, ?_, by rw [List.map_map]; rfl⟩
 · exact h.perm.map _
 · rw [List.pairwise_map]
   exact h.srt
def ni (o : List Nat) : List Int := o.map fun (x : Nat) => (x : Int)
theorem ni_len (o : List Nat) : (ni o).length = o.length := by simp [ni]
theorem ni_getD (o : List Nat) (j : Nat) : (ni o).getD j 0 = ((o.getD j 0 : Nat) : Int) := by
 unfold ni
 rw [List.getD_eq_getElem?_getD, List.getD_eq_getElem?_getD, List.getElem?_map]
 cases o[j]? <;> rfl
def midp (o : List Nat) (p x : Nat) : List Nat := o.take p ++ x :: o.drop p
theorem midp_len {o : List Nat} {p x : Nat} (hp : p ≤ o.length) : (midp o p x).length = o.length + 1 := by unfold midp; simp; omega
theorem midp_end (o : List Nat) (x : Nat) : midp o o.length x = o ++ [x] := by unfold midp; simp
theorem midp_get {o : List Nat} {p x : Nat} (hp : p + 1 ≤ o.length) : (midp o (p + 1) x).getD p 0 = o.getD p 0 := by
 unfold midp
 rw [List.getD_eq_getElem?_getD, List.getD_eq_getElem?_getD, List.getElem?_append_left (by simp; omega), List.getElem?_take_of_lt (by omega)]
theorem midp_set {o : List Nat} {p x y : Nat} (hp : p ≤ o.length) : (midp o p x).set p y = midp o p y := by
 unfold midp
 have e : (o.take p).length = p := by simp; omega
 rw [List.set_append_right _ _ (by omega), e, Nat.sub_self]
 rfl
theorem midp_step {o : List Nat} {p : Nat} (hp : p + 1 ≤ o.length) : midp o (p + 1) (o.getD p 0) = midp o p (o.getD p 0) := by
 have e : o.drop p = o.getD p 0 :: o.drop (p + 1) := by
  rw [List.drop_eq_getElem_cons (i := p) (by omega), List.getD_eq_getElem?_getD, List.getElem?_eq_getElem (by omega)]
  rfl
 have f : o.take (p + 1) = o.take p ++ [o.getD p 0] := by
  rw [List.getD_eq_getElem?_getD, List.getElem?_eq_getElem (by omega)]
  exact List.take_succ_eq_append_getElem (by omega)
 unfold midp
 rw [f, List.append_assoc, List.cons_append, List.nil_append]
 exact (congrArg (fun z => o.take p ++ o.getD p 0 :: z) e).symm
theorem ni_set (o : List Nat) (p y : Nat) : (ni o).set p (y : Int) = ni (o.set p y) := by unfold ni; rw [List.map_set]
theorem plc_cells {W : World} {base g k cap : Nat} {o : List Nat} {p x : Nat} (h : Kd.R (Kd.int .i64) 3 W base (fun _ => True) (.slice (some ⟨g, 0, none⟩) (k + 1) cap) (ni (midp o p x))) (hp : p ≤ k) (ho : o.length = k) (y : Nat) :
 W.cell? ⟨g, p, none⟩ = some (.int .i64 (x : Int)) ∧ W.frozen? ⟨g, p, none⟩ = false ∧ Kd.R (Kd.int .i64) 3 (W.setCell ⟨g, p, none⟩ (.int .i64 (y : Int))) base (fun _ => True) (.slice (some ⟨g, 0, none⟩) (k + 1) cap) (ni (midp o p y)) := by
 obtain ⟨h1, h2⟩ := Kd.R_celln (0 : Int) h (p : Int) (by omega) (by omega)
 have h3 := Kd.R_putn h (p : Int) (y : Int)
 rw [Int.toNat_natCast] at h1 h2 h3
 rw [ni_set, midp_set (by omega)] at h3
 have e : rdOf (0 : Int) (ni (midp o p x)) (p : Int) = (x : Int) := by
  unfold rdOf
  rw [Int.toNat_natCast, ni_getD]
  unfold midp
  rw [List.getD_eq_getElem?_getD, List.getElem?_append_right (by simp; omega)]
  have : p - (o.take p).length = 0 := by simp; omega
  rw [this]
  rfl
 rw [e] at h1
 exact ⟨h1, h2, h3⟩
theorem plc_below {W : World} {base g k cap : Nat} {o : List Nat} {p q x : Nat} (h : Kd.R (Kd.int .i64) 3 W base (fun _ => True) (.slice (some ⟨g, 0, none⟩) (k + 1) cap) (ni (midp o p x))) (hq : q + 1 = p) (hp : p ≤ k) (ho : o.length = k) :
 W.cell? ⟨g, q, none⟩ = some (.int .i64 ((o.getD q 0 : Nat) : Int)) ∧ W.frozen? ⟨g, q, none⟩ = false := by
 subst hq
 obtain ⟨h1, h2⟩ := Kd.R_celln (0 : Int) h (q : Int) (by omega) (by omega)
 rw [Int.toNat_natCast] at h1 h2
 have e : rdOf (0 : Int) (ni (midp o (q + 1) x)) (q : Int) = ((o.getD q 0 : Nat) : Int) := by
  unfold rdOf
  rw [Int.toNat_natCast, ni_getD, midp_get (by omega)]
 rw [e] at h1
 exact ⟨h1, h2⟩
def PlacesPost (ks : List V) (w : World) (e : Ending) (w' : World) : Prop := ∃ (v : Value) (o : List Nat), e = .returned v ∧ Plc ks ks.length o ∧ Kd.R (Kd.int .i64) 3 w' w.heap.size (fun _ => True) v (ni o) ∧ Below w.heap.size w w'
set_option maxHeartbeats 4000000 in
theorem places_any (ks : List V) (B : Option Addr) (d : Nat) (w : World) (hB : k28.C w B ks.length ks) (hN : ∀ x ∈ ks, NumOk x) (hn : ks.length ≤ 1048576) :
 Calls Tryz.prog 80 #[.slice B ks.length d] w (PlacesPost ks w) := by
 have HB := Lib.hid hB
 obtain ⟨n, hnn⟩ : ∃ n, n = ks.length := ⟨_, rfl⟩
 have HORD : Hid (∀ i j, i < n → j < n → ∀ cs ds W, k28.K W (rd_T28 ks (i : Nat)) cs → k28.K W (rd_T28 ks (j : Nat)) ds → Calls Tryz.prog 82 #[.agg cs.toArray, .agg ds.toArray] W fun e w' => e = .returned (.int .i64 (vord (rd_T28 ks (i : Nat)) (rd_T28 ks (j : Nat)))) ∧ Below W.heap.size W w') := Lib.hid (fun i j hi hj cs ds W hK hL => Order05_any _ cs _ ds W hK hL (hN _ (rd_mem (by omega))) (hN _ (rd_mem (by omega))))
 have HPP : Hid (∀ v o W, Plc ks n o → Kd.R (Kd.int .i64) 3 W w.heap.size (fun _ => True) v (ni o) → Below w.heap.size w W → PlacesPost ks w (.returned v) W) := Lib.hid (fun v o W h1 h2 h3 => ⟨v, o, rfl, by rw [← hnn]; exact h1, h2, h3⟩)
 rw [← hnn]
 rw [← hnn] at hn
 have HNN := Lib.hid hnn
 clear hB hN hnn
 go_enter Tryz.func80, Tryz.ntmps80
 go_wp2
 go_loopw [3, 4] (fun vo vi wr => ∃ (k : Nat) (o : List Nat) (G : Option Addr) (cap : Nat), k ≤ n ∧ vi = .int .i64 k ∧ vo = .slice G k cap ∧ Hid (Plc ks k o) ∧ Hid (Kd.R (Kd.int .i64) 3 wr w.heap.size (fun _ => True) (.slice G k cap) (ni o) ∧ Below w.heap.size w wr)) (fun vo vi _ => n - (intOf vi).toNat)
 case atStart => exact ⟨0, [], none, 0, Nat.zero_le _, rfl, rfl, Lib.hid (Plc.nil _), Lib.hid ⟨Kd.R_nil _ _ _ _ _, Below.refl _ _⟩⟩
 case round =>
  obtain ⟨k, o, G, cap, hk, rfl, rfl, HP, HR⟩ := hrel
  by_cases hlt : k < n
  · have hlt2 : (k : Int) < (n : Int) := by omega
    have hk0 : (0 : Int) ≤ (k : Int) := by omega
    have HOL := Lib.hid HP.out.len
    have hnl : (ni o).length ≤ 1048576 := by rw [ni_len, HOL.out]; omega
    have HSZ := Lib.hid HR.out.2.size
    have HL7 : Hid ((ni o ++ [(k : Int)]).length = k + 1) := Lib.hid (by rw [List.length_append, ni_len, HOL.out]; rfl)
    go_wp2_with (at_builtin; refine Kd.R_append (Kd.int .i64) (w0 := w) w.heap.size rfl _ _ 104 3 (.int .i64 0) 8 rfl Tryz.underlying104 infoI_ rfl (by decide) (by decide) (.slice G k cap) (ni o) (k : Int) _ (fun _ => True) (fun _ => False) rfl rfl rfl (fun _ h => h.elim) (fun _ _ => trivial) HR.out.1 HR.out.2 HSZ.out (by omega) ?_; intro v1 w7 hR7 hB7 hg7 hat7; obtain ⟨G7, cap7, rfl⟩ := Kd.R_slice hR7; rw [HL7.out] at hR7 ⊢; have HR7 := Lib.hid (And.intro hR7 hB7); clear hR7 hB7 hg7 hat7)
    have HR8 : Hid (Kd.R (Kd.int .i64) 3 w7 w.heap.size (fun _ => True) (.slice G7 (k + 1) cap7) (ni (midp o k k)) ∧ Below w.heap.size w w7) := Lib.hid (by
     have h := HR7.out
     rw [show midp o k k = o ++ [k] by rw [← midp_end o k, HOL.out]]
     unfold ni at h ⊢
     rw [List.map_append]
     exact h)
    obtain ⟨g7, c8, e7, hbg, -, -⟩ := Kd.R_form HR8.out.1 (by rw [ni_len, midp_len (by rw [HOL.out]; omega)]; omega)
    injection e7 with e71 e72 e73
    subst e71
    have HBG := Lib.hid hbg
    clear hbg
    clear HL7 HR7 hnl e72 e73 HR
    go_loopw [5] (fun vp wr => ∃ (p x : Nat), p ≤ k ∧ vp = .int .i64 p ∧ Hid (∀ j, p ≤ j → j < k → 0 < vord (rd_T28 ks ((o.getD j 0 : Nat) : Int)) (rd_T28 ks (k : Int))) ∧ Hid (Kd.R (Kd.int .i64) 3 wr w.heap.size (fun _ => True) (.slice (some ⟨g7, 0, none⟩) (k + 1) cap7) (ni (midp o p x)) ∧ Below w.heap.size w wr)) (fun vp _ => (intOf vp).toNat)
    case atStart => exact ⟨k, k, Nat.le_refl _, rfl, Lib.hid (fun j h1 h2 => absurd h1 (by omega)), HR8⟩
    case round =>
     clear HR8
     obtain ⟨p, x, hp, rfl, HU, HR⟩ := hrel
     have hp0 : (0 : Int) ≤ (p : Int) := by omega
     have hpk : (p : Int) < ((k + 1 : Nat) : Int) := by omega
     have hpk' : (p : Int) < (k : Int) + 1 := by omega
     obtain ⟨m, hm⟩ : ∃ m, m = k + 1 := ⟨_, rfl⟩
     have HMK := Lib.hid hm
     have HEND : Hid (∀ W, Kd.R (Kd.int .i64) 3 W w.heap.size (fun _ => True) (.slice (some ⟨g7, 0, none⟩) (k + 1) cap7) (ni (midp o p x)) → W.cell? ⟨g7, p, none⟩ = some (.int .i64 (x : Int)) ∧ W.frozen? ⟨g7, p, none⟩ = false ∧ Kd.R (Kd.int .i64) 3 (W.setCell ⟨g7, p, none⟩ (.int .i64 (k : Int))) w.heap.size (fun _ => True) (.slice (some ⟨g7, 0, none⟩) (k + 1) cap7) (ni (midp o p k))) := Lib.hid (fun W h => plc_cells h hp HOL.out k)
     by_cases hz : p = 0
     · subst hz
       have HI : Hid (Plc ks (k + 1) (midp o 0 k)) := Lib.hid (HP.out.ins (p := 0) (Nat.zero_le _) (fun j h1 h2 => HU.out j h1 (by rw [← HOL.out]; exact h2)) (.inl rfl))
       have g0 : ¬ (0 : Int) < ((0 : Nat) : Int) := by omega
       go_wp2
       go_quiet (fail)
       obtain ⟨hc0, hf0, hR0⟩ := HEND.out _ (Kd.R_drewN HR.out.1 nq)
       have HR0 := Lib.hid (And.intro hR0 ((pw_below_drewN HR.out.2 nq).setCell (p := ⟨g7, 0, none⟩) HBG.out (.int .i64 (k : Int))))
       clear hR0
       go_wp2
       go_roundw
       case rel => exact ⟨k + 1, midp o 0 k, _, _, by omega, by go_num, rfl, HI, HR0⟩
       case measure => simp [intOf]; omega
     · obtain ⟨q, hq⟩ : ∃ q, q + 1 = p := ⟨p - 1, by omega⟩
       have g1 : (0 : Int) < (p : Int) := by omega
       have g1' : decide (0 < p) = true := by simp; omega
       have g2 : (p : Int) ≤ 1048576 := by omega
       have g3 : IntKind.i64.wrap ((p : Int) - 1) = (q : Int) := by rw [wrap_in _ (by omega)]; omega
       have g5 : (0 : Int) ≤ (q : Int) := by omega
       have g6 : (q : Int) < (k : Int) + 1 := by omega
       have g7' : (k : Int) < (n : Int) := by omega
       obtain ⟨y, hy⟩ : ∃ y, y = o.getD q 0 := ⟨_, rfl⟩
       have hyk : y < k := HP.out.lt y (by
        rw [hy, List.getD_eq_getElem?_getD, List.getElem?_eq_getElem (by rw [HOL.out]; omega)]
        exact List.getElem_mem _)
       have hyn : (y : Int) < (n : Int) := by omega
       have hy0 : (0 : Int) ≤ (y : Int) := by omega
       have HQC : Hid (∀ W, Kd.R (Kd.int .i64) 3 W w.heap.size (fun _ => True) (.slice (some ⟨g7, 0, none⟩) (k + 1) cap7) (ni (midp o p x)) → (W.cell? ⟨g7, q, none⟩ = some (.int .i64 (y : Int)) ∧ W.frozen? ⟨g7, q, none⟩ = false) ∧ W.cell? ⟨g7, p, none⟩ = some (.int .i64 (x : Int)) ∧ W.frozen? ⟨g7, p, none⟩ = false ∧ Kd.R (Kd.int .i64) 3 (W.setCell ⟨g7, p, none⟩ (.int .i64 (y : Int))) w.heap.size (fun _ => True) (.slice (some ⟨g7, 0, none⟩) (k + 1) cap7) (ni (midp o q y))) := Lib.hid (fun W h => by
        obtain ⟨h1, h2, h3⟩ := plc_cells h hp HOL.out y
        refine ⟨by rw [hy]; exact plc_below h hq hp HOL.out, h1, h2, ?_⟩
        rw [← hq, hy, midp_step (by rw [HOL.out]; omega), ← hy] at h3
        rw [← hq]
        exact h3)
       obtain ⟨ad, a0, a1, a2, a3, a4, a5, a6, rfl, hKa, p0, p1, p2, p3, p4, p5, p6⟩ := at_V HB.out HR.out.2 y (by rw [← HNN.out]; omega)
       obtain ⟨bd, b0, b1, b2, b3, b4, b5, b6, e, hKb, q0, q1, q2, q3, q4, q5, q6⟩ := at_V HB.out HR.out.2 k (by rw [← HNN.out]; omega)
       obtain rfl := Option.some.inj e
       have HCC := Lib.hid (fun W (hW : Below w.heap.size w W) => HORD.out y k (by omega) (by omega) [a0, a1, a2, a3, a4, a5, a6] [b0, b1, b2, b3, b4, b5, b6] W (k28.K_below hW hKa) (k28.K_below hW hKb))
       generalize hr : vord (rd_T28 ks (y : Int)) (rd_T28 ks (k : Int)) = r at HCC
       have HY := Lib.hid hy
       have HQ := Lib.hid hq
       have HRV := Lib.hid hr
       obtain ⟨⟨hcq, hfq⟩, -⟩ := HQC.out _ HR.out.1
       clear hKa hKb hr hy hq hm hpk hlt
       go_upto_region 7 with (fail)
       go_still_tail 15, (by kernel_rfl)
       change wpList _ _ _ _ _ (wr.drewN 1)
       have HBD : Hid (Kd.R (Kd.int .i64) 3 (wr.drewN 1) w.heap.size (fun _ => True) (.slice (some ⟨g7, 0, none⟩) (k + 1) cap7) (ni (midp o p x)) ∧ Below w.heap.size w (wr.drewN 1)) := Lib.hid ⟨Kd.R_drewN HR.out.1 1, pw_below_drewN HR.out.2 1⟩
       clear p0 p1 p2 p3 p4 p5 p6 q0 q1 q2 q3 q4 q5 q6 hcq hfq HR
       generalize wr.drewN 1 = wd at HBD ⊢
       by_cases hr0 : 0 < r
       · have HUN : Hid (∀ j, q ≤ j → j < k → 0 < vord (rd_T28 ks ((o.getD j 0 : Nat) : Int)) (rd_T28 ks (k : Int))) := Lib.hid (fun j h1 h2 => by
          rcases Nat.lt_or_ge q j with h | h
          · exact HU.out j (by rw [← HQ.out]; omega) h2
          · have ej : j = q := by omega
            rw [ej, ← HY.out, HRV.out]
            exact hr0)
         go_wp2_with (go_at_call 82; (with_reducible refine (HCC.out _ HBD.out.2).mono ?_); rintro e w5 ⟨rfl, hB5⟩; obtain ⟨⟨hcq, hfq⟩, hcp, hfp, hR5⟩ := HQC.out _ (Kd.R_below HBD.out.1 hB5); have HR5 := Lib.hid (And.intro hR5 ((HBD.out.2.trans (hB5.mono HBD.out.2.size)).setCell (p := ⟨g7, p, none⟩) HBG.out (.int .i64 (y : Int)))); clear hB5 hR5)
         go_roundw
         case rel => exact ⟨q, y, by have := HQ.out; omega, rfl, HUN, HR5⟩
         case measure => have := HQ.out; simp [intOf]; omega
       · have HI : Hid (Plc ks (k + 1) (midp o p k)) := Lib.hid (HP.out.ins (p := p) (by rw [HOL.out]; exact hp) (fun j h1 h2 => HU.out j h1 (by rw [← HOL.out]; exact h2)) (.inr (by
          have e : p - 1 = q := by have := HQ.out; omega
          rw [e, ← HY.out, HRV.out]
          omega)))
         go_wp2_with (go_at_call 82; (with_reducible refine (HCC.out _ HBD.out.2).mono ?_); rintro e w5 ⟨rfl, hB5⟩; obtain ⟨hcp, hfp, hR5⟩ := HEND.out _ (Kd.R_below HBD.out.1 hB5); have HR5 := Lib.hid (And.intro hR5 ((HBD.out.2.trans (hB5.mono HBD.out.2.size)).setCell (p := ⟨g7, p, none⟩) HBG.out (.int .i64 (k : Int)))); clear hB5 hR5)
         go_roundw
         case rel => exact ⟨k + 1, midp o p k, _, _, by omega, by go_num, rfl, HI, HR5⟩
         case measure => simp [intOf]; omega
  · obtain rfl : k = n := by omega
    have hlt2 : ¬ (k : Int) < (k : Int) := by omega
    go_wp2
    go_ret
    exact HPP.out _ o _ HP.out HR.out.1 HR.out.2
set_option maxHeartbeats 1000000 in
theorem rdeep_any : ∀ (n : Nat), n ≤ 1000 → ∀ (x : V) (cs : List Value) (w : World), k28.K w x cs →
 Calls Tryz.prog 153 #[.agg cs.toArray, .int .i64 n] w fun e w' => e = .returned (.int .i64 (vdeep n x)) ∧ Below w.heap.size w w' := by
 intro n
 induction n with
 | zero =>
  intro _ x cs w hK
  obtain ⟨A2, c2, A5, c5, A6, c6, rfl, l2, g2, l5, g5, l6, g6⟩ := k28_open hK
  clear l2 g2 l5 g5 l6 g6 hK
  show Calls _ _ _ _ fun e w' => e = .returned (.int .i64 0) ∧ _
  by_cases h5 : x.f0 = 5
  · have h5b : (x.f0 != 5) = false := by simp [h5]
    go_enter Tryz.func153, Tryz.ntmps153
    go_wp2
    go_ret
    exact ⟨rfl, (Below.refl _ _).alloc (Nat.le_refl _) _⟩
  · have h5b : (x.f0 != 5) = true := by simpa using h5
    by_cases h6 : x.f0 = 6
    · have h6b : (x.f0 != 6) = false := by simp [h6]
      go_enter Tryz.func153, Tryz.ntmps153
      go_wp2
      go_ret
      exact ⟨rfl, (Below.refl _ _).alloc (Nat.le_refl _) _⟩
    · have h6b : (x.f0 != 6) = true := by simpa using h6
      go_enter Tryz.func153, Tryz.ntmps153
      go_wp2
      go_ret
      exact ⟨rfl, (Below.refl _ _).alloc (Nat.le_refl _) _⟩
 | succ n ih =>
  intro hn x cs w hK
  obtain ⟨A2, c2, A5, c5, A6, c6, rfl, l2, g2, l5, g5, l6, g6⟩ := k28_open hK
  have HC := Lib.hid g5
  have hlen := g5.2.1
  clear l2 g2 l5 g5 l6 g6 hK
  have IH := Lib.hid (ih (by omega))
  clear ih
  by_cases h56 : x.f0 = 5 ∨ x.f0 = 6
  · have hv : vdeep (n + 1) x = vmx n x.f3 x.f3.length + 1 := by unfold vdeep vmx; rw [if_pos h56, List.take_length]
    rw [hv]
    obtain ⟨m, hm⟩ : ∃ m : Int, m = ((n + 1 : Nat) : Int) := ⟨_, rfl⟩
    rw [← hm]
    have hp : (m == 0) = false := by simp; omega
    have hn1 : m - 1 = (n : Int) := by omega
    have hmb : 1 ≤ m ∧ m ≤ 1000 := by omega
    clear hm
    have hge : ∀ k, vmx n x.f3 k ≤ 1000 := fun k => Nat.le_trans (vmx_le n x.f3 k) (by omega)
    have GE := Lib.hid hge
    have hB0 : Below w.heap.size w (w.alloc (.cells #[.int .i64 x.f0, .bool x.f1.f0, .slice A2 x.f1.f1.length c2, .int .i64 x.f1.f2, .string x.f2, .slice A5 x.f3.length c5, .slice A6 x.f4.length c6] 28)) := (Below.refl _ _).alloc (Nat.le_refl _) _
    have G0 := Lib.hid (blk_new w (.cells #[.int .i64 x.f0, .bool x.f1.f0, .slice A2 x.f1.f1.length c2, .int .i64 x.f1.f2, .string x.f2, .slice A5 x.f3.length c5, .slice A6 x.f4.length c6] 28))
    have HB0 := Lib.hid hB0
    have e5 : (x.f0 != 5) = false ∨ (x.f0 != 5) = true ∧ (x.f0 != 6) = false := by
     rcases h56 with h | h
     · exact .inl (by simp [h])
     · exact .inr (by simp [h])
    clear hge hv h56 hB0
    rcases e5 with e5 | ⟨e5, e6⟩
    all_goals
     go_enter Tryz.func153, Tryz.ntmps153
     go_wp2
     go_loopw [5, 6] (fun vm vi wr => ∃ k : Nat, k ≤ x.f3.length ∧ vi = .int .i64 k ∧ vm = .int .i64 (vmx n x.f3 k : Nat) ∧ Below (w.alloc (.cells #[.int .i64 x.f0, .bool x.f1.f0, .slice A2 x.f1.f1.length c2, .int .i64 x.f1.f2, .string x.f2, .slice A5 x.f3.length c5, .slice A6 x.f4.length c6] 28)).heap.size (w.alloc (.cells #[.int .i64 x.f0, .bool x.f1.f0, .slice A2 x.f1.f1.length c2, .int .i64 x.f1.f2, .string x.f2, .slice A5 x.f3.length c5, .slice A6 x.f4.length c6] 28)) wr) (fun _ vi _ => x.f3.length - (intOf vi).toNat)
     case atStart => exact ⟨0, Nat.zero_le _, rfl, rfl, Below.refl _ _⟩
     case round =>
      obtain ⟨k, hk, rfl, rfl, hB⟩ := hrel
      have HB := Lib.hid hB
      have HBW := Lib.hid (HB0.out.trans (hB.mono HB0.out.size))
      obtain ⟨hcl0, hfz0⟩ := bcells G0.out hB
      clear hB
      by_cases hlt : k < x.f3.length
      · obtain ⟨ad, a0, a1, a2, a3, a4, a5, a6, rfl, hKa, p0, p1, p2, p3, p4, p5, p6⟩ := at_V HC.out HBW.out k hlt
        have hs : Hid (max ((vmx n x.f3 k : Nat) : Int) ((vdeep n (rd_T28 x.f3 (k : Int)) : Nat) : Int) = ((vmx n x.f3 (k + 1) : Nat) : Int)) := Lib.hid (by rw [vmx_succ n x.f3 k hlt]; omega)
        have hw : wrap64 ((k : Int) + 1) = ((k + 1 : Nat) : Int) := by unfold wrap64; omega
        have HCC := Lib.hid (IH.out _ [a0, a1, a2, a3, a4, a5, a6] wr (k28.K_below HBW.out hKa))
        clear hKa
        go_wp2_with (go_at_call 153; (with_reducible refine (HCC.out).mono ?_); rintro e w2 ⟨rfl, hB2⟩; have HB2 := Lib.hid (HB.out.trans (hB2.mono HB.out.size)); clear hB2)
        go_roundw
        case rel => exact ⟨k + 1, by omega, by go_num, by rw [hs.out], HB2.out⟩
        case measure => simp [intOf]; omega
      · obtain rfl : k = x.f3.length := by omega
        have hg := GE.out x.f3.length
        go_wp2
        go_ret
        exact ⟨congrArg (fun z : Int => Ending.returned (.int .i64 z)) (by omega), HBW.out⟩
  · have hv : vdeep (n + 1) x = 0 := by unfold vdeep; rw [if_neg h56]
    rw [hv]
    have h5b : (x.f0 != 5) = true := by simp; exact fun h => h56 (.inl h)
    have h6b : (x.f0 != 6) = true := by simp; exact fun h => h56 (.inr h)
    clear hv h56
    go_enter Tryz.func153, Tryz.ntmps153
    go_wp2
    go_ret
    exact ⟨rfl, (Below.refl _ _).alloc (Nat.le_refl _) _⟩
set_option maxHeartbeats 1000000 in
theorem rSize_any : ∀ (x : V) (cs : List Value) (w : World), k28.K w x cs →
 Calls Tryz.prog 57 #[.agg cs.toArray] w fun e w' => e = .returned (.int .i64 (vsize x)) ∧ Below w.heap.size w w' := by
 refine V.ind fun x ih => ?_
 intro cs w hK
 obtain ⟨A2, c2, A5, c5, A6, c6, rfl, l2, g2, l5, g5, l6, g6⟩ := k28_open hK
 have HC := Lib.hid g5
 have hlen := g5.2.1
 have IH := Lib.hid ih
 clear g2 l2 l5 g5 l6 g6 hK ih
 have HV := Lib.hid (vsize_eq x)
 obtain ⟨W1, hW1⟩ : ∃ W1, W1 = w.alloc (.cells #[.int .i64 x.f0, .bool x.f1.f0, .slice A2 x.f1.f1.length c2, .int .i64 x.f1.f2, .string x.f2, .slice A5 x.f3.length c5, .slice A6 x.f4.length c6] 28) := ⟨_, rfl⟩
 have hb1 : Below w.heap.size w W1 := by rw [hW1]; exact (Below.refl _ _).alloc (Nat.le_refl _) _
 have hx1 : W1.heap[w.heap.size]? = some (.cells #[.int .i64 x.f0, .bool x.f1.f0, .slice A2 x.f1.f1.length c2, .int .i64 x.f1.f2, .string x.f2, .slice A5 x.f3.length c5, .slice A6 x.f4.length c6] 28 (0, 0)) := by rw [hW1]; exact blk_new _ _
 have HW1 := Lib.hid hW1
 have HB1 := Lib.hid hb1
 have HX1 := Lib.hid hx1
 clear hW1 hb1 hx1
 go_enter Tryz.func57, Tryz.ntmps57
 go_upto_region 1 with (fail)
 rw [← HW1.out]
 go_wp2
 go_loopw [3, 4] (fun vm vi wr => ∃ k : Nat, k ≤ x.f3.length ∧ vi = .int .i64 k ∧ vm = .int .i64 (vszUp x.f3 k : Nat) ∧ Hid (Below W1.heap.size W1 wr)) (fun _ vi _ => x.f3.length - (intOf vi).toNat)
 case atStart => exact ⟨0, Nat.zero_le _, rfl, by unfold vszUp vsizes; simp, Lib.hid (Below.refl _ _)⟩
 case round =>
  obtain ⟨k, hk, rfl, rfl, HB⟩ := hrel
  have HBW := Lib.hid (HB1.out.trans (HB.out.mono HB1.out.size))
  obtain ⟨hcl0, hfz0⟩ := bcells HX1.out HB.out
  have hle := vszUp_le x.f3 k
  have hk0 : (0 : Int) ≤ (k : Int) := by omega
  by_cases hlt : k < x.f3.length
  · have hlt2 : (k : Int) < (x.f3.length : Int) := by omega
    have hltd : decide (k < x.f3.length) = true := by simpa using hlt
    by_cases hbig : 1048576 ≤ vszUp x.f3 k
    · have hr : Hid (min (vszUp x.f3 k : Int) 1048576 = (vsize x : Int)) := Lib.hid (by rw [HV.out, vszUp_stop x.f3 hbig _ hk]; omega)
      have hb2 : ¬ (vszUp x.f3 k : Int) < 1048576 := by omega
      go_wp2
      go_ret
      exact ⟨by rw [← hr.out]; rfl, HBW.out⟩
    · have hs : Hid ((vszUp x.f3 k : Int) + (vsize (rd_T28 x.f3 (k : Int)) : Int) = ((vszUp x.f3 (k + 1) : Nat) : Int)) := Lib.hid (by rw [vszUp_succ x.f3 k hlt, if_neg hbig]; omega)
      have hb2 : (vszUp x.f3 k : Int) < 1048576 := by omega
      have hm := vsize_le (rd_T28 x.f3 (k : Int))
      obtain ⟨ad, a0, a1, a2, a3, a4, a5, a6, rfl, hKa, p0, p1, p2, p3, p4, p5, p6⟩ := at_V HC.out HBW.out k hlt
      have HCC := Lib.hid (IH.out _ (show rd_T28 x.f3 (k : Int) ∈ x.f3 by unfold rd_T28; simp [hlt]) [a0, a1, a2, a3, a4, a5, a6] wr (k28.K_below HBW.out hKa))
      have hw : wrap64 ((k : Int) + 1) = ((k + 1 : Nat) : Int) := by unfold wrap64; omega
      clear hKa
      go_wp2_with (go_at_call 57; (with_reducible refine (HCC.out).mono ?_); rintro e w2 ⟨rfl, hB2⟩; have HB2 := Lib.hid (HB.out.trans (hB2.mono HB.out.size)); clear hB2)
      go_roundw
      case rel => exact ⟨k + 1, by omega, by go_num, by rw [hs.out], HB2⟩
      case measure => simp [intOf]; omega
  · obtain rfl : k = x.f3.length := by omega
    have hr : Hid (min (vszUp x.f3 x.f3.length : Int) 1048576 = (vsize x : Int)) := Lib.hid (by rw [HV.out]; omega)
    have hlt2 : ¬ (x.f3.length : Int) < (x.f3.length : Int) := by omega
    go_wp2
    go_ret
    exact ⟨by rw [← hr.out]; rfl, HBW.out⟩
set_option maxHeartbeats 1000000 in
theorem rDeep_any (x : V) (cs : List Value) (w : World) (hK : k28.K w x cs) :
 Calls Tryz.prog 112 #[.agg cs.toArray] w fun e w' => e = .returned (.int .i64 (vdeep 1000 x)) ∧ Below w.heap.size w w' := by
 obtain ⟨A2, c2, A5, c5, A6, c6, rfl, _⟩ := k28_open hK
 have HK := Lib.hid hK
 clear hK
 have hd : ∀ (cs' : List Value) (w' : World), k28.K w' x cs' → Calls Tryz.prog 153 #[.agg cs'.toArray, .int .i64 1000] w' fun e w2 => e = .returned (.int .i64 (vdeep 1000 x)) ∧ Below w'.heap.size w' w2 := fun cs' w' h => rdeep_any 1000 (Nat.le_refl _) x cs' w' h
 have HD := Lib.hid hd
 clear hd
 go_enter Tryz.func112, Tryz.ntmps112
 go_wp2_with (first | (go_at_call 153; (with_reducible refine (HD.out _ _ ?hK).mono ?_); (case hK => exact k28.K_below ((Below.refl _ _).alloc (Nat.le_refl _) _) HK.out); rintro e w2 ⟨rfl, hB2⟩))
 go_ret
 exact ⟨rfl, below_box (Below.refl _ _) (Nat.le_refl _) hB2⟩
theorem chk_cases (l : List Int) : (256 < l.length ∧ chk l = 5) ∨ (l.length ≤ 256 ∧ l.length = 0 ∧ chk l = 0) ∨ (l.length ≤ 256 ∧ l.length ≠ 0 ∧ l.getD (l.length - 1) 0 = 0 ∧ chk l = 9) ∨ (l.length ≤ 256 ∧ l.length ≠ 0 ∧ l.getD (l.length - 1) 0 ≠ 0 ∧ chk l = 0) := by
 unfold chk
 by_cases h1 : l.length > 256
 · rw [if_pos h1]; exact .inl ⟨h1, rfl⟩
 rw [if_neg h1]
 by_cases h2 : l.length = 0
 · rw [if_neg (fun h => h.1 (List.eq_nil_of_length_eq_zero h2))]; exact .inr (.inl ⟨by omega, h2, rfl⟩)
 have hn : l ≠ [] := fun e => h2 (by rw [e]; rfl)
 by_cases h3 : l.getD (l.length - 1) 0 = 0
 · rw [if_pos ⟨hn, h3⟩]; exact .inr (.inr (.inl ⟨by omega, h2, h3, rfl⟩))
 · rw [if_neg (fun h => h3 h.2)]; exact .inr (.inr (.inr ⟨by omega, h2, h3, rfl⟩))
set_option maxHeartbeats 1000000 in
theorem rchk_any (l : List Int) (A : Option Addr) (c : Nat) (w : World) (hC : Kd.C (Kd.int .u32) w A l.length l) :
 Calls Tryz.prog 245 #[.slice A l.length c] w fun e w' => e = .returned (.int .i64 (chk l)) ∧ w' = w := by
 have hcs := chk_cases l
 have hm := hC.2.1
 have HX : Hid (l.length ≠ 0 → ∃ ad, A = some ad ∧ w.cell? (ad.add (l.length - 1)) = some (.int .u32 (l.getD (l.length - 1) 0))) := Lib.hid (fun h => by
  obtain ⟨ad, h1, h2⟩ := Kd.at_int hC ((l.length - 1 : Nat) : Int) (by omega) (by omega)
  rw [Int.toNat_natCast] at h2
  refine ⟨ad, h1, h2.trans ?_⟩
  unfold rd
  rw [Int.toNat_natCast])
 clear hC
 generalize chk l = r at *
 generalize l.getD (l.length - 1) 0 = y at *
 generalize l.length = n at *
 rcases hcs with ⟨h1, rfl⟩ | ⟨h1, rfl, rfl⟩ | ⟨h1, h2, rfl, rfl⟩ | ⟨h1, h2, h3, rfl⟩
 · have g1 : (256 : Int) < (n : Int) := by omega
   have g2 : decide (256 < n) = true := by simpa using h1
   go_enter Tryz.func245, Tryz.ntmps245
   go_wp2
   go_ret
   exact ⟨rfl, rfl⟩
 · go_enter Tryz.func245, Tryz.ntmps245
   go_wp2
   go_ret
   exact ⟨rfl, rfl⟩
 all_goals
  obtain ⟨ad, rfl, hx⟩ := HX.out h2
  have g1 : ¬ (256 : Int) < (n : Int) := by omega
  have g2 : (0 : Int) < (n : Int) := by omega
  have g3 : decide (0 < n) = true := by simp; omega
  have g4 : IntKind.i64.wrap ((n : Int) - 1) = ((n - 1 : Nat) : Int) := by rw [wrap_in _ (by omega)]; omega
  have g5 : (n : Int) - 1 = ((n - 1 : Nat) : Int) := by omega
  have g6 : wrap64 ((n : Int) - 1) = ((n - 1 : Nat) : Int) := by unfold wrap64; omega
  have g7 : ((n - 1 : Nat) : Int) < (n : Int) := by omega
  have g8 : decide (256 < n) = false := by simpa using h1
 · go_enter Tryz.func245, Tryz.ntmps245
   go_wp2
   go_ret
   exact ⟨rfl, rfl⟩
 · have g9 : (y == 0) = false := by simpa using h3
   go_enter Tryz.func245, Tryz.ntmps245
   go_wp2
   go_ret
   exact ⟨rfl, rfl⟩
theorem decs_nil_iff' (k : Nat) : (decs k).length = 0 ↔ k = 0 := by
 constructor
 · intro h
   by_cases hk : k = 0
   · exact hk
   · rw [decs_pos hk] at h; simp at h
 · intro h
   rw [h, decs_zero]; rfl
theorem decOk_cases (d : D) (h : okL d.f1) : (chk d.f1 ≠ 0 ∧ dchk d = 9) ∨ (chk d.f1 = 0 ∧ 40 < d.f1.length ∧ dchk d = 9) ∨
 (chk d.f1 = 0 ∧ d.f1.length ≤ 40 ∧ val d.f1 = 0 ∧ d.f1.length = 0 ∧ dchk d = if d.f0 = true then 9 else if d.f2 = 0 then 0 else 9) ∨
 (chk d.f1 = 0 ∧ d.f1.length ≤ 40 ∧ val d.f1 ≠ 0 ∧ dchk d = if val d.f1 % 10 = 0 then 9 else if 300 < (decs (val d.f1)).length then 9 else if d.f2 < -1000 then 9 else if 1000 < d.f2 then 9 else 0) := by
 have hc := chk_ok h
 by_cases h0 : chk d.f1 = 0
 · obtain ⟨h1, h2⟩ := hc.1 h0
   by_cases h4 : 40 < d.f1.length
   · refine .inr (.inl ⟨h0, h4, ?_⟩)
     unfold dchk decOkB
     rw [if_neg]
     rw [decide_eq_false (show ¬ d.f1.length ≤ 40 by omega)]
     simp
   · have hz := canon_nil_iff h2
     by_cases h5 : val d.f1 = 0
     · have h6 := hz.2 h5
       refine .inr (.inr (.inl ⟨h0, by omega, h5, h6, ?_⟩))
       unfold dchk decOkB
       rw [decide_eq_true (show d.f1.length ≤ 40 by omega), decide_eq_true h2, if_pos h6]
       cases d.f0 <;> by_cases hx : d.f2 = 0 <;> simp [hx]
     · refine .inr (.inr (.inr ⟨h0, by omega, h5, ?_⟩))
       have h6 : d.f1.length ≠ 0 := fun e => h5 (hz.1 e)
       unfold dchk decOkB
       rw [decide_eq_true (show d.f1.length ≤ 40 by omega), decide_eq_true h2, if_neg h6]
       have hd : (decs (val d.f1)).length ≤ 300 ↔ val d.f1 < decTop := decs_lt_iff (k := decDig) h5
       by_cases a1 : val d.f1 % 10 = 0
       · rw [if_pos a1]; simp [a1]
       rw [if_neg a1]
       by_cases a2 : 300 < (decs (val d.f1)).length
       · have : ¬ val d.f1 < decTop := fun h => by have := hd.2 h; omega
         rw [if_pos a2, decide_eq_false this]; simp
       rw [if_neg a2, decide_eq_true (hd.1 (by omega)), decide_eq_true a1]
       by_cases a3 : d.f2 < -1000
       · rw [if_pos a3, decide_eq_false (show ¬ -1000 ≤ d.f2 by omega)]; simp
       rw [if_neg a3, decide_eq_true (show -1000 ≤ d.f2 by omega)]
       by_cases a4 : 1000 < d.f2
       · rw [if_pos a4, decide_eq_false (show ¬ d.f2 ≤ 1000 by omega)]; simp
       rw [if_neg a4, decide_eq_true (show d.f2 ≤ 1000 by omega)]; simp
 · refine .inl ⟨h0, ?_⟩
   unfold dchk decOkB
   rw [if_neg]
   intro hh
   simp only [Bool.and_eq_true, decide_eq_true_eq] at hh
   exact h0 (hc.2 ⟨by omega, hh.1.2⟩)
set_option maxHeartbeats 2000000 in
theorem rdchk_any (d : D) (A : Option Addr) (c : Nat) (w : World) (hC : Kd.C (Kd.int .u32) w A d.f1.length d.f1) (hO : OkD d) :
 Calls Tryz.prog 196 #[.agg #[.bool d.f0, .slice A d.f1.length c, .int .i64 d.f2]] w fun e w' => e = .returned (.int .i64 (dchk d)) ∧ Below w.heap.size w w' := by
 have hcs := decOk_cases d hO.limbs
 have hm := hC.2.1
 have HCK := Lib.hid (fun W (hW : Below w.heap.size w W) => rchk_any d.f1 A c W (Kd.C_below hC hW))
 have HOF := Lib.hid (fun W (hW : Below w.heap.size w W) (hl : d.f1.length ≤ 256) => Of_any d A c W (Kd.C_below hC hW) hl hO.limbs)
 have hdl := decs_nil_iff' (val d.f1)
 have hten := fun h : val d.f1 ≠ 0 => decs_ten h
 generalize dchk d = r at *
 generalize hv : val d.f1 = v at *
 generalize chk d.f1 = k at *
 generalize d.f1.length = n at *
 generalize d.f0 = b at *
 generalize d.f2 = x at *
 obtain ⟨W1, hW1⟩ : ∃ W1, W1 = w.alloc (.cells #[.bool b, .slice A n c, .int .i64 x] 24) := ⟨_, rfl⟩
 have hb1 : Below w.heap.size w W1 := by rw [hW1]; exact (Below.refl _ _).alloc (Nat.le_refl _) _
 have hx1 : W1.heap[w.heap.size]? = some (.cells #[.bool b, .slice A n c, .int .i64 x] 24 (0, 0)) := by rw [hW1]; exact blk_new _ _
 have HW1 := Lib.hid hW1
 have HB1 := Lib.hid hb1
 have HX1 := Lib.hid hx1
 obtain ⟨hcx, hfx⟩ := bcells hx1 (Below.refl _ _)
 clear hW1 hb1 hx1 hv hC hO
 rcases hcs with ⟨h1, rfl⟩ | ⟨rfl, h2, rfl⟩ | ⟨rfl, h2, rfl, rfl, hr⟩ | ⟨rfl, h2, h3, hr⟩
 · have g1 : (k != 0) = true := by simpa using h1
   go_enter Tryz.func196, Tryz.ntmps196
   go_upto_region 1 with (fail)
   rw [← HW1.out]
   go_wp2_with (go_at_call 245; (with_reducible refine (HCK.out _ HB1.out).mono ?_); rintro e w2 ⟨rfl, hw2⟩; obtain rfl := hw2.symm)
   go_ret
   exact ⟨rfl, HB1.out⟩
 · have g1 : (40 : Int) < (n : Int) := by omega
   have g2 : decide (40 < n) = true := by simpa using h2
   go_enter Tryz.func196, Tryz.ntmps196
   go_upto_region 1 with (fail)
   rw [← HW1.out]
   go_wp2_with (go_at_call 245; (with_reducible refine (HCK.out _ HB1.out).mono ?_); rintro e w2 ⟨rfl, hw2⟩; obtain rfl := hw2.symm)
   go_ret
   exact ⟨rfl, HB1.out⟩
 · have hr2 : r = if b = true then 9 else if x = 0 then 0 else 9 := hr
   have hd0 : (decs 0).length = 0 := hdl.2 rfl
   have HR := Lib.hid hr2
   have g1 : decide (40 < 0) = false := rfl
   clear hr hr2 hten hdl
   go_enter Tryz.func196, Tryz.ntmps196
   go_upto_region 1 with (fail)
   rw [← HW1.out]
   go_upto_region 4 with (first
    | (go_at_call 245; (with_reducible refine (HCK.out _ HB1.out).mono ?_); rintro e w2 ⟨rfl, hw2⟩; obtain rfl := hw2.symm)
    | (go_at_call 162; (with_reducible refine (HOF.out _ HB1.out (by omega)).mono ?_); rintro e w5 ⟨G, g, rfl, hR5, hB5⟩; obtain ⟨hc0, hf0⟩ := bcells (blk_new w5 (.cells #[.bool false, .slice none 0 0, .int .i64 0] 144)) (Below.refl _ _); have HR5 := Lib.hid hR5; have HX5 := Lib.hid (blk_below2 HX1.out hB5); have HB5 := Lib.hid (HB1.out.trans (hB5.mono HB1.out.size)); clear hR5 hB5))
   obtain ⟨X5, hX5⟩ : ∃ X5, X5 = w5.alloc (.cells #[.bool b, .slice G (decs 0).length g, .int .i64 x] 144) := ⟨_, rfl⟩
   have hn5 : X5.heap[w5.heap.size]? = some (.cells #[.bool b, .slice G (decs 0).length g, .int .i64 x] 144 (0, 0)) := by rw [hX5]; exact blk_new _ _
   have hx5 := blk_alloc HX5.out (.cells #[.bool b, .slice G (decs 0).length g, .int .i64 x] 144)
   have hb5 := HB5.out.alloc HB5.out.size (.cells #[.bool b, .slice G (decs 0).length g, .int .i64 x] 144)
   rw [← hX5] at hx5 hb5
   rw [hd0] at hX5 hn5
   rw [← hX5]
   have HB6 := Lib.hid hb5
   clear hX5 hcx hfx hc0 hf0 hb5 hd0
   obtain ⟨hcx, hfx⟩ := bcells hx5 (Below.refl _ _)
   obtain ⟨hcn, hfn⟩ := bcells hn5 (Below.refl _ _)
   clear hx5 hn5
   cases b with
   | true =>
    have HRR : Hid (r = 9) := Lib.hid (by rw [HR.out]; rfl)
    go_wp2
    go_ret
    exact ⟨by rw [HRR.out]; rfl, HB6.out⟩
   | false =>
    by_cases h5 : x = 0
    · have HRR : Hid (r = 0) := Lib.hid (by rw [HR.out, if_neg (by decide), if_pos h5])
      subst h5
      go_wp2
      go_ret
      exact ⟨by rw [HRR.out]; rfl, HB6.out⟩
    · have HRR : Hid (r = 9) := Lib.hid (by rw [HR.out, if_neg (by decide), if_neg h5])
      have h5b : (x != 0) = true := by simpa using h5
      clear h5
      go_wp2
      go_ret
      exact ⟨by rw [HRR.out]; rfl, HB6.out⟩
 · have HR := Lib.hid hr
   have hdn : (decs v).length ≠ 0 := fun h => h3 (hdl.1 h)
   have HTN := Lib.hid (hten h3)
   have g1 : ¬ (40 : Int) < (n : Int) := by omega
   have g2 : decide (40 < n) = false := by simp; omega
   clear hr hdl hten h3
   go_enter Tryz.func196, Tryz.ntmps196
   go_upto_region 1 with (fail)
   rw [← HW1.out]
   go_upto_region 4 with (first
    | (go_at_call 245; (with_reducible refine (HCK.out _ HB1.out).mono ?_); rintro e w2 ⟨rfl, hw2⟩; obtain rfl := hw2.symm)
    | (go_at_call 162; (with_reducible refine (HOF.out _ HB1.out (by omega)).mono ?_); rintro e w5 ⟨G, g, rfl, hR5, hB5⟩; obtain ⟨hc0, hf0⟩ := bcells (blk_new w5 (.cells #[.bool false, .slice none 0 0, .int .i64 0] 144)) (Below.refl _ _); have HR5 := Lib.hid hR5; have HX5 := Lib.hid (blk_below2 HX1.out hB5); have HB5 := Lib.hid (HB1.out.trans (hB5.mono HB1.out.size)); clear hR5 hB5))
   clear g1 g2
   obtain ⟨ds, hds⟩ : ∃ ds, ds = decs v := ⟨_, rfl⟩
   rw [← hds] at HR5 HTN HR hdn ⊢
   obtain ⟨ln, hln⟩ : ∃ ln, ln = ds.length := ⟨_, rfl⟩
   rw [← hln] at HR5 HR hdn ⊢
   have hC5 := (Kd.R_reads' HR5.out).2.2
   obtain ⟨ad, rfl, hc1⟩ := Kd.at_int hC5 (0 : Int) (by omega) (by omega)
   rw [HTN.out] at hc1
   obtain ⟨X5, hX5⟩ : ∃ X5, X5 = w5.alloc (.cells #[.bool b, .slice (some ad) ln g, .int .i64 x] 144) := ⟨_, rfl⟩
   have hn5 : X5.heap[w5.heap.size]? = some (.cells #[.bool b, .slice (some ad) ln g, .int .i64 x] 144 (0, 0)) := by rw [hX5]; exact blk_new _ _
   have hx5 := blk_alloc HX5.out (.cells #[.bool b, .slice (some ad) ln g, .int .i64 x] 144)
   have hb5 := HB5.out.alloc HB5.out.size (.cells #[.bool b, .slice (some ad) ln g, .int .i64 x] 144)
   have hc6 := pw_cell_below (below_alloc (Below.refl _ _) (.cells #[.bool b, .slice (some ad) ln g, .int .i64 x] 144)) hc1
   rw [← hX5] at hx5 hb5 hc6 ⊢
   have HB6 := Lib.hid hb5
   have HC6 : Hid (X5.cell? (ad.add 0) = some (.int .i64 ((v % 10 : Nat) : Int))) := Lib.hid hc6
   clear hX5 hcx hfx hc0 hf0 hb5 hc1 hc6 hC5
   obtain ⟨hcx, hfx⟩ := bcells hx5 (Below.refl _ _)
   obtain ⟨hcn, hfn⟩ := bcells hn5 (Below.refl _ _)
   have hcd := HC6.out
   have hcd' : X5.cell? ad = some (.int .i64 ((v % 10 : Nat) : Int)) := by have := HC6.out; simpa [Addr.add] using this
   have g0 : ((ln : Int) == 0) = false := by rw [beq_eq_false_iff_ne]; omega
   have g1 : (0 : Int) < (ln : Int) := by omega
   have g2 : 0 < ln := by omega
   clear hx5 hn5 hds hdn HR5 HX5 HB5 HOF HCK HTN
   generalize v % 10 = v0 at *
   by_cases h1 : v0 = 0
   · have HRR : Hid (r = 9) := Lib.hid (by rw [HR.out, if_pos h1])
     subst h1
     go_wp2
     go_ret
     exact ⟨by rw [HRR.out]; rfl, HB6.out⟩
   have e1 : (((v0 : Nat) : Int) == 0) = false := by rw [beq_eq_false_iff_ne]; omega
   by_cases h2 : 300 < ln
   · have HRR : Hid (r = 9) := Lib.hid (by rw [HR.out, if_neg h1, if_pos h2])
     have e2 : (300 : Int) < (ln : Int) := by omega
     have e3 : decide (300 < ln) = true := by simpa using h2
     clear h1 h2
     go_wp2
     go_ret
     exact ⟨by rw [HRR.out]; rfl, HB6.out⟩
   have e2 : ¬ (300 : Int) < (ln : Int) := by omega
   have e3 : decide (300 < ln) = false := by simpa using h2
   by_cases h4 : x < -1000
   · have HRR : Hid (r = 9) := Lib.hid (by rw [HR.out, if_neg h1, if_neg h2, if_pos h4])
     have e4 : decide (x < -1000) = true := by simpa using h4
     clear h1 h2
     go_wp2
     go_ret
     exact ⟨by rw [HRR.out]; rfl, HB6.out⟩
   have e4 : decide (x < -1000) = false := by simpa using h4
   by_cases h5 : 1000 < x
   · have HRR : Hid (r = 9) := Lib.hid (by rw [HR.out, if_neg h1, if_neg h2, if_neg h4, if_pos h5])
     have e5 : decide (1000 < x) = true := by simpa using h5
     clear h1 h2
     go_wp2
     go_ret
     exact ⟨by rw [HRR.out]; rfl, HB6.out⟩
   · have HRR : Hid (r = 0) := Lib.hid (by rw [HR.out, if_neg h1, if_neg h2, if_neg h4, if_neg h5])
     have e5 : decide (1000 < x) = false := by simpa using h5
     clear h1 h2
     go_wp2
     go_ret
     exact ⟨by rw [HRR.out]; rfl, HB6.out⟩
end Go.Proofs.YthigbklhngihkaaGreatDoor.P
namespace Go.Proofs.YthigbklhngihkaaGreatDoor.P
open Go.RowKit Go.Proofs.YthigbklhngihkaaGreatDoorW.PrintWords
def encR (c : Int) : List Int :=
 if c < 128 then [c] else if c < 2048 then [192 + c / 64, 128 + c % 64]
 else if c < 65536 then [224 + c / 4096, 128 + c / 64 % 64, 128 + c % 64]
 else [240 + c / 262144, 128 + c / 4096 % 64, 128 + c / 64 % 64, 128 + c % 64]
def rune (c : Int) : Prop := 0 ≤ c ∧ c ≤ 1114111 ∧ ¬ (55296 ≤ c ∧ c ≤ 57343)
instance (c : Int) : Decidable (rune c) := by unfold rune; infer_instance
def okO (l : List Int) : Prop := ∀ x ∈ l, 0 ≤ x ∧ x < 256
theorem okO_getD {l : List Int} (h : okO l) (i : Nat) : 0 ≤ l.getD i 0 ∧ l.getD i 0 < 256 := by
 rw [List.getD_eq_getElem?_getD]
 by_cases hi : i < l.length
 · rw [List.getElem?_eq_getElem hi]; exact h _ (List.getElem_mem hi)
 · rw [List.getElem?_eq_none (by omega)]; simp
def decN (l : List Int) : Nat × Nat := Lib.decodeN l.length (l.getD 0 0).toNat (l.getD 1 0).toNat (l.getD 2 0).toNat (l.getD 3 0).toNat
def dc (l : List Int) : Int := if (decN l).1 = 65533 ∧ (decN l).2 = 1 then -1 else ((decN l).1 : Int)
def dn (l : List Int) : Nat := (decN l).2
theorem list2 {l : List Int} (h : 2 ≤ l.length) : l = [l.getD 0 0, l.getD 1 0] ++ l.drop 2 := by
 match l, h with
 | a :: b :: r, _ => rfl
theorem list1 {l : List Int} (h : 1 ≤ l.length) : l = [l.getD 0 0] ++ l.drop 1 := by
 match l, h with
 | a :: r, _ => rfl
theorem list3 {l : List Int} (h : 3 ≤ l.length) : l = [l.getD 0 0, l.getD 1 0, l.getD 2 0] ++ l.drop 3 := by
 match l, h with
 | a :: b :: c :: r, _ => rfl
theorem list4 {l : List Int} (h : 4 ≤ l.length) : l = [l.getD 0 0, l.getD 1 0, l.getD 2 0, l.getD 3 0] ++ l.drop 4 := by
 match l, h with
 | a :: b :: c :: d :: r, _ => rfl
theorem encR_okO {c : Int} (h : rune c) : okO (encR c) := by
 obtain ⟨h0, h1, h2⟩ := h
 unfold encR
 repeat' split
 all_goals intro x hx
 all_goals simp at hx
 · omega
 · rcases hx with rfl | rfl <;> omega
 · rcases hx with rfl | rfl | rfl <;> omega
 · rcases hx with rfl | rfl | rfl | rfl <;> omega
theorem dec_enc {c : Int} (h : rune c) (r : List Int) : dc (encR c ++ r) = c ∧ dn (encR c ++ r) = (encR c).length := by
 obtain ⟨h0, h1, h2⟩ := h
 have key : decN (encR c ++ r) = (c.toNat, (encR c).length) := by
  unfold encR decN
  split
  · simp only [List.cons_append, List.nil_append, List.length_cons, List.getD_cons_zero, List.length_nil]
    unfold Lib.decodeN
    rw [if_pos (by omega)]
  split
  · simp only [List.cons_append, List.nil_append, List.length_cons, List.getD_cons_zero, List.getD_cons_succ, List.length_nil]
    unfold Lib.decodeN
    rw [if_neg (by omega), if_pos (by omega), if_pos (by omega)]
    simp; omega
  split
  · simp only [List.cons_append, List.nil_append, List.length_cons, List.getD_cons_zero, List.getD_cons_succ, List.length_nil]
    unfold Lib.decodeN
    rw [if_neg (by omega), if_neg (by omega), if_pos (by omega), if_pos (by omega)]
    simp; omega
  · simp only [List.cons_append, List.nil_append, List.length_cons, List.getD_cons_zero, List.getD_cons_succ, List.length_nil]
    unfold Lib.decodeN
    rw [if_neg (by omega), if_neg (by omega), if_neg (by omega), if_pos (by omega), if_pos (by omega)]
    simp; omega
 unfold dc dn
 rw [key]
 refine ⟨?_, rfl⟩
 simp only
 rw [if_neg]
 · omega
 · rintro ⟨ha, hb⟩
   unfold encR at hb
   split at hb
   · omega
   split at hb
   · simp at hb
   split at hb <;> simp at hb
theorem enc_dec {l : List Int} (h : okO l) (hn : l ≠ []) (hc : 0 ≤ dc l) : rune (dc l) ∧ encR (dc l) ++ l.drop (dn l) = l ∧ dn l = (encR (dc l)).length := by
 have hl : 1 ≤ l.length := List.length_pos_iff.2 hn
 have b0 := okO_getD h 0
 have b1 := okO_getD h 1
 have b2 := okO_getD h 2
 have b3 := okO_getD h 3
 have l1 := list1 hl
 have l2 := @list2 l
 have l3 := @list3 l
 have l4 := @list4 l
 revert hc
 unfold dc dn decN Lib.decodeN
 generalize l.getD 0 0 = x0 at *
 generalize l.getD 1 0 = x1 at *
 generalize l.getD 2 0 = x2 at *
 generalize l.getD 3 0 = x3 at *
 split
 · simp only
   rw [if_neg (by omega)]
   intro _
   have e : ((x0.toNat : Nat) : Int) = x0 := by omega
   rw [e]
   unfold rune encR
   rw [if_pos (by omega)]
   exact ⟨by omega, l1.symm, rfl⟩
 split
 · split
   · simp only
     rw [if_neg (by omega)]
     intro _
     have e1 : (((x0.toNat % 32 * 64 + x1.toNat % 64 : Nat) : Int)) / 64 + 192 = x0 := by omega
     have e2 : (((x0.toNat % 32 * 64 + x1.toNat % 64 : Nat) : Int)) % 64 + 128 = x1 := by omega
     generalize (((x0.toNat % 32 * 64 + x1.toNat % 64 : Nat) : Int)) = v at *
     unfold rune encR
     rw [if_neg (by omega), if_pos (by omega), Int.add_comm 192, Int.add_comm 128, e1, e2]
     exact ⟨by omega, (l2 (by omega)).symm, rfl⟩
   · simp
 split
 · split
   · simp only
     rw [if_neg (by omega)]
     intro _
     have e1 : (((x0.toNat % 16 * 4096 + x1.toNat % 64 * 64 + x2.toNat % 64 : Nat) : Int)) / 4096 + 224 = x0 := by omega
     have e2 : (((x0.toNat % 16 * 4096 + x1.toNat % 64 * 64 + x2.toNat % 64 : Nat) : Int)) / 64 % 64 + 128 = x1 := by omega
     have e3 : (((x0.toNat % 16 * 4096 + x1.toNat % 64 * 64 + x2.toNat % 64 : Nat) : Int)) % 64 + 128 = x2 := by omega
     have e4 : (((x0.toNat % 16 * 4096 + x1.toNat % 64 * 64 + x2.toNat % 64 : Nat) : Int)) < 65536 := by omega
     have e5 : 2048 ≤ (((x0.toNat % 16 * 4096 + x1.toNat % 64 * 64 + x2.toNat % 64 : Nat) : Int)) := by omega
     have e6 : (((x0.toNat % 16 * 4096 + x1.toNat % 64 * 64 + x2.toNat % 64 : Nat) : Int)) < 55296 ∨ 57344 ≤ (((x0.toNat % 16 * 4096 + x1.toNat % 64 * 64 + x2.toNat % 64 : Nat) : Int)) := by omega
     generalize (((x0.toNat % 16 * 4096 + x1.toNat % 64 * 64 + x2.toNat % 64 : Nat) : Int)) = v at *
     unfold rune encR
     rw [if_neg (by omega), if_neg (by omega), if_pos (by omega), Int.add_comm 224, Int.add_comm 128, Int.add_comm 128, e1, e2, e3]
     exact ⟨by omega, (l3 (by omega)).symm, rfl⟩
   · simp
 split
 · split
   · simp only
     rw [if_neg (by omega)]
     intro _
     have e1 : (((x0.toNat % 8 * 262144 + x1.toNat % 64 * 4096 + x2.toNat % 64 * 64 + x3.toNat % 64 : Nat) : Int)) / 262144 + 240 = x0 := by omega
     have e2 : (((x0.toNat % 8 * 262144 + x1.toNat % 64 * 4096 + x2.toNat % 64 * 64 + x3.toNat % 64 : Nat) : Int)) / 4096 % 64 + 128 = x1 := by omega
     have e3 : (((x0.toNat % 8 * 262144 + x1.toNat % 64 * 4096 + x2.toNat % 64 * 64 + x3.toNat % 64 : Nat) : Int)) / 64 % 64 + 128 = x2 := by omega
     have e4 : (((x0.toNat % 8 * 262144 + x1.toNat % 64 * 4096 + x2.toNat % 64 * 64 + x3.toNat % 64 : Nat) : Int)) % 64 + 128 = x3 := by omega
     have e5 : 65536 ≤ (((x0.toNat % 8 * 262144 + x1.toNat % 64 * 4096 + x2.toNat % 64 * 64 + x3.toNat % 64 : Nat) : Int)) := by omega
     have e6 : (((x0.toNat % 8 * 262144 + x1.toNat % 64 * 4096 + x2.toNat % 64 * 64 + x3.toNat % 64 : Nat) : Int)) ≤ 1114111 := by omega
     generalize (((x0.toNat % 8 * 262144 + x1.toNat % 64 * 4096 + x2.toNat % 64 * 64 + x3.toNat % 64 : Nat) : Int)) = v at *
     unfold rune encR
     rw [if_neg (by omega), if_neg (by omega), if_neg (by omega), Int.add_comm 240, Int.add_comm 128, Int.add_comm 128, Int.add_comm 128, e1, e2, e3, e4]
     exact ⟨by omega, (l4 (by omega)).symm, rfl⟩
   · simp
 · simp
theorem okO_bytesOf (s : ByteArray) : okO (bytesOf s) := by
 intro x hx
 unfold bytesOf at hx
 obtain ⟨b, _, rfl⟩ := List.mem_map.1 hx
 have := UInt8.toNat_lt b
 omega
theorem str_bytesOf (s : ByteArray) : strOfNums (bytesOf s) = s := by
 cases s with
 | mk d =>
  unfold strOfNums bytesOf
  simp only [List.map_map]
  rw [show ((fun n : Int => UInt8.ofNat n.toNat) ∘ fun b : UInt8 => (b.toNat : Int)) = id from funext fun b => by simp]
  simp
theorem bytesOf_str {l : List Int} (h : okO l) : bytesOf (strOfNums l) = l := by
 unfold strOfNums bytesOf
 simp only [List.toList_toArray, List.map_map]
 conv => rhs; rw [← List.map_id l]
 refine List.map_congr_left fun x hx => ?_
 have := h x hx
 simp only [Function.comp, id]
 rw [UInt8.toNat_ofNat']
 omega
theorem bytesOf_getD (s : ByteArray) (p i : Nat) : ((bytesOf s).drop p).getD i 0 = ((s.get! (p + i)).toNat : Int) := by
 unfold bytesOf
 rw [List.getD_eq_getElem?_getD, List.getElem?_drop, List.getElem?_map]
 simp only [ByteArray.get!, getElem!_def]
 by_cases h : p + i < s.data.size
 · rw [Array.getElem?_eq_getElem h, List.getElem?_eq_getElem (by simpa using h)]
   simp
 · have hz : s.data.size = s.size := rfl
   rw [Array.getElem?_eq_none (by omega), List.getElem?_eq_none (by simp; omega)]
   rfl
theorem decN_at (s : ByteArray) (p : Nat) : decN ((bytesOf s).drop p) = Utf8.decode s p := by
 rw [Lib.decode_at]
 unfold decN
 simp only [bytesOf_getD, List.length_drop, bytesOf_length, Int.toNat_natCast, Nat.add_zero]
theorem uc_dc (s : ByteArray) (p : Nat) : uc s p = dc ((bytesOf s).drop p) := by unfold uc dc; rw [decN_at]
theorem un_dn (s : ByteArray) (p : Nat) : un s p = dn ((bytesOf s).drop p) := by unfold un dn; rw [decN_at]
theorem toL_inj {a b : ByteArray} : a.toList = b.toList ↔ a = b := by
 rw [ByteArray.toList_eq, ByteArray.toList_eq]
 exact ⟨fun h => ByteArray.ext (Array.toList_inj.mp h), fun h => by rw [h]⟩
theorem str_eq {l : List Int} (h : okO l) (t : ByteArray) : (strOfNums l).toList = t.toList ↔ l = bytesOf t := by
 rw [toL_inj]
 constructor
 · intro e; rw [← e, bytesOf_str h]
 · intro e; rw [e, str_bytesOf]
theorem bytesOf_cut (s : ByteArray) (i j : Nat) : bytesOf (s.extract i j) = ((bytesOf s).drop i).take (j - i) := by
 unfold bytesOf
 rw [ByteArray.data_extract, Array.toList_extract]
 simp [List.extract_eq_take_drop, List.map_take, List.map_drop]
theorem bt_bytes (s : ByteArray) (i : Nat) : bt s i = (bytesOf s).getD i 0 := by
 rw [← rd_bytesOf]; unfold rd; rw [Int.toNat_natCast]
theorem first_spec {L : List Int} (h : okO L) (hn : L ≠ []) (n : Int) (z : Nat) (hu : ∀ c, rune c → encR c ++ L.drop (encR c).length = L → c = n ∧ (encR c).length = z) :
 (if z ≤ L.length ∧ rune n ∧ encR n = L.take z then (n, (z : Int)) else (0, 0)) = if 0 ≤ dc L then (dc L, (dn L : Int)) else (0, 0) := by
 by_cases hd : 0 ≤ dc L
 · obtain ⟨e1, e2, e3⟩ := enc_dec h hn hd
   rw [e3] at e2
   obtain ⟨u1, u2⟩ := hu _ e1 e2
   have hl := congrArg List.length e2
   rw [List.length_append] at hl
   rw [if_pos hd, if_pos, u1, e3, u2]
   refine ⟨by omega, u1 ▸ e1, ?_⟩
   have ht := congrArg (List.take (encR (dc L)).length) e2
   rw [List.take_left, u2, u1] at ht
   exact ht
 · rw [if_neg hd, if_neg]
   rintro ⟨h1, h2, h3⟩
   have e : encR n ++ L.drop z = L := by rw [h3, List.take_append_drop]
   have := (dec_enc h2 (L.drop z)).1
   rw [e] at this
   rw [this] at hd
   exact hd h2.1
theorem heads {L R : List Int} {c : Int} (h : encR c ++ R = L) :
 (c < 128 ∧ L.getD 0 0 = c ∧ (encR c).length = 1) ∨ (128 ≤ c ∧ c < 2048 ∧ L.getD 0 0 = 192 + c / 64 ∧ L.getD 1 0 = 128 + c % 64 ∧ (encR c).length = 2) ∨
 (2048 ≤ c ∧ c < 65536 ∧ L.getD 0 0 = 224 + c / 4096 ∧ L.getD 1 0 = 128 + c / 64 % 64 ∧ L.getD 2 0 = 128 + c % 64 ∧ (encR c).length = 3) ∨
 (65536 ≤ c ∧ L.getD 0 0 = 240 + c / 262144 ∧ L.getD 1 0 = 128 + c / 4096 % 64 ∧ L.getD 2 0 = 128 + c / 64 % 64 ∧ L.getD 3 0 = 128 + c % 64 ∧ (encR c).length = 4) := by
 rw [← h]
 unfold encR
 by_cases c1 : c < 128
 · rw [if_pos c1]; exact .inl ⟨c1, rfl, rfl⟩
 rw [if_neg c1]
 by_cases c2 : c < 2048
 · rw [if_pos c2]; exact .inr (.inl ⟨by omega, c2, rfl, rfl, rfl⟩)
 rw [if_neg c2]
 by_cases c3 : c < 65536
 · rw [if_pos c3]; exact .inr (.inr (.inl ⟨by omega, c3, rfl, rfl, rfl, rfl⟩))
 rw [if_neg c3]; exact .inr (.inr (.inr ⟨by omega, rfl, rfl, rfl, rfl, rfl⟩))
def firstR (L : List Int) : Int × Int := if L ≠ [] ∧ 0 ≤ dc L then (dc L, (dn L : Int)) else (0, 0)
theorem cut_bytes (s : ByteArray) (p : Nat) : bytesOf (s.extract p s.size) = (bytesOf s).drop p := by
 rw [bytesOf_cut, List.take_of_length_le]
 rw [List.length_drop, bytesOf_length]
 omega
theorem firstR_ne {L : List Int} (h : L ≠ []) (hd : 0 ≤ dc L) : firstR L = (dc L, (dn L : Int)) := by unfold firstR; rw [if_pos ⟨h, hd⟩]
theorem firstR_bad {L : List Int} (hd : ¬ 0 ≤ dc L) : firstR L = (0, 0) := by unfold firstR; rw [if_neg (fun h => hd h.2)]
theorem drop_ne {s : ByteArray} {p : Nat} (h : p < s.size) : (bytesOf s).drop p ≠ [] := by
 intro e
 have := congrArg List.length e
 rw [List.length_drop, bytesOf_length, List.length_nil] at this
 omega
end Go.Proofs.YthigbklhngihkaaGreatDoor.P

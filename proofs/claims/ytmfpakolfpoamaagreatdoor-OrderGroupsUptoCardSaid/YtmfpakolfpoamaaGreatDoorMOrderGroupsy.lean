/- Texts of this claim, one behind the other. -/
import Derived.Test.YtmfpakolfpoamaaGreatDoorMOrderGroupsx
namespace Go.Proofs.YtmfpakolfpoamaaGreatDoor.P
set_option linter.unusedVariables false
set_option linter.unusedSimpArgs false
open Go.RowKit Go.Proofs.YtmfpakolfpoamaaGreatDoorW.PrintWords Go.Proofs.YtmfpakolfpoamaaGreatDoorW.PrintMore Go.Proofs.YtmfpakolfpoamaaGreatDoorW.PrintLast
attribute [local go_sem] Oper.semAt_some
section
variable {F : Fence} {n m : Nat} {P : Program}
def rndPost2 (l : Nat) (rb : Loop) (R : Loop → World → Prop) : Exit → Act → World → Prop
 | .normal, _, W => W.heap[l]? = some (.loop rb) ∧ ∀ r', R r' (W.putObj l (.loop r'))
 | .ret, _, _ => False
 | .exit _, _, _ => False
 | .goto _, _, _ => False
 | .panic _, _, _ => False
 | .outgrown, _, _ => False
theorem round_go2 {l : Nat} {r : Loop} {args : Array Value} {W : World} {R : Loop → World → Prop} (hfn : F.fn r.fn) (hl : W.heap[l]? = some (.loop r)) (hr : r.state = .ready) (hpn : r.pending = none) (hs : args.size = r.params.size)
 (h : r.assign.wpIn (F.inRound l) m P (Exit.then (fun a1 w1 => w1 = W ∧ Hid (∀ (rb : Loop) (Wb : World), Wb = W.putObj l (.loop rb) → r.body.wpIn (F.inRound l) m P (rndPost2 l rb R) a1 Wb)) (fun _ _ _ => False))
  { tmps := (r.params.zip args).foldl (fun t (p, v) => t.setIfInBounds p v) r.tmps, defers := [] } W) :
 YieldAt F m P l args W (fun e W' => e = .returned (.bool true) ∧ R r W') := by
 refine round_go hfn hl hr hs (wpIn_mono h ?_)
 rintro e a1 w1 hp1
 cases e with
 | normal =>
  obtain ⟨rfl, hb⟩ := hp1
  refine ⟨hl, wpIn_mono (hb.out _ _ rfl) ?_⟩
  rintro e2 a2 w2 hq
  cases e2 with
  | normal =>
   refine ⟨hq.1, ?_⟩
   have h2 := hq.2 r
   obtain ⟨st, pd, f1, f2, f3, f4, f5, f6⟩ := r
   cases hr
   cases hpn
   exact h2
  | ret => exact hq.elim
  | exit id => exact hq.elim
  | goto t => exact hq.elim
  | panic ch => exact hq.elim
  | outgrown => exact hq.elim
 | ret => exact hp1.elim
 | exit id => exact hp1.elim
 | goto t => exact hp1.elim
 | panic ch => exact hp1.elim
 | outgrown => exact hp1.elim
end
theorem below_put {B l : Nat} {w W : World} (h : Below B w W) (hl : B ≤ l) (o : Obj) : Below B w (W.putObj l o) :=
 ⟨h.os, h.tape, h.output, by rw [World.putObj_size]; exact h.size, fun j hj => (World.putObj_heap_other (by omega)).trans (h.block j hj)⟩
theorem GW.put {w W0 W : World} {B7 : Nat} {r : Loop} {done : List (List V)} {now : List V} {vn : Value} (h : GW w W0 B7 r done now vn W) (hB : B7 < W0.heap.size) (r' : Loop) : GW w W0 B7 r' done now vn (W.putObj (W0.heap.size + 1) (.loop r')) := by
 obtain ⟨v, h1, h2⟩ := h.out
 obtain ⟨rows, n1, n2, n3⟩ := h.nw
 have far : ∀ k, k ≠ W0.heap.size + 1 → (W.putObj (W0.heap.size + 1) (.loop r')).heap[k]? = W.heap[k]? := fun k hk => World.putObj_heap_other hk
 have mv : ∀ {α : Type} {d : Kd α} {e : Nat} {ok : Nat → Prop} {u : Value} {xs : List α}, d.R e W (W0.heap.size + 2) ok u xs → d.R e (W.putObj (W0.heap.size + 1) (.loop r')) (W0.heap.size + 2) ok u xs := fun h => Kd.R_mono (Kd.R_move (Kd.R_bound h) (fun j hj => far j (by omega))) (fun _ hk => hk.1)
 refine ⟨⟨h.keep.os, h.keep.tape, h.keep.output, by rw [World.putObj_size]; exact h.keep.size, fun b hb hne => (far b (by omega)).trans (h.keep.block b hb hne)⟩, by rw [World.putObj_size]; exact h.size, World.putObj_heap_same (by have := h.size; omega), (far _ (by omega)).trans h.dfr, ⟨v, (far _ (by omega)).trans h1, mv h2⟩, ⟨rows, n1, mv n2, n3⟩, h.ok⟩
theorem GW.told {w W0 W W5 w7 : World} {B7 : Nat} {r : Loop} {done : List (List V)} {now : List V} {vn v v1 : Value} (h : GW w W0 B7 r done now vn W) (hB : B7 < W0.heap.size) (hv : W.heap[B7]? = some (.cells #[v] 47 (0, 0))) (hvb : ∀ k, v.ownBlock = some k → W0.heap.size + 2 ≤ k) (hb : Below W.heap.size W W5)
 (hR7 : (Kd.slice 34 k34).R 22 w7 (W0.heap.size + 2) (fun _ => True) v1 (done ++ [now])) (hg : W5.grownBy w7 v.ownBlock) : GW w W0 B7 r (done ++ [now]) [] (.slice none 0 0) (w7.setCell ⟨B7, 0, none⟩ v1) := by
 have h5 := h.below hb
 have hs5 := h5.size
 have ne : ∀ {k : Nat}, k < W0.heap.size + 2 → some k ≠ v.ownBlock := fun hk e => by have := hvb _ e.symm; omega
 have hx7 : w7.heap[B7]? = some (.cells #[v] 47 (0, 0)) := (hg.block _ (by omega) (ne (by omega))).trans ((hb.block B7 (blk_lt hv)).trans hv)
 have hs := setCells_same B7 [v1] 0 w7
 have far : ∀ k, k ≠ B7 → (w7.setCell ⟨B7, 0, none⟩ v1).heap[k]? = w7.heap[k]? := fun k hk => setCells_far (g := B7) (w := w7) [v1] 0 k hk
 refine ⟨(h5.keep.grown hg (fun k e => by have := hvb k e; omega)).setCells [v1] 0, ?_, ?_, ?_, ⟨v1, blk_set hx7 0 v1, Kd.R_mono (Kd.R_set hR7 hx7 (by decide) 0 v1) (fun k hk => ⟨trivial, by simp [Value.ownBlock]⟩)⟩, ⟨[], rfl, Kd.R_nil _ _ _ _ _, fun j x c hj _ => by simp at hj⟩, fun x hx => by cases hx⟩
 · show W0.heap.size + 2 ≤ (w7.setCells B7 0 [v1]).heap.size
   rw [hs.2.2.2]
   exact Nat.le_trans hs5 hg.size
 · exact (far _ (by omega)).trans ((hg.block _ (blk_lt h5.loop) (ne (by omega))).trans h5.loop)
 · exact (far _ (by omega)).trans ((hg.block _ (blk_lt h5.dfr) (ne (by omega))).trans h5.dfr)
theorem groups_any (A : Option Addr) (n c : Nat) (w : World) : Calls Tryz.prog 47 #[.slice A n c, .func (.func 40) #[] #[]] w fun e w' => e = .returned (.func (.func 72) #[] #[.pointer (some ⟨w.heap.size, 0, none⟩), .pointer (some ⟨w.heap.size + 1, 0, none⟩)]) ∧ w' = (w.alloc (.cells #[.slice A n c] 77)).alloc (.cells #[.func (.func 40) #[] #[]] 43) := by
 go_enter Tryz.func47, Tryz.ntmps47
 go_wp2
 go_ret
 exact ⟨rfl, rfl⟩
theorem SortRow.key {w w' : World} {ks l : List V} {n : Nat} {A : Option Addr} {S : List PEl} (h : SortRow w w' ks l n A S) (hl : n ≤ ks.length) : ∀ e ∈ S, e.key ∈ ks := fun e he => by
 obtain ⟨rows, hp⟩ := h.perm
 obtain ⟨i, hi⟩ := List.mem_iff_getElem?.1 (hp.mem_iff.1 he)
 obtain ⟨h1, rfl⟩ := pels_at hi
 exact rd_mem (by omega)
theorem GW.start {w W0 : World} {B7 : Nat} (r : Loop) (hx : W0.heap[B7]? = some (.cells #[.slice none 0 0] 47 (0, 0))) : GW w W0 B7 r [] [] (.slice none 0 0) ((W0.alloc (.deferred (some []))).alloc (.loop r)) := by
 refine ⟨(KeepG.refl _ _).then ((below_alloc (below_alloc (Below.refl W0.heap.size W0) (.deferred (some []))) (.loop r))) (Nat.le_refl _), by simp, ?_, blk_alloc (blk_new _ _) _, ⟨_, blk_alloc (blk_alloc hx _) _, Kd.R_nil _ _ _ _ _⟩, ⟨[], rfl, Kd.R_nil _ _ _ _ _, fun j x c hj _ => by simp at hj⟩, fun x hx => by cases hx⟩
 have := blk_new (W0.alloc (.deferred (some []))) (.loop r)
 rwa [World.size_alloc] at this
def GroupDone (l ks : List V) (w : World) (e : Ending) (w' : World) : Prop := ((lask l ks ≠ 0 ∧ e = .returned (.tuple #[.slice none 0 0, .int .i64 (lask l ks)])) ∨ (lask l ks = 0 ∧ ∃ v gs, e = .returned (.tuple #[v, .int .i64 0]) ∧ Grouped ks l gs ∧ (Kd.slice 34 k34).R 22 w' w.heap.size (fun _ => True) v gs)) ∧ Below w.heap.size w w'
set_option maxHeartbeats 4000000 in
set_option maxRecDepth 100000 in
theorem GroupBy_in (n : Nat) (h4 : 4 ≤ n) (l ks : List V) (A B : Option Addr) (c d : Nat) (w : World) (hLD : LaidW w) (hA : k34.C w A l.length l) (hB : k34.C w B ks.length ks) (hO : ∀ x ∈ l, OkV x) (hO2 : ∀ x ∈ ks, OkV x) (hz : ks.length ≤ 1048576) :
 CallsIn Fence.wide n Tryz.prog 21 #[.slice A l.length c, .slice B ks.length d] w (GroupDone l ks w) := by
 have h1 : 1 ≤ n := by omega
 have HASK : Hid (CallsIn Fence.wide (n - 1) Tryz.prog 46 #[.slice A l.length c, .slice B ks.length d] w fun e w' => e = .returned (.int .i64 (lask l ks)) ∧ Below w.heap.size w w') := Lib.hid (callsIn_wide.2 (oask_any l ks A B c d w hLD hA hB hO hO2))
 by_cases h0 : lask l ks = 0
 · obtain ⟨hN1, hN2, hlen⟩ := lask_zero h0
   have HP : Hid (∀ W, Below w.heap.size w W → CallsIn Fence.wide (n - 1) Tryz.prog 49 #[.slice B ks.length d, .slice A l.length c] W fun e w' => ∃ v, e = .returned v ∧ PairMid2 w W w' ks l v ks.length) := Lib.hid (fun W hW => callsIn_wide.2 (pairs_from ks l B A d c w W hW hB hA hlen hz))
   have HSC : Hid (∀ w2 W v, Below w.heap.size w w2 → PairMid2 w w2 W ks l v ks.length → CallsIn Fence.wide (n - 1) Tryz.prog 48 #[v, .func (.func 40) #[] #[]] W fun e w' => ∃ A cap S, e = .returned (.slice A ks.length cap) ∧ SortRow w w' ks l ks.length A S ∧ Below w2.heap.size w2 w' ∧ ks.length ≤ cap ∧ ∀ g, A = some ⟨g, 0, none⟩ → w2.heap.size ≤ g) := Lib.hid (fun w2 W v h2 h => callsIn_wide.2 (sorted_from h2 h rfl hz hO2 hN2))
   have HOK : Hid (∀ W A S, SortRow w W ks l ks.length A S → (∀ e ∈ S, OkV e.val) ∧ (∀ e ∈ S, OkV e.key) ∧ (∀ e ∈ S, NumOk e.key)) := Lib.hid (fun W A S h => ⟨fun e he => hO _ (h.val (by omega) e he), fun e he => hO2 _ (h.key (Nat.le_refl _) e he), fun e he => hN2 _ (h.key (Nat.le_refl _) e he)⟩)
   have HDONE : Hid (∀ W A S v w', SortRow w W ks l ks.length A S → (Kd.slice 34 k34).R 22 w' w.heap.size (fun _ => True) v (gst S ks.length).1 → Below w.heap.size w w' → GroupDone l ks w (.returned (.tuple #[v, .int .i64 0])) w') := Lib.hid (fun W A S v w' h hr hb => ⟨.inr ⟨h0, v, _, rfl, h.grouped, hr⟩, hb⟩)
   rw [h0] at HASK
   obtain ⟨m, hm⟩ : ∃ m, m = ks.length := ⟨_, rfl⟩
   rw [← hm] at HP HSC HOK HDONE HASK hz
   rw [← hm]
   clear hA hB hO hO2 hN1 hN2 hlen hLD h0 hm
   have HG : Hid (∀ A n2 c W, CallsIn Fence.wide (n - 1) Tryz.prog 47 #[.slice A n2 c, .func (.func 40) #[] #[]] W fun e w' => e = .returned (.func (.func 72) #[] #[.pointer (some ⟨W.heap.size, 0, none⟩), .pointer (some ⟨W.heap.size + 1, 0, none⟩)]) ∧ w' = (W.alloc (.cells #[.slice A n2 c] 77)).alloc (.cells #[.func (.func 40) #[] #[]] 43)) := Lib.hid (fun A n2 c W => callsIn_wide.2 (groups_any A n2 c W))
   refine callsIn_of_wp_marks Tryz.func21 rfl trivial ?_ rfl
   simp only [Tryz.ntmps21, List.size_toArray, List.length_cons, List.length_nil, Nat.reduceAdd, Nat.reduceSub, Array.replicate_succ, Array.replicate_zero, List.push_toArray, List.append_toArray, List.nil_append, List.cons_append]
   gi_wp2_with (first
    | (refine ⟨trivial, ?_⟩; gi_at_call 46; refine HASK.out.mono ?_; rintro e w1 ⟨rfl, hB1⟩; have HB1 := Lib.hid hB1; clear hB1)
    | (refine ⟨trivial, ?_⟩; gi_at_call 49; refine (HP.out _ (HB1.out.alloc HB1.out.size _)).mono ?_; rintro e w3 ⟨v3, rfl, hM3⟩; have HM3 := Lib.hid hM3; clear hM3)
    | (refine ⟨trivial, ?_⟩; gi_at_call 48; refine (HSC.out _ _ _ (HB1.out.alloc HB1.out.size _) HM3.out).mono ?_; rintro e w4 ⟨A4, cap4, S, rfl, hS4, hB4, hcap, hAg⟩; have HS4 := Lib.hid hS4; have HB4 := Lib.hid hB4; have HAG := Lib.hid hAg; clear hS4 hB4 hAg)
    | (refine ⟨trivial, ?_⟩; gi_at_call 47; refine (HG.out _ _ _ _).mono ?_; rintro e w5 ⟨rfl, rfl⟩))
   obtain ⟨W0, hW0⟩ : ∃ W0, W0 = (w4.alloc (.cells #[.slice A4 m cap4] 77)).alloc (.cells #[.func (.func 40) #[] #[]] 43) := ⟨_, rfl⟩
   have hs2 : w1.heap.size + 1 ≤ w4.heap.size := by have := HB4.out.size; rwa [World.size_alloc] at this
   have hsz : W0.heap.size = w4.heap.size + 2 := by rw [hW0]; simp
   have hb04 : Below w4.heap.size w4 W0 := by rw [hW0]; exact below_alloc (below_alloc (Below.refl _ _) _) _
   have hbw0 : Below w.heap.size w W0 := (HB1.out.alloc HB1.out.size _).trans ((HB4.out.mono (by rw [World.size_alloc]; have := HB1.out.size; omega)).trans (hb04.mono (by have := HB1.out.size; omega)))
   have hbl : W0.heap[w4.heap.size]? = some (.cells #[.slice A4 m cap4] 77 (0, 0)) := by rw [hW0]; exact blk_alloc (blk_new _ _) _
   have hbo : W0.heap[w4.heap.size + 1]? = some (.cells #[.func (.func 40) #[] #[]] 43 (0, 0)) := by
    rw [hW0]
    have := blk_new (w4.alloc (.cells #[.slice A4 m cap4] 77)) (.cells #[.func (.func 40) #[] #[]] 43)
    rwa [World.size_alloc] at this
   have hx7 : W0.heap[w1.heap.size]? = some (.cells #[.slice none 0 0] 47 (0, 0)) := (hb04.block _ (by omega)).trans (blk_below2 (blk_new w1 (.cells #[.slice none 0 0] 47)) HB4.out)
   have hS0 : SortRow w W0 ks l m A4 S := ⟨HS4.out.perm, HS4.out.sorted, HS4.out.els, HS4.out.cells.imp id (fun ⟨g, e, hg, hr⟩ => ⟨g, e, Nat.lt_of_lt_of_le hg hb04.size, fun i e' he j v hv => by rw [World.cell?_of_block (hb04.block g hg)]; exact hr i e' he j v hv⟩)⟩
   have hAg : ∀ g, A4 = some ⟨g, 0, none⟩ → g ≠ w1.heap.size := fun g hg => by have := HAG.out g hg; rw [World.size_alloc] at this; omega
   have h17 : w.heap.size ≤ w1.heap.size := HB1.out.size
   rw [← hW0]
   have HBL := Lib.hid hbl
   have HBO := Lib.hid hbo
   have HX7 := Lib.hid hx7
   have HS0 := Lib.hid hS0
   have HAGN := Lib.hid hAg
   have HBW0 := Lib.hid hbw0
   clear hb04 hbw0 hbl hbo hx7 hS0 hAg hW0 HB4 HAG HM3 HSC HP HG HASK HS4
   refine range_go rfl h1 (gf := 72) (lb := #[.pointer (some ⟨w4.heap.size, 0, none⟩), .pointer (some ⟨w4.heap.size + 1, 0, none⟩)]) rfl trivial (enters_of Tryz.func72 (by kernel_rfl) rfl) (fun W => ∃ r vn, GW w W0 w1.heap.size r (gst S m).1 (gst S m).2 vn W) ?hcall ?hdone
   case hcall =>
    intro fn hfn
    obtain ⟨ho1, ho2, ho3⟩ := HOK.out _ _ _ HS0.out
    rw [show (#[.func (.yield (W0.heap.size + 1)) #[] #[]] ++ #[.pointer (some ⟨w4.heap.size, 0, none⟩), .pointer (some ⟨w4.heap.size + 1, 0, none⟩)] : Array Value) = #[.func (.yield (W0.heap.size + 1)) #[] #[], .pointer (some ⟨w4.heap.size, 0, none⟩), .pointer (some ⟨w4.heap.size + 1, 0, none⟩)] from rfl]
    refine (groups1_in w W0 _ ks l m A4 cap4 S w1.heap.size w4.heap.size (w4.heap.size + 1) (n - 1) hz hcap HS0.out HAGN.out HBW0.out h17 (by omega) HBL.out (by omega) HBO.out (by omega) ho1 ho2 ho3 ?hY _ (GW.start _ HX7.out)).mono ?hend
    case hend =>
     rintro e W' ⟨hv, vn, hg⟩
     exact ⟨hv, ⟨_, hg.loop, rfl, rfl⟩, _, vn, hg⟩
    case hY =>
     intro m2 W done now G c hG hd hnw
     refine round_go2 (R := fun r' W' => GW w W0 w1.heap.size r' (done ++ [now]) [] (.slice none 0 0) W') trivial hG.loop rfl rfl rfl ?_
     have HB7 : Hid (w1.heap.size < W0.heap.size) := Lib.hid (by omega)
     clear hsz hs2
     dsimp only
     gi_wp2
     first | refine ⟨rfl, Lib.hid ?_⟩ | refine Lib.hid ?_
     intro rb
     have hgb := hG.put HB7.out rb
     generalize hWb : W.putObj (W0.heap.size + 1) (.loop rb) = Wb at hgb ⊢
     clear hWb hG
     obtain ⟨v, hv1, hv2⟩ := hgb.out
     have hv3 := Kd.R_mono hv2 (fun _ _ => trivial : ∀ k, _ → True)
     obtain ⟨Gv, cv, rfl⟩ := Kd.R_slice hv3
     obtain ⟨rows, n1, n2, n3⟩ := hgb.nw
     obtain ⟨z1, z2, z3⟩ := Kd.R_reads' n2
     have hbw := hgb.keep.below HBW0.out h17 HBW0.out.size
     have hCn : k34.C Wb G now.length now := raw_reads (w0 := w) (z1 ▸ z3) n1 hbw n3
     have HCLN : Hid (∀ W, Below Wb.heap.size Wb W → Calls Tryz.prog 50 #[.slice G now.length c] W fun e w' => ∃ v, e = .returned v ∧ k34.R 34 w' W.heap.size (fun _ => True) v now ∧ Below W.heap.size W w') := Lib.hid (fun W hW => Clones_any now G c W z2 (Kd.C_below hCn hW) hgb.ok (by omega))
     have HCV : Hid (∀ W, Below Wb.heap.size Wb W → W.cell? ⟨w1.heap.size, 0, none⟩ = some (.slice Gv done.length cv)) := Lib.hid (fun W hW => (blk_cell (blk_below2 hv1 hW) 0).trans rfl)
     have HRV := Lib.hid hv3
     have HGB := Lib.hid hgb
     have HX := Lib.hid hv1
     have HVB := Lib.hid (Kd.R_base hv3)
     have HSZB := Lib.hid hgb.size
     have HMM : Hid (∀ (W w5 : World) (v5 : Value), Below Wb.heap.size Wb W → k34.R 34 w5 W.heap.size (fun _ => True) v5 now → (Kd.slice 34 k34).M w5 (W0.heap.size + 2) (fun j => True ∧ some j ≠ (Value.slice Gv done.length cv).ownBlock) now [v5]) := Lib.hid (fun W w5 v5 hW hR => ⟨_, rfl, Kd.R_lower (Kd.R_newR hR (Kd.R_below HRV.out hW)) (Nat.le_trans HSZB.out hW.size)⟩)
     have HXX : Hid (∀ (w5 w7 : World), Below Wb.heap.size Wb w5 → w5.grownBy w7 (Value.slice Gv done.length cv).ownBlock → w7.heap[w1.heap.size]? = some (.cells #[.slice Gv done.length cv] 47 (0, 0))) := Lib.hid (fun w5 w7 hb hg => (hg.block _ (blk_lt (blk_below2 HX.out hb)) (fun e => by have := HVB.out _ e.symm; have := HB7.out; omega)).trans (blk_below2 HX.out hb))
     have HBc : Hid (Below Wb.heap.size Wb Wb.drew) := Lib.hid (below_drew (Below.refl _ _))
     have hdn : done.length ≤ 1048576 := by omega
     clear hgb hv1 hv2 hv3 n1 n2 n3 z1 z2 z3 hbw hCn rows hnw hd ho1 ho2 ho3 h17
     gi_upto_region 7 with (fail)
     refine wpIn_region_any (by kernel_rfl) ?_
     change wpAnyIn _ _ _ _ _ _ _ _ _ (World.drew _)
     refine wpAnyIn_ready (rs := [0, 1]) (by kernel_rfl) (by simp) ?_
     refine BigFrame.allReadyIn_want rfl rfl (fun K hK => ?_) (BigFrame.allReadyIn_want rfl rfl (fun K hK => ?_) AllReadyIn.nil)
     · have q := HCV.out _ HBc.out
       gi_wp2_with fail
       clear q
       refine wpAnyIn_ready (rs := [1]) (by kernel_rfl) (by simp) ?_
       refine BigFrame.allReadyIn_want rfl rfl (fun K hK => ?_) AllReadyIn.nil
       gi_wp2_with fail
       refine wpAnyIn_ready (rs := [2]) (by kernel_rfl) (by simp) ?_
       refine BigFrame.allReadyIn_want rfl rfl (fun K hK => ?_) AllReadyIn.nil
       gi_wp2_with fail
       refine ⟨trivial, (fun h => by cases h), ?_⟩
       gi_at_call 50
       refine (CallsIn.inRound _ (callsIn_wide.2 (HCLN.out _ HBc.out))).mono ?_
       rintro e5 w5 ⟨v5, rfl, hR5, hB5⟩
       obtain ⟨G5, c5, rfl⟩ := Kd.R_slice hR5
       have HM5 := Lib.hid (HMM.out _ _ _ HBc.out hR5)
       have HBc := Lib.hid (HBc.out.trans (hB5.mono HBc.out.size))
       clear hR5 hB5
       gi_wp2_with fail
       refine wpAnyIn_ready (rs := [3]) (by kernel_rfl) (by simp) ?_
       refine BigFrame.allReadyIn_want rfl rfl (fun K hK => ?_) AllReadyIn.nil
       gi_wp2_with fail
       refine wpAnyIn_ready (rs := [4]) (by kernel_rfl) (by simp) ?_
       refine BigFrame.allReadyIn_want rfl rfl (fun K hK => ?_) AllReadyIn.nil
       refine kd_append_in (Kd.slice 34 k34) (W0.heap.size + 2) (.tmp 21) (.tmp 24) 47 22 (.slice none 0 0) 24 rfl Tryz.underlying47 (by rfl) rfl (by decide) (by decide) (.slice Gv done.length cv) done now [.slice G5 now.length c5] (fun _ => True) (fun j => True ∧ some j ≠ (Value.slice Gv done.length cv).ownBlock) rfl rfl HM5.out (fun k hk => ⟨trivial, hk.2⟩) (fun _ _ => trivial) (Kd.R_below HRV.out HBc.out) (Nat.le_trans HSZB.out HBc.out.size) (by omega) ?_
       intro v1 w7 hR7 hg7 hat7
       obtain ⟨G7, c7, hv1⟩ := Kd.R_slice hR7
       rw [List.length_append] at hv1
       replace hv1 : v1 = .slice G7 (done.length + 1) c7 := hv1
       subst hv1
       have HT := Lib.hid (HGB.out.told HB7.out HX.out HVB.out HBc.out hR7 hg7)
       obtain ⟨hc7, hf7⟩ := bcells (HXX.out _ _ HBc.out hg7) (Below.refl _ _)
       clear hR7 hg7 hat7
       refine hK _ _ ?_
       refine wpAnyIn_ready (rs := [5]) (by kernel_rfl) (by simp) ?_
       refine BigFrame.allReadyIn_want rfl rfl (fun K hK => ?_) AllReadyIn.nil
       gi_wp2_with fail
       clear hc7 hf7
       refine wpAnyIn_done (by kernel_rfl) ?_ _
       gi_wp2_with fail
       exact ⟨HT.out.loop, fun r' => HT.out.put HB7.out r'⟩
     · gi_wp2_with fail
       refine wpAnyIn_ready (rs := [0, 2]) (by kernel_rfl) (by simp) ?_
       refine BigFrame.allReadyIn_want rfl rfl (fun K hK => ?_) (BigFrame.allReadyIn_want rfl rfl (fun K hK => ?_) AllReadyIn.nil)
       · have q := HCV.out _ HBc.out
         gi_wp2_with fail
         clear q
         refine wpAnyIn_ready (rs := [2]) (by kernel_rfl) (by simp) ?_
         refine BigFrame.allReadyIn_want rfl rfl (fun K hK => ?_) AllReadyIn.nil
         gi_wp2_with fail
         refine ⟨trivial, (fun h => by cases h), ?_⟩
         gi_at_call 50
         refine (CallsIn.inRound _ (callsIn_wide.2 (HCLN.out _ HBc.out))).mono ?_
         rintro e5 w5 ⟨v5, rfl, hR5, hB5⟩
         obtain ⟨G5, c5, rfl⟩ := Kd.R_slice hR5
         have HM5 := Lib.hid (HMM.out _ _ _ HBc.out hR5)
         have HBc := Lib.hid (HBc.out.trans (hB5.mono HBc.out.size))
         clear hR5 hB5
         gi_wp2_with fail
         refine wpAnyIn_ready (rs := [3]) (by kernel_rfl) (by simp) ?_
         refine BigFrame.allReadyIn_want rfl rfl (fun K hK => ?_) AllReadyIn.nil
         gi_wp2_with fail
         refine wpAnyIn_ready (rs := [4]) (by kernel_rfl) (by simp) ?_
         refine BigFrame.allReadyIn_want rfl rfl (fun K hK => ?_) AllReadyIn.nil
         refine kd_append_in (Kd.slice 34 k34) (W0.heap.size + 2) (.tmp 21) (.tmp 24) 47 22 (.slice none 0 0) 24 rfl Tryz.underlying47 (by rfl) rfl (by decide) (by decide) (.slice Gv done.length cv) done now [.slice G5 now.length c5] (fun _ => True) (fun j => True ∧ some j ≠ (Value.slice Gv done.length cv).ownBlock) rfl rfl HM5.out (fun k hk => ⟨trivial, hk.2⟩) (fun _ _ => trivial) (Kd.R_below HRV.out HBc.out) (Nat.le_trans HSZB.out HBc.out.size) (by omega) ?_
         intro v1 w7 hR7 hg7 hat7
         obtain ⟨G7, c7, hv1⟩ := Kd.R_slice hR7
         rw [List.length_append] at hv1
         replace hv1 : v1 = .slice G7 (done.length + 1) c7 := hv1
         subst hv1
         have HT := Lib.hid (HGB.out.told HB7.out HX.out HVB.out HBc.out hR7 hg7)
         obtain ⟨hc7, hf7⟩ := bcells (HXX.out _ _ HBc.out hg7) (Below.refl _ _)
         clear hR7 hg7 hat7
         refine hK _ _ ?_
         refine wpAnyIn_ready (rs := [5]) (by kernel_rfl) (by simp) ?_
         refine BigFrame.allReadyIn_want rfl rfl (fun K hK => ?_) AllReadyIn.nil
         gi_wp2_with fail
         clear hc7 hf7
         refine wpAnyIn_done (by kernel_rfl) ?_ _
         gi_wp2_with fail
         exact ⟨HT.out.loop, fun r' => HT.out.put HB7.out r'⟩
       · gi_wp2_with fail
         refine ⟨trivial, (fun h => by cases h), ?_⟩
         gi_at_call 50
         refine (CallsIn.inRound _ (callsIn_wide.2 (HCLN.out _ HBc.out))).mono ?_
         rintro e5 w5 ⟨v5, rfl, hR5, hB5⟩
         obtain ⟨G5, c5, rfl⟩ := Kd.R_slice hR5
         have HM5 := Lib.hid (HMM.out _ _ _ HBc.out hR5)
         have HBc := Lib.hid (HBc.out.trans (hB5.mono HBc.out.size))
         clear hR5 hB5
         gi_wp2_with fail
         refine wpAnyIn_ready (rs := [0, 3]) (by kernel_rfl) (by simp) ?_
         refine BigFrame.allReadyIn_want rfl rfl (fun K hK => ?_) (BigFrame.allReadyIn_want rfl rfl (fun K hK => ?_) AllReadyIn.nil)
         · have q := HCV.out _ HBc.out
           gi_wp2_with fail
           clear q
           refine wpAnyIn_ready (rs := [3]) (by kernel_rfl) (by simp) ?_
           refine BigFrame.allReadyIn_want rfl rfl (fun K hK => ?_) AllReadyIn.nil
           gi_wp2_with fail
           refine wpAnyIn_ready (rs := [4]) (by kernel_rfl) (by simp) ?_
           refine BigFrame.allReadyIn_want rfl rfl (fun K hK => ?_) AllReadyIn.nil
           refine kd_append_in (Kd.slice 34 k34) (W0.heap.size + 2) (.tmp 21) (.tmp 24) 47 22 (.slice none 0 0) 24 rfl Tryz.underlying47 (by rfl) rfl (by decide) (by decide) (.slice Gv done.length cv) done now [.slice G5 now.length c5] (fun _ => True) (fun j => True ∧ some j ≠ (Value.slice Gv done.length cv).ownBlock) rfl rfl HM5.out (fun k hk => ⟨trivial, hk.2⟩) (fun _ _ => trivial) (Kd.R_below HRV.out HBc.out) (Nat.le_trans HSZB.out HBc.out.size) (by omega) ?_
           intro v1 w7 hR7 hg7 hat7
           obtain ⟨G7, c7, hv1⟩ := Kd.R_slice hR7
           rw [List.length_append] at hv1
           replace hv1 : v1 = .slice G7 (done.length + 1) c7 := hv1
           subst hv1
           have HT := Lib.hid (HGB.out.told HB7.out HX.out HVB.out HBc.out hR7 hg7)
           obtain ⟨hc7, hf7⟩ := bcells (HXX.out _ _ HBc.out hg7) (Below.refl _ _)
           clear hR7 hg7 hat7
           refine hK _ _ ?_
           refine wpAnyIn_ready (rs := [5]) (by kernel_rfl) (by simp) ?_
           refine BigFrame.allReadyIn_want rfl rfl (fun K hK => ?_) AllReadyIn.nil
           gi_wp2_with fail
           clear hc7 hf7
           refine wpAnyIn_done (by kernel_rfl) ?_ _
           gi_wp2_with fail
           exact ⟨HT.out.loop, fun r' => HT.out.put HB7.out r'⟩
         · gi_wp2_with fail
           refine wpAnyIn_ready (rs := [0]) (by kernel_rfl) (by simp) ?_
           refine BigFrame.allReadyIn_want rfl rfl (fun K hK => ?_) AllReadyIn.nil
           have q := HCV.out _ (HBc.out.alloc HBc.out.size (.cells #[.slice G5 now.length c5] 22))
           gi_wp2_with fail
           clear q
           refine wpAnyIn_ready (rs := [4]) (by kernel_rfl) (by simp) ?_
           refine BigFrame.allReadyIn_want rfl rfl (fun K hK => ?_) AllReadyIn.nil
           refine kd_append_in (Kd.slice 34 k34) (W0.heap.size + 2) (.tmp 21) (.tmp 24) 47 22 (.slice none 0 0) 24 rfl Tryz.underlying47 (by rfl) rfl (by decide) (by decide) (.slice Gv done.length cv) done now [.slice G5 now.length c5] (fun _ => True) (fun j => True ∧ some j ≠ (Value.slice Gv done.length cv).ownBlock) rfl rfl HM5.out (fun k hk => ⟨trivial, hk.2⟩) (fun _ _ => trivial) (Kd.R_below HRV.out HBc.out) (Nat.le_trans HSZB.out HBc.out.size) (by omega) ?_
           intro v1 w7 hR7 hg7 hat7
           obtain ⟨G7, c7, hv1⟩ := Kd.R_slice hR7
           rw [List.length_append] at hv1
           replace hv1 : v1 = .slice G7 (done.length + 1) c7 := hv1
           subst hv1
           have HT := Lib.hid (HGB.out.told HB7.out HX.out HVB.out HBc.out hR7 hg7)
           obtain ⟨hc7, hf7⟩ := bcells (HXX.out _ _ HBc.out hg7) (Below.refl _ _)
           clear hR7 hg7 hat7
           refine hK _ _ ?_
           refine wpAnyIn_ready (rs := [5]) (by kernel_rfl) (by simp) ?_
           refine BigFrame.allReadyIn_want rfl rfl (fun K hK => ?_) AllReadyIn.nil
           gi_wp2_with fail
           clear hc7 hf7
           refine wpAnyIn_done (by kernel_rfl) ?_ _
           gi_wp2_with fail
           exact ⟨HT.out.loop, fun r' => HT.out.put HB7.out r'⟩
   case hdone =>
    rintro W o ⟨r, vn, hG⟩ _
    have hg := hG.put (by omega) o
    obtain ⟨WP, hWP⟩ : ∃ WP, WP = W.putObj (W0.heap.size + 1) (.loop o) := ⟨_, rfl⟩
    rw [← hWP] at hg
    rw [← hWP]
    obtain ⟨v, hv1, hv2⟩ := hg.out
    have hcl := (blk_cell hv1 0).trans rfl
    replace hcl : WP.cell? ⟨w1.heap.size, 0, none⟩ = some v := hcl
    have HGP := Lib.hid hg
    have HV2 := Lib.hid hv2
    have HSZ := Lib.hid hsz
    have HS2 := Lib.hid hs2
    clear hG hWP hg hv1 hv2 hsz hs2 HX7 HBL HBO HAGN HOK
    dsimp only
    gi_wp2
    refine ⟨by simp, .inl ⟨_, _, rfl, run_takeDeferred HGP.out.dfr, ?_⟩⟩
    refine ⟨.tuple #[v, .int .i64 0], by simp [results, Tryz.f21, go_sem], HDONE.out W0 A4 S v _ HS0.out ?_ ?_⟩
    · exact Kd.R_lower (Kd.R_mono (Kd.R_move (Kd.R_bound HV2.out) (fun j hj => World.putObj_heap_other (by have := hj.2.1; omega))) (fun _ _ => trivial)) (by have := HBW0.out.size; omega)
    · exact below_put (HGP.out.keep.below HBW0.out h17 HBW0.out.size) HBW0.out.size _
 · have hn : (lask l ks != 0) = true := by simp [h0]
   have HD : Hid (∀ w', Below w.heap.size w w' → GroupDone l ks w (.returned (.tuple #[.slice none 0 0, .int .i64 (lask l ks)])) w') := Lib.hid (fun w' hb => ⟨.inl ⟨h0, rfl⟩, hb⟩)
   generalize lask l ks = r at *
   clear hA hB hO hO2 hLD h0 hz
   refine callsIn_of_wp_marks Tryz.func21 rfl trivial ?_ rfl
   simp only [Tryz.ntmps21, List.size_toArray, List.length_cons, List.length_nil, Nat.reduceAdd, Nat.reduceSub, Array.replicate_succ, Array.replicate_zero, List.push_toArray, List.append_toArray, List.nil_append, List.cons_append]
   gi_wp2_with (refine ⟨trivial, ?_⟩; gi_at_call 46; refine HASK.out.mono ?_; rintro e w1 ⟨rfl, hB1⟩; have HB1 := Lib.hid hB1; clear hB1)
   exact ⟨.tuple #[.slice none 0 0, .int .i64 r], by simp [results, Tryz.f21, go_sem], HD.out _ HB1.out⟩
end Go.Proofs.YtmfpakolfpoamaaGreatDoor.P
namespace Go.Proofs.YtmfpakolfpoamaaGreatDoor.P
set_option linter.unusedVariables false
set_option linter.unusedSimpArgs false
open Go.RowKit Go.Proofs.YtmfpakolfpoamaaGreatDoorW.PrintWords Go.Proofs.YtmfpakolfpoamaaGreatDoorW.PrintMore Go.Proofs.YtmfpakolfpoamaaGreatDoorW.PrintLast
def gAt (gs : List (List V)) (k : Nat) : List V := gs.getD k []
def heads (gs : List (List V)) : List V := gs.map fun g => rd_T34 g ((0 : Nat) : Int)
theorem heads_len (gs : List (List V)) : (heads gs).length = gs.length := by unfold heads; simp
theorem gAt_of {gs : List (List V)} {k : Nat} (hk : k < gs.length) : gs[k]? = some (gAt gs k) := by
 unfold gAt
 rw [List.getD_eq_getElem?_getD, List.getElem?_eq_getElem hk]
 rfl
theorem heads_at {gs : List (List V)} {k : Nat} (hk : k < gs.length) : (heads gs)[k]? = some (rd_T34 (gAt gs k) ((0 : Nat) : Int)) := by
 unfold heads
 rw [List.getElem?_map, gAt_of hk]
 rfl
theorem at_G {w wr : World} {A : Option Addr} {gs : List (List V)} (h : (Kd.slice 34 k34).C w A gs.length gs) (hb : Below w.heap.size w wr) (k : Nat) (hk : k < gs.length) :
 ∃ ad A0 c0, A = some ad ∧ wr.cell? (ad.add k) = some (.slice A0 (gAt gs k).length c0) ∧ (gAt gs k).length ≤ c0 ∧ k34.C w A0 (gAt gs k).length (gAt gs k) := by
 obtain ⟨ad, c, e, _, hK, hc0⟩ := Kd.C_get h ([] : List V) (k : Int) (by omega) (by omega)
 rw [Int.toNat_natCast] at hK hc0
 have hc : ∀ j u, c[j]? = some u → w.cell? (ad.add (k * 1 + j)) = some u := hc0
 obtain ⟨A0, c0, rfl, l0, g0⟩ := hK
 refine ⟨ad, A0, c0, e, ?_, l0, g0⟩
 have hq := hc 0 _ rfl
 rw [Nat.mul_one, Nat.add_zero] at hq
 exact pw_cell_below hb hq
structure RawMid (w w1 wr : World) (xs : List V) (v : Value) : Prop where
 ex : ∃ rows : List (List Value), rows.length = xs.length ∧ Kd.R (Kd.raw 7) 34 wr w1.heap.size (fun _ => True) v rows ∧ ∀ (j : Nat) (x : V) (r : List Value), xs[j]? = some x → rows[j]? = some r → k34.K w x r
 below : Below w1.heap.size w1 wr
theorem RawMid.nil (w w1 : World) : RawMid w w1 w1 [] (.slice none 0 0) := ⟨⟨[], rfl, Kd.R_nil _ _ _ _ _, fun j x r h _ => by simp at h⟩, Below.refl _ _⟩
theorem RawMid.reads {w w1 wr : World} {xs : List V} {v : Value} (h : RawMid w w1 wr xs v) (hb : Below w.heap.size w w1) : ∃ G c, v = .slice G xs.length c ∧ xs.length ≤ c ∧ k34.C wr G xs.length xs := by
 obtain ⟨rows, h1, h2, h3⟩ := h.ex
 obtain ⟨A, c, e1, e2, e3⟩ := Kd.R_reads h2
 rw [h1] at e1 e2
 exact ⟨A, c, e1, e2, raw_reads (w0 := w) e3 h1 (hb.trans (h.below.mono hb.size)) h3⟩
theorem rows_app {w : World} {xs ys : List V} {rows news : List (List Value)} (h1 : rows.length = xs.length) (h2 : news.length = ys.length) (h3 : ∀ (j : Nat) (x : V) (r : List Value), xs[j]? = some x → rows[j]? = some r → k34.K w x r) (h4 : ∀ (j : Nat) (x : V) (r : List Value), ys[j]? = some x → news[j]? = some r → k34.K w x r) :
 ∀ (j : Nat) (x : V) (r : List Value), (xs ++ ys)[j]? = some x → (rows ++ news)[j]? = some r → k34.K w x r := fun j x r hx hr => by
 rcases Nat.lt_or_ge j xs.length with h | h
 · rw [List.getElem?_append_left h] at hx
   rw [List.getElem?_append_left (by omega)] at hr
   exact h3 j x r hx hr
 · rw [List.getElem?_append_right h] at hx
   rw [List.getElem?_append_right (by omega), h1] at hr
   exact h4 _ x r hx hr
theorem GroupBy_any (l ks : List V) (A B : Option Addr) (c d : Nat) (w : World) (hLD : LaidW w) (hA : k34.C w A l.length l) (hB : k34.C w B ks.length ks) (hO : ∀ x ∈ l, OkV x) (hO2 : ∀ x ∈ ks, OkV x) (hz : ks.length ≤ 1048576) :
 Calls Tryz.prog 21 #[.slice A l.length c, .slice B ks.length d] w fun e w' => ∃ G c gs, e = .returned (.tuple #[.slice G gs.length c, .int .i64 (lask l ks)]) ∧ (Kd.slice 34 k34).C w' G gs.length gs ∧ (lask l ks = 0 → Grouped ks l gs) ∧ (lask l ks ≠ 0 → gs = []) ∧ gs.length ≤ 1048576 ∧ (∀ g ∈ gs, g ≠ []) ∧ Below w.heap.size w w' := by
 refine (callsIn_wide.1 (GroupBy_in 4 (Nat.le_refl _) l ks A B c d w hLD hA hB hO hO2 hz)).mono ?_
 rintro e w' ⟨⟨h0, rfl⟩ | ⟨h0, v, gs, rfl, hg, hR⟩, hB'⟩
 · exact ⟨none, 0, [], rfl, ⟨rfl, by simp, fun h => by simp at h⟩, fun h => (h0 h).elim, fun _ => rfl, by simp, fun g hg => by simp at hg, hB'⟩
 · obtain ⟨G, c', rfl, -, hr⟩ := Kd.R_reads hR
   refine ⟨G, c', gs, by rw [h0], hr, fun _ => hg, fun h => (h h0).elim, ?_, hg.full, hB'⟩
   obtain ⟨S, h1, h2, rfl⟩ := hg
   have := gst_done S S.length
   have hl := h1.length_eq
   rw [pels_len] at hl
   omega
set_option maxHeartbeats 4000000 in
set_option maxRecDepth 100000 in
theorem UniqueBy_any (l ks : List V) (A B : Option Addr) (c d : Nat) (w : World) (hLD : LaidW w) (hA : k34.C w A l.length l) (hB : k34.C w B ks.length ks) (hO : ∀ x ∈ l, OkV x) (hO2 : ∀ x ∈ ks, OkV x) (hz : ks.length ≤ 1048576) :
 Calls Tryz.prog 23 #[.slice A l.length c, .slice B ks.length d] w fun e w' => ∃ G c gs, e = .returned (.tuple #[.slice G gs.length c, .int .i64 (lask l ks)]) ∧ gs.length ≤ c ∧ k34.C w' G gs.length (heads gs) ∧ (lask l ks = 0 → Grouped ks l gs) ∧ (lask l ks ≠ 0 → gs = []) ∧ gs.length ≤ 1048576 ∧ Below w.heap.size w w' := by
 have HG := Lib.hid (GroupBy_any l ks A B c d w hLD hA hB hO hO2 hz)
 generalize lask l ks = er at *
 clear hLD hA hB hO hO2 hz
 go_enter Tryz.func23, Tryz.ntmps23
 go_wp2_with (go_at_call 21; (with_reducible refine (HG.out).mono ?_); rintro e w1 ⟨G1, c1, gs, rfl, hC1, hg1, hg2, hn, hf, hB1⟩; have HC1 := Lib.hid hC1; have HG1 := Lib.hid hg1; have HG2 := Lib.hid hg2; have HF := Lib.hid hf; have HB1 := Lib.hid hB1; clear hC1 hg1 hg2 hf hB1)
 obtain ⟨m, hm⟩ : ∃ m, m = gs.length := ⟨_, rfl⟩
 have HM := Lib.hid hm
 rw [← hm] at hn
 rw [← hm]
 clear hm
 go_loopw [8, 19] (fun vo vi wr => ∃ (k : Nat) (G : Option Addr) (cap : Nat), k ≤ m ∧ vi = .int .i64 k ∧ vo = .slice G k cap ∧ Hid (RawMid w1 w1 wr ((heads gs).take k) (.slice G k cap))) (fun vo vi _ => m - (intOf vi).toNat)
 case atStart => exact ⟨0, none, 0, Nat.zero_le _, rfl, rfl, Lib.hid (RawMid.nil _ _)⟩
 case round =>
  obtain ⟨k, G, cap, hk, rfl, rfl, HR⟩ := hrel
  by_cases hlt : k < m
  · have hlt2 : (k : Int) < (m : Int) := by omega
    obtain ⟨ad, A0, c0, hAd, hcl, hl0, hC0⟩ := at_G HC1.out HR.out.below k (by rw [← HM.out]; exact hlt)
    subst hAd
    have hp : 0 < (gAt gs k).length := by
     rcases Nat.eq_zero_or_pos (gAt gs k).length with h | h
     · exact absurd (List.eq_nil_of_length_eq_zero h) (HF.out _ (List.mem_of_getElem? (gAt_of (by rw [← HM.out]; exact hlt))))
     · exact h
    have hh := heads_at (gs := gs) (k := k) (by rw [← HM.out]; exact hlt)
    have htk := take_end hh
    obtain ⟨ad0, a0, a1, a2, a3, a4, a5, a6, rfl, hK0, p0, p1, p2, p3, p4, p5, p6⟩ := at_V hC0 HR.out.below 0 hp
    rw [show ad0.add (0 * 7) = ad0 by simp [Addr.add]] at p0 p1 p2 p3 p4 p5 p6
    obtain ⟨rows, hrl, hRr, hrk⟩ := HR.out.ex
    have HONE : Hid (∀ u ∈ ([a0, a1, a2, a3, a4, a5, a6] : List Value), u.oneCell' = true) := Lib.hid (k34.K_one hK0)
    have HK0 := Lib.hid hK0
    have HTK := Lib.hid htk
    have HRL := Lib.hid (show rows.length = k by rw [hrl, List.length_take, heads_len, ← HM.out]; omega)
    have HRR := Lib.hid hRr
    have HRK := Lib.hid hrk
    have HBW := Lib.hid HR.out.below
    have HSZ : Hid (w1.heap.size ≤ wr.heap.size) := Lib.hid HR.out.below.size
    generalize (gAt gs k).length = gl at *
    have hp2 : (0 : Int) < (gl : Int) := by omega
    clear hl0 hC0 hh htk hK0 hrl hRr hrk hp
    go_wp2_with (at_builtin; refine Kd.R_append (Kd.raw 7) (w0 := w1) w1.heap.size rfl (.tmp 23) (.tmp 27) 22 34 (.agg #[.int .i64 0, .bool false, .slice none 0 0, .int .i64 0, .string ⟨#[]⟩, .slice none 0 0, .slice none 0 0]) 112 rfl Tryz.underlying22 infoV_ rfl (by decide) (by decide) (.slice G k cap) rows _ _ (fun _ => True) (fun _ => False) rfl rfl ⟨rfl, rfl, HONE.out⟩ (fun _ h => h.elim) (fun _ _ => trivial) HRR.out HBW.out HSZ.out (by rw [HRL.out]; omega) ?_; intro v1 w7 hR7 hB7 hg7 hat7; obtain ⟨G7, cap7, hv1⟩ := Kd.R_slice hR7; rw [List.length_append, HRL.out] at hv1; replace hv1 : v1 = .slice G7 (k + 1) cap7 := hv1; subst hv1)
    have hM7 : RawMid w1 w1 w7 ((heads gs).take (k + 1)) (.slice G7 (k + 1) cap7) := by
     rw [HTK.out]
     refine ⟨⟨rows ++ [[a0, a1, a2, a3, a4, a5, a6]], by rw [List.length_append, List.length_append, HRL.out, List.length_take, heads_len, ← HM.out, Nat.min_eq_left (Nat.le_of_lt hlt)]; rfl, hR7, ?_⟩, hB7⟩
     refine rows_app (by rw [HRL.out, List.length_take, heads_len, ← HM.out, Nat.min_eq_left (Nat.le_of_lt hlt)]) rfl HRK.out (fun j x r hx hr => ?_)
     obtain rfl : j = 0 := by have := (List.getElem?_eq_some_iff.1 hx).1; simpa using this
     obtain rfl : _ = x := by simpa using hx
     obtain rfl : _ = r := by simpa using hr
     exact HK0.out
    exact ⟨⟨k + 1, G7, cap7, hlt, rfl, rfl, Lib.hid hM7⟩, by show m - (k + 1) < m - k; omega⟩
  · obtain rfl : k = m := by omega
    have hlt2 : ¬ (k : Int) < (k : Int) := by omega
    have hln : ((heads gs).take k).length = k := by rw [List.length_take, heads_len, ← HM.out, Nat.min_self]
    have htk : (heads gs).take k = heads gs := List.take_of_length_le (by rw [heads_len, ← HM.out]; exact Nat.le_refl _)
    obtain ⟨G9, c9, e9, l9, g9⟩ := HR.out.reads (Below.refl _ _)
    rw [hln] at e9 l9 g9
    injection e9 with e1 _ e2
    subst e1 e2
    rw [htk] at g9
    have HG9 := Lib.hid g9
    have HBW := Lib.hid (HB1.out.trans (HR.out.below.mono HB1.out.size))
    clear g9 hln htk
    go_wp2
    go_ret2
    exact ⟨G, cap, gs, by rw [← HM.out]; rfl, by rw [← HM.out]; exact l9, by rw [← HM.out]; exact HG9.out, HG1.out, HG2.out, by rw [← HM.out]; exact hn, HBW.out⟩
def RawSet (w w4 wr : World) (xs : List V) (v : Value) : Prop := ∃ rows : List (List Value), rows.length = xs.length ∧ Kd.R (Kd.raw 7) 34 wr w4.heap.size (fun _ => True) v rows ∧ ∀ (j : Nat) (x : V) (r : List Value), xs[j]? = some x → rows[j]? = some r → k34.K w x r
structure TwoMid (w w4 wr : World) (xs ys : List V) (v u : Value) : Prop where
 left : RawSet w w4 wr xs v
 right : RawSet w w4 wr ys u
 apart : ∀ k, v.ownBlock = some k → u.ownBlock ≠ some k
 below : Below w4.heap.size w4 wr
theorem RawSet.nil (w w4 wr : World) : RawSet w w4 wr [] (.slice none 0 0) := ⟨[], rfl, Kd.R_nil _ _ _ _ _, fun j x r h _ => by simp at h⟩
theorem RawSet.below {w w4 wr W : World} {xs : List V} {v : Value} (h : RawSet w w4 wr xs v) (hb : Below wr.heap.size wr W) : RawSet w w4 W xs v := by
 obtain ⟨rows, h1, h2, h3⟩ := h
 exact ⟨rows, h1, Kd.R_below h2 hb, h3⟩
theorem raw_only {n e : Nat} {W : World} {base : Nat} {ok : Nat → Prop} {v : Value} {rows : List (List Value)} (h : (Kd.raw n).R e W base ok v rows) : (Kd.raw n).R e W base (fun k => v.ownBlock = some k) v rows := ⟨fun k hk => hk, h.2.imp_ (fun _ _ hp => hp)⟩
theorem RawSet.grown {w w4 W w1 : World} {xs : List V} {u : Value} {row : Option Nat} (h : RawSet w w4 W xs u) (hg : W.grownBy w1 row) (ha : ∀ k, row = some k → u.ownBlock ≠ some k) : RawSet w w4 w1 xs u := by
 obtain ⟨rows, h1, h2, h3⟩ := h
 exact ⟨rows, h1, Kd.R_mono (Kd.R_grown (raw_only h2) hg (fun k hk e => ha k e.symm hk)) (fun _ _ => trivial), h3⟩
theorem RawSet.lt {w w4 W : World} {xs : List V} {u : Value} (h : RawSet w w4 W xs u) : ∀ k, u.ownBlock = some k → k < W.heap.size := by
 obtain ⟨rows, h1, h2, h3⟩ := h
 exact Kd.R_lt h2
theorem TwoMid.nil (w w4 : World) : TwoMid w w4 w4 [] [] (.slice none 0 0) (.slice none 0 0) := ⟨RawSet.nil _ _ _, RawSet.nil _ _ _, fun k h => by simp [Value.ownBlock] at h, Below.refl _ _⟩
theorem TwoMid.later {w w4 wr W : World} {xs ys : List V} {v u : Value} (h : TwoMid w w4 wr xs ys v u) (hb : Below wr.heap.size wr W) : TwoMid w w4 W xs ys v u := ⟨h.left.below hb, h.right.below hb, h.apart, h.below.trans (hb.mono h.below.size)⟩
theorem TwoMid.swap {w w4 wr : World} {xs ys : List V} {v u : Value} (h : TwoMid w w4 wr xs ys v u) : TwoMid w w4 wr ys xs u v := ⟨h.right, h.left, fun k hk e => h.apart k e hk, h.below⟩
theorem TwoMid.grow {w w4 W w1 : World} {xs ys zs : List V} {v u v1 : Value} {rows news : List (List Value)} (h : TwoMid w w4 W xs ys v u) (h1 : rows.length = xs.length) (h3 : ∀ (j : Nat) (x : V) (r : List Value), xs[j]? = some x → rows[j]? = some r → k34.K w x r) (n1 : news.length = zs.length) (n3 : ∀ (j : Nat) (x : V) (r : List Value), zs[j]? = some x → news[j]? = some r → k34.K w x r)
 (hR : Kd.R (Kd.raw 7) 34 w1 w4.heap.size (fun _ => True) v1 (rows ++ news)) (hB : Below w4.heap.size w4 w1) (hg : W.grownBy w1 v.ownBlock) (hat : v1.ownBlock = v.ownBlock ∨ ∃ b, v1.ownBlock = some b ∧ W.heap.size ≤ b) : TwoMid w w4 w1 (xs ++ zs) ys v1 u := by
 refine ⟨⟨rows ++ news, by simp [h1, n1], hR, rows_app h1 n1 h3 n3⟩, h.right.grown hg h.apart, fun k hk => ?_, hB⟩
 rcases hat with e | ⟨b, e, hb⟩
 · exact h.apart k (e ▸ hk)
 · intro hu
   have := h.right.lt k hu
   rw [e] at hk
   injection hk with hk
   omega
theorem RawSet.reads {w w4 wr : World} {xs : List V} {v : Value} (h : RawSet w w4 wr xs v) (hb : Below w.heap.size w wr) : ∃ G c, v = .slice G xs.length c ∧ xs.length ≤ c ∧ k34.C wr G xs.length xs := by
 obtain ⟨rows, h1, h2, h3⟩ := h
 obtain ⟨A, c, e1, e2, e3⟩ := Kd.R_reads h2
 rw [h1] at e1 e2
 exact ⟨A, c, e1, e2, raw_reads (w0 := w) e3 h1 hb h3⟩
section
variable {P : Program} {o : Oper} {a : Act} {Q : Exit → Act → World → Prop} {Kc : Act → World → Prop} {α : Type}
theorem rows_op (d : Kd α) {Rr : α → List Value → Prop} {w0 W : World} (base : Nat) (hgd : o.guard = none) (s x : Operand) (t e : TypeId) (z : Value) (bytes : Nat)
 (ho : o.op = .call { callee := .builtin .append, args := #[s, x], argTypes := #[t, t] })
 (ht : P.underlying t = some (.slice e)) (hinfo : (P.info? e).map (fun i => (i.zero, i.size, i.bytes)) = some (some z, d.sz, bytes)) (hz : z.cells.size = d.sz) (hs0 : 0 < d.sz) (hb0 : 0 < bytes)
 (v : Value) (xs ys : List α) (A : Option Addr) (m c : Nat) (ok okp : Nat → Prop) (hs : a.eval s = v) (hx : a.eval x = .slice A m c)
 (HO : d.R e W base ok v xs) (HR : ReadsRow Rr d.sz W A m ys) (hKM : ∀ x cs, Rr x cs → d.M W base okp x cs) (hokp : ∀ k, okp k → ok k ∧ some k ≠ v.ownBlock) (hfresh : ∀ k, W.heap.size ≤ k → ok k)
 (HB : Below base w0 W) (hbase : base ≤ W.heap.size) (hl : (xs.length + m) * bytes ≤ 140737488355328)
 (h : ∀ v1 w1, d.R e w1 base ok v1 (xs ++ ys) → Below base w0 w1 → W.grownBy w1 v.ownBlock → (v1.ownBlock = v.ownBlock ∨ ∃ b, v1.ownBlock = some b ∧ W.heap.size ≤ b) → Kc (a.put o.dst v1) w1) :
 Oper.wp P o a W Kc Q := by
 have hw : Region.wanted o (yielded #[] a.tmps) = true := by unfold Region.wanted; rw [hgd]
 have := Kd.R_append_rows_step (P := P) (Q := Q) (Kc := Kc) (ops := #[]) d base hw s x t e z bytes ho ht hinfo hz hs0 hb0 v xs ys A m c ok okp hs hx HO HR hKM hokp hfresh HB hbase hl h
 rwa [if_pos hw] at this
end
theorem one_row {W : World} {N t : Nat} {c : List Value} (h : W.heap[N]? = some (.cells c.toArray t (0, 0))) (hl : c.length = 7) (h1 : ∀ u ∈ c, u.oneCell' = true) : (Kd.raw 7).C W (some ⟨N, 0, none⟩) 1 [c] :=
 ⟨rfl, by decide, fun _ => ⟨_, rfl, fun j p hj => by
  obtain rfl : j = 0 := by have := (List.getElem?_eq_some_iff.1 hj).1; simpa using this
  obtain rfl : c = p := by simpa using hj
  refine ⟨c, hl, ⟨rfl, hl, h1⟩, fun i u hi => ?_⟩
  rw [Addr.add_mid]
  show W.cell? ⟨N, 0 + (0 * 7 + i), none⟩ = some u
  rw [Nat.zero_mul, Nat.zero_add, Nat.zero_add]
  have := blk_cell h i
  rw [this, List.getElem?_toArray, hi]⟩⟩
theorem SortBy_flat (l ks : List V) (A B : Option Addr) (c d : Nat) (w : World) (hLD : LaidW w) (hA : k34.C w A l.length l) (hB : k34.C w B ks.length ks) (hO : ∀ x ∈ l, OkV x) (hO2 : ∀ x ∈ ks, OkV x) (h1 : ks.length ≤ 1048576) :
 Calls Tryz.prog 22 #[.slice A l.length c, .slice B ks.length d] w fun e w' => ∃ G c ys, e = .returned (.tuple #[.slice G ys.length c, .int .i64 (lask l ks)]) ∧ ys.length ≤ c ∧ k34.C w' G ys.length ys ∧ (lask l ks = 0 → Sorted ks l ys) ∧ (lask l ks ≠ 0 → ys = []) ∧ Below w.heap.size w w' := by
 refine (sortBy_any l ks A B c d w hLD hA hB hO hO2 h1).mono ?_
 rintro e w' ⟨⟨h0, rfl⟩ | ⟨h0, v, ys, rfl, hs, hR⟩, hB'⟩
 · exact ⟨none, 0, [], rfl, Nat.le_refl _, Kd.C_nil _ _, fun h => (h0 h).elim, fun _ => rfl, hB'⟩
 · obtain ⟨G, c', rfl, hl, hr⟩ := Kd.R_reads hR
   exact ⟨G, c', ys, by rw [h0], hl, hr, fun _ => hs, fun h => (h h0).elim, hB'⟩
theorem flat_le (gs : List (List V)) (k : Nat) : (gs.take k).flatten.length ≤ gs.flatten.length := by
 conv => rhs; rw [← List.take_append_drop k gs, List.flatten_append, List.length_append]
 omega
end Go.Proofs.YtmfpakolfpoamaaGreatDoor.P
namespace Go.Proofs.YtmfpakolfpoamaaGreatDoor.P
set_option linter.unusedVariables false
set_option linter.unusedSimpArgs false
open Go.RowKit Go.Proofs.YtmfpakolfpoamaaGreatDoorW.PrintWords Go.Proofs.YtmfpakolfpoamaaGreatDoorW.PrintMore Go.Proofs.YtmfpakolfpoamaaGreatDoorW.PrintLast
theorem Sort_any (l : List V) (A : Option Addr) (c : Nat) (w : World) (hLD : LaidW w) (hA : k34.C w A l.length l) (hO : ∀ x ∈ l, OkV x) (h1 : l.length ≤ 1048576) :
 Calls Tryz.prog 11 #[.slice A l.length c] w (SortDone l l w) := by
 have HS := Lib.hid (sortBy_any l l A A c c w hLD hA hA hO hO h1)
 clear hA hO hLD
 go_enter Tryz.func11, Tryz.ntmps11
 go_wp2_with (go_at_call 22; (with_reducible refine (HS.out).mono ?_); rintro e w1 ⟨(⟨h0, rfl⟩ | ⟨h0, v, ys, rfl, hs, hr⟩), hB⟩)
 · go_ret2
   exact ⟨.inl ⟨h0, rfl⟩, hB⟩
 · go_ret2
   exact ⟨.inr ⟨h0, v, ys, rfl, hs, hr⟩, hB⟩
def bestTo (p : V → V → Bool) (ks : List V) : Nat → Nat
 | 0 => 0
 | k + 1 => if p (rd_T34 ks (k : Int)) (rd_T34 ks (bestTo p ks k : Nat)) = true then k else bestTo p ks k
theorem bestTo_le (p : V → V → Bool) (ks : List V) : ∀ k, bestTo p ks k ≤ k
 | 0 => Nat.le_refl _
 | k + 1 => by
  have := bestTo_le p ks k
  rw [bestTo]
  split <;> omega
theorem bestTo_lt (p : V → V → Bool) (ks : List V) : ∀ k, 0 < k → bestTo p ks k < k
 | k + 1, _ => by
  have := bestTo_le p ks k
  rw [bestTo]
  split <;> omega
def leastP (x y : V) : Bool := decide (vord x y < 0)
def mostP (x y : V) : Bool := decide (vord x y ≥ 0)
def lbest (p : V → V → Bool) (l ks : List V) : Int × Int := if lask l ks ≠ 0 then (0, lask l ks) else if l.length = 0 then (0, 71) else (((bestTo p ks ks.length : Nat) : Int), 0)
theorem leastP_iff {x y : V} : leastP x y = true ↔ vord x y < 0 := by unfold leastP; exact decide_eq_true_iff
theorem mostP_iff {x y : V} : mostP x y = true ↔ ¬ vord x y < 0 := by unfold mostP; rw [decide_eq_true_iff]; omega
def pel (rows : List (List Value)) (ks l : List V) (j : Nat) : PEl := ⟨rows.getD j [], rd_T34 ks (j : Int), rd_T34 l (j : Int), j⟩
theorem mem_pels {rows : List (List Value)} {ks l : List V} {n : Nat} {e : PEl} : e ∈ pels rows ks l n ↔ ∃ j, j < n ∧ e = pel rows ks l j := by
 unfold pels
 rw [List.mem_map]
 constructor
 · rintro ⟨j, hj, rfl⟩
   exact ⟨j, List.mem_range.1 hj, rfl⟩
 · rintro ⟨j, hj, rfl⟩
   exact ⟨j, List.mem_range.2 hj, rfl⟩
theorem least_to (rows : List (List Value)) (ks l : List V) : ∀ k, ∀ j, j < k → j ≠ bestTo leastP ks k → elt (pel rows ks l (bestTo leastP ks k)) (pel rows ks l j)
 | 0, j, hj, _ => by omega
 | k + 1, j, hj, hn => by
  have hb := bestTo_le leastP ks k
  rw [bestTo] at hn ⊢
  by_cases hp : leastP (rd_T34 ks (k : Int)) (rd_T34 ks (bestTo leastP ks k : Nat)) = true
  · rw [if_pos hp] at hn ⊢
    have h1 : elt (pel rows ks l k) (pel rows ks l (bestTo leastP ks k)) := .inl (leastP_iff.1 hp)
    by_cases hj2 : j = bestTo leastP ks k
    · rw [hj2]; exact h1
    · exact elt_trans h1 (least_to rows ks l k j (by omega) hj2)
  · rw [if_neg hp] at hn ⊢
    by_cases hj2 : j = k
    · subst hj2
      rcases Nat.eq_zero_or_pos j with h0 | h0
      · subst h0; exact absurd rfl hn
      · exact elt_of_ge (x := pel rows ks l j) (y := pel rows ks l (bestTo leastP ks j)) (fun h => hp (leastP_iff.2 h)) (bestTo_lt leastP ks j h0)
    · exact least_to rows ks l k j (by omega) hn
theorem most_to (rows : List (List Value)) (ks l : List V) : ∀ k, ∀ j, j < k → j ≠ bestTo mostP ks k → elt (pel rows ks l j) (pel rows ks l (bestTo mostP ks k))
 | 0, j, hj, _ => by omega
 | k + 1, j, hj, hn => by
  have hb := bestTo_le mostP ks k
  rw [bestTo] at hn ⊢
  by_cases hp : mostP (rd_T34 ks (k : Int)) (rd_T34 ks (bestTo mostP ks k : Nat)) = true
  · rw [if_pos hp] at hn ⊢
    have hk : 0 < k := by omega
    have h1 : elt (pel rows ks l (bestTo mostP ks k)) (pel rows ks l k) := elt_of_ge (x := pel rows ks l k) (y := pel rows ks l (bestTo mostP ks k)) (mostP_iff.1 hp) (bestTo_lt mostP ks k hk)
    by_cases hj2 : j = bestTo mostP ks k
    · rw [hj2]; exact h1
    · exact elt_trans (most_to rows ks l k j (by omega) hj2) h1
  · rw [if_neg hp] at hn ⊢
    by_cases hj2 : j = k
    · subst hj2
      exact .inl (Decidable.not_not.1 (fun h => hp (mostP_iff.2 h)))
    · exact most_to rows ks l k j (by omega) hn
theorem Sorted.first {ks l ys : List V} (h : Sorted ks l ys) (hn : 0 < ks.length) : ys[0]? = some (rd_T34 l (bestTo leastP ks ks.length : Nat)) := by
 obtain ⟨S, hp, hs, rfl⟩ := h
 have hb := bestTo_lt leastP ks ks.length hn
 have hm : pel [] ks l (bestTo leastP ks ks.length) ∈ S := hp.mem_iff.2 (mem_pels.2 ⟨_, hb, rfl⟩)
 cases S with
 | nil => cases hm
 | cons e S =>
  obtain ⟨j, hj, he⟩ := mem_pels.1 (hp.mem_iff.1 List.mem_cons_self)
  have hjb : j = bestTo leastP ks ks.length := by
   by_cases hjb : j = bestTo leastP ks ks.length
   · exact hjb
   · have h1 := least_to [] ks l ks.length j hj hjb
     rcases List.mem_cons.1 hm with h2 | h2
     · have h3 := congrArg PEl.tag (h2.trans he)
       exact h3.symm
     · exact absurd ((List.pairwise_cons.1 hs).1 _ h2) (fun h4 => elt_irr h4 (by rw [he]; exact h1))
  rw [he, hjb]
  rfl
theorem Sorted.last {ks l ys : List V} (h : Sorted ks l ys) (hn : 0 < ks.length) : ys.length = ks.length ∧ ys[ks.length - 1]? = some (rd_T34 l (bestTo mostP ks ks.length : Nat)) := by
 obtain ⟨S, hp, hs, rfl⟩ := h
 have hl : S.length = ks.length := by rw [hp.length_eq, pels_len]
 refine ⟨by rw [List.length_map]; exact hl, ?_⟩
 have hb := bestTo_lt mostP ks ks.length hn
 have hm : pel [] ks l (bestTo mostP ks ks.length) ∈ S := hp.mem_iff.2 (mem_pels.2 ⟨_, hb, rfl⟩)
 have hne : S ≠ [] := by intro e; rw [e] at hl; simp at hl; omega
 obtain ⟨S', e, rfl⟩ : ∃ S' e, S = S' ++ [e] := ⟨S.dropLast, S.getLast hne, (List.dropLast_concat_getLast hne).symm⟩
 obtain ⟨j, hj, he⟩ := mem_pels.1 (hp.mem_iff.1 (List.mem_append_right _ List.mem_cons_self))
 have hjb : j = bestTo mostP ks ks.length := by
  by_cases hjb : j = bestTo mostP ks ks.length
  · exact hjb
  · have h1 := most_to [] ks l ks.length j hj hjb
    rcases List.mem_append.1 hm with h2 | h2
    · exact absurd ((List.pairwise_append.1 hs).2.2 _ h2 e List.mem_cons_self) (fun h4 => elt_irr h4 (by rw [he]; exact h1))
    · have h3 := congrArg PEl.tag ((List.mem_singleton.1 h2).trans he)
      exact h3.symm
 have hl2 : ks.length - 1 = (S'.map PEl.val).length := by rw [List.length_append, List.length_singleton] at hl; rw [List.length_map]; omega
 rw [List.map_append, hl2, List.getElem?_append_right (Nat.le_refl _), Nat.sub_self, he, hjb]
 rfl
end Go.Proofs.YtmfpakolfpoamaaGreatDoor.P

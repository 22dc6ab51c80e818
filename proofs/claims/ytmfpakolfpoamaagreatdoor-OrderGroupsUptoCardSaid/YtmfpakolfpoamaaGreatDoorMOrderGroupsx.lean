/- Texts of this claim, one behind the other. -/
import Derived.Test.YtmfpakolfpoamaaGreatDoorMOrderGroupsw
import Derived.Test.YtmfpakolfpoamaaGreatDoorMOrderGroupsk
import Derived.StillTail
import Derived.Test.YtmfpakolfpoamaaGreatDoorMOrderGroupsf
import Derived.Sort.CutIn
namespace Go.Proofs.YtmfpakolfpoamaaGreatDoor.P
set_option linter.unusedVariables false
set_option linter.unusedSimpArgs false
open Go.RowKit Go.Proofs.YtmfpakolfpoamaaGreatDoorW.PrintWords Go.Proofs.YtmfpakolfpoamaaGreatDoorW.PrintMore Go.Proofs.YtmfpakolfpoamaaGreatDoorW.PrintLast
theorem insertion_nil (cb : Nat) (W : World) : Calls Tryz.prog 122 #[.slice none 0 0, .int .i64 0, .int .i64 0, .func (.func 74) #[] #[.pointer (some ⟨cb, 0, none⟩)]] W fun e w' => e = .returned (.tuple #[]) ∧ w' = W := by
 go_enter Tryz.func122, Tryz.ntmps122
 go_wp2
 go_loopw [8] (fun vi wr => vi = .int .i64 1 ∧ wr = W) (fun vi _ => 0)
 case atStart => exact ⟨rfl, rfl⟩
 case round =>
  obtain ⟨rfl, rfl⟩ := hrel
  go_wp2
  exact bodyPost_end (v := .tuple #[]) (by simp [results, Tryz.f122, go_sem]) rfl ⟨rfl, rfl⟩
theorem stable_nil (cb : Nat) (W : World) : Calls Tryz.prog 99 #[.slice none 0 0, .int .i64 0, .func (.func 74) #[] #[.pointer (some ⟨cb, 0, none⟩)]] W fun e w' => e = .returned (.tuple #[]) ∧ w' = W := by
 have HI := Lib.hid (insertion_nil cb W)
 go_enter Tryz.func99, Tryz.ntmps99
 go_wp2
 go_loopw [7, 8] (fun va vb wr => va = .int .i64 0 ∧ vb = .int .i64 20 ∧ wr = W) (fun va vb _ => 0)
 case atStart => exact ⟨rfl, rfl, rfl⟩
 case round =>
  obtain ⟨rfl, rfl, rfl⟩ := hrel
  go_wp2_with (go_at_call 122; (with_reducible refine (HI.out).mono ?_); rintro e w1 ⟨rfl, rfl⟩)
  go_loopw [6] (fun vz w2 => vz = .int .i64 20 ∧ w2 = w1) (fun vz _ => 0)
  case atStart => exact ⟨rfl, rfl⟩
  case round =>
   obtain ⟨rfl, rfl⟩ := hrel
   go_wp2
   exact bodyPost_end (v := .tuple #[]) (by simp [results, Tryz.f99, go_sem]) rfl ⟨rfl, rfl⟩
theorem sortStable_nil (cb : Nat) (W : World) : Calls Tryz.prog 73 #[.slice none 0 0, .func (.func 74) #[] #[.pointer (some ⟨cb, 0, none⟩)]] W fun e w' => e = .returned (.tuple #[]) ∧ w' = W := by
 have HS := Lib.hid (stable_nil cb W)
 go_enter Tryz.func73, Tryz.ntmps73
 go_wp2_with (go_at_call 99; (with_reducible refine (HS.out).mono ?_); rintro e w1 ⟨rfl, rfl⟩)
 exact bodyPost_end (v := .tuple #[]) (by simp [results, Tryz.f73, go_sem]) rfl ⟨rfl, rfl⟩
theorem sorted_nil (w : World) : Calls Tryz.prog 48 #[.slice none 0 0, .func (.func 40) #[] #[]] w fun e w' => e = .returned (.slice none 0 0) ∧ Below w.heap.size w w' := by
 obtain ⟨W2, hW2⟩ : ∃ W2, W2 = w.alloc (.cells #[.func (.func 40) #[] #[]] 43) := ⟨_, rfl⟩
 have HB : Hid (Below w.heap.size w W2) := Lib.hid (by rw [hW2]; exact (Below.refl _ _).alloc (Nat.le_refl _) _)
 have HS := Lib.hid (sortStable_nil w.heap.size W2)
 have HW2 := Lib.hid hW2
 clear hW2
 go_enter Tryz.func48, Tryz.ntmps48
 go_upto_region 1 with (fail)
 rw [← HW2.out]
 go_wp2_with (go_at_call 73; (with_reducible refine (HS.out).mono ?_); rintro e w1 ⟨rfl, rfl⟩)
 go_ret
 exact ⟨rfl, HB.out⟩
theorem raw_reads {w0 W : World} {A : Option Addr} {n : Nat} {rows : List (List Value)} {l : List V} (h : (Kd.raw 7).C W A n rows) (hl : rows.length = l.length) (hb : Below w0.heap.size w0 W)
 (hk : ∀ (j : Nat) (x : V) (c : List Value), l[j]? = some x → rows[j]? = some c → k34.K w0 x c) : k34.C W A l.length l := by
 have h1 := h.1
 refine ⟨rfl, by have := h.2.1; omega, fun hp => ?_⟩
 obtain ⟨ad, e, hc⟩ := h.2.2 (by omega)
 refine ⟨ad, e, fun j x hx => ?_⟩
 have hj : j < rows.length := by rw [hl]; exact (List.getElem?_eq_some_iff.1 hx).1
 obtain ⟨cs, h2, ⟨rfl, _, _⟩, h3⟩ := hc j _ (List.getElem?_eq_getElem hj)
 exact ⟨_, h2, k34.K_below hb (hk j x _ hx (List.getElem?_eq_getElem hj)), h3⟩
structure SortRow (w w' : World) (ks l : List V) (n : Nat) (A : Option Addr) (S : List PEl) : Prop where
 perm : ∃ rows, S.Perm (pels rows ks l n)
 sorted : S.Pairwise elt
 els : ∀ e ∈ S, PairEl w e
 cells : n = 0 ∨ ∃ g, A = some ⟨g, 0, none⟩ ∧ g < w'.heap.size ∧ ∀ i e, S[i]? = some e → w'.rangeAt g (i * 14) e.row
theorem SortRow.len {w w' : World} {ks l : List V} {n : Nat} {A : Option Addr} {S : List PEl} (h : SortRow w w' ks l n A S) : S.length = n := by
 obtain ⟨rows, hp⟩ := h.perm
 rw [hp.length_eq, pels_len]
theorem rd_mem {l : List V} {j : Nat} (h : j < l.length) : rd_T34 l (j : Int) ∈ l := by unfold rd_T34; simp [h]
theorem SortRow.said {w w' : World} {ks l : List V} {A : Option Addr} {S : List PEl} (h : SortRow w w' ks l ks.length A S) : Sorted ks l (S.map PEl.val) := by
 obtain ⟨rows, hp⟩ := h.perm
 refine ⟨S.map fun e => { e with row := [] }, ?_, ?_, by rw [List.map_map]; rfl⟩
 · have := hp.map (fun e : PEl => { e with row := [] })
   have e : (pels rows ks l ks.length).map (fun e : PEl => { e with row := [] }) = pels [] ks l ks.length := by
    unfold pels
    rw [List.map_map]
    refine List.map_congr_left fun j _ => ?_
    simp
   rw [e] at this
   exact this
 · rw [List.pairwise_map]
   exact h.sorted
theorem SortRow.val {w w' : World} {ks l : List V} {n : Nat} {A : Option Addr} {S : List PEl} (h : SortRow w w' ks l n A S) (hl : n ≤ l.length) : ∀ e ∈ S, e.val ∈ l := fun e he => by
 obtain ⟨rows, hp⟩ := h.perm
 obtain ⟨i, hi⟩ := List.getElem?_of_mem (hp.mem_iff.1 he)
 obtain ⟨k1, k2⟩ := pels_at hi
 rw [k2]
 exact rd_mem (by omega)
theorem sw_cap {w w2 W : World} {ks l : List V} {v : Value} {n : Nat} (h : PairMid2 w w2 W ks l v n) (hn : 0 < n) : ∀ A m cap, v = .slice A m cap → n ≤ cap := by
 obtain ⟨rows, hrl, hR, _⟩ := h.ex
 obtain ⟨A, c, rfl, hl, _⟩ := Kd.R_reads hR
 rintro A' m cap e
 injection e with _ _ e
 omega
theorem sorted_from {w w2 W : World} {ks l : List V} {v : Value} {n : Nat} (h2 : Below w.heap.size w w2) (h : PairMid2 w w2 W ks l v n) (hn1 : n = ks.length) (hn : n ≤ 1048576) (hO : ∀ x ∈ ks, OkV x) (hN : ∀ x ∈ ks, NumOk x) :
 Calls Tryz.prog 48 #[v, .func (.func 40) #[] #[]] W fun e w' => ∃ A cap S, e = .returned (.slice A n cap) ∧ SortRow w w' ks l n A S ∧ Below w2.heap.size w2 w' ∧ n ≤ cap ∧ ∀ g, A = some ⟨g, 0, none⟩ → w2.heap.size ≤ g := by
 by_cases h0 : n = 0
 · subst h0
   rw [h.nil rfl]
   refine (sorted_nil W).mono ?_
   rintro e w' ⟨rfl, hB⟩
   exact ⟨none, 0, [], rfl, ⟨⟨[], by simp [pels]⟩, List.Pairwise.nil, (fun e he => by cases he), .inl rfl⟩, h.below.trans (hB.mono h.below.size), Nat.le_refl _, fun g hg => by cases hg⟩
 · obtain ⟨g, cap, rows, rfl, hg1, hg2, hsw, hel⟩ := sw_of_pairs h (by omega)
   have hcap := sw_cap h (by omega)
   have hke : ∀ e ∈ pels rows ks l n, KeyEl w2 e := fun e he => KeyEl.below (by
    obtain ⟨i, hi⟩ := List.getElem?_of_mem he
    obtain ⟨k1, k2⟩ := pels_at hi
    have hm : e.key ∈ ks := by rw [k2]; exact rd_mem (by omega)
    exact keyEl_of (hel e he) (hO _ hm) (hN _ hm)) h2
   refine (sorted_in w2 W g (pels rows ks l n) n cap pels_len.symm hn h.below hg1 hg2 hke (pels_tags _ _ _ _) hsw).mono ?_
   rintro e w' ⟨rfl, S', p1, p2, p3⟩
   exact ⟨_, cap, S', rfl, ⟨⟨rows, p1⟩, p2, fun e he => hel e (p1.mem_iff.1 he), .inr ⟨g, rfl, Nat.lt_of_lt_of_le hg2 p3.keep.size, p3.at_⟩⟩, p3.keep.below h.below hg1 h.below.size, hcap _ _ _ rfl, fun g' hg' => by injection hg' with hg'; injection hg' with hg'; omega⟩
theorem sorted_call {w W : World} {ks l : List V} {v : Value} {n : Nat} (h : PairMid w W ks l v n) (hn1 : n = ks.length) (hn : n ≤ 1048576) (hO : ∀ x ∈ ks, OkV x) (hN : ∀ x ∈ ks, NumOk x) :
 Calls Tryz.prog 48 #[v, .func (.func 40) #[] #[]] W fun e w' => ∃ A cap S, e = .returned (.slice A n cap) ∧ SortRow w w' ks l n A S ∧ Below w.heap.size w w' :=
 (sorted_from (Below.refl _ _) h hn1 hn hO hN).mono fun e w' ⟨A, cap, S, h1, h2, h3, _, _⟩ => ⟨A, cap, S, h1, h2, h3⟩
theorem at_P {w w1 wr : World} {ks l : List V} {n : Nat} {A : Option Addr} {S : List PEl} (h : SortRow w w1 ks l n A S) (hb : Below w1.heap.size w1 wr) (k : Nat) (hk : k < n) : ∃ (e : PEl) (ad : Addr) (A2 : Option Addr) (c2 : Nat) (A5 : Option Addr) (c5 : Nat) (A6 : Option Addr) (c6 : Nat) (B2 : Option Addr) (d2 : Nat) (B5 : Option Addr) (d5 : Nat) (B6 : Option Addr) (d6 : Nat), S[k]? = some e ∧ A = some ad ∧ k34.K w e.val [.int .i64 e.val.f0, .bool e.val.f1.f0, .slice B2 e.val.f1.f1.length d2, .int .i64 e.val.f1.f2, .string e.val.f2, .slice B5 e.val.f3.length d5, .slice B6 e.val.f4.length d6] ∧ k34.K w e.key [.int .i64 e.key.f0, .bool e.key.f1.f0, .slice A2 e.key.f1.f1.length c2, .int .i64 e.key.f1.f2, .string e.key.f2, .slice A5 e.key.f3.length c5, .slice A6 e.key.f4.length c6] ∧ wr.cell? (ad.add (k * 14)) = some (.int .i64 e.key.f0) ∧ wr.cell? ⟨(ad.add (k * 14)).block, (ad.add (k * 14)).off + 1, none⟩ = some (.bool e.key.f1.f0) ∧ wr.cell? ⟨(ad.add (k * 14)).block, (ad.add (k * 14)).off + 2, none⟩ = some (.slice A2 e.key.f1.f1.length c2) ∧ wr.cell? ⟨(ad.add (k * 14)).block, (ad.add (k * 14)).off + 3, none⟩ = some (.int .i64 e.key.f1.f2) ∧ wr.cell? ⟨(ad.add (k * 14)).block, (ad.add (k * 14)).off + 4, none⟩ = some (.string e.key.f2) ∧ wr.cell? ⟨(ad.add (k * 14)).block, (ad.add (k * 14)).off + 5, none⟩ = some (.slice A5 e.key.f3.length c5) ∧ wr.cell? ⟨(ad.add (k * 14)).block, (ad.add (k * 14)).off + 6, none⟩ = some (.slice A6 e.key.f4.length c6) ∧ wr.cell? ⟨(ad.add (k * 14)).block, (ad.add (k * 14)).off + 7, none⟩ = some (.int .i64 e.val.f0) ∧ wr.cell? ⟨(ad.add (k * 14)).block, (ad.add (k * 14)).off + 8, none⟩ = some (.bool e.val.f1.f0) ∧ wr.cell? ⟨(ad.add (k * 14)).block, (ad.add (k * 14)).off + 9, none⟩ = some (.slice B2 e.val.f1.f1.length d2) ∧ wr.cell? ⟨(ad.add (k * 14)).block, (ad.add (k * 14)).off + 10, none⟩ = some (.int .i64 e.val.f1.f2) ∧ wr.cell? ⟨(ad.add (k * 14)).block, (ad.add (k * 14)).off + 11, none⟩ = some (.string e.val.f2) ∧ wr.cell? ⟨(ad.add (k * 14)).block, (ad.add (k * 14)).off + 12, none⟩ = some (.slice B5 e.val.f3.length d5) ∧ wr.cell? ⟨(ad.add (k * 14)).block, (ad.add (k * 14)).off + 13, none⟩ = some (.slice B6 e.val.f4.length d6) := by
 have hl := h.len
 obtain ⟨e, he⟩ : ∃ e, S[k]? = some e := ⟨_, List.getElem?_eq_getElem (by omega)⟩
 obtain ⟨kc, vc, e1, e2, e3⟩ := h.els e (List.mem_of_getElem? he)
 obtain ⟨A2, c2, A5, c5, A6, c6, rfl, -⟩ := k34_open e2
 obtain ⟨B2, d2, B5, d5, B6, d6, rfl, -⟩ := k34_open e3
 rcases h.cells with h0 | ⟨g, rfl, hg, hr⟩
 · omega
 · have hc : ∀ j v, e.row[j]? = some v → wr.cell? ⟨g, k * 14 + j, none⟩ = some v := fun j v hj => by
    rw [World.cell?_of_block (hb.block g hg)]
    exact hr k e he j v hj
   rw [e1] at hc
   refine ⟨e, ⟨g, 0, none⟩, A2, c2, A5, c5, A6, c6, B2, d2, B5, d5, B6, d6, he, rfl, e3, e2, ?_, ?_, ?_, ?_, ?_, ?_, ?_, ?_, ?_, ?_, ?_, ?_, ?_, ?_⟩
   all_goals (rw [Addr.add_mid]; first | (show wr.cell? ⟨g, 0 + k * 14, none⟩ = _; rw [Nat.zero_add]; exact hc 0 _ rfl) | (simp only [Nat.zero_add]; exact hc _ _ rfl))
end Go.Proofs.YtmfpakolfpoamaaGreatDoor.P
namespace Go.Proofs.YtmfpakolfpoamaaGreatDoor.P
set_option linter.unusedVariables false
set_option linter.unusedSimpArgs false
open Go.RowKit Go
section
variable {F : Fence} {n : Nat} {P : Program} {ops : Array Oper} {C : World → Prop} {md : Region.Mode}
def wpHead (F : Fence) (n : Nat) (P : Program) (md : Region.Mode) (ops : Array Oper) (C : World → Prop) (m : Nat) (L : Array Bool → Act → Prop) : Nat → Array Bool → Act → Prop
 | 0, listed, a => L listed a
 | f + 1, listed, a => Region.ready md ops listed ≠ [] ∧ ∀ i ∈ Region.ready md ops listed, i < m ∧ qOpIn F n P ops C i (wpHead F n P md ops C m L f (listed.setIfInBounds i true)) a
theorem any_of_head {m g : Nat} {L : Array Bool → Act → Prop} {Q' : Exit → Act → World → Prop} (hd : ∀ (i : Nat) o, ops[i]? = some o → ∀ c, o.op ≠ .defer c) (hL : ∀ listed a w, C w → L listed a → wpAnyIn F n P md ops Q' g listed a w) :
 ∀ (f : Nat) (listed : Array Bool) (a : Act) (w : World), C w → wpHead F n P md ops C m L f listed a → wpAnyIn F n P md ops Q' (f + g) listed a w
 | 0, listed, a, w, hw, h => by rw [Nat.zero_add]; exact hL _ _ _ hw h
 | f + 1, listed, a, w, hw, h => by
  rw [show f + 1 + g = (f + g) + 1 by omega]
  exact ⟨fun h0 => absurd h0 h.1, fun i hi => op_of_quiet hd hw (fun a' w' hw' h' => any_of_head hd hL f _ a' w' hw' h') (h.2 i hi).2⟩
theorem head_first {m i : Nat} {oi : Oper} {v : Value} {L : Array Bool → Act → Prop} (hi : ops[i]? = some oi) (hsel : ∀ (j : Nat) (o : Oper) cs b, ops[j]? = some o → o.op ≠ .select cs b)
 (hs : Region.sinkB md ops m = true) (hc : Region.chainB md ops m = true) (hn : m < ops.size) (him : i < m) (hdone : ∀ listed a, L listed a → ∀ j ∈ Region.ready md ops listed, m ≤ j) :
 ∀ (f : Nat) (listed : Array Bool) (a : Act), HeadInv md ops m listed →
  (∀ j oj, ops[j]? = some oj → j ≠ i → listed.getD j true = false → (∀ e ∈ oj.after, Region.binds md e = true → e.on ≠ i) → oi.apart ops oj = true) →
  i ∈ Region.ready md ops listed → YieldsQuiet F n P ops C oi v a →
  wpHead F n P md ops C m L f (listed.setIfInBounds i true) (a.put oi.dst v) → wpHead F n P md ops C m L (f + 1) listed a := by
 intro f
 induction f with
 | zero =>
  intro listed a inv _ hr hy H
  have hun := (mem_ready.1 hr).1
  refine ⟨fun h => (by rw [h] at hr; cases hr), fun j hj => ?_⟩
  have hjn : j < m := by
   rcases Nat.lt_or_ge j m with h | h
   · exact h
   · exact absurd hj (tail_waits hs hc hn inv _ i rfl him hun j h)
  refine ⟨hjn, ?_⟩
  by_cases hji : j = i
  · subst hji; exact hy.qOpIn hi H
  · have := hdone _ _ H j (ready_mono hj hji)
    omega
 | succ f ih =>
  intro listed a inv hfree hr hy H
  have hun := (mem_ready.1 hr).1
  refine ⟨fun h => (by rw [h] at hr; cases hr), fun j hj => ?_⟩
  have hjn : j < m := by
   rcases Nat.lt_or_ge j m with h | h
   · exact h
   · exact absurd hj (tail_waits hs hc hn inv _ i rfl him hun j h)
  refine ⟨hjn, ?_⟩
  by_cases hji : j = i
  · subst hji; exact hy.qOpIn hi H
  · have h1 := (H.2 j (ready_mono hj hji)).2
    obtain ⟨hjun, oj, hoj, hall⟩ := mem_ready.1 hj
    have hnot : ∀ e ∈ oj.after, Region.binds md e = true → e.on ≠ i := fun e he hb heq => by
     have h1 := hall e he hb
     rw [heq, getD_both hun] at h1
     cases h1
    have h2 := qOpIn_put hoj (hfree j oj hoj hji hjun hnot) (fun cs b => hsel i oi cs b hi) (fun cs b => hsel j oj cs b hoj) hy h1
    have hfree' : ∀ k ok, ops[k]? = some ok → k ≠ i → (listed.setIfInBounds j true).getD k true = false →
     (∀ e ∈ ok.after, Region.binds md e = true → e.on ≠ i) → oi.apart ops ok = true := fun k ok hk hki hun hno => by
     refine hfree k ok hk hki ?_ hno
     by_cases hjk : j = k
     · subst hjk; exact hjun
     · rw [getD_set_ne true hjk] at hun; exact hun
    refine qOpIn_mono (fun a' h3 => ih (listed.setIfInBounds j true) a' (inv.set hj hjn) hfree' (ready_mono hr (Ne.symm hji)) h3.1 ?_) h2
    rw [Array.setIfInBounds_comm _ _ hji]
    exact h3.2
def headB (md : Region.Mode) (ops : Array Oper) (M : Array Bool) : Nat → Nat → Array Bool → Bool
 | 0, _, listed => listed == M
 | f + 1, k, listed => (Region.ready md ops listed).contains k && Region.free md ops listed k && headB md ops M f (k + 1) (listed.setIfInBounds k true)
theorem head_lex {m : Nat} {M : Array Bool} {E : Act → Prop} (hsel : Region.noSelect ops = true) (hs : Region.sinkB md ops m = true) (hc : Region.chainB md ops m = true) (hn : m < ops.size) (hM : ∀ j ∈ Region.ready md ops M, m ≤ j) :
 ∀ (l : List Oper) (k : Nat) (listed : Array Bool) (a : Act), (∀ j, j < l.length → l[j]? = ops[k + j]?) → k + l.length = m → HeadInv md ops m listed →
 headB md ops M l.length k listed = true → wpQuietIn F n P ops C E l a → wpHead F n P md ops C m (fun listed' a' => listed' = M ∧ E a') l.length listed a
 | [], k, listed, a, _, hk, _, hB, h => ⟨by simpa [headB] using hB, h⟩
 | o :: l, k, listed, a, hl, hk, inv, hB, h => by
  have h0 : ops[k]? = some o := by simpa using (hl 0 (by simp)).symm
  simp only [List.length_cons, headB, Bool.and_eq_true] at hB
  obtain ⟨⟨hr, hf⟩, hB'⟩ := hB
  have hkn : k < m := by simp only [List.length_cons] at hk; omega
  have hr' : k ∈ Region.ready md ops listed := by simpa using hr
  have hst : qOpIn F n P ops C k (wpQuietIn F n P ops C E l) a := by unfold qOpIn; simp only [h0]; exact h
  obtain ⟨v, hy, hK⟩ := yieldsQuiet_of_qOpIn h0 hst
  exact head_first h0 (Region.noSelect_spec hsel) hs hc hn hkn (fun listed' a' hL => by rw [hL.1]; exact hM) l.length listed a inv (Region.free_spec h0 hf) hr' hy
   (head_lex hsel hs hc hn hM l (k + 1) _ _ (fun j hj => by have := hl (j + 1) (by simp; omega); simpa [Nat.add_assoc, Nat.add_comm 1 j] using this) (by simp only [List.length_cons] at hk; omega) (inv.set hr' hkn) hB' hK)
def tailB (ops : Array Oper) (m : Nat) : Bool := headB .any ops (mask1 m (ops.size - m)) m 0 (Array.replicate ops.size false) && Region.sinkB .any ops m && Region.chainB .any ops m && Region.noSelect ops && decide (m < ops.size) && noDeferB ops.toList && (Region.ready .any ops (mask1 m (ops.size - m))).all (fun j => decide (m ≤ j))
theorem region_tail_round {id : Nat} {Q : Exit → Act → World → Prop} {a : Act} {w : World} (m : Nat) (hm : P.follows .mixedOrders = true) (hB : tailB ops m = true)
 (h : wpQuietIn F n P ops (fun w' => ∃ n, w' = w.drewN n) (fun a' => ∀ w', (∃ n, w' = w.drewN n) → wpAnyIn F n P .any ops Q (ops.size - m) (mask1 m (ops.size - m)) a' w') (ops.toList.take m) a) : (Code.region id ops true).wpIn F n P Q a w := by
 unfold tailB at hB
 simp only [Bool.and_eq_true, decide_eq_true_eq] at hB
 obtain ⟨⟨⟨⟨⟨⟨h1, h2⟩, h3⟩, h4⟩, h5⟩, h6⟩, h7⟩ := hB
 have hd' : ∀ (i : Nat) o, ops[i]? = some o → ∀ c, o.op ≠ .defer c := by
  intro i o ho
  have : ops.toList[i]? = some o := by simpa using ho
  exact noDefer_spec h6 o (List.mem_of_getElem? this)
 have hl : (ops.toList.take m).length = m := by rw [List.length_take]; simp; omega
 have hr : ∀ j ∈ Region.ready .any ops (mask1 m (ops.size - m)), m ≤ j := fun j hj => by simpa using List.all_eq_true.1 h7 j hj
 have inv0 : HeadInv .any ops m (Array.replicate ops.size false) :=
  ⟨by simp, fun j oj _ hl => (by rw [getD_replicate_false] at hl; cases hl), fun t _ ht => getD_in (by simpa using ht) (getD_replicate_false _ _)⟩
 have hp := head_lex (F := F) (n := n) (P := P) (C := fun w' => ∃ n, w' = w.drewN n) h4 h2 h3 h5 hr (ops.toList.take m) 0 (Array.replicate ops.size false) a (fun j hj => by
  rw [hl] at hj
  rw [List.getElem?_take_of_lt hj]
  simp) (by rw [hl]; omega) inv0 (by rw [hl]; exact h1) h
 rw [hl] at hp
 refine wpIn_region_any hm ?_
 have := any_of_head (F := F) (n := n) (P := P) (md := .any) (ops := ops) (C := fun w' => ∃ n, w' = w.drewN n) (Q' := Q) (g := ops.size - m) hd' (fun listed a' w' hw' he => by rw [he.1]; exact he.2 w' hw') m _ a { w with drawn := w.drawn + 1 } ⟨1, rfl⟩ hp
 rw [show m + (ops.size - m) = ops.size by omega] at this
 exact this
end
end Go.Proofs.YtmfpakolfpoamaaGreatDoor.P
namespace Go.Proofs.YtmfpakolfpoamaaGreatDoor.P
set_option linter.unusedVariables false
set_option linter.unusedSimpArgs false
open Go.RowKit Go.Shelf Go.Proofs.YtmfpakolfpoamaaGreatDoorW.PrintWords Go.Proofs.YtmfpakolfpoamaaGreatDoorW.PrintMore Go.Proofs.YtmfpakolfpoamaaGreatDoorW.PrintLast
attribute [local go_sem] Oper.semAt_some
def pkey (S : List PEl) (k : Nat) : V := rd_T34 (S.map PEl.key) (k : Int)
def pval (S : List PEl) (k : Nat) : V := rd_T34 (S.map PEl.val) (k : Int)
def gcut (S : List PEl) (k : Nat) : Bool := decide (k + 1 = S.length) || decide (vord (pkey S k) (pkey S (k + 1)) ≠ 0)
def gst (S : List PEl) : Nat → List (List V) × List V
 | 0 => ([], [])
 | k + 1 => if gcut S k = true then ((gst S k).1 ++ [(gst S k).2 ++ [pval S k]], []) else ((gst S k).1, (gst S k).2 ++ [pval S k])
theorem gst_done (S : List PEl) : ∀ k, (gst S k).1.length ≤ k
 | 0 => by simp [gst]
 | k + 1 => by
  have := gst_done S k
  rw [gst]
  split
  · simp; omega
  · simp; omega
theorem gst_now (S : List PEl) : ∀ k, (gst S k).2.length ≤ k
 | 0 => by simp [gst]
 | k + 1 => by
  have := gst_now S k
  rw [gst]
  split
  · simp
  · simp; omega
theorem pval_of {S : List PEl} {k : Nat} {e : PEl} (h : S[k]? = some e) : pval S k = e.val := by
 unfold pval rd_T34
 rw [Int.toNat_natCast, List.getD_eq_getElem?_getD, List.getElem?_map, h]
 rfl
theorem pkey_of {S : List PEl} {k : Nat} {e : PEl} (h : S[k]? = some e) : pkey S k = e.key := by
 unfold pkey rd_T34
 rw [Int.toNat_natCast, List.getD_eq_getElem?_getD, List.getElem?_map, h]
 rfl
theorem KeepG.grown {w a b : World} {g : Nat} (h : KeepG w g a) {row : Option Nat} (hg : a.grownBy b row) (hr : ∀ k, row = some k → w.heap.size ≤ k) : KeepG w g b :=
 h.then ((Below.refl w.heap.size a).grown hg h.size hr) (Nat.le_refl _)
theorem SortRow.move {w W0 W : World} {ks l : List V} {n : Nat} {A : Option Addr} {S : List PEl} {B7 : Nat} (h : SortRow w W0 ks l n A S) (hk : KeepG W0 B7 W) (hA : ∀ g, A = some ⟨g, 0, none⟩ → g ≠ B7) : SortRow w W ks l n A S :=
 ⟨h.perm, h.sorted, h.els, h.cells.imp id (fun ⟨g, e, hg, hr⟩ => ⟨g, e, Nat.lt_of_lt_of_le hg hk.size, fun i e' he j v hv => by rw [World.cell?_of_block (hk.block g hg (hA g e))]; exact hr i e' he j v hv⟩)⟩
structure GW (w W0 : World) (B7 : Nat) (r : Loop) (done : List (List V)) (now : List V) (vn : Value) (W : World) : Prop where
 keep : KeepG W0 B7 W
 size : W0.heap.size + 2 ≤ W.heap.size
 loop : W.heap[W0.heap.size + 1]? = some (.loop r)
 dfr : W.heap[W0.heap.size]? = some (.deferred (some []))
 out : ∃ v, W.heap[B7]? = some (.cells #[v] 47 (0, 0)) ∧ (Kd.slice 34 k34).R 22 W (W0.heap.size + 2) (fun k => True ∧ some k ≠ vn.ownBlock) v done
 nw : ∃ rows : List (List Value), rows.length = now.length ∧ Kd.R (Kd.raw 7) 34 W (W0.heap.size + 2) (fun _ => True) vn rows ∧ ∀ (j : Nat) (x : V) (c : List Value), now[j]? = some x → rows[j]? = some c → k34.K w x c
 ok : ∀ x ∈ now, OkV x
theorem GW.below {w W0 W W' : World} {B7 : Nat} {r : Loop} {done : List (List V)} {now : List V} {vn : Value} (h : GW w W0 B7 r done now vn W) (hb : Below W.heap.size W W') : GW w W0 B7 r done now vn W' := by
 obtain ⟨v, h1, h2⟩ := h.out
 obtain ⟨rows, n1, n2, n3⟩ := h.nw
 exact ⟨h.keep.then hb h.keep.size, Nat.le_trans h.size hb.size, (hb.block _ (blk_lt h.loop)).trans h.loop, (hb.block _ (blk_lt h.dfr)).trans h.dfr, ⟨v, (hb.block _ (blk_lt h1)).trans h1, Kd.R_below h2 hb⟩, ⟨rows, n1, Kd.R_below n2 hb, n3⟩, h.ok⟩
theorem GW.push {w W0 W W5 w7 : World} {B7 : Nat} {r : Loop} {done : List (List V)} {now : List V} {vn v1 : Value} {rows : List (List Value)} {x : V} {c : List Value} (h : GW w W0 B7 r done now vn W) (hB : B7 < W0.heap.size)
 (hrl : rows.length = now.length) (hR : Kd.R (Kd.raw 7) 34 W (W0.heap.size + 2) (fun _ => True) vn rows) (hrk : ∀ (j : Nat) (x : V) (c : List Value), now[j]? = some x → rows[j]? = some c → k34.K w x c)
 (hb : Below W.heap.size W W5) (hR7 : Kd.R (Kd.raw 7) 34 w7 (W0.heap.size + 2) (fun _ => True) v1 (rows ++ [c])) (hg : W5.grownBy w7 vn.ownBlock) (hat : v1.ownBlock = vn.ownBlock ∨ ∃ b, v1.ownBlock = some b ∧ W5.heap.size ≤ b) (hK : k34.K w x c) (hO : OkV x) :
 GW w W0 B7 r done (now ++ [x]) v1 w7 := by
 have h5 := h.below hb
 obtain ⟨v, h1, h2⟩ := h5.out
 have hbase := Kd.R_base hR
 have ne : ∀ {k : Nat}, k < W0.heap.size + 2 → some k ≠ vn.ownBlock := fun hk e => by have := hbase _ e.symm; omega
 have hs5 := h5.size
 refine ⟨h5.keep.grown hg (fun k e => by have := hbase k e; omega), Nat.le_trans h5.size hg.size, ?_, ?_, ⟨v, ?_, Kd.R_after h2 hg hat⟩, ⟨rows ++ [c], by simp [hrl], hR7, fun j y d hj hd => ?_⟩, fun y hy => ?_⟩
 · exact (hg.block _ (blk_lt h5.loop) (ne (by omega))).trans h5.loop
 · exact (hg.block _ (blk_lt h5.dfr) (ne (by omega))).trans h5.dfr
 · exact (hg.block _ (blk_lt h1) (ne (by omega))).trans h1
 · rcases Nat.lt_or_ge j now.length with hl | hl
   · rw [List.getElem?_append_left hl] at hj
     rw [List.getElem?_append_left (by omega)] at hd
     exact hrk j y d hj hd
   · have hjl := (List.getElem?_eq_some_iff.1 hj).1
     rw [List.length_append, List.length_singleton] at hjl
     obtain rfl : j = now.length := by omega
     rw [List.getElem?_append_right (Nat.le_refl _), Nat.sub_self] at hj
     rw [List.getElem?_append_right (by omega), hrl, Nat.sub_self] at hd
     obtain rfl := Option.some.inj hj
     obtain rfl := Option.some.inj hd
     exact hK
 · rcases List.mem_append.1 hy with hy | hy
   · exact h.ok y hy
   · rw [List.mem_singleton.1 hy]; exact hO
theorem GW.fresh {w W0 W : World} {B7 : Nat} {r : Loop} {done : List (List V)} {now : List V} {vn : Value} (h : GW w W0 B7 r done now vn W) : GW w W0 B7 r done [] (.slice none 0 0) W := by
 obtain ⟨v, h1, h2⟩ := h.out
 exact ⟨h.keep, h.size, h.loop, h.dfr, ⟨v, h1, Kd.R_mono h2 (fun k hk => ⟨trivial, by simp [Value.ownBlock]⟩)⟩, ⟨[], rfl, Kd.R_nil _ _ _ _ _, fun j x c hj _ => by simp at hj⟩, fun x hx => by cases hx⟩
end Go.Proofs.YtmfpakolfpoamaaGreatDoor.P
namespace Go.Proofs.YtmfpakolfpoamaaGreatDoor.P
set_option linter.unusedVariables false
set_option linter.unusedSimpArgs false
open Go.RowKit Go.Shelf Go.Proofs.YtmfpakolfpoamaaGreatDoorW.PrintWords Go.Proofs.YtmfpakolfpoamaaGreatDoorW.PrintMore Go.Proofs.YtmfpakolfpoamaaGreatDoorW.PrintLast
attribute [local go_sem] Oper.semAt_some
set_option maxHeartbeats 4000000 in
set_option maxRecDepth 100000 in
theorem groups1_in (w W0 : World) (r : Loop) (ks l : List V) (n : Nat) (A : Option Addr) (cap : Nat) (S : List PEl) (B7 bl bo m : Nat) (hn : n ≤ 1048576) (hcap : n ≤ cap) (hS : SortRow w W0 ks l n A S) (hA : ∀ g, A = some ⟨g, 0, none⟩ → g ≠ B7) (hw : Below w.heap.size w W0) (hwB : w.heap.size ≤ B7) (hB : B7 < W0.heap.size)
 (hbl : W0.heap[bl]? = some (.cells #[.slice A n cap] 77 (0, 0))) (hbl7 : bl ≠ B7) (hbo : W0.heap[bo]? = some (.cells #[.func (.func 40) #[] #[]] 43 (0, 0))) (hbo7 : bo ≠ B7)
 (hOv : ∀ e ∈ S, OkV e.val) (hOk : ∀ e ∈ S, OkV e.key) (hNk : ∀ e ∈ S, NumOk e.key)
 (hY : ∀ m W done now G c, GW w W0 B7 r done now (.slice G now.length c) W → done.length < n → now.length ≤ n → YieldAt Fence.wide m Tryz.prog (W0.heap.size + 1) #[.slice G now.length c] W (fun e W' => e = .returned (.bool true) ∧ GW w W0 B7 r (done ++ [now]) [] (.slice none 0 0) W'))
 (W : World) (h0 : GW w W0 B7 r [] [] (.slice none 0 0) W) :
 CallsIn Fence.wide m Tryz.prog 72 #[.func (.yield (W0.heap.size + 1)) #[] #[], .pointer (some ⟨bl, 0, none⟩), .pointer (some ⟨bo, 0, none⟩)] W fun e W' => (∃ v, e = .returned v) ∧ ∃ vn, GW w W0 B7 r (gst S n).1 (gst S n).2 vn W' := by
 have hdd : ∀ k : Nat, (Fence.wide.depth.isSome = true → 1 ≤ k) := fun k h => by cases h
 have HLEN := Lib.hid hS.len
 have HBEL : Hid (∀ W, KeepG W0 B7 W → Below w.heap.size w W) := Lib.hid (fun W hk => hk.below hw hwB hw.size)
 have HORD : Hid (∀ (x y : PEl) (cs ds : List Value) (W : World), x ∈ S → y ∈ S → k34.K w x.key cs → k34.K w y.key ds → Below w.heap.size w W → CallsIn Fence.wide (m - 1) Tryz.prog 40 #[.agg cs.toArray, .agg ds.toArray] W fun e w' => e = .returned (.int .i64 (vord x.key y.key)) ∧ Below W.heap.size W w') := Lib.hid (fun x y cs ds W hx hy hc hd hW => callsIn_wide.2 (Order_any x.key y.key cs ds W (k34.K_below hW hc) (k34.K_below hW hd) (hOk x hx) (hOk y hy) (hNk x hx) (hNk y hy)))
 have HOV := Lib.hid hOv
 have HS := Lib.hid hS
 have HA := Lib.hid hA
 have HY := Lib.hid hY
 have HB := Lib.hid hB
 have HBL : Hid (∀ W, KeepG W0 B7 W → W.heap[bl]? = some (.cells #[.slice A n cap] 77 (0, 0))) := Lib.hid (fun W hk => (hk.block bl (blk_lt hbl) hbl7).trans hbl)
 have HBO : Hid (∀ W, KeepG W0 B7 W → W.heap[bo]? = some (.cells #[.func (.func 40) #[] #[]] 43 (0, 0))) := Lib.hid (fun W hk => (hk.block bo (blk_lt hbo) hbo7).trans hbo)
 have H0 := Lib.hid h0
 have hcb := blk_cell (HBL.out W h0.keep) 0
 replace hcb : W.cell? ⟨bl, 0, none⟩ = some (.slice A n cap) := hcb.trans rfl
 clear hS hA hw hwB hB hbl hbl7 hbo hbo7 hOv hOk hNk hY h0
 refine callsIn_of_wp Tryz.func72 rfl trivial ?_ rfl
 simp only [Tryz.ntmps72, List.size_toArray, List.length_cons, List.length_nil, Nat.reduceAdd, Nat.reduceSub, Array.replicate_succ, Array.replicate_zero, List.push_toArray, List.append_toArray, List.nil_append, List.cons_append]
 gi_wp2
 clear hcb
 gi_loopw [4, 9] (fun vn vi wr => ∃ (k mm : Nat) (G : Option Addr) (c : Nat), k ≤ n ∧ vi = .int .i64 k ∧ vn = .slice G mm c ∧ Hid (mm = (gst S k).2.length ∧ GW w W0 B7 r (gst S k).1 (gst S k).2 (.slice G mm c) wr)) (fun vn vi _ => n - (intOf vi).toNat)
 case atStart => exact ⟨0, 0, none, 0, Nat.zero_le _, rfl, rfl, Lib.hid ⟨rfl, H0.out⟩⟩
 case round =>
  obtain ⟨k, mm, G, c, hk, rfl, rfl, HM⟩ := hrel
  by_cases hlt : k < n
  · have hlt2 : (k : Int) < (n : Int) := by omega
    obtain ⟨e, ad, A2, c2, A5, c5, A6, c6, B2, d2, B5, d5, B6, d6, hSk, rfl, hKv, hKk, p0, p1, p2, p3, p4, p5, p6, p7, p8, p9, p10, p11, p12, p13⟩ := at_P (HS.out.move HM.out.2.keep HA.out) (Below.refl _ _) k hlt
    have HSR : Hid (∀ W, KeepG W0 B7 W → SortRow w W ks l n (some ad) S) := Lib.hid (fun W hk => HS.out.move hk HA.out)
    have HKV := Lib.hid hKv
    have HKK := Lib.hid hKk
    have HONE : Hid (∀ u ∈ ([.int .i64 e.val.f0, .bool e.val.f1.f0, .slice B2 e.val.f1.f1.length d2, .int .i64 e.val.f1.f2, .string e.val.f2, .slice B5 e.val.f3.length d5, .slice B6 e.val.f4.length d6] : List Value), u.oneCell' = true) := Lib.hid (k34.K_one hKv)
    have HSK := Lib.hid hSk
    obtain ⟨W5, hW5⟩ : ∃ W5, W5 = wr.alloc (.cells #[.int .i64 e.key.f0, .bool e.key.f1.f0, .slice A2 e.key.f1.f1.length c2, .int .i64 e.key.f1.f2, .string e.key.f2, .slice A5 e.key.f3.length c5, .slice A6 e.key.f4.length c6, .int .i64 e.val.f0, .bool e.val.f1.f0, .slice B2 e.val.f1.f1.length d2, .int .i64 e.val.f1.f2, .string e.val.f2, .slice B5 e.val.f3.length d5, .slice B6 e.val.f4.length d6] 81) := ⟨_, rfl⟩
    have hbx : W5.heap[wr.heap.size]? = some (.cells #[.int .i64 e.key.f0, .bool e.key.f1.f0, .slice A2 e.key.f1.f1.length c2, .int .i64 e.key.f1.f2, .string e.key.f2, .slice A5 e.key.f3.length c5, .slice A6 e.key.f4.length c6, .int .i64 e.val.f0, .bool e.val.f1.f0, .slice B2 e.val.f1.f1.length d2, .int .i64 e.val.f1.f2, .string e.val.f2, .slice B5 e.val.f3.length d5, .slice B6 e.val.f4.length d6] 81 (0, 0)) := by rw [hW5]; exact blk_new _ _
    have hb5 : Below wr.heap.size wr W5 := by rw [hW5]; exact (Below.refl _ _).alloc (Nat.le_refl _) _
    obtain ⟨hmm, hgw⟩ := HM.out
    obtain ⟨rows, hrl, hR, hrk⟩ := hgw.nw
    have HR5 := Lib.hid (Kd.R_below hR hb5)
    have HR0 := Lib.hid hR
    have HRL := Lib.hid (hrl.trans hmm.symm)
    have HRK := Lib.hid hrk
    have HGW := Lib.hid hgw
    have HB5 := Lib.hid hb5
    have HBX := Lib.hid hbx
    have HW5 := Lib.hid hW5
    have HMM := Lib.hid hmm
    have HSZ : Hid (W0.heap.size + 2 ≤ W5.heap.size) := Lib.hid (Nat.le_trans hgw.size hb5.size)
    have HML : Hid (mm ≤ k) := Lib.hid (by rw [hmm]; exact gst_now S k)
    obtain ⟨hc5, hf5⟩ := bcells hbx (Below.refl _ _)
    obtain ⟨hc0, hf0⟩ := bcells (blk_new wr (.cells #[.int .i64 0, .bool false, .slice none 0 0, .int .i64 0, .string ⟨#[]⟩, .slice none 0 0, .slice none 0 0, .int .i64 0, .bool false, .slice none 0 0, .int .i64 0, .string ⟨#[]⟩, .slice none 0 0, .slice none 0 0] 81)) (Below.refl _ _)
    have hcl := blk_cell (HBL.out wr hgw.keep) 0
    replace hcl : wr.cell? ⟨bl, 0, none⟩ = some (.slice (some ad) n cap) := hcl.trans rfl
    clear hKv hKk hSk hW5 hbx hb5 hrl hR hrk hgw hmm hcl
    gi_upto_region 4 with (fail)
    rw [← HW5.out]
    clear hc0 hf0 p0 p1 p2 p3 p4 p5 p6 p7 p8 p9 p10 p11 p12 p13
    gi_wp2_with (first
     | (refine kd_append_list (Kd.raw 7) (W0.heap.size + 2) rfl (.tmp 14) (.tmp 17) 22 34 (.agg #[.int .i64 0, .bool false, .slice none 0 0, .int .i64 0, .string ⟨#[]⟩, .slice none 0 0, .slice none 0 0]) 112 rfl Tryz.underlying22 infoV_ rfl (by decide) (by decide) (.slice G mm c) rows _ _ (fun _ => True) (fun _ => False) rfl rfl ⟨rfl, rfl, HONE.out⟩ (fun _ h => h.elim) (fun _ _ => trivial) HR5.out HSZ.out (by rw [HRL.out]; have := HML.out; omega) ?_; intro v1 w7 hR7 hg7 hat7; obtain ⟨G7, cap7, hv1⟩ := Kd.R_slice hR7; rw [List.length_append, HRL.out] at hv1; replace hv1 : v1 = .slice G7 (mm + 1) cap7 := hv1; subst hv1; have HG2 := Lib.hid (HGW.out.push HB.out (HRL.out.trans HMM.out) HR0.out HRK.out HB5.out hR7 hg7 hat7 HKV.out (HOV.out e (List.mem_of_getElem? HSK.out))); have hx7 := (hg7.block _ (blk_lt HBX.out) (fun e => by have := Kd.R_lt HR0.out _ e.symm; omega)).trans HBX.out; have HX7 := Lib.hid hx7; clear hR7 hg7 hat7 hx7 hc5 hf5))
    have hcl := (blk_cell (HBL.out w7 HG2.out.keep) 0).trans rfl
    replace hcl : w7.cell? ⟨bl, 0, none⟩ = some (.slice (some ad) n cap) := hcl
    have hco : w7.cell? ⟨bo, 0, none⟩ = some (.func (.func 40) #[] #[]) := (blk_cell (HBO.out w7 HG2.out.keep) 0).trans rfl
    have hpv : (gst S k).2 ++ [pval S k] = (gst S k).2 ++ [e.val] := by rw [pval_of HSK.out]
    have HPV := Lib.hid hpv
    clear hpv
    by_cases hc1 : k + 1 = n
    · have hcut : gcut S k = true := by unfold gcut; rw [HLEN.out]; simp [hc1]
      have e1 : ((k : Int) + 1 == (n : Int)) = true := by rw [beq_iff_eq]; omega
      have hst : gst S (k + 1) = ((gst S k).1 ++ [(gst S k).2 ++ [e.val]], []) := by rw [gst, if_pos hcut, HPV.out]
      have HST := Lib.hid hst
      clear hst hcut
      gi_wp2
      refine region_quiet_round (by kernel_rfl) (by kernel_rfl) (by kernel_rfl) ?_
      repeat (gi_big_quiet_step (fail))
      refine BigFrame.wpQuietIn_skip (fun _ _ _ _ => trivial) rfl ?_
      simp only [Act.put, List.setIfInBounds_toArray, List.set_cons_zero, List.set_cons_succ]
      repeat (gi_big_quiet_step (fail))
      refine wpQuietIn_nil ?_
      rintro w' ⟨nq, rfl⟩
      have hg8 : GW w W0 B7 r (gst S k).1 ((gst S k).2 ++ [e.val]) (.slice G7 ((gst S k).2 ++ [e.val]).length cap7) (w7.drewN nq) := by rw [List.length_append, ← HMM.out]; exact HG2.out.below (pw_below_drewN (Below.refl _ _) nq)
      obtain ⟨fn, tmps, assign, body, hy, hR⟩ := HY.out (m - 1) _ _ _ _ _ hg8 (by have := gst_done S k; omega) (by rw [List.length_append, ← HMM.out]; have := HML.out; simp; omega)
      rw [List.length_append, ← HMM.out] at hy
      replace hy : (Instr.yield (W0.heap.size + 1) #[.slice G7 (mm + 1) cap7]).run Tryz.prog (w7.drewN nq) = .ok (.round (W0.heap.size + 1) fn tmps assign body) (w7.drewN nq) := hy
      have HR := Lib.hid hR
      clear hR
      clear hg8 hcl hco
      gi_wp2_with (first | (refine ⟨hdd _, ?_⟩; refine HR.out.mono ?_; clear HR; rintro e3 W3 ⟨rfl, hg3⟩; have HG3 := Lib.hid hg3; clear hg3))
      go_roundw
      case rel => exact ⟨k + 1, 0, none, 0, by omega, by go_num, rfl, Lib.hid (by rw [HST.out]; exact ⟨rfl, HG3.out⟩)⟩
      case measure => simp [intOf]; omega
    · have hlt3 : k + 1 < n := by omega
      have e1 : ((k : Int) + 1 == (n : Int)) = false := by rw [beq_eq_false_iff_ne]; omega
      obtain ⟨e2, ad2, D2, f2, D5, f5, D6, f6, E2, g2, E5, g5, E6, g6, hSk2, hA2, hKv2, hKk2, q0, q1, q2, q3, q4, q5, q6, q7, q8, q9, q10, q11, q12, q13⟩ := at_P (HSR.out w7 HG2.out.keep) (Below.refl _ _) (k + 1) hlt3
      obtain rfl : ad = ad2 := Option.some.inj hA2
      have hord := fun nq => HORD.out e e2 _ _ (w7.drewN nq) (List.mem_of_getElem? HSK.out) (List.mem_of_getElem? hSk2) HKK.out hKk2 ((HBEL.out w7 HG2.out.keep).trans (pw_below_drewN (Below.refl _ _) nq))
      obtain ⟨r0, r1, r2, r3, r4, r5, r6⟩ : w7.cell? ⟨wr.heap.size, 0, none⟩ = some (.int .i64 e.key.f0) ∧ w7.cell? ⟨wr.heap.size, 1, none⟩ = some (.bool e.key.f1.f0) ∧ w7.cell? ⟨wr.heap.size, 2, none⟩ = some (.slice A2 e.key.f1.f1.length c2) ∧ w7.cell? ⟨wr.heap.size, 3, none⟩ = some (.int .i64 e.key.f1.f2) ∧ w7.cell? ⟨wr.heap.size, 4, none⟩ = some (.string e.key.f2) ∧ w7.cell? ⟨wr.heap.size, 5, none⟩ = some (.slice A5 e.key.f3.length c5) ∧ w7.cell? ⟨wr.heap.size, 6, none⟩ = some (.slice A6 e.key.f4.length c6) := ⟨blk_cell HX7.out 0, blk_cell HX7.out 1, blk_cell HX7.out 2, blk_cell HX7.out 3, blk_cell HX7.out 4, blk_cell HX7.out 5, blk_cell HX7.out 6⟩
      have hk2 : pkey S k = e.key ∧ pkey S (k + 1) = e2.key := ⟨pkey_of HSK.out, pkey_of hSk2⟩
      have hcut : gcut S k = decide (vord e.key e2.key ≠ 0) := by unfold gcut; rw [HLEN.out, hk2.1, hk2.2]; simp [hc1]
      have hlt4 : ((k : Int) + 1) < (n : Int) := by omega
      have hst : gst S (k + 1) = if decide (vord e.key e2.key ≠ 0) = true then ((gst S k).1 ++ [(gst S k).2 ++ [e.val]], []) else ((gst S k).1, (gst S k).2 ++ [e.val]) := by rw [gst, hcut, HPV.out]
      have HST := Lib.hid hst
      have HORD2 := Lib.hid hord
      clear hst hcut hk2 hKv2 hKk2 hSk2 hA2 q7 q8 q9 q10 q11 q12 q13 hord
      by_cases hv : vord e.key e2.key = 0
      · have hst : gst S (k + 1) = ((gst S k).1, (gst S k).2 ++ [e.val]) := by rw [HST.out, if_neg (by simp [hv])]
        have HST2 := Lib.hid hst
        rw [hv] at HORD2
        clear hst hv HST
        gi_wp2
        refine region_tail_round 15 (by kernel_rfl) (by kernel_rfl) ?_
        simp only [List.toList_toArray, List.take_succ_cons, List.take_zero]
        repeat (gi_big_quiet_step (fail))
        refine wpQuietIn_nil ?_
        rintro w' ⟨nq, rfl⟩
        refine wpAnyIn_ready (rs := [15]) (by kernel_rfl) (by decide) (BigFrame.allReadyIn_want rfl rfl (fun K hK => ?_) AllReadyIn.nil)
        gi_wp2_with fail
        refine ⟨trivial, hdd _, (HORD2.out nq).mono ?_⟩
        rintro e3 w8 ⟨rfl, hB8⟩
        have hg8 : GW w W0 B7 r (gst S k).1 ((gst S k).2 ++ [e.val]) (.slice G7 (mm + 1) cap7) w8 := HG2.out.below ((pw_below_drewN (Below.refl w7.heap.size w7) nq).trans (hB8.mono (pw_below_drewN (Below.refl w7.heap.size w7) nq).size))
        have HG8 := Lib.hid hg8
        clear hg8 hB8 hcl hco q0 q1 q2 q3 q4 q5 q6 r0 r1 r2 r3 r4 r5 r6 HORD2
        gi_wp2
        refine wpAnyIn_ready (rs := [16]) (by kernel_rfl) (by decide) (BigFrame.allReadyIn_want rfl rfl (fun K hK => ?_) AllReadyIn.nil)
        gi_wp2
        refine wpAnyIn_ready (rs := [17]) (by kernel_rfl) (by decide) (BigFrame.allReadyIn_want rfl rfl (fun K hK => ?_) AllReadyIn.nil)
        gi_wp2
        refine wpAnyIn_done (by kernel_rfl) ?_ _
        gi_wp2
        go_roundw
        case rel => exact ⟨k + 1, mm + 1, G7, cap7, by omega, by go_num, rfl, Lib.hid (by rw [HST2.out]; exact ⟨by rw [List.length_append, ← HMM.out]; rfl, HG8.out⟩)⟩
        case measure => simp [intOf]; omega
      · have hst : gst S (k + 1) = ((gst S k).1 ++ [(gst S k).2 ++ [e.val]], []) := by rw [HST.out, if_pos (by simp [hv])]
        have hvb : (vord e.key e2.key != 0) = true := by simp [hv]
        have HST2 := Lib.hid hst
        clear hst hv HST
        generalize vord e.key e2.key = vv at *
        gi_wp2
        refine region_tail_round 15 (by kernel_rfl) (by kernel_rfl) ?_
        simp only [List.toList_toArray, List.take_succ_cons, List.take_zero]
        repeat (gi_big_quiet_step (fail))
        refine wpQuietIn_nil ?_
        rintro w' ⟨nq, rfl⟩
        refine wpAnyIn_ready (rs := [15]) (by kernel_rfl) (by decide) (BigFrame.allReadyIn_want rfl rfl (fun K hK => ?_) AllReadyIn.nil)
        gi_wp2_with fail
        refine ⟨trivial, hdd _, (HORD2.out nq).mono ?_⟩
        rintro e3 w8 ⟨rfl, hB8⟩
        have hg8 : GW w W0 B7 r (gst S k).1 ((gst S k).2 ++ [e.val]) (.slice G7 ((gst S k).2 ++ [e.val]).length cap7) (w8) := by rw [List.length_append, ← HMM.out]; exact HG2.out.below ((pw_below_drewN (Below.refl w7.heap.size w7) nq).trans (hB8.mono (pw_below_drewN (Below.refl w7.heap.size w7) nq).size))
        obtain ⟨fn, tmps, assign, body, hy, hR⟩ := HY.out (m - 1) _ _ _ _ _ hg8 (by have := gst_done S k; omega) (by rw [List.length_append, ← HMM.out]; have := HML.out; simp; omega)
        rw [List.length_append, ← HMM.out] at hy
        replace hy : (Instr.yield (W0.heap.size + 1) #[.slice G7 (mm + 1) cap7]).run Tryz.prog (w8) = .ok (.round (W0.heap.size + 1) fn tmps assign body) (w8) := hy
        have HR := Lib.hid hR
        clear hR
        clear hg8 hB8 hcl hco q0 q1 q2 q3 q4 q5 q6 r0 r1 r2 r3 r4 r5 r6 HORD2
        gi_wp2
        refine wpAnyIn_ready (rs := [16]) (by kernel_rfl) (by decide) (BigFrame.allReadyIn_want rfl rfl (fun K hK => ?_) AllReadyIn.nil)
        gi_wp2
        refine wpAnyIn_ready (rs := [17]) (by kernel_rfl) (by decide) (BigFrame.allReadyIn_want rfl rfl (fun K hK => ?_) AllReadyIn.nil)
        gi_wp2
        refine wpAnyIn_done (by kernel_rfl) ?_ _
        gi_wp2_with (first | (refine ⟨hdd _, ?_⟩; refine HR.out.mono ?_; clear HR; rintro e3 W3 ⟨rfl, hg3⟩; have HG3 := Lib.hid hg3; clear hg3))
        go_roundw
        case rel => exact ⟨k + 1, 0, none, 0, by omega, by go_num, rfl, Lib.hid (by rw [HST2.out]; exact ⟨rfl, HG3.out⟩)⟩
        case measure => simp [intOf]; omega
  · obtain rfl : k = n := by omega
    have hlt2 : ¬ (k : Int) < (k : Int) := by omega
    gi_wp2
    exact bodyPost_end (v := .tuple #[]) (by simp [results, Tryz.f72, go_sem]) rfl ⟨⟨_, rfl⟩, _, HM.out.2⟩
end Go.Proofs.YtmfpakolfpoamaaGreatDoor.P
namespace Go.Proofs.YtmfpakolfpoamaaGreatDoor.P
set_option linter.unusedVariables false
set_option linter.unusedSimpArgs false
open Go.RowKit Go.Proofs.YtmfpakolfpoamaaGreatDoorW.PrintWords Go.Proofs.YtmfpakolfpoamaaGreatDoorW.PrintMore Go.Proofs.YtmfpakolfpoamaaGreatDoorW.PrintLast
def Grouped (ks l : List V) (gs : List (List V)) : Prop := ∃ S : List PEl, S.Perm (pels [] ks l ks.length) ∧ S.Pairwise elt ∧ gs = (gst S S.length).1
theorem elt_not {x y : PEl} (h : elt x y) : ¬ elt y x := by
 have a := vord_anti x.key y.key
 rintro (k | ⟨k, k'⟩) <;> rcases h with h | ⟨h, h'⟩ <;> omega
theorem kept_unique {ks l : List V} {S T : List PEl} (h1 : S.Perm (pels [] ks l ks.length)) (h2 : S.Pairwise elt) (k1 : T.Perm (pels [] ks l ks.length)) (k2 : T.Pairwise elt) : S = T :=
 List.Perm.eq_of_pairwise (le := elt) (fun a b _ _ x y => (elt_not x y).elim) h2 k2 (h1.trans k1.symm)
theorem Grouped.unique {ks l : List V} {gs hs : List (List V)} (h : Grouped ks l gs) (k : Grouped ks l hs) : gs = hs := by
 obtain ⟨S, h1, h2, rfl⟩ := h
 obtain ⟨T, k1, k2, rfl⟩ := k
 rw [kept_unique h1 h2 k1 k2]
theorem take_end {α : Type} {l : List α} {k : Nat} {x : α} (h : l[k]? = some x) : l.take (k + 1) = l.take k ++ [x] := by
 rw [List.take_add_one, h]; rfl
theorem gst_take (S : List PEl) : ∀ k, k ≤ S.length → (gst S k).1.flatten ++ (gst S k).2 = (S.map PEl.val).take k
 | 0, _ => by simp [gst]
 | k + 1, hk => by
  have ih := gst_take S k (by omega)
  have he : S[k]? = some S[k] := List.getElem?_eq_getElem (by omega)
  have hv : (S.map PEl.val)[k]? = some (pval S k) := by rw [pval_of he, List.getElem?_map, he]; rfl
  rw [take_end hv, ← ih, gst]
  split <;> simp
theorem gst_end (S : List PEl) : (gst S S.length).2 = [] := by
 rcases Nat.eq_zero_or_pos S.length with h | h
 · rw [h]; rfl
 · obtain ⟨k, hk⟩ : ∃ k, S.length = k + 1 := ⟨S.length - 1, by omega⟩
   have hc : gcut S k = true := by unfold gcut; simp [hk]
   rw [hk, gst, if_pos hc]
theorem gst_full (S : List PEl) : ∀ k, ∀ g ∈ (gst S k).1, g ≠ []
 | 0, g, hg => by simp [gst] at hg
 | k + 1, g, hg => by
  have ih := gst_full S k
  rw [gst] at hg
  split at hg
  · rcases List.mem_append.1 hg with h | h
    · exact ih g h
    · rw [List.mem_singleton.1 h]; simp
  · exact ih g hg
theorem Grouped.flat {ks l ys : List V} {gs : List (List V)} (h : Grouped ks l gs) (k : Sorted ks l ys) : gs.flatten = ys := by
 obtain ⟨S, h1, h2, rfl⟩ := h
 obtain ⟨T, k1, k2, rfl⟩ := k
 rw [← kept_unique h1 h2 k1 k2]
 have := gst_take S S.length (Nat.le_refl _)
 rw [gst_end, List.append_nil, List.take_of_length_le (by simp)] at this
 exact this
theorem Grouped.full {ks l : List V} {gs : List (List V)} (h : Grouped ks l gs) : ∀ g ∈ gs, g ≠ [] := by
 obtain ⟨S, h1, h2, rfl⟩ := h
 exact gst_full S _
theorem gst_strip (S : List PEl) (f : PEl → PEl) (hk : ∀ e, (f e).key = e.key) (hv : ∀ e, (f e).val = e.val) : ∀ k, gst (S.map f) k = gst S k := by
 have h1 : ∀ k, pkey (S.map f) k = pkey S k := fun k => by
  unfold pkey
  rw [List.map_map, show PEl.key ∘ f = PEl.key from funext hk]
 have h2 : ∀ k, pval (S.map f) k = pval S k := fun k => by
  unfold pval
  rw [List.map_map, show PEl.val ∘ f = PEl.val from funext hv]
 intro k
 induction k with
 | zero => rfl
 | succ k ih => rw [gst, gst, ih, h2, show gcut (S.map f) k = gcut S k by unfold gcut; rw [h1, h1, List.length_map]]
theorem SortRow.grouped {w w' : World} {ks l : List V} {A : Option Addr} {S : List PEl} (h : SortRow w w' ks l ks.length A S) : Grouped ks l (gst S ks.length).1 := by
 obtain ⟨rows, hp⟩ := h.perm
 refine ⟨S.map fun e => { e with row := [] }, ?_, ?_, by rw [List.length_map, h.len]; exact (congrArg Prod.fst (gst_strip S (fun e => { e with row := [] }) (fun _ => rfl) (fun _ => rfl) ks.length)).symm⟩
 · have := hp.map (fun e : PEl => { e with row := [] })
   have e : (pels rows ks l ks.length).map (fun e : PEl => { e with row := [] }) = pels [] ks l ks.length := by
    unfold pels
    rw [List.map_map]
    refine List.map_congr_left fun j _ => ?_
    simp
   rw [e] at this
   exact this
 · rw [List.pairwise_map]
   exact h.sorted
structure OutMid (w w1 wr : World) (S : List PEl) (v : Value) (k : Nat) : Prop where
 ex : ∃ rows : List (List Value), rows.length = k ∧ Kd.R (Kd.raw 7) 34 wr w1.heap.size (fun _ => True) v rows ∧ ∀ (j : Nat) (e : PEl) (r : List Value), S[j]? = some e → rows[j]? = some r → k34.K w e.val r
 below : Below w1.heap.size w1 wr
theorem OutMid.reads {w w1 wr : World} {S : List PEl} {G : Option Addr} {cap k : Nat} (h : OutMid w w1 wr S (.slice G k cap) k) (hS : S.length = k) (hb : Below w.heap.size w w1) : k ≤ cap ∧ k34.C wr G (S.map PEl.val).length (S.map PEl.val) := by
 obtain ⟨rows, h1, h2, h3⟩ := h.ex
 obtain ⟨A, c, e1, e2, e3⟩ := Kd.R_reads h2
 injection e1 with e4 e5 e6
 subst e4 e6
 refine ⟨by rw [h1] at e2; exact e2, raw_reads (w0 := w) e3 (by rw [List.length_map, h1, hS]) (hb.trans (h.below.mono hb.size)) fun j x c hx hc => ?_⟩
 rw [List.getElem?_map] at hx
 obtain ⟨e, he, rfl⟩ := Option.map_eq_some_iff.1 hx
 exact h3 j e c he hc
def SortDone (l ks : List V) (w : World) (e : Ending) (w' : World) : Prop := ((lask l ks ≠ 0 ∧ e = .returned (.tuple #[.slice none 0 0, .int .i64 (lask l ks)])) ∨ (lask l ks = 0 ∧ ∃ v ys, e = .returned (.tuple #[v, .int .i64 0]) ∧ Sorted ks l ys ∧ k34.R 34 w' w.heap.size (fun _ => True) v ys)) ∧ Below w.heap.size w w'
set_option maxHeartbeats 4000000 in
set_option maxRecDepth 100000 in
theorem sortBy_any (l ks : List V) (A B : Option Addr) (c d : Nat) (w : World) (hLD : LaidW w) (hA : k34.C w A l.length l) (hB : k34.C w B ks.length ks) (hO : ∀ x ∈ l, OkV x) (hO2 : ∀ x ∈ ks, OkV x) (h1 : ks.length ≤ 1048576) :
 Calls Tryz.prog 22 #[.slice A l.length c, .slice B ks.length d] w (SortDone l ks w) := by
 have HASK := Lib.hid (oask_any l ks A B c d w hLD hA hB hO hO2)
 by_cases h0 : lask l ks = 0
 · obtain ⟨hN1, hN2, hlen⟩ := lask_zero h0
   have HP : Hid (∀ W, Below w.heap.size w W → Calls Tryz.prog 49 #[.slice B ks.length d, .slice A l.length c] W fun e w' => ∃ v, e = .returned v ∧ PairMid W w' ks l v ks.length) := Lib.hid (fun W hW => pairs_any ks l B A d c W (Kd.C_below hB hW) (Kd.C_below hA hW) hlen h1)
   have HSC : Hid (∀ w1 W v, PairMid w1 W ks l v ks.length → Calls Tryz.prog 48 #[v, .func (.func 40) #[] #[]] W fun e w' => ∃ A cap S, e = .returned (.slice A ks.length cap) ∧ SortRow w1 w' ks l ks.length A S ∧ Below w1.heap.size w1 w') := Lib.hid (fun w1 W v h => sorted_call h rfl h1 hO2 hN2)
   have HVAL : Hid (∀ w1 w' A S, SortRow w1 w' ks l ks.length A S → ∀ x ∈ S.map PEl.val, OkV x) := Lib.hid (fun w1 w' A S h x hx => by
    obtain ⟨e, he, rfl⟩ := List.mem_map.1 hx
    exact hO _ (h.val (by omega) e he))
   have HDONE : Hid (∀ w1 w2 A S v w', SortRow w1 w2 ks l ks.length A S → k34.R 34 w' w.heap.size (fun _ => True) v (S.map PEl.val) → Below w.heap.size w w' → SortDone l ks w (.returned (.tuple #[v, .int .i64 0])) w') := Lib.hid (fun w1 w2 A S v w' h hr hb => ⟨.inr ⟨h0, v, _, rfl, h.said, hr⟩, hb⟩)
   rw [h0] at HASK
   obtain ⟨n, hn⟩ : ∃ n, n = ks.length := ⟨_, rfl⟩
   rw [← hn] at HP HSC HVAL HDONE h1
   rw [← hn]
   rw [← hn] at HASK
   clear hA hB hO hO2 hN1 hN2 hlen hLD h0 hn
   go_enter Tryz.func22, Tryz.ntmps22
   go_wp2_with (first
    | (go_at_call 46; (with_reducible refine (HASK.out).mono ?_); rintro e w1 ⟨rfl, hB1⟩; have HB1 := Lib.hid hB1; clear hB1)
    | (go_at_call 49; (with_reducible refine (HP.out _ HB1.out).mono ?_); rintro e w2 ⟨v2, rfl, hM2⟩; have HM2 := Lib.hid hM2; clear hM2)
    | (go_at_call 48; (with_reducible refine (HSC.out _ _ _ HM2.out).mono ?_); rintro e w3 ⟨A3, cap3, S, rfl, hS3, hB3⟩; have HS3 := Lib.hid hS3; have HB3 := Lib.hid hB3; clear hS3 hB3))
   have H0 : Hid (OutMid w1 w3 w3 S (.slice none 0 0) 0) := Lib.hid ⟨⟨[], rfl, Kd.R_nil _ _ _ _ _, fun j e r _ h => by simp at h⟩, Below.refl _ _⟩
   go_loopw [7, 21] (fun vo vi wr => ∃ (k : Nat) (G : Option Addr) (cap : Nat), k ≤ n ∧ vi = .int .i64 k ∧ vo = .slice G k cap ∧ Hid (OutMid w1 w3 wr S (.slice G k cap) k)) (fun vo vi _ => n - (intOf vi).toNat)
   case atStart => exact ⟨0, none, 0, Nat.zero_le _, rfl, rfl, H0⟩
   case round =>
    obtain ⟨k, G, cap, hk, rfl, rfl, HM⟩ := hrel
    by_cases hlt : k < n
    · have hlt2 : (k : Int) < (n : Int) := by omega
      obtain ⟨e, ad, A2, c2, A5, c5, A6, c6, B2, d2, B5, d5, B6, d6, hSk, rfl, hKv, hKk, p0, p1, p2, p3, p4, p5, p6, p7, p8, p9, p10, p11, p12, p13⟩ := at_P HS3.out HM.out.below k hlt
      have HKV := Lib.hid hKv
      have HONE : Hid (∀ u ∈ ([.int .i64 e.val.f0, .bool e.val.f1.f0, .slice B2 e.val.f1.f1.length d2, .int .i64 e.val.f1.f2, .string e.val.f2, .slice B5 e.val.f3.length d5, .slice B6 e.val.f4.length d6] : List Value), u.oneCell' = true) := Lib.hid (k34.K_one hKv)
      have HSK := Lib.hid hSk
      obtain ⟨W5, hW5⟩ : ∃ W5, W5 = wr.alloc (.cells #[.int .i64 e.key.f0, .bool e.key.f1.f0, .slice A2 e.key.f1.f1.length c2, .int .i64 e.key.f1.f2, .string e.key.f2, .slice A5 e.key.f3.length c5, .slice A6 e.key.f4.length c6, .int .i64 e.val.f0, .bool e.val.f1.f0, .slice B2 e.val.f1.f1.length d2, .int .i64 e.val.f1.f2, .string e.val.f2, .slice B5 e.val.f3.length d5, .slice B6 e.val.f4.length d6] 81) := ⟨_, rfl⟩
      have hbx : W5.heap[wr.heap.size]? = some (.cells #[.int .i64 e.key.f0, .bool e.key.f1.f0, .slice A2 e.key.f1.f1.length c2, .int .i64 e.key.f1.f2, .string e.key.f2, .slice A5 e.key.f3.length c5, .slice A6 e.key.f4.length c6, .int .i64 e.val.f0, .bool e.val.f1.f0, .slice B2 e.val.f1.f1.length d2, .int .i64 e.val.f1.f2, .string e.val.f2, .slice B5 e.val.f3.length d5, .slice B6 e.val.f4.length d6] 81 (0, 0)) := by rw [hW5]; exact blk_new _ _
      have hb5 : Below wr.heap.size wr W5 := by rw [hW5]; exact (Below.refl _ _).alloc (Nat.le_refl _) _
      obtain ⟨rows, hrl, hR, hrk⟩ := HM.out.ex
      have HR5 := Lib.hid (Kd.R_below hR hb5)
      have HRL := Lib.hid hrl
      have HRK := Lib.hid hrk
      have HBW := Lib.hid (HM.out.below.trans (hb5.mono HM.out.below.size))
      have HSZ : Hid (w3.heap.size ≤ W5.heap.size) := Lib.hid (HBW.out.size)
      have HW5 := Lib.hid hW5
      obtain ⟨hc5, hf5⟩ := bcells hbx (Below.refl _ _)
      obtain ⟨hc0, hf0⟩ := bcells (blk_new wr (.cells #[.int .i64 0, .bool false, .slice none 0 0, .int .i64 0, .string ⟨#[]⟩, .slice none 0 0, .slice none 0 0, .int .i64 0, .bool false, .slice none 0 0, .int .i64 0, .string ⟨#[]⟩, .slice none 0 0, .slice none 0 0] 81)) (Below.refl _ _)
      clear hKv hKk hSk hW5 hbx hb5 hrl hR hrk HP HSC HVAL HDONE HM2 HASK
      go_upto_region 8 with (fail)
      rw [← HW5.out]
      clear hc0 hf0 p0 p1 p2 p3 p4 p5 p6 p7 p8 p9 p10 p11 p12 p13
      go_wp2_with (at_builtin; refine Kd.R_append (Kd.raw 7) (w0 := w3) w3.heap.size rfl (.tmp 25) (.tmp 28) 22 34 (.agg #[.int .i64 0, .bool false, .slice none 0 0, .int .i64 0, .string ⟨#[]⟩, .slice none 0 0, .slice none 0 0]) 112 rfl Tryz.underlying22 infoV_ rfl (by decide) (by decide) (.slice G k cap) rows _ _ (fun _ => True) (fun _ => False) rfl rfl ⟨rfl, rfl, HONE.out⟩ (fun _ h => h.elim) (fun _ _ => trivial) HR5.out HBW.out HSZ.out (by rw [HRL.out]; omega) ?_; intro v1 w7 hR7 hB7 hg7 hat7; obtain ⟨G7, cap7, rfl⟩ := Kd.R_slice hR7)
      have hl7 : (rows ++ [[.int .i64 e.val.f0, .bool e.val.f1.f0, .slice B2 e.val.f1.f1.length d2, .int .i64 e.val.f1.f2, .string e.val.f2, .slice B5 e.val.f3.length d5, .slice B6 e.val.f4.length d6]] : List (List Value)).length = k + 1 := by rw [List.length_append, HRL.out]; rfl
      have hM7 : OutMid w1 w3 w7 S (.slice G7 (k + 1) cap7) (k + 1) := ⟨⟨_, hl7, by rw [hl7] at hR7; exact hR7, fun j e2 r hj hr => by
       rcases Nat.lt_or_ge j k with h | h
       · rw [List.getElem?_append_left (by rw [HRL.out]; exact h)] at hr
         exact HRK.out j e2 r hj hr
       · have hjl := (List.getElem?_eq_some_iff.1 hr).1
         rw [hl7] at hjl
         obtain rfl : j = k := by omega
         rw [List.getElem?_append_right (by rw [HRL.out]; exact Nat.le_refl _), HRL.out, Nat.sub_self] at hr
         have hr2 := (Option.some.inj hr).symm
         have he2 : e = e2 := Option.some.inj (HSK.out.symm.trans hj)
         subst he2
         rw [hr2]
         exact HKV.out⟩, hB7⟩
      exact ⟨⟨k + 1, G7, cap7, hlt, rfl, by rw [HRL.out], Lib.hid hM7⟩, by show n - (k + 1) < n - k; omega⟩
    · obtain rfl : k = n := by omega
      have hlt2 : ¬ (k : Int) < (k : Int) := by omega
      have hw13 : Below w.heap.size w w3 := HB1.out.trans (HB3.out.mono HB1.out.size)
      obtain ⟨hcc, hrd⟩ := HM.out.reads HS3.out.len HB3.out
      have hln : (S.map PEl.val).length = k := by rw [List.length_map]; exact HS3.out.len
      have hbr : Below w.heap.size w wr := hw13.trans (HM.out.below.mono hw13.size)
      have hcl := Clones_any (S.map PEl.val) G cap wr (by rw [hln]; exact hcc) hrd (HVAL.out _ _ _ _ HS3.out) (by omega)
      rw [hln] at hcl
      have HCL := Lib.hid hcl
      have HBR := Lib.hid hbr
      clear hw13 hcc hrd hln hbr hcl HASK HP HSC HVAL
      go_wp2_with (go_at_call 50; (with_reducible refine (HCL.out).mono ?_); rintro e w5 ⟨v5, rfl, hR5, hB5⟩; have HR5 := Lib.hid hR5; have HB5 := Lib.hid hB5; clear hR5 hB5)
      go_ret2
      exact HDONE.out _ _ _ _ _ _ HS3.out (Kd.R_lower HR5.out HBR.out.size) (HBR.out.trans (HB5.out.mono HBR.out.size))
 · have HR := Lib.hid h0
   have hn : (lask l ks != 0) = true := by simp [h0]
   have HD : Hid (∀ w', Below w.heap.size w w' → SortDone l ks w (.returned (.tuple #[.slice none 0 0, .int .i64 (lask l ks)])) w') := Lib.hid (fun w' hb => ⟨.inl ⟨h0, rfl⟩, hb⟩)
   generalize lask l ks = r at *
   clear hA hB hO hO2 hLD h0 h1
   go_enter Tryz.func22, Tryz.ntmps22
   go_wp2_with (go_at_call 46; (with_reducible refine (HASK.out).mono ?_); rintro e w1 ⟨rfl, hB1⟩; have HB1 := Lib.hid hB1; clear hB1)
   go_ret2
   exact HD.out _ HB1.out
end Go.Proofs.YtmfpakolfpoamaaGreatDoor.P

/- Texts of this claim, one behind the other. -/
import Derived.Test.YtmfpakolfpoamaaGreatDoorMOrderEndsw
/- Sorting no pairs at all. -/
namespace Go.Proofs.YtmfpakolfpoamaaGreatDoor.P
set_option linter.unusedVariables false
set_option linter.unusedSimpArgs false
open Go.RowKit Go.Proofs.YtmfpakolfpoamaaGreatDoorW.PrintWords Go.Proofs.YtmfpakolfpoamaaGreatDoorW.PrintMore Go.Proofs.YtmfpakolfpoamaaGreatDoorW.PrintLast
theorem insertion_nil (cb : Nat) (W : World) : Calls Tryz.prog 122 #[.slice none 0 0, .int .i64 0, .int .i64 0, .func (.func 74) #[] #[.pointer (some ⟨cb, 0, none⟩)]] W fun e w' => e = .returned (.tuple #[]) ∧ w' = W := by
  go_enter Tryz.func122, Tryz.ntmps122
  go_wp2
  go_loopw [8] (fun vi wr => vi = .int .i64 1 ∧ wr = W) (fun vi _ => 0)
  case atStart => exact ⟨rfl, rfl⟩
  case round =>
    obtain ⟨rfl, rfl⟩ := hrel
    go_wp2
    exact bodyPost_end (v := .tuple #[]) (by simp [results, Tryz.f122, go_sem]) rfl ⟨rfl, rfl⟩
theorem stable_nil (cb : Nat) (W : World) : Calls Tryz.prog 99 #[.slice none 0 0, .int .i64 0, .func (.func 74) #[] #[.pointer (some ⟨cb, 0, none⟩)]] W fun e w' => e = .returned (.tuple #[]) ∧ w' = W := by
  have HI := Lib.hid (insertion_nil cb W)
  go_enter Tryz.func99, Tryz.ntmps99
  go_wp2
  go_loopw [7, 8] (fun va vb wr => va = .int .i64 0 ∧ vb = .int .i64 20 ∧ wr = W) (fun va vb _ => 0)
  case atStart => exact ⟨rfl, rfl, rfl⟩
  case round =>
    obtain ⟨rfl, rfl, rfl⟩ := hrel
    go_wp2_with (go_at_call 122; (with_reducible refine (HI.out).mono ?_); rintro e w1 ⟨rfl, rfl⟩)
    go_loopw [6] (fun vz w2 => vz = .int .i64 20 ∧ w2 = w1) (fun vz _ => 0)
    case atStart => exact ⟨rfl, rfl⟩
    case round =>
      obtain ⟨rfl, rfl⟩ := hrel
      go_wp2
      exact bodyPost_end (v := .tuple #[]) (by simp [results, Tryz.f99, go_sem]) rfl ⟨rfl, rfl⟩
theorem sortStable_nil (cb : Nat) (W : World) : Calls Tryz.prog 73 #[.slice none 0 0, .func (.func 74) #[] #[.pointer (some ⟨cb, 0, none⟩)]] W fun e w' => e = .returned (.tuple #[]) ∧ w' = W := by
  have HS := Lib.hid (stable_nil cb W)
  go_enter Tryz.func73, Tryz.ntmps73
  go_wp2_with (go_at_call 99; (with_reducible refine (HS.out).mono ?_); rintro e w1 ⟨rfl, rfl⟩)
  exact bodyPost_end (v := .tuple #[]) (by simp [results, Tryz.f73, go_sem]) rfl ⟨rfl, rfl⟩
theorem sorted_nil (w : World) : Calls Tryz.prog 48 #[.slice none 0 0, .func (.func 40) #[] #[]] w fun e w' => e = .returned (.slice none 0 0) ∧ Below w.heap.size w w' := by
  obtain ⟨W2, hW2⟩ : ∃ W2, W2 = w.alloc (.cells #[.func (.func 40) #[] #[]] 43) := ⟨_, rfl⟩
  have HB : Hid (Below w.heap.size w W2) := Lib.hid (by rw [hW2]; exact (Below.refl _ _).alloc (Nat.le_refl _) _)
  have HS := Lib.hid (sortStable_nil w.heap.size W2)
  have HW2 := Lib.hid hW2
  clear hW2
  go_enter Tryz.func48, Tryz.ntmps48
  go_upto_region 1 with (fail)
  rw [← HW2.out]
  go_wp2_with (go_at_call 73; (with_reducible refine (HS.out).mono ?_); rintro e w1 ⟨rfl, rfl⟩)
  go_ret
  exact ⟨rfl, HB.out⟩
end Go.Proofs.YtmfpakolfpoamaaGreatDoor.P
/- The pairs in order, as a row that is read. -/
namespace Go.Proofs.YtmfpakolfpoamaaGreatDoor.P
set_option linter.unusedVariables false
set_option linter.unusedSimpArgs false
open Go.RowKit Go.Proofs.YtmfpakolfpoamaaGreatDoorW.PrintWords Go.Proofs.YtmfpakolfpoamaaGreatDoorW.PrintMore Go.Proofs.YtmfpakolfpoamaaGreatDoorW.PrintLast
theorem raw_reads {w0 W : World} {A : Option Addr} {n : Nat} {rows : List (List Value)} {l : List V} (h : (Kd.raw 7).C W A n rows) (hl : rows.length = l.length) (hb : Below w0.heap.size w0 W)
    (hk : ∀ (j : Nat) (x : V) (c : List Value), l[j]? = some x → rows[j]? = some c → k34.K w0 x c) : k34.C W A l.length l := by
  have h1 := h.1
  refine ⟨rfl, by have := h.2.1; omega, fun hp => ?_⟩
  obtain ⟨ad, e, hc⟩ := h.2.2 (by omega)
  refine ⟨ad, e, fun j x hx => ?_⟩
  have hj : j < rows.length := by rw [hl]; exact (List.getElem?_eq_some_iff.1 hx).1
  obtain ⟨cs, h2, ⟨rfl, _, _⟩, h3⟩ := hc j _ (List.getElem?_eq_getElem hj)
  exact ⟨_, h2, k34.K_below hb (hk j x _ hx (List.getElem?_eq_getElem hj)), h3⟩
structure SortRow (w w' : World) (ks l : List V) (n : Nat) (A : Option Addr) (S : List PEl) : Prop where
  perm : ∃ rows, S.Perm (pels rows ks l n)
  sorted : S.Pairwise elt
  els : ∀ e ∈ S, PairEl w e
  cells : n = 0 ∨ ∃ g, A = some ⟨g, 0, none⟩ ∧ g < w'.heap.size ∧ ∀ i e, S[i]? = some e → w'.rangeAt g (i * 14) e.row
theorem SortRow.len {w w' : World} {ks l : List V} {n : Nat} {A : Option Addr} {S : List PEl} (h : SortRow w w' ks l n A S) : S.length = n := by
  obtain ⟨rows, hp⟩ := h.perm
  rw [hp.length_eq, pels_len]
theorem rd_mem {l : List V} {j : Nat} (h : j < l.length) : rd_T34 l (j : Int) ∈ l := by unfold rd_T34; simp [h]
theorem SortRow.said {w w' : World} {ks l : List V} {A : Option Addr} {S : List PEl} (h : SortRow w w' ks l ks.length A S) : Sorted ks l (S.map PEl.val) := by
  obtain ⟨rows, hp⟩ := h.perm
  refine ⟨S.map fun e => { e with row := [] }, ?_, ?_, by rw [List.map_map]; rfl⟩
  · have := hp.map (fun e : PEl => { e with row := [] })
    have e : (pels rows ks l ks.length).map (fun e : PEl => { e with row := [] }) = pels [] ks l ks.length := by
      unfold pels
      rw [List.map_map]
      refine List.map_congr_left fun j _ => ?_
      simp
    rw [e] at this
    exact this
  · rw [List.pairwise_map]
    exact h.sorted
theorem SortRow.val {w w' : World} {ks l : List V} {n : Nat} {A : Option Addr} {S : List PEl} (h : SortRow w w' ks l n A S) (hl : n ≤ l.length) : ∀ e ∈ S, e.val ∈ l := fun e he => by
  obtain ⟨rows, hp⟩ := h.perm
  obtain ⟨i, hi⟩ := List.getElem?_of_mem (hp.mem_iff.1 he)
  obtain ⟨k1, k2⟩ := pels_at hi
  rw [k2]
  exact rd_mem (by omega)
theorem sw_cap {w w2 W : World} {ks l : List V} {v : Value} {n : Nat} (h : PairMid2 w w2 W ks l v n) (hn : 0 < n) : ∀ A m cap, v = .slice A m cap → n ≤ cap := by
  obtain ⟨rows, hrl, hR, _⟩ := h.ex
  obtain ⟨A, c, rfl, hl, _⟩ := Kd.R_reads hR
  rintro A' m cap e
  injection e with _ _ e
  omega
theorem sorted_from {w w2 W : World} {ks l : List V} {v : Value} {n : Nat} (h2 : Below w.heap.size w w2) (h : PairMid2 w w2 W ks l v n) (hn1 : n = ks.length) (hn : n ≤ 1048576) (hO : ∀ x ∈ ks, OkV x) (hN : ∀ x ∈ ks, NumOk x) :
    Calls Tryz.prog 48 #[v, .func (.func 40) #[] #[]] W fun e w' => ∃ A cap S, e = .returned (.slice A n cap) ∧ SortRow w w' ks l n A S ∧ Below w2.heap.size w2 w' ∧ n ≤ cap ∧ ∀ g, A = some ⟨g, 0, none⟩ → w2.heap.size ≤ g := by
  by_cases h0 : n = 0
  · subst h0
    rw [h.nil rfl]
    refine (sorted_nil W).mono ?_
    rintro e w' ⟨rfl, hB⟩
    exact ⟨none, 0, [], rfl, ⟨⟨[], by simp [pels]⟩, List.Pairwise.nil, (fun e he => by cases he), .inl rfl⟩, h.below.trans (hB.mono h.below.size), Nat.le_refl _, fun g hg => by cases hg⟩
  · obtain ⟨g, cap, rows, rfl, hg1, hg2, hsw, hel⟩ := sw_of_pairs h (by omega)
    have hcap := sw_cap h (by omega)
    have hke : ∀ e ∈ pels rows ks l n, KeyEl w2 e := fun e he => KeyEl.below (by
      obtain ⟨i, hi⟩ := List.getElem?_of_mem he
      obtain ⟨k1, k2⟩ := pels_at hi
      have hm : e.key ∈ ks := by rw [k2]; exact rd_mem (by omega)
      exact keyEl_of (hel e he) (hO _ hm) (hN _ hm)) h2
    refine (sorted_in w2 W g (pels rows ks l n) n cap pels_len.symm hn h.below hg1 hg2 hke (pels_tags _ _ _ _) hsw).mono ?_
    rintro e w' ⟨rfl, S', p1, p2, p3⟩
    exact ⟨_, cap, S', rfl, ⟨⟨rows, p1⟩, p2, fun e he => hel e (p1.mem_iff.1 he), .inr ⟨g, rfl, Nat.lt_of_lt_of_le hg2 p3.keep.size, p3.at_⟩⟩, p3.keep.below h.below hg1 h.below.size, hcap _ _ _ rfl, fun g' hg' => by injection hg' with hg'; injection hg' with hg'; omega⟩
theorem sorted_call {w W : World} {ks l : List V} {v : Value} {n : Nat} (h : PairMid w W ks l v n) (hn1 : n = ks.length) (hn : n ≤ 1048576) (hO : ∀ x ∈ ks, OkV x) (hN : ∀ x ∈ ks, NumOk x) :
    Calls Tryz.prog 48 #[v, .func (.func 40) #[] #[]] W fun e w' => ∃ A cap S, e = .returned (.slice A n cap) ∧ SortRow w w' ks l n A S ∧ Below w.heap.size w w' :=
  (sorted_from (Below.refl _ _) h hn1 hn hO hN).mono fun e w' ⟨A, cap, S, h1, h2, h3, _, _⟩ => ⟨A, cap, S, h1, h2, h3⟩
theorem at_P {w w1 wr : World} {ks l : List V} {n : Nat} {A : Option Addr} {S : List PEl} (h : SortRow w w1 ks l n A S) (hb : Below w1.heap.size w1 wr) (k : Nat) (hk : k < n) : ∃ (e : PEl) (ad : Addr) (A2 : Option Addr) (c2 : Nat) (A5 : Option Addr) (c5 : Nat) (A6 : Option Addr) (c6 : Nat) (B2 : Option Addr) (d2 : Nat) (B5 : Option Addr) (d5 : Nat) (B6 : Option Addr) (d6 : Nat), S[k]? = some e ∧ A = some ad ∧ k34.K w e.val [.int .i64 e.val.f0, .bool e.val.f1.f0, .slice B2 e.val.f1.f1.length d2, .int .i64 e.val.f1.f2, .string e.val.f2, .slice B5 e.val.f3.length d5, .slice B6 e.val.f4.length d6] ∧ k34.K w e.key [.int .i64 e.key.f0, .bool e.key.f1.f0, .slice A2 e.key.f1.f1.length c2, .int .i64 e.key.f1.f2, .string e.key.f2, .slice A5 e.key.f3.length c5, .slice A6 e.key.f4.length c6] ∧ wr.cell? (ad.add (k * 14)) = some (.int .i64 e.key.f0) ∧ wr.cell? ⟨(ad.add (k * 14)).block, (ad.add (k * 14)).off + 1, none⟩ = some (.bool e.key.f1.f0) ∧ wr.cell? ⟨(ad.add (k * 14)).block, (ad.add (k * 14)).off + 2, none⟩ = some (.slice A2 e.key.f1.f1.length c2) ∧ wr.cell? ⟨(ad.add (k * 14)).block, (ad.add (k * 14)).off + 3, none⟩ = some (.int .i64 e.key.f1.f2) ∧ wr.cell? ⟨(ad.add (k * 14)).block, (ad.add (k * 14)).off + 4, none⟩ = some (.string e.key.f2) ∧ wr.cell? ⟨(ad.add (k * 14)).block, (ad.add (k * 14)).off + 5, none⟩ = some (.slice A5 e.key.f3.length c5) ∧ wr.cell? ⟨(ad.add (k * 14)).block, (ad.add (k * 14)).off + 6, none⟩ = some (.slice A6 e.key.f4.length c6) ∧ wr.cell? ⟨(ad.add (k * 14)).block, (ad.add (k * 14)).off + 7, none⟩ = some (.int .i64 e.val.f0) ∧ wr.cell? ⟨(ad.add (k * 14)).block, (ad.add (k * 14)).off + 8, none⟩ = some (.bool e.val.f1.f0) ∧ wr.cell? ⟨(ad.add (k * 14)).block, (ad.add (k * 14)).off + 9, none⟩ = some (.slice B2 e.val.f1.f1.length d2) ∧ wr.cell? ⟨(ad.add (k * 14)).block, (ad.add (k * 14)).off + 10, none⟩ = some (.int .i64 e.val.f1.f2) ∧ wr.cell? ⟨(ad.add (k * 14)).block, (ad.add (k * 14)).off + 11, none⟩ = some (.string e.val.f2) ∧ wr.cell? ⟨(ad.add (k * 14)).block, (ad.add (k * 14)).off + 12, none⟩ = some (.slice B5 e.val.f3.length d5) ∧ wr.cell? ⟨(ad.add (k * 14)).block, (ad.add (k * 14)).off + 13, none⟩ = some (.slice B6 e.val.f4.length d6) := by
  have hl := h.len
  obtain ⟨e, he⟩ : ∃ e, S[k]? = some e := ⟨_, List.getElem?_eq_getElem (by omega)⟩
  obtain ⟨kc, vc, e1, e2, e3⟩ := h.els e (List.mem_of_getElem? he)
  obtain ⟨A2, c2, A5, c5, A6, c6, rfl, -⟩ := k34_open e2
  obtain ⟨B2, d2, B5, d5, B6, d6, rfl, -⟩ := k34_open e3
  rcases h.cells with h0 | ⟨g, rfl, hg, hr⟩
  · omega
  · have hc : ∀ j v, e.row[j]? = some v → wr.cell? ⟨g, k * 14 + j, none⟩ = some v := fun j v hj => by
      rw [World.cell?_of_block (hb.block g hg)]
      exact hr k e he j v hj
    rw [e1] at hc
    refine ⟨e, ⟨g, 0, none⟩, A2, c2, A5, c5, A6, c6, B2, d2, B5, d5, B6, d6, he, rfl, e3, e2, ?_, ?_, ?_, ?_, ?_, ?_, ?_, ?_, ?_, ?_, ?_, ?_, ?_, ?_⟩
    all_goals (rw [Addr.add_mid]; first | (show wr.cell? ⟨g, 0 + k * 14, none⟩ = _; rw [Nat.zero_add]; exact hc 0 _ rfl) | (simp only [Nat.zero_add]; exact hc _ _ rfl))
end Go.Proofs.YtmfpakolfpoamaaGreatDoor.P
/- order.SortBy, by value. -/
namespace Go.Proofs.YtmfpakolfpoamaaGreatDoor.P
set_option linter.unusedVariables false
set_option linter.unusedSimpArgs false
open Go.RowKit Go.Proofs.YtmfpakolfpoamaaGreatDoorW.PrintWords Go.Proofs.YtmfpakolfpoamaaGreatDoorW.PrintMore Go.Proofs.YtmfpakolfpoamaaGreatDoorW.PrintLast
/-- The first k values, their cells shared. -/
structure OutMid (w w1 wr : World) (S : List PEl) (v : Value) (k : Nat) : Prop where
  ex : ∃ rows : List (List Value), rows.length = k ∧ Kd.R (Kd.raw 7) 34 wr w1.heap.size (fun _ => True) v rows ∧ ∀ (j : Nat) (e : PEl) (r : List Value), S[j]? = some e → rows[j]? = some r → k34.K w e.val r
  below : Below w1.heap.size w1 wr
theorem OutMid.reads {w w1 wr : World} {S : List PEl} {G : Option Addr} {cap k : Nat} (h : OutMid w w1 wr S (.slice G k cap) k) (hS : S.length = k) (hb : Below w.heap.size w w1) : k ≤ cap ∧ k34.C wr G (S.map PEl.val).length (S.map PEl.val) := by
  obtain ⟨rows, h1, h2, h3⟩ := h.ex
  obtain ⟨A, c, e1, e2, e3⟩ := Kd.R_reads h2
  injection e1 with e4 e5 e6
  subst e4 e6
  refine ⟨by rw [h1] at e2; exact e2, raw_reads (w0 := w) e3 (by rw [List.length_map, h1, hS]) (hb.trans (h.below.mono hb.size)) fun j x c hx hc => ?_⟩
  rw [List.getElem?_map] at hx
  obtain ⟨e, he, rfl⟩ := Option.map_eq_some_iff.1 hx
  exact h3 j e c he hc
def SortDone (l ks : List V) (w : World) (e : Ending) (w' : World) : Prop := ((lask l ks ≠ 0 ∧ e = .returned (.tuple #[.slice none 0 0, .int .i64 (lask l ks)])) ∨ (lask l ks = 0 ∧ ∃ v ys, e = .returned (.tuple #[v, .int .i64 0]) ∧ Sorted ks l ys ∧ k34.R 34 w' w.heap.size (fun _ => True) v ys)) ∧ Below w.heap.size w w'
set_option maxHeartbeats 4000000 in
set_option maxRecDepth 100000 in
theorem sortBy_any (l ks : List V) (A B : Option Addr) (c d : Nat) (w : World) (hLD : LaidW w) (hA : k34.C w A l.length l) (hB : k34.C w B ks.length ks) (hO : ∀ x ∈ l, OkV x) (hO2 : ∀ x ∈ ks, OkV x) (h1 : ks.length ≤ 1048576) :
    Calls Tryz.prog 22 #[.slice A l.length c, .slice B ks.length d] w (SortDone l ks w) := by
  have HASK := Lib.hid (oask_any l ks A B c d w hLD hA hB hO hO2)
  by_cases h0 : lask l ks = 0
  · obtain ⟨hN1, hN2, hlen⟩ := lask_zero h0
    have HP : Hid (∀ W, Below w.heap.size w W → Calls Tryz.prog 49 #[.slice B ks.length d, .slice A l.length c] W fun e w' => ∃ v, e = .returned v ∧ PairMid W w' ks l v ks.length) := Lib.hid (fun W hW => pairs_any ks l B A d c W (Kd.C_below hB hW) (Kd.C_below hA hW) hlen h1)
    have HSC : Hid (∀ w1 W v, PairMid w1 W ks l v ks.length → Calls Tryz.prog 48 #[v, .func (.func 40) #[] #[]] W fun e w' => ∃ A cap S, e = .returned (.slice A ks.length cap) ∧ SortRow w1 w' ks l ks.length A S ∧ Below w1.heap.size w1 w') := Lib.hid (fun w1 W v h => sorted_call h rfl h1 hO2 hN2)
    have HVAL : Hid (∀ w1 w' A S, SortRow w1 w' ks l ks.length A S → ∀ x ∈ S.map PEl.val, OkV x) := Lib.hid (fun w1 w' A S h x hx => by
      obtain ⟨e, he, rfl⟩ := List.mem_map.1 hx
      exact hO _ (h.val (by omega) e he))
    have HDONE : Hid (∀ w1 w2 A S v w', SortRow w1 w2 ks l ks.length A S → k34.R 34 w' w.heap.size (fun _ => True) v (S.map PEl.val) → Below w.heap.size w w' → SortDone l ks w (.returned (.tuple #[v, .int .i64 0])) w') := Lib.hid (fun w1 w2 A S v w' h hr hb => ⟨.inr ⟨h0, v, _, rfl, h.said, hr⟩, hb⟩)
    rw [h0] at HASK
    obtain ⟨n, hn⟩ : ∃ n, n = ks.length := ⟨_, rfl⟩
    rw [← hn] at HP HSC HVAL HDONE h1
    rw [← hn]
    rw [← hn] at HASK
    clear hA hB hO hO2 hN1 hN2 hlen hLD h0 hn
    go_enter Tryz.func22, Tryz.ntmps22
    go_wp2_with (first
      | (go_at_call 46; (with_reducible refine (HASK.out).mono ?_); rintro e w1 ⟨rfl, hB1⟩; have HB1 := Lib.hid hB1; clear hB1)
      | (go_at_call 49; (with_reducible refine (HP.out _ HB1.out).mono ?_); rintro e w2 ⟨v2, rfl, hM2⟩; have HM2 := Lib.hid hM2; clear hM2)
      | (go_at_call 48; (with_reducible refine (HSC.out _ _ _ HM2.out).mono ?_); rintro e w3 ⟨A3, cap3, S, rfl, hS3, hB3⟩; have HS3 := Lib.hid hS3; have HB3 := Lib.hid hB3; clear hS3 hB3))
    have H0 : Hid (OutMid w1 w3 w3 S (.slice none 0 0) 0) := Lib.hid ⟨⟨[], rfl, Kd.R_nil _ _ _ _ _, fun j e r _ h => by simp at h⟩, Below.refl _ _⟩
    go_loopw [7, 21] (fun vo vi wr => ∃ (k : Nat) (G : Option Addr) (cap : Nat), k ≤ n ∧ vi = .int .i64 k ∧ vo = .slice G k cap ∧ Hid (OutMid w1 w3 wr S (.slice G k cap) k)) (fun vo vi _ => n - (intOf vi).toNat)
    case atStart => exact ⟨0, none, 0, Nat.zero_le _, rfl, rfl, H0⟩
    case round =>
      obtain ⟨k, G, cap, hk, rfl, rfl, HM⟩ := hrel
      by_cases hlt : k < n
      · have hlt2 : (k : Int) < (n : Int) := by omega
        obtain ⟨e, ad, A2, c2, A5, c5, A6, c6, B2, d2, B5, d5, B6, d6, hSk, rfl, hKv, hKk, p0, p1, p2, p3, p4, p5, p6, p7, p8, p9, p10, p11, p12, p13⟩ := at_P HS3.out HM.out.below k hlt
        have HKV := Lib.hid hKv
        have HONE : Hid (∀ u ∈ ([.int .i64 e.val.f0, .bool e.val.f1.f0, .slice B2 e.val.f1.f1.length d2, .int .i64 e.val.f1.f2, .string e.val.f2, .slice B5 e.val.f3.length d5, .slice B6 e.val.f4.length d6] : List Value), u.oneCell' = true) := Lib.hid (k34.K_one hKv)
        have HSK := Lib.hid hSk
        obtain ⟨W5, hW5⟩ : ∃ W5, W5 = wr.alloc (.cells #[.int .i64 e.key.f0, .bool e.key.f1.f0, .slice A2 e.key.f1.f1.length c2, .int .i64 e.key.f1.f2, .string e.key.f2, .slice A5 e.key.f3.length c5, .slice A6 e.key.f4.length c6, .int .i64 e.val.f0, .bool e.val.f1.f0, .slice B2 e.val.f1.f1.length d2, .int .i64 e.val.f1.f2, .string e.val.f2, .slice B5 e.val.f3.length d5, .slice B6 e.val.f4.length d6] 81) := ⟨_, rfl⟩
        have hbx : W5.heap[wr.heap.size]? = some (.cells #[.int .i64 e.key.f0, .bool e.key.f1.f0, .slice A2 e.key.f1.f1.length c2, .int .i64 e.key.f1.f2, .string e.key.f2, .slice A5 e.key.f3.length c5, .slice A6 e.key.f4.length c6, .int .i64 e.val.f0, .bool e.val.f1.f0, .slice B2 e.val.f1.f1.length d2, .int .i64 e.val.f1.f2, .string e.val.f2, .slice B5 e.val.f3.length d5, .slice B6 e.val.f4.length d6] 81 (0, 0)) := by rw [hW5]; exact blk_new _ _
        have hb5 : Below wr.heap.size wr W5 := by rw [hW5]; exact (Below.refl _ _).alloc (Nat.le_refl _) _
        obtain ⟨rows, hrl, hR, hrk⟩ := HM.out.ex
        have HR5 := Lib.hid (Kd.R_below hR hb5)
        have HRL := Lib.hid hrl
        have HRK := Lib.hid hrk
        have HBW := Lib.hid (HM.out.below.trans (hb5.mono HM.out.below.size))
        have HSZ : Hid (w3.heap.size ≤ W5.heap.size) := Lib.hid (HBW.out.size)
        have HW5 := Lib.hid hW5
        obtain ⟨hc5, hf5⟩ := bcells hbx (Below.refl _ _)
        obtain ⟨hc0, hf0⟩ := bcells (blk_new wr (.cells #[.int .i64 0, .bool false, .slice none 0 0, .int .i64 0, .string ⟨#[]⟩, .slice none 0 0, .slice none 0 0, .int .i64 0, .bool false, .slice none 0 0, .int .i64 0, .string ⟨#[]⟩, .slice none 0 0, .slice none 0 0] 81)) (Below.refl _ _)
        clear hKv hKk hSk hW5 hbx hb5 hrl hR hrk HP HSC HVAL HDONE HM2 HASK
        go_upto_region 8 with (fail)
        rw [← HW5.out]
        clear hc0 hf0 p0 p1 p2 p3 p4 p5 p6 p7 p8 p9 p10 p11 p12 p13
        go_wp2_with (at_builtin; refine Kd.R_append (Kd.raw 7) (w0 := w3) w3.heap.size rfl (.tmp 25) (.tmp 28) 22 34 (.agg #[.int .i64 0, .bool false, .slice none 0 0, .int .i64 0, .string ⟨#[]⟩, .slice none 0 0, .slice none 0 0]) 112 rfl Tryz.underlying22 infoV_ rfl (by decide) (by decide) (.slice G k cap) rows _ _ (fun _ => True) (fun _ => False) rfl rfl ⟨rfl, rfl, HONE.out⟩ (fun _ h => h.elim) (fun _ _ => trivial) HR5.out HBW.out HSZ.out (by rw [HRL.out]; omega) ?_; intro v1 w7 hR7 hB7 hg7 hat7; obtain ⟨G7, cap7, rfl⟩ := Kd.R_slice hR7)
        have hl7 : (rows ++ [[.int .i64 e.val.f0, .bool e.val.f1.f0, .slice B2 e.val.f1.f1.length d2, .int .i64 e.val.f1.f2, .string e.val.f2, .slice B5 e.val.f3.length d5, .slice B6 e.val.f4.length d6]] : List (List Value)).length = k + 1 := by rw [List.length_append, HRL.out]; rfl
        have hM7 : OutMid w1 w3 w7 S (.slice G7 (k + 1) cap7) (k + 1) := ⟨⟨_, hl7, by rw [hl7] at hR7; exact hR7, fun j e2 r hj hr => by
          rcases Nat.lt_or_ge j k with h | h
          · rw [List.getElem?_append_left (by rw [HRL.out]; exact h)] at hr
            exact HRK.out j e2 r hj hr
          · have hjl := (List.getElem?_eq_some_iff.1 hr).1
            rw [hl7] at hjl
            obtain rfl : j = k := by omega
            rw [List.getElem?_append_right (by rw [HRL.out]; exact Nat.le_refl _), HRL.out, Nat.sub_self] at hr
            have hr2 := (Option.some.inj hr).symm
            have he2 : e = e2 := Option.some.inj (HSK.out.symm.trans hj)
            subst he2
            rw [hr2]
            exact HKV.out⟩, hB7⟩
        exact ⟨⟨k + 1, G7, cap7, hlt, rfl, by rw [HRL.out], Lib.hid hM7⟩, by show n - (k + 1) < n - k; omega⟩
      · obtain rfl : k = n := by omega
        have hlt2 : ¬ (k : Int) < (k : Int) := by omega
        have hw13 : Below w.heap.size w w3 := HB1.out.trans (HB3.out.mono HB1.out.size)
        obtain ⟨hcc, hrd⟩ := HM.out.reads HS3.out.len HB3.out
        have hln : (S.map PEl.val).length = k := by rw [List.length_map]; exact HS3.out.len
        have hbr : Below w.heap.size w wr := hw13.trans (HM.out.below.mono hw13.size)
        have hcl := Clones_any (S.map PEl.val) G cap wr (by rw [hln]; exact hcc) hrd (HVAL.out _ _ _ _ HS3.out) (by omega)
        rw [hln] at hcl
        have HCL := Lib.hid hcl
        have HBR := Lib.hid hbr
        clear hw13 hcc hrd hln hbr hcl HASK HP HSC HVAL
        go_wp2_with (go_at_call 50; (with_reducible refine (HCL.out).mono ?_); rintro e w5 ⟨v5, rfl, hR5, hB5⟩; have HR5 := Lib.hid hR5; have HB5 := Lib.hid hB5; clear hR5 hB5)
        go_ret2
        exact HDONE.out _ _ _ _ _ _ HS3.out (Kd.R_lower HR5.out HBR.out.size) (HBR.out.trans (HB5.out.mono HBR.out.size))
  · have HR := Lib.hid h0
    have hn : (lask l ks != 0) = true := by simp [h0]
    have HD : Hid (∀ w', Below w.heap.size w w' → SortDone l ks w (.returned (.tuple #[.slice none 0 0, .int .i64 (lask l ks)])) w') := Lib.hid (fun w' hb => ⟨.inl ⟨h0, rfl⟩, hb⟩)
    generalize lask l ks = r at *
    clear hA hB hO hO2 hLD h0 h1
    go_enter Tryz.func22, Tryz.ntmps22
    go_wp2_with (go_at_call 46; (with_reducible refine (HASK.out).mono ?_); rintro e w1 ⟨rfl, hB1⟩; have HB1 := Lib.hid hB1; clear hB1)
    go_ret2
    exact HD.out _ HB1.out
end Go.Proofs.YtmfpakolfpoamaaGreatDoor.P
/- order.Sort, and the orders of Least and Most, by value. -/
namespace Go.Proofs.YtmfpakolfpoamaaGreatDoor.P
set_option linter.unusedVariables false
set_option linter.unusedSimpArgs false
open Go.RowKit Go.Proofs.YtmfpakolfpoamaaGreatDoorW.PrintWords Go.Proofs.YtmfpakolfpoamaaGreatDoorW.PrintMore Go.Proofs.YtmfpakolfpoamaaGreatDoorW.PrintLast
theorem Sort_any (l : List V) (A : Option Addr) (c : Nat) (w : World) (hLD : LaidW w) (hA : k34.C w A l.length l) (hO : ∀ x ∈ l, OkV x) (h1 : l.length ≤ 1048576) :
    Calls Tryz.prog 11 #[.slice A l.length c] w (SortDone l l w) := by
  have HS := Lib.hid (sortBy_any l l A A c c w hLD hA hA hO hO h1)
  clear hA hO hLD
  go_enter Tryz.func11, Tryz.ntmps11
  go_wp2_with (go_at_call 22; (with_reducible refine (HS.out).mono ?_); rintro e w1 ⟨(⟨h0, rfl⟩ | ⟨h0, v, ys, rfl, hs, hr⟩), hB⟩)
  · go_ret2
    exact ⟨.inl ⟨h0, rfl⟩, hB⟩
  · go_ret2
    exact ⟨.inr ⟨h0, v, ys, rfl, hs, hr⟩, hB⟩
set_option maxHeartbeats 1000000 in
set_option maxRecDepth 100000 in
theorem least_ahead (x y : V) (cs ds : List Value) (w : World) (hK : k34.K w x cs) (hL : k34.K w y ds) (hx : OkV x) (hy : OkV y) (hnx : NumOk x) (hny : NumOk y) :
    Calls Tryz.prog 43 #[.agg cs.toArray, .agg ds.toArray] w fun e w' => e = .returned (.bool (decide (vord x y < 0))) ∧ Below w.heap.size w w' := by
  have HORD : Hid (∀ W, Below w.heap.size w W → Calls Tryz.prog 40 #[.agg cs.toArray, .agg ds.toArray] W fun e w' => e = .returned (.int .i64 (vord x y)) ∧ Below W.heap.size W w') := Lib.hid (fun W hW => Order_any x y cs ds W (k34.K_below hW hK) (k34.K_below hW hL) hx hy hnx hny)
  obtain ⟨A2, c2, A5, c5, A6, c6, rfl, -⟩ := k34_open hK
  obtain ⟨B2, d2, B5, d5, B6, d6, rfl, -⟩ := k34_open hL
  generalize vord x y = r at *
  clear hK hL hx hy hnx hny
  obtain ⟨W2, hW2⟩ : ∃ W2, W2 = (w.alloc (.cells #[.int .i64 x.f0, .bool x.f1.f0, .slice A2 x.f1.f1.length c2, .int .i64 x.f1.f2, .string x.f2, .slice A5 x.f3.length c5, .slice A6 x.f4.length c6] 34)).alloc (.cells #[.int .i64 y.f0, .bool y.f1.f0, .slice B2 y.f1.f1.length d2, .int .i64 y.f1.f2, .string y.f2, .slice B5 y.f3.length d5, .slice B6 y.f4.length d6] 34) := ⟨_, rfl⟩
  have hz : W2.heap.size = w.heap.size + 2 := by rw [hW2]; simp
  have hA2 : Below w.heap.size w W2 := by rw [hW2]; exact ((Below.refl _ _).alloc (Nat.le_refl _) _).alloc (by simp) _
  have hbx : W2.heap[w.heap.size]? = some (.cells #[.int .i64 x.f0, .bool x.f1.f0, .slice A2 x.f1.f1.length c2, .int .i64 x.f1.f2, .string x.f2, .slice A5 x.f3.length c5, .slice A6 x.f4.length c6] 34 (0, 0)) := by rw [hW2]; exact blk_alloc (blk_new _ _) _
  have hby : W2.heap[w.heap.size + 1]? = some (.cells #[.int .i64 y.f0, .bool y.f1.f0, .slice B2 y.f1.f1.length d2, .int .i64 y.f1.f2, .string y.f2, .slice B5 y.f3.length d5, .slice B6 y.f4.length d6] 34 (0, 0)) := by
    rw [hW2]
    have := blk_new (w.alloc (.cells #[.int .i64 x.f0, .bool x.f1.f0, .slice A2 x.f1.f1.length c2, .int .i64 x.f1.f2, .string x.f2, .slice A5 x.f3.length c5, .slice A6 x.f4.length c6] 34)) (.cells #[.int .i64 y.f0, .bool y.f1.f0, .slice B2 y.f1.f1.length d2, .int .i64 y.f1.f2, .string y.f2, .slice B5 y.f3.length d5, .slice B6 y.f4.length d6] 34)
    rw [World.size_alloc] at this
    exact this
  obtain ⟨hc1, hf1⟩ := bcells hbx (Below.refl _ _)
  obtain ⟨hc2, hf2⟩ := bcells hby (Below.refl _ _)
  have HA2 := Lib.hid hA2
  have HW2 := Lib.hid hW2
  have HZ := Lib.hid hz
  clear hA2 hz hbx hby hW2
  go_enter Tryz.func43, Tryz.ntmps43
  go_upto_region 1 with (fail)
  rw [← HW2.out]
  go_wp2_with (first | (go_at_call 40; (with_reducible refine (HORD.out _ HA2.out).mono ?_); rintro e w2 ⟨rfl, hB2⟩; have HB2 := Lib.hid hB2; clear hB2))
  go_ret
  exact ⟨rfl, HA2.out.trans (HB2.out.mono (by have := HZ.out; omega))⟩
set_option maxHeartbeats 1000000 in
set_option maxRecDepth 100000 in
theorem most_ahead (x y : V) (cs ds : List Value) (w : World) (hK : k34.K w x cs) (hL : k34.K w y ds) (hx : OkV x) (hy : OkV y) (hnx : NumOk x) (hny : NumOk y) :
    Calls Tryz.prog 44 #[.agg cs.toArray, .agg ds.toArray] w fun e w' => e = .returned (.bool (decide (vord x y ≥ 0))) ∧ Below w.heap.size w w' := by
  have HORD : Hid (∀ W, Below w.heap.size w W → Calls Tryz.prog 40 #[.agg cs.toArray, .agg ds.toArray] W fun e w' => e = .returned (.int .i64 (vord x y)) ∧ Below W.heap.size W w') := Lib.hid (fun W hW => Order_any x y cs ds W (k34.K_below hW hK) (k34.K_below hW hL) hx hy hnx hny)
  obtain ⟨A2, c2, A5, c5, A6, c6, rfl, -⟩ := k34_open hK
  obtain ⟨B2, d2, B5, d5, B6, d6, rfl, -⟩ := k34_open hL
  generalize vord x y = r at *
  clear hK hL hx hy hnx hny
  obtain ⟨W2, hW2⟩ : ∃ W2, W2 = (w.alloc (.cells #[.int .i64 x.f0, .bool x.f1.f0, .slice A2 x.f1.f1.length c2, .int .i64 x.f1.f2, .string x.f2, .slice A5 x.f3.length c5, .slice A6 x.f4.length c6] 34)).alloc (.cells #[.int .i64 y.f0, .bool y.f1.f0, .slice B2 y.f1.f1.length d2, .int .i64 y.f1.f2, .string y.f2, .slice B5 y.f3.length d5, .slice B6 y.f4.length d6] 34) := ⟨_, rfl⟩
  have hz : W2.heap.size = w.heap.size + 2 := by rw [hW2]; simp
  have hA2 : Below w.heap.size w W2 := by rw [hW2]; exact ((Below.refl _ _).alloc (Nat.le_refl _) _).alloc (by simp) _
  have hbx : W2.heap[w.heap.size]? = some (.cells #[.int .i64 x.f0, .bool x.f1.f0, .slice A2 x.f1.f1.length c2, .int .i64 x.f1.f2, .string x.f2, .slice A5 x.f3.length c5, .slice A6 x.f4.length c6] 34 (0, 0)) := by rw [hW2]; exact blk_alloc (blk_new _ _) _
  have hby : W2.heap[w.heap.size + 1]? = some (.cells #[.int .i64 y.f0, .bool y.f1.f0, .slice B2 y.f1.f1.length d2, .int .i64 y.f1.f2, .string y.f2, .slice B5 y.f3.length d5, .slice B6 y.f4.length d6] 34 (0, 0)) := by
    rw [hW2]
    have := blk_new (w.alloc (.cells #[.int .i64 x.f0, .bool x.f1.f0, .slice A2 x.f1.f1.length c2, .int .i64 x.f1.f2, .string x.f2, .slice A5 x.f3.length c5, .slice A6 x.f4.length c6] 34)) (.cells #[.int .i64 y.f0, .bool y.f1.f0, .slice B2 y.f1.f1.length d2, .int .i64 y.f1.f2, .string y.f2, .slice B5 y.f3.length d5, .slice B6 y.f4.length d6] 34)
    rw [World.size_alloc] at this
    exact this
  obtain ⟨hc1, hf1⟩ := bcells hbx (Below.refl _ _)
  obtain ⟨hc2, hf2⟩ := bcells hby (Below.refl _ _)
  have HA2 := Lib.hid hA2
  have HW2 := Lib.hid hW2
  have HZ := Lib.hid hz
  clear hA2 hz hbx hby hW2
  go_enter Tryz.func44, Tryz.ntmps44
  go_upto_region 1 with (fail)
  rw [← HW2.out]
  go_wp2_with (first | (go_at_call 40; (with_reducible refine (HORD.out _ HA2.out).mono ?_); rintro e w2 ⟨rfl, hB2⟩; have HB2 := Lib.hid hB2; clear hB2))
  go_ret
  exact ⟨rfl, HA2.out.trans (HB2.out.mono (by have := HZ.out; omega))⟩
end Go.Proofs.YtmfpakolfpoamaaGreatDoor.P
/- order.best, by value. -/
namespace Go.Proofs.YtmfpakolfpoamaaGreatDoor.P
set_option linter.unusedVariables false
set_option linter.unusedSimpArgs false
open Go.RowKit Go.Proofs.YtmfpakolfpoamaaGreatDoorW.PrintWords Go.Proofs.YtmfpakolfpoamaaGreatDoorW.PrintMore Go.Proofs.YtmfpakolfpoamaaGreatDoorW.PrintLast
/-- The place of the first of k keys that none is ahead of. -/
def bestTo (p : V → V → Bool) (ks : List V) : Nat → Nat
  | 0 => 0
  | k + 1 => if p (rd_T34 ks (k : Int)) (rd_T34 ks (bestTo p ks k : Nat)) = true then k else bestTo p ks k
theorem bestTo_le (p : V → V → Bool) (ks : List V) : ∀ k, bestTo p ks k ≤ k
  | 0 => Nat.le_refl _
  | k + 1 => by
    have := bestTo_le p ks k
    rw [bestTo]
    split <;> omega
theorem bestTo_lt (p : V → V → Bool) (ks : List V) : ∀ k, 0 < k → bestTo p ks k < k
  | k + 1, _ => by
    have := bestTo_le p ks k
    rw [bestTo]
    split <;> omega
def leastP (x y : V) : Bool := decide (vord x y < 0)
set_option maxHeartbeats 4000000 in
set_option maxRecDepth 100000 in
theorem least_best (ks : List V) (A : Option Addr) (c : Nat) (w : World) (hA : k34.C w A ks.length ks) (hO : ∀ x ∈ ks, OkV x) (hN : ∀ x ∈ ks, NumOk x) (h1 : ks.length ≤ 1048576) :
    Calls Tryz.prog 71 #[.slice A ks.length c, .func (.func 43) #[] #[]] w fun e w' => e = .returned (.int .i64 (bestTo leastP ks ks.length : Nat)) ∧ Below w.heap.size w w' := by
  have HA := Lib.hid hA
  obtain ⟨n, hn⟩ : ∃ n, n = ks.length := ⟨_, rfl⟩
  have HAH : Hid (∀ i j, i < n → j < n → ∀ cs ds W, k34.K W (rd_T34 ks (i : Nat)) cs → k34.K W (rd_T34 ks (j : Nat)) ds → Calls Tryz.prog 43 #[.agg cs.toArray, .agg ds.toArray] W fun e w' => e = .returned (.bool (leastP (rd_T34 ks (i : Nat)) (rd_T34 ks (j : Nat)))) ∧ Below W.heap.size W w') := Lib.hid (fun i j hi hj cs ds W hK hL => least_ahead _ _ cs ds W hK hL (hO _ (rd_mem (by omega))) (hO _ (rd_mem (by omega))) (hN _ (rd_mem (by omega))) (hN _ (rd_mem (by omega))))
  rw [← hn]
  rw [← hn] at h1
  have HN := Lib.hid hn
  clear hA hO hN hn
  go_enter Tryz.func71, Tryz.ntmps71
  go_wp2
  go_loopw [5, 10] (fun va vi wr => ∃ (k a : Nat), k ≤ n ∧ vi = .int .i64 k ∧ va = .int .i64 a ∧ (a < k ∨ a = 0) ∧ Hid (a = bestTo leastP ks k) ∧ Below w.heap.size w wr) (fun va vi _ => n - (intOf vi).toNat)
  case atStart => exact ⟨0, 0, Nat.zero_le _, rfl, rfl, .inr rfl, Lib.hid rfl, Below.refl _ _⟩
  case round =>
    obtain ⟨k, a, hk, rfl, rfl, hak, HBT, hbw⟩ := hrel
    by_cases hlt : k < n
    · have hlt2 : (k : Int) < (n : Int) := by omega
      have halt : a < n := by omega
      have halt2 : (a : Int) < (n : Int) := by omega
      have halt0 : (0 : Int) ≤ (a : Int) := by omega
      obtain ⟨ad, a0, a1, a2, a3, a4, a5, a6, rfl, hKa, p0, p1, p2, p3, p4, p5, p6⟩ := at_V HA.out hbw k (by rw [← HN.out]; exact hlt)
      obtain ⟨bd, b0, b1, b2, b3, b4, b5, b6, e, hKb, q0, q1, q2, q3, q4, q5, q6⟩ := at_V HA.out hbw a (by rw [← HN.out]; exact halt)
      obtain rfl := Option.some.inj e
      obtain ⟨r, hr⟩ : ∃ r, r = leastP (rd_T34 ks (k : Nat)) (rd_T34 ks (a : Nat)) := ⟨_, rfl⟩
      have HC : Hid (∀ W, Below w.heap.size w W → Calls Tryz.prog 43 #[.agg #[a0, a1, a2, a3, a4, a5, a6], .agg #[b0, b1, b2, b3, b4, b5, b6]] W fun e w' => e = .returned (.bool r) ∧ Below W.heap.size W w') := Lib.hid (fun W hW => by
        have := HAH.out k a hlt halt [a0, a1, a2, a3, a4, a5, a6] [b0, b1, b2, b3, b4, b5, b6] W (k34.K_below hW hKa) (k34.K_below hW hKb)
        rw [← hr] at this
        exact this)
      have HST : Hid (bestTo leastP ks (k + 1) = if r = true then k else a) := Lib.hid (by rw [bestTo, ← HBT.out, ← hr])
      have HBT' := HBT
      clear hr
      obtain ⟨A2, c2, A5, c5, A6, c6, e, -⟩ := k34_open hKa
      simp only [List.cons.injEq, and_true] at e
      obtain ⟨rfl, rfl, rfl, rfl, rfl, rfl, rfl⟩ := e
      obtain ⟨W5, hW5⟩ : ∃ W5, W5 = wr.alloc (.cells #[.int .i64 (rd_T34 ks (k : Int)).f0, .bool (rd_T34 ks (k : Int)).f1.f0, .slice A2 (rd_T34 ks (k : Int)).f1.f1.length c2, .int .i64 (rd_T34 ks (k : Int)).f1.f2, .string (rd_T34 ks (k : Int)).f2, .slice A5 (rd_T34 ks (k : Int)).f3.length c5, .slice A6 (rd_T34 ks (k : Int)).f4.length c6] 34) := ⟨_, rfl⟩
      have hbx : W5.heap[wr.heap.size]? = some (.cells #[.int .i64 (rd_T34 ks (k : Int)).f0, .bool (rd_T34 ks (k : Int)).f1.f0, .slice A2 (rd_T34 ks (k : Int)).f1.f1.length c2, .int .i64 (rd_T34 ks (k : Int)).f1.f2, .string (rd_T34 ks (k : Int)).f2, .slice A5 (rd_T34 ks (k : Int)).f3.length c5, .slice A6 (rd_T34 ks (k : Int)).f4.length c6] 34 (0, 0)) := by rw [hW5]; exact blk_new _ _
      have hb5 : Below wr.heap.size wr W5 := by rw [hW5]; exact (Below.refl _ _).alloc (Nat.le_refl _) _
      have HW5 := Lib.hid hW5
      have HBX := Lib.hid hbx
      obtain ⟨hc0, hf0⟩ := bcells (blk_new wr (.cells #[.int .i64 0, .bool false, .slice none 0 0, .int .i64 0, .string ⟨#[]⟩, .slice none 0 0, .slice none 0 0] 34)) (Below.refl _ _)
      have HQ0 := Lib.hid (pw_cell_below (below_drew hb5) q0)
      have HQ1 := Lib.hid (pw_cell_below (below_drew hb5) q1)
      have HQ2 := Lib.hid (pw_cell_below (below_drew hb5) q2)
      have HQ3 := Lib.hid (pw_cell_below (below_drew hb5) q3)
      have HQ4 := Lib.hid (pw_cell_below (below_drew hb5) q4)
      have HQ5 := Lib.hid (pw_cell_below (below_drew hb5) q5)
      have HQ6 := Lib.hid (pw_cell_below (below_drew hb5) q6)
      have HBW := Lib.hid (hbw.trans ((below_drew hb5).mono hbw.size))
      clear hKa hKb hW5 hbx hb5 q0 q1 q2 q3 q4 q5 q6 hbw
      go_upto_region 5 with (fail)
      rw [← HW5.out]
      clear hc0 hf0 p0 p1 p2 p3 p4 p5 p6
      obtain ⟨hc5, hf5⟩ := bcells (blk_drew HBX.out) (Below.refl _ _)
      have q0 := HQ0.out
      have q1 := HQ1.out
      have q2 := HQ2.out
      have q3 := HQ3.out
      have q4 := HQ4.out
      have q5 := HQ5.out
      have q6 := HQ6.out
      go_region_law (go_simp; go_at_call 43; (with_reducible refine (HC.out _ HBW.out).mono ?_); rintro e w7 ⟨rfl, hB7⟩; have HB7 := Lib.hid (HBW.out.trans (hB7.mono HBW.out.size)); clear hB7)
      all_goals
        rename_i q_ k_ a_
        refine a_ _ _ ?_
        clear a_ hc5 hf5 q0 q1 q2 q3 q4 q5 q6
        cases r with
        | true =>
          have HS2 := Lib.hid (show k = bestTo leastP ks (k + 1) by rw [HST.out]; rfl)
          go_wp2_with fail
          exact ⟨⟨k + 1, k, hlt, rfl, rfl, .inl (Nat.lt_succ_self _), HS2, HB7.out⟩, by show n - (k + 1) < n - k; omega⟩
        | false =>
          have HS2 := Lib.hid (show a = bestTo leastP ks (k + 1) by rw [HST.out]; rfl)
          go_wp2_with fail
          exact ⟨⟨k + 1, a, hlt, rfl, rfl, by omega, HS2, HB7.out⟩, by show n - (k + 1) < n - k; omega⟩
    · obtain rfl : k = n := by omega
      have hlt2 : ¬ (k : Int) < (k : Int) := by omega
      go_wp2
      go_ret
      exact ⟨by rw [← HBT.out]; rfl, hbw⟩
def mostP (x y : V) : Bool := decide (vord x y ≥ 0)
set_option maxHeartbeats 4000000 in
set_option maxRecDepth 100000 in
theorem most_best (ks : List V) (A : Option Addr) (c : Nat) (w : World) (hA : k34.C w A ks.length ks) (hO : ∀ x ∈ ks, OkV x) (hN : ∀ x ∈ ks, NumOk x) (h1 : ks.length ≤ 1048576) :
    Calls Tryz.prog 71 #[.slice A ks.length c, .func (.func 44) #[] #[]] w fun e w' => e = .returned (.int .i64 (bestTo mostP ks ks.length : Nat)) ∧ Below w.heap.size w w' := by
  have HA := Lib.hid hA
  obtain ⟨n, hn⟩ : ∃ n, n = ks.length := ⟨_, rfl⟩
  have HAH : Hid (∀ i j, i < n → j < n → ∀ cs ds W, k34.K W (rd_T34 ks (i : Nat)) cs → k34.K W (rd_T34 ks (j : Nat)) ds → Calls Tryz.prog 44 #[.agg cs.toArray, .agg ds.toArray] W fun e w' => e = .returned (.bool (mostP (rd_T34 ks (i : Nat)) (rd_T34 ks (j : Nat)))) ∧ Below W.heap.size W w') := Lib.hid (fun i j hi hj cs ds W hK hL => most_ahead _ _ cs ds W hK hL (hO _ (rd_mem (by omega))) (hO _ (rd_mem (by omega))) (hN _ (rd_mem (by omega))) (hN _ (rd_mem (by omega))))
  rw [← hn]
  rw [← hn] at h1
  have HN := Lib.hid hn
  clear hA hO hN hn
  go_enter Tryz.func71, Tryz.ntmps71
  go_wp2
  go_loopw [5, 10] (fun va vi wr => ∃ (k a : Nat), k ≤ n ∧ vi = .int .i64 k ∧ va = .int .i64 a ∧ (a < k ∨ a = 0) ∧ Hid (a = bestTo mostP ks k) ∧ Below w.heap.size w wr) (fun va vi _ => n - (intOf vi).toNat)
  case atStart => exact ⟨0, 0, Nat.zero_le _, rfl, rfl, .inr rfl, Lib.hid rfl, Below.refl _ _⟩
  case round =>
    obtain ⟨k, a, hk, rfl, rfl, hak, HBT, hbw⟩ := hrel
    by_cases hlt : k < n
    · have hlt2 : (k : Int) < (n : Int) := by omega
      have halt : a < n := by omega
      have halt2 : (a : Int) < (n : Int) := by omega
      have halt0 : (0 : Int) ≤ (a : Int) := by omega
      obtain ⟨ad, a0, a1, a2, a3, a4, a5, a6, rfl, hKa, p0, p1, p2, p3, p4, p5, p6⟩ := at_V HA.out hbw k (by rw [← HN.out]; exact hlt)
      obtain ⟨bd, b0, b1, b2, b3, b4, b5, b6, e, hKb, q0, q1, q2, q3, q4, q5, q6⟩ := at_V HA.out hbw a (by rw [← HN.out]; exact halt)
      obtain rfl := Option.some.inj e
      obtain ⟨r, hr⟩ : ∃ r, r = mostP (rd_T34 ks (k : Nat)) (rd_T34 ks (a : Nat)) := ⟨_, rfl⟩
      have HC : Hid (∀ W, Below w.heap.size w W → Calls Tryz.prog 44 #[.agg #[a0, a1, a2, a3, a4, a5, a6], .agg #[b0, b1, b2, b3, b4, b5, b6]] W fun e w' => e = .returned (.bool r) ∧ Below W.heap.size W w') := Lib.hid (fun W hW => by
        have := HAH.out k a hlt halt [a0, a1, a2, a3, a4, a5, a6] [b0, b1, b2, b3, b4, b5, b6] W (k34.K_below hW hKa) (k34.K_below hW hKb)
        rw [← hr] at this
        exact this)
      have HST : Hid (bestTo mostP ks (k + 1) = if r = true then k else a) := Lib.hid (by rw [bestTo, ← HBT.out, ← hr])
      have HBT' := HBT
      clear hr
      obtain ⟨A2, c2, A5, c5, A6, c6, e, -⟩ := k34_open hKa
      simp only [List.cons.injEq, and_true] at e
      obtain ⟨rfl, rfl, rfl, rfl, rfl, rfl, rfl⟩ := e
      obtain ⟨W5, hW5⟩ : ∃ W5, W5 = wr.alloc (.cells #[.int .i64 (rd_T34 ks (k : Int)).f0, .bool (rd_T34 ks (k : Int)).f1.f0, .slice A2 (rd_T34 ks (k : Int)).f1.f1.length c2, .int .i64 (rd_T34 ks (k : Int)).f1.f2, .string (rd_T34 ks (k : Int)).f2, .slice A5 (rd_T34 ks (k : Int)).f3.length c5, .slice A6 (rd_T34 ks (k : Int)).f4.length c6] 34) := ⟨_, rfl⟩
      have hbx : W5.heap[wr.heap.size]? = some (.cells #[.int .i64 (rd_T34 ks (k : Int)).f0, .bool (rd_T34 ks (k : Int)).f1.f0, .slice A2 (rd_T34 ks (k : Int)).f1.f1.length c2, .int .i64 (rd_T34 ks (k : Int)).f1.f2, .string (rd_T34 ks (k : Int)).f2, .slice A5 (rd_T34 ks (k : Int)).f3.length c5, .slice A6 (rd_T34 ks (k : Int)).f4.length c6] 34 (0, 0)) := by rw [hW5]; exact blk_new _ _
      have hb5 : Below wr.heap.size wr W5 := by rw [hW5]; exact (Below.refl _ _).alloc (Nat.le_refl _) _
      have HW5 := Lib.hid hW5
      have HBX := Lib.hid hbx
      obtain ⟨hc0, hf0⟩ := bcells (blk_new wr (.cells #[.int .i64 0, .bool false, .slice none 0 0, .int .i64 0, .string ⟨#[]⟩, .slice none 0 0, .slice none 0 0] 34)) (Below.refl _ _)
      have HQ0 := Lib.hid (pw_cell_below (below_drew hb5) q0)
      have HQ1 := Lib.hid (pw_cell_below (below_drew hb5) q1)
      have HQ2 := Lib.hid (pw_cell_below (below_drew hb5) q2)
      have HQ3 := Lib.hid (pw_cell_below (below_drew hb5) q3)
      have HQ4 := Lib.hid (pw_cell_below (below_drew hb5) q4)
      have HQ5 := Lib.hid (pw_cell_below (below_drew hb5) q5)
      have HQ6 := Lib.hid (pw_cell_below (below_drew hb5) q6)
      have HBW := Lib.hid (hbw.trans ((below_drew hb5).mono hbw.size))
      clear hKa hKb hW5 hbx hb5 q0 q1 q2 q3 q4 q5 q6 hbw
      go_upto_region 5 with (fail)
      rw [← HW5.out]
      clear hc0 hf0 p0 p1 p2 p3 p4 p5 p6
      obtain ⟨hc5, hf5⟩ := bcells (blk_drew HBX.out) (Below.refl _ _)
      have q0 := HQ0.out
      have q1 := HQ1.out
      have q2 := HQ2.out
      have q3 := HQ3.out
      have q4 := HQ4.out
      have q5 := HQ5.out
      have q6 := HQ6.out
      go_region_law (go_simp; go_at_call 44; (with_reducible refine (HC.out _ HBW.out).mono ?_); rintro e w7 ⟨rfl, hB7⟩; have HB7 := Lib.hid (HBW.out.trans (hB7.mono HBW.out.size)); clear hB7)
      all_goals
        rename_i q_ k_ a_
        refine a_ _ _ ?_
        clear a_ hc5 hf5 q0 q1 q2 q3 q4 q5 q6
        cases r with
        | true =>
          have HS2 := Lib.hid (show k = bestTo mostP ks (k + 1) by rw [HST.out]; rfl)
          go_wp2_with fail
          exact ⟨⟨k + 1, k, hlt, rfl, rfl, .inl (Nat.lt_succ_self _), HS2, HB7.out⟩, by show n - (k + 1) < n - k; omega⟩
        | false =>
          have HS2 := Lib.hid (show a = bestTo mostP ks (k + 1) by rw [HST.out]; rfl)
          go_wp2_with fail
          exact ⟨⟨k + 1, a, hlt, rfl, rfl, by omega, HS2, HB7.out⟩, by show n - (k + 1) < n - k; omega⟩
    · obtain rfl : k = n := by omega
      have hlt2 : ¬ (k : Int) < (k : Int) := by omega
      go_wp2
      go_ret
      exact ⟨by rw [← HBT.out]; rfl, hbw⟩
end Go.Proofs.YtmfpakolfpoamaaGreatDoor.P
/- order.Least and order.Most, by value. -/
namespace Go.Proofs.YtmfpakolfpoamaaGreatDoor.P
set_option linter.unusedVariables false
set_option linter.unusedSimpArgs false
open Go.RowKit Go.Proofs.YtmfpakolfpoamaaGreatDoorW.PrintWords Go.Proofs.YtmfpakolfpoamaaGreatDoorW.PrintMore Go.Proofs.YtmfpakolfpoamaaGreatDoorW.PrintLast
/-- The place, and the error. -/
def lbest (p : V → V → Bool) (l ks : List V) : Int × Int := if lask l ks ≠ 0 then (0, lask l ks) else if l.length = 0 then (0, 71) else (((bestTo p ks ks.length : Nat) : Int), 0)
set_option maxHeartbeats 1000000 in
set_option maxRecDepth 100000 in
theorem least_chosen (l ks : List V) (A B : Option Addr) (c d : Nat) (w : World) (hLD : LaidW w) (hA : k34.C w A l.length l) (hB : k34.C w B ks.length ks) (hO : ∀ x ∈ l, OkV x) (hO2 : ∀ x ∈ ks, OkV x) (h1 : ks.length ≤ 1048576) :
    Calls Tryz.prog 42 #[.slice A l.length c, .slice B ks.length d, .func (.func 43) #[] #[]] w fun e w' => e = .returned (.tuple #[.int .i64 (lbest leastP l ks).1, .int .i64 (lbest leastP l ks).2]) ∧ Below w.heap.size w w' := by
  have HASK := Lib.hid (oask_any l ks A B c d w hLD hA hB hO hO2)
  by_cases h0 : lask l ks = 0
  · obtain ⟨hN1, hN2, hlen⟩ := lask_zero h0
    have HB : Hid (∀ W, Below w.heap.size w W → Calls Tryz.prog 71 #[.slice B ks.length d, .func (.func 43) #[] #[]] W fun e w' => e = .returned (.int .i64 (bestTo leastP ks ks.length : Nat)) ∧ Below W.heap.size W w') := Lib.hid (fun W hW => least_best ks B d W (Kd.C_below hB hW) hO2 hN2 h1)
    rw [h0] at HASK
    by_cases hz : l.length = 0
    · have hr : lbest leastP l ks = (0, 71) := by unfold lbest; rw [if_neg (by simpa using h0), if_pos hz]
      rw [hr]
      have hg : (((l.length : Nat) : Int) == 0) = true := by rw [hz]; rfl
      clear hA hB hO hO2 hLD h0 hN1 hN2 hlen hr hz
      go_enter Tryz.func42, Tryz.ntmps42
      go_wp2_with (go_at_call 46; (with_reducible refine (HASK.out).mono ?_); rintro e w1 ⟨rfl, hB1⟩; have HB1 := Lib.hid hB1; clear hB1)
      go_ret2
      exact ⟨rfl, HB1.out⟩
    · have hr : lbest leastP l ks = (((bestTo leastP ks ks.length : Nat) : Int), 0) := by unfold lbest; rw [if_neg (by simpa using h0), if_neg hz]
      rw [hr]
      have hg : (((l.length : Nat) : Int) == 0) = false := beq_eq_false_iff_ne.2 (by omega)
      clear hA hB hO hO2 hLD h0 hN1 hN2 hlen hr hz
      go_enter Tryz.func42, Tryz.ntmps42
      go_wp2_with (first
        | (go_at_call 46; (with_reducible refine (HASK.out).mono ?_); rintro e w1 ⟨rfl, hB1⟩; have HB1 := Lib.hid hB1; clear hB1)
        | (go_at_call 71; (with_reducible refine (HB.out _ HB1.out).mono ?_); rintro e w2 ⟨rfl, hB2⟩; have HB2 := Lib.hid (HB1.out.trans (hB2.mono HB1.out.size)); clear hB2))
      go_ret2
      exact ⟨rfl, HB2.out⟩
  · have hr : lbest leastP l ks = (0, lask l ks) := by unfold lbest; rw [if_pos h0]
    rw [hr]
    have hn : (lask l ks != 0) = true := by simp [h0]
    generalize lask l ks = r at *
    clear hA hB hO hO2 hLD h0 hr
    go_enter Tryz.func42, Tryz.ntmps42
    go_wp2_with (go_at_call 46; (with_reducible refine (HASK.out).mono ?_); rintro e w1 ⟨rfl, hB1⟩; have HB1 := Lib.hid hB1; clear hB1)
    go_ret2
    exact ⟨rfl, HB1.out⟩
theorem Least_any (l ks : List V) (A B : Option Addr) (c d : Nat) (w : World) (hLD : LaidW w) (hA : k34.C w A l.length l) (hB : k34.C w B ks.length ks) (hO : ∀ x ∈ l, OkV x) (hO2 : ∀ x ∈ ks, OkV x) (h1 : ks.length ≤ 1048576) :
    Calls Tryz.prog 18 #[.slice A l.length c, .slice B ks.length d] w fun e w' => e = .returned (.tuple #[.int .i64 (lbest leastP l ks).1, .int .i64 (lbest leastP l ks).2]) ∧ Below w.heap.size w w' := by
  have HS := Lib.hid (least_chosen l ks A B c d w hLD hA hB hO hO2 h1)
  generalize lbest leastP l ks = r at *
  clear hA hB hO hO2 hLD
  go_enter Tryz.func18, Tryz.ntmps18
  go_wp2_with (go_at_call 42; (with_reducible refine (HS.out).mono ?_); rintro e w1 ⟨rfl, hB1⟩; have HB1 := Lib.hid hB1; clear hB1)
  go_ret2
  exact ⟨rfl, HB1.out⟩
set_option maxHeartbeats 1000000 in
set_option maxRecDepth 100000 in
theorem most_chosen (l ks : List V) (A B : Option Addr) (c d : Nat) (w : World) (hLD : LaidW w) (hA : k34.C w A l.length l) (hB : k34.C w B ks.length ks) (hO : ∀ x ∈ l, OkV x) (hO2 : ∀ x ∈ ks, OkV x) (h1 : ks.length ≤ 1048576) :
    Calls Tryz.prog 42 #[.slice A l.length c, .slice B ks.length d, .func (.func 44) #[] #[]] w fun e w' => e = .returned (.tuple #[.int .i64 (lbest mostP l ks).1, .int .i64 (lbest mostP l ks).2]) ∧ Below w.heap.size w w' := by
  have HASK := Lib.hid (oask_any l ks A B c d w hLD hA hB hO hO2)
  by_cases h0 : lask l ks = 0
  · obtain ⟨hN1, hN2, hlen⟩ := lask_zero h0
    have HB : Hid (∀ W, Below w.heap.size w W → Calls Tryz.prog 71 #[.slice B ks.length d, .func (.func 44) #[] #[]] W fun e w' => e = .returned (.int .i64 (bestTo mostP ks ks.length : Nat)) ∧ Below W.heap.size W w') := Lib.hid (fun W hW => most_best ks B d W (Kd.C_below hB hW) hO2 hN2 h1)
    rw [h0] at HASK
    by_cases hz : l.length = 0
    · have hr : lbest mostP l ks = (0, 71) := by unfold lbest; rw [if_neg (by simpa using h0), if_pos hz]
      rw [hr]
      have hg : (((l.length : Nat) : Int) == 0) = true := by rw [hz]; rfl
      clear hA hB hO hO2 hLD h0 hN1 hN2 hlen hr hz
      go_enter Tryz.func42, Tryz.ntmps42
      go_wp2_with (go_at_call 46; (with_reducible refine (HASK.out).mono ?_); rintro e w1 ⟨rfl, hB1⟩; have HB1 := Lib.hid hB1; clear hB1)
      go_ret2
      exact ⟨rfl, HB1.out⟩
    · have hr : lbest mostP l ks = (((bestTo mostP ks ks.length : Nat) : Int), 0) := by unfold lbest; rw [if_neg (by simpa using h0), if_neg hz]
      rw [hr]
      have hg : (((l.length : Nat) : Int) == 0) = false := beq_eq_false_iff_ne.2 (by omega)
      clear hA hB hO hO2 hLD h0 hN1 hN2 hlen hr hz
      go_enter Tryz.func42, Tryz.ntmps42
      go_wp2_with (first
        | (go_at_call 46; (with_reducible refine (HASK.out).mono ?_); rintro e w1 ⟨rfl, hB1⟩; have HB1 := Lib.hid hB1; clear hB1)
        | (go_at_call 71; (with_reducible refine (HB.out _ HB1.out).mono ?_); rintro e w2 ⟨rfl, hB2⟩; have HB2 := Lib.hid (HB1.out.trans (hB2.mono HB1.out.size)); clear hB2))
      go_ret2
      exact ⟨rfl, HB2.out⟩
  · have hr : lbest mostP l ks = (0, lask l ks) := by unfold lbest; rw [if_pos h0]
    rw [hr]
    have hn : (lask l ks != 0) = true := by simp [h0]
    generalize lask l ks = r at *
    clear hA hB hO hO2 hLD h0 hr
    go_enter Tryz.func42, Tryz.ntmps42
    go_wp2_with (go_at_call 46; (with_reducible refine (HASK.out).mono ?_); rintro e w1 ⟨rfl, hB1⟩; have HB1 := Lib.hid hB1; clear hB1)
    go_ret2
    exact ⟨rfl, HB1.out⟩
theorem Most_any (l ks : List V) (A B : Option Addr) (c d : Nat) (w : World) (hLD : LaidW w) (hA : k34.C w A l.length l) (hB : k34.C w B ks.length ks) (hO : ∀ x ∈ l, OkV x) (hO2 : ∀ x ∈ ks, OkV x) (h1 : ks.length ≤ 1048576) :
    Calls Tryz.prog 19 #[.slice A l.length c, .slice B ks.length d] w fun e w' => e = .returned (.tuple #[.int .i64 (lbest mostP l ks).1, .int .i64 (lbest mostP l ks).2]) ∧ Below w.heap.size w w' := by
  have HS := Lib.hid (most_chosen l ks A B c d w hLD hA hB hO hO2 h1)
  generalize lbest mostP l ks = r at *
  clear hA hB hO hO2 hLD
  go_enter Tryz.func19, Tryz.ntmps19
  go_wp2_with (go_at_call 42; (with_reducible refine (HS.out).mono ?_); rintro e w1 ⟨rfl, hB1⟩; have HB1 := Lib.hid hB1; clear hB1)
  go_ret2
  exact ⟨rfl, HB1.out⟩
end Go.Proofs.YtmfpakolfpoamaaGreatDoor.P
/- The least key is the first one's in order, the most the last one's: plain. -/
namespace Go.Proofs.YtmfpakolfpoamaaGreatDoor.P
set_option linter.unusedVariables false
set_option linter.unusedSimpArgs false
open Go.RowKit Go.Proofs.YtmfpakolfpoamaaGreatDoorW.PrintWords Go.Proofs.YtmfpakolfpoamaaGreatDoorW.PrintMore Go.Proofs.YtmfpakolfpoamaaGreatDoorW.PrintLast
theorem leastP_iff {x y : V} : leastP x y = true ↔ vord x y < 0 := by unfold leastP; exact decide_eq_true_iff
theorem mostP_iff {x y : V} : mostP x y = true ↔ ¬ vord x y < 0 := by unfold mostP; rw [decide_eq_true_iff]; omega
def pel (rows : List (List Value)) (ks l : List V) (j : Nat) : PEl := ⟨rows.getD j [], rd_T34 ks (j : Int), rd_T34 l (j : Int), j⟩
theorem mem_pels {rows : List (List Value)} {ks l : List V} {n : Nat} {e : PEl} : e ∈ pels rows ks l n ↔ ∃ j, j < n ∧ e = pel rows ks l j := by
  unfold pels
  rw [List.mem_map]
  constructor
  · rintro ⟨j, hj, rfl⟩
    exact ⟨j, List.mem_range.1 hj, rfl⟩
  · rintro ⟨j, hj, rfl⟩
    exact ⟨j, List.mem_range.2 hj, rfl⟩
theorem least_to (rows : List (List Value)) (ks l : List V) : ∀ k, ∀ j, j < k → j ≠ bestTo leastP ks k → elt (pel rows ks l (bestTo leastP ks k)) (pel rows ks l j)
  | 0, j, hj, _ => by omega
  | k + 1, j, hj, hn => by
    have hb := bestTo_le leastP ks k
    rw [bestTo] at hn ⊢
    by_cases hp : leastP (rd_T34 ks (k : Int)) (rd_T34 ks (bestTo leastP ks k : Nat)) = true
    · rw [if_pos hp] at hn ⊢
      have h1 : elt (pel rows ks l k) (pel rows ks l (bestTo leastP ks k)) := .inl (leastP_iff.1 hp)
      by_cases hj2 : j = bestTo leastP ks k
      · rw [hj2]; exact h1
      · exact elt_trans h1 (least_to rows ks l k j (by omega) hj2)
    · rw [if_neg hp] at hn ⊢
      by_cases hj2 : j = k
      · subst hj2
        rcases Nat.eq_zero_or_pos j with h0 | h0
        · subst h0; exact absurd rfl hn
        · exact elt_of_ge (x := pel rows ks l j) (y := pel rows ks l (bestTo leastP ks j)) (fun h => hp (leastP_iff.2 h)) (bestTo_lt leastP ks j h0)
      · exact least_to rows ks l k j (by omega) hn
theorem most_to (rows : List (List Value)) (ks l : List V) : ∀ k, ∀ j, j < k → j ≠ bestTo mostP ks k → elt (pel rows ks l j) (pel rows ks l (bestTo mostP ks k))
  | 0, j, hj, _ => by omega
  | k + 1, j, hj, hn => by
    have hb := bestTo_le mostP ks k
    rw [bestTo] at hn ⊢
    by_cases hp : mostP (rd_T34 ks (k : Int)) (rd_T34 ks (bestTo mostP ks k : Nat)) = true
    · rw [if_pos hp] at hn ⊢
      have hk : 0 < k := by omega
      have h1 : elt (pel rows ks l (bestTo mostP ks k)) (pel rows ks l k) := elt_of_ge (x := pel rows ks l k) (y := pel rows ks l (bestTo mostP ks k)) (mostP_iff.1 hp) (bestTo_lt mostP ks k hk)
      by_cases hj2 : j = bestTo mostP ks k
      · rw [hj2]; exact h1
      · exact elt_trans (most_to rows ks l k j (by omega) hj2) h1
    · rw [if_neg hp] at hn ⊢
      by_cases hj2 : j = k
      · subst hj2
        exact .inl (Decidable.not_not.1 (fun h => hp (mostP_iff.2 h)))
      · exact most_to rows ks l k j (by omega) hn
theorem Sorted.first {ks l ys : List V} (h : Sorted ks l ys) (hn : 0 < ks.length) : ys[0]? = some (rd_T34 l (bestTo leastP ks ks.length : Nat)) := by
  obtain ⟨S, hp, hs, rfl⟩ := h
  have hb := bestTo_lt leastP ks ks.length hn
  have hm : pel [] ks l (bestTo leastP ks ks.length) ∈ S := hp.mem_iff.2 (mem_pels.2 ⟨_, hb, rfl⟩)
  cases S with
  | nil => cases hm
  | cons e S =>
    obtain ⟨j, hj, he⟩ := mem_pels.1 (hp.mem_iff.1 List.mem_cons_self)
    have hjb : j = bestTo leastP ks ks.length := by
      by_cases hjb : j = bestTo leastP ks ks.length
      · exact hjb
      · have h1 := least_to [] ks l ks.length j hj hjb
        rcases List.mem_cons.1 hm with h2 | h2
        · have h3 := congrArg PEl.tag (h2.trans he)
          exact h3.symm
        · exact absurd ((List.pairwise_cons.1 hs).1 _ h2) (fun h4 => elt_irr h4 (by rw [he]; exact h1))
    rw [he, hjb]
    rfl
theorem Sorted.last {ks l ys : List V} (h : Sorted ks l ys) (hn : 0 < ks.length) : ys.length = ks.length ∧ ys[ks.length - 1]? = some (rd_T34 l (bestTo mostP ks ks.length : Nat)) := by
  obtain ⟨S, hp, hs, rfl⟩ := h
  have hl : S.length = ks.length := by rw [hp.length_eq, pels_len]
  refine ⟨by rw [List.length_map]; exact hl, ?_⟩
  have hb := bestTo_lt mostP ks ks.length hn
  have hm : pel [] ks l (bestTo mostP ks ks.length) ∈ S := hp.mem_iff.2 (mem_pels.2 ⟨_, hb, rfl⟩)
  have hne : S ≠ [] := by intro e; rw [e] at hl; simp at hl; omega
  obtain ⟨S', e, rfl⟩ : ∃ S' e, S = S' ++ [e] := ⟨S.dropLast, S.getLast hne, (List.dropLast_concat_getLast hne).symm⟩
  obtain ⟨j, hj, he⟩ := mem_pels.1 (hp.mem_iff.1 (List.mem_append_right _ List.mem_cons_self))
  have hjb : j = bestTo mostP ks ks.length := by
    by_cases hjb : j = bestTo mostP ks ks.length
    · exact hjb
    · have h1 := most_to [] ks l ks.length j hj hjb
      rcases List.mem_append.1 hm with h2 | h2
      · exact absurd ((List.pairwise_append.1 hs).2.2 _ h2 e List.mem_cons_self) (fun h4 => elt_irr h4 (by rw [he]; exact h1))
      · have h3 := congrArg PEl.tag ((List.mem_singleton.1 h2).trans he)
        exact h3.symm
  have hl2 : ks.length - 1 = (S'.map PEl.val).length := by rw [List.length_append, List.length_singleton] at hl; rw [List.length_map]; omega
  rw [List.map_append, hl2, List.getElem?_append_right (Nat.le_refl _), Nat.sub_self, he, hjb]
  rfl
end Go.Proofs.YtmfpakolfpoamaaGreatDoor.P

/- Texts of this claim, one behind the other. -/
import Derived.Test.YtmfpakolfpoamaaGreatDoorMOrderFindsw
import Derived.Test.YtmfpakolfpoamaaGreatDoorMOrderFindsj
import Derived.Test.YtmfpakolfpoamaaGreatDoorMOrderFindsl
import Derived.Lib.Hide
set_option maxRecDepth 100000
namespace Go.Proofs.YtmfpakolfpoamaaGreatDoor.P
set_option linter.unusedVariables false
set_option linter.unusedSimpArgs false
open Go.RowKit Go.Proofs.YtmfpakolfpoamaaGreatDoorW.PrintWords Go.Proofs.YtmfpakolfpoamaaGreatDoorW.PrintMore Go.Proofs.YtmfpakolfpoamaaGreatDoorW.PrintLast
theorem insertion_nil (cb : Nat) (W : World) : Calls Tryz.prog 122 #[.slice none 0 0, .int .i64 0, .int .i64 0, .func (.func 74) #[] #[.pointer (some ⟨cb, 0, none⟩)]] W fun e w' => e = .returned (.tuple #[]) ∧ w' = W := by
 go_enter Tryz.func122, Tryz.ntmps122
 go_wp2
 go_loopw [8] (fun vi wr => vi = .int .i64 1 ∧ wr = W) (fun vi _ => 0)
 case atStart => exact ⟨rfl, rfl⟩
 case round =>
  obtain ⟨rfl, rfl⟩ := hrel
  go_wp2
  exact bodyPost_end (v := .tuple #[]) (by simp [results, Tryz.f122, go_sem]) rfl ⟨rfl, rfl⟩
theorem stable_nil (cb : Nat) (W : World) : Calls Tryz.prog 99 #[.slice none 0 0, .int .i64 0, .func (.func 74) #[] #[.pointer (some ⟨cb, 0, none⟩)]] W fun e w' => e = .returned (.tuple #[]) ∧ w' = W := by
 have HI := Lib.hid (insertion_nil cb W)
 go_enter Tryz.func99, Tryz.ntmps99
 go_wp2
 go_loopw [7, 8] (fun va vb wr => va = .int .i64 0 ∧ vb = .int .i64 20 ∧ wr = W) (fun va vb _ => 0)
 case atStart => exact ⟨rfl, rfl, rfl⟩
 case round =>
  obtain ⟨rfl, rfl, rfl⟩ := hrel
  go_wp2_with (go_at_call 122; (with_reducible refine (HI.out).mono ?_); rintro e w1 ⟨rfl, rfl⟩)
  go_loopw [6] (fun vz w2 => vz = .int .i64 20 ∧ w2 = w1) (fun vz _ => 0)
  case atStart => exact ⟨rfl, rfl⟩
  case round =>
   obtain ⟨rfl, rfl⟩ := hrel
   go_wp2
   exact bodyPost_end (v := .tuple #[]) (by simp [results, Tryz.f99, go_sem]) rfl ⟨rfl, rfl⟩
theorem sortStable_nil (cb : Nat) (W : World) : Calls Tryz.prog 73 #[.slice none 0 0, .func (.func 74) #[] #[.pointer (some ⟨cb, 0, none⟩)]] W fun e w' => e = .returned (.tuple #[]) ∧ w' = W := by
 have HS := Lib.hid (stable_nil cb W)
 go_enter Tryz.func73, Tryz.ntmps73
 go_wp2_with (go_at_call 99; (with_reducible refine (HS.out).mono ?_); rintro e w1 ⟨rfl, rfl⟩)
 exact bodyPost_end (v := .tuple #[]) (by simp [results, Tryz.f73, go_sem]) rfl ⟨rfl, rfl⟩
theorem sorted_nil (w : World) : Calls Tryz.prog 48 #[.slice none 0 0, .func (.func 40) #[] #[]] w fun e w' => e = .returned (.slice none 0 0) ∧ Below w.heap.size w w' := by
 obtain ⟨W2, hW2⟩ : ∃ W2, W2 = w.alloc (.cells #[.func (.func 40) #[] #[]] 43) := ⟨_, rfl⟩
 have HB : Hid (Below w.heap.size w W2) := Lib.hid (by rw [hW2]; exact (Below.refl _ _).alloc (Nat.le_refl _) _)
 have HS := Lib.hid (sortStable_nil w.heap.size W2)
 have HW2 := Lib.hid hW2
 clear hW2
 go_enter Tryz.func48, Tryz.ntmps48
 go_upto_region 1 with (fail)
 rw [← HW2.out]
 go_wp2_with (go_at_call 73; (with_reducible refine (HS.out).mono ?_); rintro e w1 ⟨rfl, rfl⟩)
 go_ret
 exact ⟨rfl, HB.out⟩
theorem raw_reads {w0 W : World} {A : Option Addr} {n : Nat} {rows : List (List Value)} {l : List V} (h : (Kd.raw 7).C W A n rows) (hl : rows.length = l.length) (hb : Below w0.heap.size w0 W)
 (hk : ∀ (j : Nat) (x : V) (c : List Value), l[j]? = some x → rows[j]? = some c → k34.K w0 x c) : k34.C W A l.length l := by
 have h1 := h.1
 refine ⟨rfl, by have := h.2.1; omega, fun hp => ?_⟩
 obtain ⟨ad, e, hc⟩ := h.2.2 (by omega)
 refine ⟨ad, e, fun j x hx => ?_⟩
 have hj : j < rows.length := by rw [hl]; exact (List.getElem?_eq_some_iff.1 hx).1
 obtain ⟨cs, h2, ⟨rfl, _, _⟩, h3⟩ := hc j _ (List.getElem?_eq_getElem hj)
 exact ⟨_, h2, k34.K_below hb (hk j x _ hx (List.getElem?_eq_getElem hj)), h3⟩
structure SortRow (w w' : World) (ks l : List V) (n : Nat) (A : Option Addr) (S : List PEl) : Prop where
 perm : ∃ rows, S.Perm (pels rows ks l n)
 sorted : S.Pairwise elt
 els : ∀ e ∈ S, PairEl w e
 cells : n = 0 ∨ ∃ g, A = some ⟨g, 0, none⟩ ∧ g < w'.heap.size ∧ ∀ i e, S[i]? = some e → w'.rangeAt g (i * 14) e.row
theorem SortRow.len {w w' : World} {ks l : List V} {n : Nat} {A : Option Addr} {S : List PEl} (h : SortRow w w' ks l n A S) : S.length = n := by
 obtain ⟨rows, hp⟩ := h.perm
 rw [hp.length_eq, pels_len]
theorem rd_mem {l : List V} {j : Nat} (h : j < l.length) : rd_T34 l (j : Int) ∈ l := by unfold rd_T34; simp [h]
theorem SortRow.said {w w' : World} {ks l : List V} {A : Option Addr} {S : List PEl} (h : SortRow w w' ks l ks.length A S) : Sorted ks l (S.map PEl.val) := by
 obtain ⟨rows, hp⟩ := h.perm
 refine ⟨S.map fun e => { e with row := [] }, ?_, ?_, by rw [List.map_map]; rfl⟩
 · have := hp.map (fun e : PEl => { e with row := [] })
   have e : (pels rows ks l ks.length).map (fun e : PEl => { e with row := [] }) = pels [] ks l ks.length := by
    unfold pels
    rw [List.map_map]
    refine List.map_congr_left fun j _ => ?_
    simp
   rw [e] at this
   exact this
 · rw [List.pairwise_map]
   exact h.sorted
theorem SortRow.val {w w' : World} {ks l : List V} {n : Nat} {A : Option Addr} {S : List PEl} (h : SortRow w w' ks l n A S) (hl : n ≤ l.length) : ∀ e ∈ S, e.val ∈ l := fun e he => by
 obtain ⟨rows, hp⟩ := h.perm
 obtain ⟨i, hi⟩ := List.getElem?_of_mem (hp.mem_iff.1 he)
 obtain ⟨k1, k2⟩ := pels_at hi
 rw [k2]
 exact rd_mem (by omega)
theorem sw_cap {w w2 W : World} {ks l : List V} {v : Value} {n : Nat} (h : PairMid2 w w2 W ks l v n) (hn : 0 < n) : ∀ A m cap, v = .slice A m cap → n ≤ cap := by
 obtain ⟨rows, hrl, hR, _⟩ := h.ex
 obtain ⟨A, c, rfl, hl, _⟩ := Kd.R_reads hR
 rintro A' m cap e
 injection e with _ _ e
 omega
theorem sorted_from {w w2 W : World} {ks l : List V} {v : Value} {n : Nat} (h2 : Below w.heap.size w w2) (h : PairMid2 w w2 W ks l v n) (hn1 : n = ks.length) (hn : n ≤ 1048576) (hO : ∀ x ∈ ks, OkV x) (hN : ∀ x ∈ ks, NumOk x) :
 Calls Tryz.prog 48 #[v, .func (.func 40) #[] #[]] W fun e w' => ∃ A cap S, e = .returned (.slice A n cap) ∧ SortRow w w' ks l n A S ∧ Below w2.heap.size w2 w' ∧ n ≤ cap ∧ ∀ g, A = some ⟨g, 0, none⟩ → w2.heap.size ≤ g := by
 by_cases h0 : n = 0
 · subst h0
   rw [h.nil rfl]
   refine (sorted_nil W).mono ?_
   rintro e w' ⟨rfl, hB⟩
   exact ⟨none, 0, [], rfl, ⟨⟨[], by simp [pels]⟩, List.Pairwise.nil, (fun e he => by cases he), .inl rfl⟩, h.below.trans (hB.mono h.below.size), Nat.le_refl _, fun g hg => by cases hg⟩
 · obtain ⟨g, cap, rows, rfl, hg1, hg2, hsw, hel⟩ := sw_of_pairs h (by omega)
   have hcap := sw_cap h (by omega)
   have hke : ∀ e ∈ pels rows ks l n, KeyEl w2 e := fun e he => KeyEl.below (by
    obtain ⟨i, hi⟩ := List.getElem?_of_mem he
    obtain ⟨k1, k2⟩ := pels_at hi
    have hm : e.key ∈ ks := by rw [k2]; exact rd_mem (by omega)
    exact keyEl_of (hel e he) (hO _ hm) (hN _ hm)) h2
   refine (sorted_in w2 W g (pels rows ks l n) n cap pels_len.symm hn h.below hg1 hg2 hke (pels_tags _ _ _ _) hsw).mono ?_
   rintro e w' ⟨rfl, S', p1, p2, p3⟩
   exact ⟨_, cap, S', rfl, ⟨⟨rows, p1⟩, p2, fun e he => hel e (p1.mem_iff.1 he), .inr ⟨g, rfl, Nat.lt_of_lt_of_le hg2 p3.keep.size, p3.at_⟩⟩, p3.keep.below h.below hg1 h.below.size, hcap _ _ _ rfl, fun g' hg' => by injection hg' with hg'; injection hg' with hg'; omega⟩
theorem sorted_call {w W : World} {ks l : List V} {v : Value} {n : Nat} (h : PairMid w W ks l v n) (hn1 : n = ks.length) (hn : n ≤ 1048576) (hO : ∀ x ∈ ks, OkV x) (hN : ∀ x ∈ ks, NumOk x) :
 Calls Tryz.prog 48 #[v, .func (.func 40) #[] #[]] W fun e w' => ∃ A cap S, e = .returned (.slice A n cap) ∧ SortRow w w' ks l n A S ∧ Below w.heap.size w w' :=
 (sorted_from (Below.refl _ _) h hn1 hn hO hN).mono fun e w' ⟨A, cap, S, h1, h2, h3, _, _⟩ => ⟨A, cap, S, h1, h2, h3⟩
theorem at_P {w w1 wr : World} {ks l : List V} {n : Nat} {A : Option Addr} {S : List PEl} (h : SortRow w w1 ks l n A S) (hb : Below w1.heap.size w1 wr) (k : Nat) (hk : k < n) : ∃ (e : PEl) (ad : Addr) (A2 : Option Addr) (c2 : Nat) (A5 : Option Addr) (c5 : Nat) (A6 : Option Addr) (c6 : Nat) (B2 : Option Addr) (d2 : Nat) (B5 : Option Addr) (d5 : Nat) (B6 : Option Addr) (d6 : Nat), S[k]? = some e ∧ A = some ad ∧ k34.K w e.val [.int .i64 e.val.f0, .bool e.val.f1.f0, .slice B2 e.val.f1.f1.length d2, .int .i64 e.val.f1.f2, .string e.val.f2, .slice B5 e.val.f3.length d5, .slice B6 e.val.f4.length d6] ∧ k34.K w e.key [.int .i64 e.key.f0, .bool e.key.f1.f0, .slice A2 e.key.f1.f1.length c2, .int .i64 e.key.f1.f2, .string e.key.f2, .slice A5 e.key.f3.length c5, .slice A6 e.key.f4.length c6] ∧ wr.cell? (ad.add (k * 14)) = some (.int .i64 e.key.f0) ∧ wr.cell? ⟨(ad.add (k * 14)).block, (ad.add (k * 14)).off + 1, none⟩ = some (.bool e.key.f1.f0) ∧ wr.cell? ⟨(ad.add (k * 14)).block, (ad.add (k * 14)).off + 2, none⟩ = some (.slice A2 e.key.f1.f1.length c2) ∧ wr.cell? ⟨(ad.add (k * 14)).block, (ad.add (k * 14)).off + 3, none⟩ = some (.int .i64 e.key.f1.f2) ∧ wr.cell? ⟨(ad.add (k * 14)).block, (ad.add (k * 14)).off + 4, none⟩ = some (.string e.key.f2) ∧ wr.cell? ⟨(ad.add (k * 14)).block, (ad.add (k * 14)).off + 5, none⟩ = some (.slice A5 e.key.f3.length c5) ∧ wr.cell? ⟨(ad.add (k * 14)).block, (ad.add (k * 14)).off + 6, none⟩ = some (.slice A6 e.key.f4.length c6) ∧ wr.cell? ⟨(ad.add (k * 14)).block, (ad.add (k * 14)).off + 7, none⟩ = some (.int .i64 e.val.f0) ∧ wr.cell? ⟨(ad.add (k * 14)).block, (ad.add (k * 14)).off + 8, none⟩ = some (.bool e.val.f1.f0) ∧ wr.cell? ⟨(ad.add (k * 14)).block, (ad.add (k * 14)).off + 9, none⟩ = some (.slice B2 e.val.f1.f1.length d2) ∧ wr.cell? ⟨(ad.add (k * 14)).block, (ad.add (k * 14)).off + 10, none⟩ = some (.int .i64 e.val.f1.f2) ∧ wr.cell? ⟨(ad.add (k * 14)).block, (ad.add (k * 14)).off + 11, none⟩ = some (.string e.val.f2) ∧ wr.cell? ⟨(ad.add (k * 14)).block, (ad.add (k * 14)).off + 12, none⟩ = some (.slice B5 e.val.f3.length d5) ∧ wr.cell? ⟨(ad.add (k * 14)).block, (ad.add (k * 14)).off + 13, none⟩ = some (.slice B6 e.val.f4.length d6) := by
 have hl := h.len
 obtain ⟨e, he⟩ : ∃ e, S[k]? = some e := ⟨_, List.getElem?_eq_getElem (by omega)⟩
 obtain ⟨kc, vc, e1, e2, e3⟩ := h.els e (List.mem_of_getElem? he)
 obtain ⟨A2, c2, A5, c5, A6, c6, rfl, -⟩ := k34_open e2
 obtain ⟨B2, d2, B5, d5, B6, d6, rfl, -⟩ := k34_open e3
 rcases h.cells with h0 | ⟨g, rfl, hg, hr⟩
 · omega
 · have hc : ∀ j v, e.row[j]? = some v → wr.cell? ⟨g, k * 14 + j, none⟩ = some v := fun j v hj => by
    rw [World.cell?_of_block (hb.block g hg)]
    exact hr k e he j v hj
   rw [e1] at hc
   refine ⟨e, ⟨g, 0, none⟩, A2, c2, A5, c5, A6, c6, B2, d2, B5, d5, B6, d6, he, rfl, e3, e2, ?_, ?_, ?_, ?_, ?_, ?_, ?_, ?_, ?_, ?_, ?_, ?_, ?_, ?_⟩
   all_goals (rw [Addr.add_mid]; first | (show wr.cell? ⟨g, 0 + k * 14, none⟩ = _; rw [Nat.zero_add]; exact hc 0 _ rfl) | (simp only [Nat.zero_add]; exact hc _ _ rfl))
theorem infoI_ : (Tryz.prog.info? 3).map (fun i => (i.zero, i.size, i.bytes)) = some (some (.int .i64 0), (Kd.int .i64).sz, 8) := by kernel_rfl
theorem dval_snoc (o : List Int) (x : Int) : dval (o ++ [x]) = dval o + 10 ^ o.length * x.toNat := by rw [dval_app]; simp [dval]
def TimesTo (T b : Nat) (rest : List Int) (o : List Int) (mo : Nat) : Prop := okD o ∧ dval o + 10 ^ o.length * (mo + b * dval rest) = T
theorem TimesTo.step {T b : Nat} {x : Int} {rest o : List Int} {mo : Nat} (h : TimesTo T b (x :: rest) o mo) (hx : 0 ≤ x) : TimesTo T b rest (o ++ [(((mo + b * x.toNat) % 10 : Nat) : Int)]) ((mo + b * x.toNat) / 10) := by
 obtain ⟨h1, h2⟩ := h
 refine ⟨okD_app.2 ⟨h1, fun y hy => by rw [List.mem_singleton.1 hy]; omega⟩, ?_⟩
 rw [dval_snoc, List.length_append, List.length_singleton, Nat.pow_succ, ← h2, dval, Int.toNat_natCast, Nat.mul_add b, ← Nat.add_assoc, Nat.mul_left_comm b 10]
 generalize mo + b * x.toNat = s
 generalize b * dval rest = q
 have : s + 10 * q = s % 10 + 10 * (s / 10 + q) := by omega
 rw [this, Nat.mul_add (10 ^ o.length), Nat.mul_assoc (10 ^ o.length) 10]
 omega
theorem TimesTo.more {T b : Nat} {o : List Int} {mo : Nat} (h : TimesTo T b [] o mo) : TimesTo T b [] (o ++ [((mo % 10 : Nat) : Int)]) (mo / 10) := by
 obtain ⟨h1, h2⟩ := h
 refine ⟨okD_app.2 ⟨h1, fun y hy => by rw [List.mem_singleton.1 hy]; omega⟩, ?_⟩
 rw [dval_snoc, List.length_append, List.length_singleton, Nat.pow_succ, ← h2, Int.toNat_natCast]
 simp only [dval, Nat.mul_zero, Nat.add_zero]
 have : mo = mo % 10 + 10 * (mo / 10) := by omega
 generalize hq : mo / 10 = q at *
 generalize hr : mo % 10 = r at *
 rw [this, Nat.mul_add (10 ^ o.length), Nat.mul_assoc (10 ^ o.length) 10]
 omega
def LastOk (o : List Int) : Prop := ∀ h : o ≠ [], o.getLast h ≠ 0
theorem TimesTo.done {T b : Nat} {o : List Int} (h : TimesTo T b [] o 0) (hl : LastOk o) : o = decs T := by
 obtain ⟨h1, h2⟩ := h
 simp only [dval, Nat.mul_zero, Nat.add_zero] at h2
 have := dcanon_of_last h1 hl
 rw [← h2]
 exact this.symm
theorem lastOk_snoc {o : List Int} {x : Int} (h : x ≠ 0) : LastOk (o ++ [x]) := fun hn => by rw [List.getLast_concat]; exact h
theorem times_mid {m b more : Nat} {o : List Int} {mo : Nat} (hb : 10 ≤ b) (h : TimesTo (m * b + more) b [] o mo) (ho : o.length = (decs m).length) : 0 < mo ∨ LastOk o := by
 obtain ⟨h1, h2⟩ := h
 simp only [dval, Nat.mul_zero, Nat.add_zero] at h2
 by_cases h0 : decs m = []
 · right
   rw [h0] at ho
   have : o = [] := List.eq_nil_of_length_eq_zero ho
   intro hn
   exact absurd this hn
 · left
   have hlt := dval_lt h1
   have hge := dcanon_ge (dcanon_decs m) h0
   rw [dval_decs] at hge
   rcases Nat.eq_zero_or_pos mo with hz | hz
   · rw [hz, Nat.mul_zero, Nat.add_zero] at h2
     rw [ho] at hlt
     have hpos : 0 < (decs m).length := List.length_pos_iff.2 h0
     have : 10 ^ (decs m).length = 10 ^ ((decs m).length - 1) * 10 := by rw [← Nat.pow_succ]; congr 1; omega
     have h3 : 10 ^ ((decs m).length - 1) * 10 ≤ m * b := Nat.mul_le_mul hge hb
     omega
   · exact hz
set_option maxHeartbeats 4000000 in
theorem times_any (m more : Nat) (b : Int) (A : Option Addr) (c : Nat) (w : World) (hC : Kd.C (Kd.int .i64) w A (decs m).length (decs m)) (hl : (decs m).length ≤ 1048576) (hb : b = 4294967296) (hm : more < 4294967296) :
 Calls Tryz.prog 121 #[.slice A (decs m).length c, .int .i64 b, .int .i64 more] w fun e w' => ∃ v : Value, e = .returned v ∧ Kd.R (Kd.int .i64) 3 w' w.heap.size (fun _ => True) v (decs (m * 4294967296 + more)) ∧ Below w.heap.size w w' := by
 have hlenT : (decs (m * 4294967296 + more)).length ≤ (decs m).length + 10 := decs_len (by
  have h1 := dval_lt (okD_decs m)
  rw [dval_decs] at h1
  rw [Nat.pow_add]
  have h2 : (m + 1) * 4294967296 ≤ 10 ^ (decs m).length * 4294967296 := Nat.mul_le_mul_right _ h1
  have h3 : 10 ^ (decs m).length * 4294967296 ≤ 10 ^ (decs m).length * 10 ^ 10 := Nat.mul_le_mul_left _ (by decide)
  omega)
 obtain ⟨T, hT⟩ : ∃ T, T = m * 4294967296 + more := ⟨_, rfl⟩
 obtain ⟨ds, hds⟩ : ∃ ds, ds = decs m := ⟨_, rfl⟩
 obtain ⟨n, hn⟩ : ∃ n, n = ds.length := ⟨_, rfl⟩
 have h0 : TimesTo T 4294967296 ds [] more := ⟨okD_nil, by rw [hT, hds, dval_decs]; simp [dval]; omega⟩
 have HMID : Hid (∀ o mo, TimesTo T 4294967296 [] o mo → o.length = n → 0 < mo ∨ LastOk o) := Lib.hid (fun o mo h ho => times_mid (m := m) (b := 4294967296) (more := more) (by decide) (by rw [← hT]; exact h) (by rw [ho, hn, hds]))
 rw [← hT]
 have HOK : Hid (okD ds) := Lib.hid (by rw [hds]; exact okD_decs m)
 rw [← hds] at hC hl hlenT
 rw [← hds, ← hn]
 rw [← hn] at hC hl hlenT
 rw [← hT] at hlenT
 have HC := Lib.hid hC
 have HN := Lib.hid hn
 have HB := Lib.hid hb
 have H0 := Lib.hid h0
 have HM := Lib.hid hm
 have HLT := Lib.hid hlenT
 have hmc : (0 : Int) ≤ (more : Int) := by omega
 clear hC hn hb h0 hm hlenT hT hds
 go_enter Tryz.func121, Tryz.ntmps121
 go_wp2
 go_loopw [2, 7, 8] (fun vm vo vi wr => ∃ (i mo : Nat) (o : List Int) (G : Option Addr) (cap : Nat), i ≤ n ∧ vi = .int .i64 i ∧ vm = .int .i64 mo ∧ vo = .slice G i cap ∧ Hid (o.length = i ∧ mo ≤ 4294967296 ∧ TimesTo T 4294967296 (ds.drop i) o mo) ∧ Hid (Kd.R (Kd.int .i64) 3 wr w.heap.size (fun _ => True) (.slice G i cap) o ∧ Below w.heap.size w wr)) (fun vm vo vi _ => n - (intOf vi).toNat)
 case atStart => exact ⟨0, more, [], none, 0, Nat.zero_le _, rfl, rfl, rfl, Lib.hid ⟨rfl, Nat.le_of_lt HM.out, by rw [List.drop_zero]; exact H0.out⟩, Lib.hid ⟨Kd.R_nil _ _ _ _ _, Below.refl _ _⟩⟩
 case round =>
  obtain ⟨i, mo, o, G, cap, hi, rfl, rfl, rfl, HT, HR⟩ := hrel
  by_cases hlt : i < n
  · have hlt2 : (i : Int) < (n : Int) := by omega
    obtain ⟨ad, rfl, hx⟩ := Kd.at_int (Kd.C_below HC.out HR.out.2) (i : Int) (by omega) (by omega)
    rw [Int.toNat_natCast] at hx
    obtain ⟨x, hxe⟩ : ∃ x, x = rd ds (i : Int) := ⟨_, rfl⟩
    have hxd : ds.drop i = x :: ds.drop (i + 1) := by
     rw [List.drop_eq_getElem_cons (by rw [← HN.out]; exact hlt), hxe]
     unfold rd
     rw [Int.toNat_natCast, List.getD_eq_getElem?_getD, List.getElem?_eq_getElem (by rw [← HN.out]; exact hlt)]
     rfl
    have hxr : 0 ≤ x ∧ x < 10 := HOK.out x (List.mem_of_mem_drop (by rw [hxd]; exact List.mem_cons_self))
    rw [← hxe] at hx
    obtain ⟨s, hs⟩ : ∃ s : Nat, s = mo + 4294967296 * x.toNat := ⟨_, rfl⟩
    have HST : Hid ((o ++ [(s : Int) % 10]).length = i + 1 ∧ s / 10 ≤ 4294967296 ∧ TimesTo T 4294967296 (ds.drop (i + 1)) (o ++ [(s : Int) % 10]) (s / 10)) := Lib.hid (by
     obtain ⟨h1, h2, h3⟩ := HT.out
     rw [hxd] at h3
     have h4 := h3.step hxr.1
     rw [← hs, show ((s % 10 : Nat) : Int) = (s : Int) % 10 by omega] at h4
     exact ⟨by simp [h1], by omega, h4⟩)
    have e1 : wrap64 (x * b) = x * b := by rw [HB.out]; unfold wrap64; omega
    have e2 : wrap64 ((mo : Int) + x * b) = (s : Int) := by have := HT.out.2.1; rw [HB.out, hs]; unfold wrap64; omega
    have hs0 : (0 : Int) ≤ (s : Int) := by omega
    have HE3 : Hid (wrap64 ((s : Int) / 10) = ((s / 10 : Nat) : Int)) := Lib.hid (by have := HST.out.2.1; unfold wrap64; omega)
    have HSZ : Hid (w.heap.size ≤ wr.heap.size) := Lib.hid HR.out.2.size
    have hol : o.length ≤ 1048576 := by rw [HT.out.1]; omega
    clear hxe hxd hxr hs
    go_wp2_with (at_builtin; refine Kd.R_append (Kd.int .i64) (w0 := w) w.heap.size rfl (.tmp 23) (.tmp 26) 40 3 (.int .i64 0) 8 rfl Tryz.underlying40 infoI_ rfl (by decide) (by decide) (.slice G i cap) o _ _ (fun _ => True) (fun _ => False) rfl rfl rfl (fun _ h => h.elim) (fun _ _ => trivial) HR.out.1 HR.out.2 HSZ.out (by omega) ?_; intro v1 w7 hR7 hB7 hg7 hat7)
    obtain ⟨G7, cap7, rfl⟩ := Kd.R_slice hR7
    have hl7 : (o ++ [(s : Int) % 10]).length = i + 1 := by rw [List.length_append, HT.out.1]; rfl
    rw [hl7] at hR7
    have HR7 := Lib.hid (And.intro hR7 hB7)
    clear hR7 hB7 hg7 hat7 hol e1 e2
    go_roundw
    case rel => exact ⟨i + 1, s / 10, o ++ [(s : Int) % 10], G7, cap7, hlt, by go_num, congrArg (Value.int .i64) HE3.out, by rw [← hl7, List.length_append], HST, HR7⟩
    case measure => simp [intOf]; omega
  · obtain rfl : i = n := by omega
    have hlt2 : ¬ (i : Int) < (i : Int) := by omega
    have HT2 : Hid (mo ≤ 4294967296 ∧ TimesTo T 4294967296 [] o mo ∧ (0 < mo ∨ LastOk o)) := Lib.hid (by
     obtain ⟨h1, h2, h3⟩ := HT.out
     rw [HN.out, List.drop_length] at h3
     exact ⟨h2, h3, HMID.out o mo h3 h1⟩)
    have HLO := Lib.hid HT.out.1
    clear HT
    go_wp2
    go_loopw [2, 7] (fun vm vo w3 => ∃ (mo : Nat) (o : List Int) (G : Option Addr) (cap : Nat), vm = .int .i64 mo ∧ vo = .slice G o.length cap ∧ Hid (mo ≤ 4294967296 ∧ TimesTo T 4294967296 [] o mo ∧ (0 < mo ∨ LastOk o)) ∧ Hid (Kd.R (Kd.int .i64) 3 w3 w.heap.size (fun _ => True) (.slice G o.length cap) o ∧ Below w.heap.size w w3)) (fun vm vo _ => (intOf vm).toNat)
    case atStart => exact ⟨mo, o, G, cap, rfl, by rw [HLO.out], HT2, Lib.hid (by rw [HLO.out]; exact HR.out)⟩
    case round =>
     clear HR HT2 HLO
     obtain ⟨mo, o, G, cap, rfl, rfl, HT, HR⟩ := hrel
     have hm0 : (0 : Int) ≤ (mo : Int) := by omega
     by_cases hz : mo = 0
     · subst hz
       have hzz : ¬ (0 : Int) < ((0 : Nat) : Int) := by omega
       have HD : Hid (o = decs T) := Lib.hid (HT.out.2.1.done (HT.out.2.2.resolve_left (by omega)))
       go_wp2
       go_ret
       exact ⟨_, rfl, by rw [← HD.out]; exact HR.out.1, HR.out.2⟩
     · have hzz : (0 : Int) < (mo : Int) := by omega
       have HST : Hid (mo / 10 ≤ 4294967296 ∧ TimesTo T 4294967296 [] (o ++ [(mo : Int) % 10]) (mo / 10) ∧ (0 < mo / 10 ∨ LastOk (o ++ [(mo : Int) % 10]))) := Lib.hid (by
        obtain ⟨h1, h2, h3⟩ := HT.out
        have h4 := h2.more
        rw [show ((mo % 10 : Nat) : Int) = (mo : Int) % 10 by omega] at h4
        refine ⟨by omega, h4, ?_⟩
        by_cases h5 : 0 < mo / 10
        · exact .inl h5
        · exact .inr (lastOk_snoc (by omega)))
       have HE3 : Hid (wrap64 ((mo : Int) / 10) = ((mo / 10 : Nat) : Int)) := Lib.hid (by have := HT.out.1; unfold wrap64; omega)
       have hol : o.length ≤ 1048586 := by
        have h1 := HT.out.2.1.1
        have h2 := HT.out.2.1.2
        simp only [dval, Nat.mul_zero, Nat.add_zero] at h2
        have h3 : 10 ^ o.length ≤ T := by
         have : 10 ^ o.length * 1 ≤ 10 ^ o.length * mo := Nat.mul_le_mul_left _ (by omega)
         omega
        have h4 := HLT.out
        have h5 := dval_lt (okD_decs T)
        rw [dval_decs] at h5
        have h6 : 10 ^ o.length < 10 ^ (decs T).length := Nat.lt_of_le_of_lt h3 h5
        have h7 := (Nat.pow_lt_pow_iff_right (by decide : 1 < 10)).1 h6
        omega
       have HSZ : Hid (w.heap.size ≤ wr.heap.size) := Lib.hid HR.out.2.size
       clear hz
       go_wp2_with (at_builtin; refine Kd.R_append (Kd.int .i64) (w0 := w) w.heap.size rfl (.tmp 32) (.tmp 35) 40 3 (.int .i64 0) 8 rfl Tryz.underlying40 infoI_ rfl (by decide) (by decide) (.slice G o.length cap) o _ _ (fun _ => True) (fun _ => False) rfl rfl rfl (fun _ h => h.elim) (fun _ _ => trivial) HR.out.1 HR.out.2 HSZ.out (by omega) ?_; intro v1 w7 hR7 hB7 hg7 hat7)
       obtain ⟨G7, cap7, rfl⟩ := Kd.R_slice hR7
       have HR7 := Lib.hid (And.intro hR7 hB7)
       clear hR7 hB7 hg7 hat7 hol
       have hmd : mo / 10 < mo := by omega
       go_roundw
       case rel => exact ⟨mo / 10, o ++ [(mo : Int) % 10], G7, cap7, congrArg (Value.int .i64) HE3.out, by rw [List.length_append], HST, HR7⟩
       case measure => rw [HE3.out]; exact hmd
theorem val_drop {a : List Int} {k : Nat} (h : k < a.length) : val (a.drop k) = (rd a (k : Int)).toNat + 4294967296 * val (a.drop (k + 1)) := by
 rw [List.drop_eq_getElem_cons h, val]
 unfold rd
 rw [Int.toNat_natCast, List.getD_eq_getElem?_getD, List.getElem?_eq_getElem h]
 rfl
set_option maxHeartbeats 2000000 in
theorem Digits_any (a : List Int) (A : Option Addr) (c : Nat) (w : World) (hC : Kd.C (Kd.int .u32) w A a.length a) (hl : a.length ≤ 256) (hok : okL a) :
 Calls Tryz.prog 98 #[.slice A a.length c] w fun e w' => ∃ v : Value, e = .returned v ∧ Kd.R (Kd.int .i64) 3 w' w.heap.size (fun _ => True) v (decs (val a)) ∧ Below w.heap.size w w' := by
 obtain ⟨n, hn⟩ : ∃ n, n = a.length := ⟨_, rfl⟩
 have HL : Hid (∀ k, (decs (val (a.drop k))).length ≤ 1048576) := Lib.hid (fun k => Nat.le_trans (decs_256 (fun x hx => hok x (List.mem_of_mem_drop hx)) (by rw [List.length_drop]; omega)) (by decide))
 have HC := Lib.hid hC
 have HN := Lib.hid hn
 have HOK := Lib.hid hok
 rw [← hn]
 rw [← hn] at hl HC
 clear hC hn hok
 go_enter Tryz.func98, Tryz.ntmps98
 go_wp2
 go_loopw [3, 4] (fun vd vi wr => ∃ (k m : Nat) (G : Option Addr) (cap : Nat), k ≤ n ∧ vi = .int .i64 ((k : Int) - 1) ∧ vd = .slice G m cap ∧ Hid (m = (decs (val (a.drop k))).length ∧ Kd.R (Kd.int .i64) 3 wr w.heap.size (fun _ => True) (.slice G m cap) (decs (val (a.drop k))) ∧ Below w.heap.size w wr)) (fun vd vi _ => (intOf vi + 1).toNat)
 case atStart => exact ⟨n, 0, none, 0, Nat.le_refl _, rfl, rfl, Lib.hid (by rw [HN.out, List.drop_length, val, decs_zero]; exact ⟨rfl, Kd.R_nil _ _ _ _ _, Below.refl _ _⟩)⟩
 case round =>
  obtain ⟨k, m, G, cap, hk, rfl, rfl, HR⟩ := hrel
  by_cases hz : k = 0
  · subst hz
    go_wp2
    go_ret
    exact ⟨_, rfl, by have := HR.out.2.1; rw [List.drop_zero] at this; exact this, HR.out.2.2⟩
  · obtain ⟨j, rfl⟩ : ∃ j, k = j + 1 := ⟨k - 1, by omega⟩
    have hj1 : (((j + 1 : Nat) : Int) - 1) = (j : Int) := by omega
    rw [hj1]
    have hj0 : (0 : Int) ≤ (j : Int) := by omega
    have hjn : (j : Int) < (n : Int) := by omega
    obtain ⟨ad, rfl, hx⟩ := Kd.at_int (Kd.C_below HC.out HR.out.2.2) (j : Int) (by omega) (by omega)
    rw [Int.toNat_natCast] at hx
    have hv := val_drop (a := a) (k := j) (by rw [← HN.out]; omega)
    have hxr : 0 ≤ rd a (j : Int) ∧ rd a (j : Int) < 4294967296 := by
     have : rd a (j : Int) ∈ a := by unfold rd; rw [Int.toNat_natCast, List.getD_eq_getElem?_getD, List.getElem?_eq_getElem (by rw [← HN.out]; omega)]; exact List.getElem_mem _
     exact HOK.out _ this
    obtain ⟨x, hxe⟩ : ∃ x : Nat, rd a (j : Int) = (x : Int) := ⟨(rd a (j : Int)).toNat, by omega⟩
    rw [hxe] at hx hv hxr
    rw [Int.toNat_natCast] at hv
    have HT : Hid (Calls Tryz.prog 121 #[.slice G m cap, .int .i64 4294967296, .int .i64 x] wr fun e w' => ∃ v : Value, e = .returned v ∧ Kd.R (Kd.int .i64) 3 w' wr.heap.size (fun _ => True) v (decs (val (a.drop j))) ∧ Below wr.heap.size wr w') := Lib.hid (by
     obtain ⟨h1, h2, h3⟩ := HR.out
     subst h1
     have ht := times_any (val (a.drop (j + 1))) x 4294967296 G cap wr (Kd.R_reads' h2).2.2 (HL.out _) rfl (by omega)
     rw [show val (a.drop (j + 1)) * 4294967296 + x = val (a.drop j) by omega] at ht
     exact ht)
    have e1 : wrap64 (x : Int) = (x : Int) := by unfold wrap64; omega
    have hx0 : (0 : Int) ≤ (x : Int) := by omega
    have HXR := Lib.hid hxr
    clear hxe hv hxr hj1 hz
    go_wp2_with (go_at_call 121; (with_reducible refine (HT.out).mono ?_); rintro e w2 ⟨v2, rfl, hR2, hB2⟩; obtain ⟨G2, cap2, rfl⟩ := Kd.R_slice hR2; have HR2 : Hid (_ ∧ _) := Lib.hid (And.intro (Kd.R_lower hR2 HR.out.2.2.size) (HR.out.2.2.trans (hB2.mono HR.out.2.2.size))); clear hR2 hB2)
    go_roundw
    case rel => exact ⟨j, _, G2, cap2, by omega, by go_num, rfl, Lib.hid ⟨rfl, HR2.out.1, HR2.out.2⟩⟩
    case measure => simp [intOf]
def iask (l : List V) (v : V) : Int := orL [vchks l, vchk v]
def idx (l : List V) (v : V) : Nat → List Int
 | 0 => []
 | k + 1 => if vord (rd_T34 l (k : Int)) v = 0 then idx l v k ++ [(k : Int)] else idx l v k
def iidx (l : List V) (v : V) : List Int := if iask l v = 0 then idx l v l.length else []
theorem idx_len (l : List V) (v : V) : ∀ k, (idx l v k).length ≤ k
 | 0 => Nat.le_refl _
 | k + 1 => by
  have := idx_len l v k
  rw [idx]
  split
  · rw [List.length_append, List.length_singleton]; omega
  · omega
theorem iask_zero {l : List V} {v : V} (h : iask l v = 0) : (∀ x ∈ l, NumOk x) ∧ NumOk v := by
 have h1 := orL_none h
 exact ⟨numOk_of_vchks (h1 _ List.mem_cons_self), numOk_of_vchk (h1 _ (List.mem_cons_of_mem _ List.mem_cons_self))⟩
set_option maxHeartbeats 4000000 in
theorem Index_any (l : List V) (v : V) (A : Option Addr) (c : Nat) (cs : List Value) (w : World) (hLD : LaidW w) (hA : k34.C w A l.length l) (hO : ∀ x ∈ l, OkV x) (hn : l.length ≤ 1048576) (hKv : k34.K w v cs) (hOv : OkV v) :
 Calls Tryz.prog 16 #[.slice A l.length c, .agg cs.toArray] w fun e w' => ∃ G g, e = .returned (.tuple #[.slice G (iidx l v).length g, .int .i64 (iask l v)]) ∧ Kd.R (Kd.int .i64) 3 w' w.heap.size (fun _ => True) (.slice G (iidx l v).length g) (iidx l v) ∧ Below w.heap.size w w' := by
 have HKV := Lib.hid hKv
 obtain ⟨A2, c2, A5, c5, A6, c6, rfl, l2, g2, l5, g5, l6, g6⟩ := k34_open hKv
 clear l2 g2 l5 g5 l6 g6 hKv
 have HCS := Lib.hid (fun W (hW : Below w.heap.size w W) => Checks_any l A c W (hLD.below hW) (Kd.C_below hA hW) hO)
 have HCV := Lib.hid (fun W (hW : Below w.heap.size w W) => Check_any v _ W (hLD.below hW) (k34.K_below hW HKV.out) hOv)
 have HOR : Hid (iask l v = orL [vchks l, vchk v]) := Lib.hid rfl
 obtain ⟨n, hnn⟩ : ∃ n, n = l.length := ⟨_, rfl⟩
 obtain ⟨r, hr⟩ : ∃ r, r = iask l v := ⟨_, rfl⟩
 obtain ⟨W1, hW1⟩ : ∃ W1, W1 = w.alloc (.cells #[.int .i64 v.f0, .bool v.f1.f0, .slice A2 v.f1.f1.length c2, .int .i64 v.f1.f2, .string v.f2, .slice A5 v.f3.length c5, .slice A6 v.f4.length c6] 34) := ⟨_, rfl⟩
 have hb1 : Below w.heap.size w W1 := by rw [hW1]; exact (Below.refl _ _).alloc (Nat.le_refl _) _
 have hx1 : W1.heap[w.heap.size]? = some (.cells #[.int .i64 v.f0, .bool v.f1.f0, .slice A2 v.f1.f1.length c2, .int .i64 v.f1.f2, .string v.f2, .slice A5 v.f3.length c5, .slice A6 v.f4.length c6] 34 (0, 0)) := by rw [hW1]; exact blk_new _ _
 have HW1 := Lib.hid hW1
 have HB1 := Lib.hid (below_drew hb1)
 have HX1 := Lib.hid (blk_drew hx1)
 rw [← hr]
 rw [← hr] at HOR
 generalize vchks l = x1 at *
 generalize vchk v = x2 at *
 rw [← hnn] at hn HCS ⊢
 have HN := Lib.hid hnn
 clear hW1 hb1 hx1
 by_cases h0 : r = 0
 · obtain ⟨hN1, hN2⟩ := iask_zero (hr.symm.trans h0)
   have HRES : Hid (iidx l v = idx l v n) := Lib.hid (by unfold iidx; rw [← hr, if_pos h0, hnn])
   have HORD : Hid (∀ i, i < n → ∀ cs ds W, k34.K W (rd_T34 l (i : Nat)) cs → k34.K W v ds → Calls Tryz.prog 40 #[.agg cs.toArray, .agg ds.toArray] W fun e w' => e = .returned (.int .i64 (vord (rd_T34 l (i : Nat)) v)) ∧ Below W.heap.size W w') := Lib.hid (fun i hi cs ds W hK hL => Order_any _ _ cs ds W hK hL (hO _ (rd_mem (by omega))) hOv (hN1 _ (rd_mem (by omega))) hN2)
   have HA := Lib.hid hA
   have hne : (r != 0) = false := by simp [h0]
   have H0 := Lib.hid h0
   clear hr h0 hN1 hN2 hLD hA hO hnn
   go_enter Tryz.func16, Tryz.ntmps16
   go_upto_region 1 with (fail)
   rw [← HW1.out]
   clear HW1
   obtain ⟨hcv, hfv⟩ := bcells HX1.out (Below.refl _ _)
   go_region_law (first
    | (go_simp; go_at_call 38; (with_reducible refine (HCS.out _ HB1.out).mono ?_); rintro e_ w5 ⟨rfl, hB5⟩; obtain ⟨hx5, hxf5⟩ := bcells HX1.out hB5; have HX5 := Lib.hid (blk_below2 HX1.out hB5); have HB5 := Lib.hid (HB1.out.trans (hB5.mono HB1.out.size)); clear hB5)
    | (go_simp; go_at_call 39; (with_reducible refine (HCV.out _ HB5.out).mono ?_); rintro e_ w6 ⟨rfl, hB6⟩; have HX6 := Lib.hid (blk_below2 HX5.out hB6); have HB6 := Lib.hid (HB5.out.trans (hB6.mono HB5.out.size)); clear hB6)
    | (go_simp; go_at_call 37; (with_reducible refine (or_err2 _ _ _ _).mono ?_); rintro e_ w7 ⟨rfl, rfl⟩; rw [← HOR.out]))
   all_goals
    rename_i q_ k_ a_
    refine a_ _ _ ?_
    clear a_ hcv hfv hx5 hxf5
    obtain ⟨W8, hW8⟩ : ∃ W8, W8 = w6.alloc (.cells #[.int .i64 x1, .int .i64 x2] 25) := ⟨_, rfl⟩
    have hx8 := blk_alloc HX6.out (.cells #[.int .i64 x1, .int .i64 x2] 25)
    rw [← hW8] at hx8 ⊢
    have HX8 := Lib.hid hx8
    clear hx8
    have HB8 : Hid (Below w.heap.size w W8) := Lib.hid (by rw [hW8]; exact HB6.out.alloc HB6.out.size _)
    clear hW8 HX6 HB6 HX5 HB5
    obtain ⟨hcv, hfv⟩ := bcells HX8.out (Below.refl _ _)
    go_wp2_with fail
    clear hcv hfv
    go_loopw [7, 21] (fun vo vi wr => ∃ (k ln : Nat) (G : Option Addr) (cap : Nat), k ≤ n ∧ vi = .int .i64 k ∧ vo = .slice G ln cap ∧ Hid (ln = (idx l v k).length) ∧ Hid (Kd.R (Kd.int .i64) 3 wr W8.heap.size (fun _ => True) (.slice G ln cap) (idx l v k) ∧ Below W8.heap.size W8 wr)) (fun vo vi _ => n - (intOf vi).toNat)
    case atStart => exact ⟨0, 0, none, 0, Nat.zero_le _, rfl, rfl, Lib.hid rfl, Lib.hid ⟨Kd.R_nil _ _ _ _ _, Below.refl _ _⟩⟩
    case round =>
     obtain ⟨k, ln, G, cap, hk, rfl, rfl, HL, HR⟩ := hrel
     have HBW := Lib.hid (HB8.out.trans (HR.out.2.mono HB8.out.size))
     by_cases hlt : k < n
     · have hlt2 : (k : Int) < (n : Int) := by omega
       have hk0 : (0 : Int) ≤ (k : Int) := by omega
       obtain ⟨ad, a0, a1, a2, a3, a4, a5, a6, rfl, hKa, p0, p1, p2, p3, p4, p5, p6⟩ := at_V HA.out HBW.out k (by rw [← HN.out]; exact hlt)
       obtain ⟨W5, hW5⟩ : ∃ W5, W5 = wr.alloc (.cells #[a0, a1, a2, a3, a4, a5, a6] 34) := ⟨_, rfl⟩
       have hb5 : Below wr.heap.size wr W5 := by rw [hW5]; exact (Below.refl _ _).alloc (Nat.le_refl _) _
       have HC : Hid (Calls Tryz.prog 40 #[.agg #[a0, a1, a2, a3, a4, a5, a6], .agg #[.int .i64 v.f0, .bool v.f1.f0, .slice A2 v.f1.f1.length c2, .int .i64 v.f1.f2, .string v.f2, .slice A5 v.f3.length c5, .slice A6 v.f4.length c6]] W5 fun e w' => e = .returned (.int .i64 (vord (rd_T34 l (k : Nat)) v)) ∧ Below W5.heap.size W5 w') := Lib.hid (HORD.out k hlt [a0, a1, a2, a3, a4, a5, a6] _ W5 (k34.K_below (HBW.out.trans (hb5.mono HBW.out.size)) hKa) (k34.K_below (HBW.out.trans (hb5.mono HBW.out.size)) HKV.out))
       have HST : Hid (idx l v (k + 1) = if vord (rd_T34 l (k : Int)) v = 0 then idx l v k ++ [(k : Int)] else idx l v k) := Lib.hid rfl
       have hle := idx_len l v k
       obtain ⟨A2', c2', A5', c5', A6', c6', e, -⟩ := k34_open hKa
       simp only [List.cons.injEq, and_true] at e
       obtain ⟨rfl, rfl, rfl, rfl, rfl, rfl, rfl⟩ := e
       generalize vord (rd_T34 l (k : Int)) v = o at *
       have hbx := blk_new wr (.cells #[.int .i64 (rd_T34 l (k : Int)).f0, .bool (rd_T34 l (k : Int)).f1.f0, .slice A2' (rd_T34 l (k : Int)).f1.f1.length c2', .int .i64 (rd_T34 l (k : Int)).f1.f2, .string (rd_T34 l (k : Int)).f2, .slice A5' (rd_T34 l (k : Int)).f3.length c5', .slice A6' (rd_T34 l (k : Int)).f4.length c6'] 34)
       rw [← hW5] at hbx
       have HW5 := Lib.hid hW5
       have HBX := Lib.hid hbx
       have HB5 := Lib.hid hb5
       obtain ⟨hc0, hf0⟩ := bcells (blk_new wr (.cells #[.int .i64 0, .bool false, .slice none 0 0, .int .i64 0, .string ⟨#[]⟩, .slice none 0 0, .slice none 0 0] 34)) (Below.refl _ _)
       have HVX := Lib.hid (blk_below2 (blk_below2 HX8.out HR.out.2) hb5)
       have HR5 := Lib.hid (Kd.R_below HR.out.1 hb5)
       have HBB5 := Lib.hid (HR.out.2.trans (hb5.mono HR.out.2.size))
       clear hKa hW5 hbx hb5
       go_upto_region 8 with (fail)
       rw [← HW5.out]
       clear hc0 hf0 p0 p1 p2 p3 p4 p5 p6 HW5
       obtain ⟨hc5, hf5⟩ := bcells HBX.out (Below.refl _ _)
       obtain ⟨hcv, hfv⟩ := bcells HVX.out (Below.refl _ _)
       by_cases ho : o = 0
       · have ho1 : (o == 0) = true := by simp [ho]
         have HS2 : Hid (idx l v (k + 1) = idx l v k ++ [(k : Int)]) := Lib.hid (by rw [HST.out, if_pos ho])
         clear ho
         go_wp2_with (first
          | (go_at_call 40; (with_reducible refine (HC.out).mono ?_); rintro e_ w9 ⟨rfl, hB9⟩; have HR9 := Lib.hid (Kd.R_below HR5.out hB9); have HB9 := Lib.hid (HBB5.out.trans (hB9.mono HBB5.out.size)); clear hB9)
          | (at_builtin; refine Kd.R_append (Kd.int .i64) (w0 := W8) W8.heap.size rfl _ _ 40 3 (.int .i64 0) 8 rfl Tryz.underlying40 infoI_ rfl (by decide) (by decide) (.slice G ln cap) (idx l v k) (k : Int) _ (fun _ => True) (fun _ => False) rfl rfl rfl (fun _ h => h.elim) (fun _ _ => trivial) HR9.out HB9.out HB9.out.size (by omega) ?_; intro v1 w10 hR10 hB10 hg10 hat10; obtain ⟨G10, cap10, rfl⟩ := Kd.R_slice hR10; rw [← HS2.out] at hR10; rw [← HS2.out]; have HR10 := Lib.hid hR10; have HBG := Lib.hid hB10; clear hR10 hB10 hg10 hat10))
         go_roundw
         case rel => exact ⟨k + 1, _, G10, cap10, hlt, by go_num, rfl, Lib.hid rfl, Lib.hid ⟨HR10.out, HBG.out⟩⟩
         case measure => simp [intOf]; omega
       · have ho1 : (o == 0) = false := by simp [ho]
         have HS2 : Hid (idx l v (k + 1) = idx l v k) := Lib.hid (by rw [HST.out, if_neg ho])
         clear ho
         go_wp2_with (go_at_call 40; (with_reducible refine (HC.out).mono ?_); rintro e_ w9 ⟨rfl, hB9⟩; have HR9 := Lib.hid (Kd.R_below HR5.out hB9); have HB9 := Lib.hid (HBB5.out.trans (hB9.mono HBB5.out.size)); clear hB9)
         go_roundw
         case rel => exact ⟨k + 1, ln, G, cap, hlt, by go_num, rfl, Lib.hid (by rw [HS2.out]; exact HL.out), Lib.hid ⟨by rw [HS2.out]; exact HR9.out, HB9.out⟩⟩
         case measure => simp [intOf]; omega
     · obtain rfl : k = n := by omega
       have hlt2 : ¬ (k : Int) < (k : Int) := by omega
       go_wp2_with fail
       go_ret2
       exact ⟨G, cap, by rw [HRES.out, ← HL.out, H0.out]; rfl, by rw [HRES.out, ← HL.out]; exact Kd.R_lower HR.out.1 HB8.out.size, HBW.out⟩
 · have HRES : Hid (iidx l v = []) := Lib.hid (by unfold iidx; rw [← hr, if_neg h0])
   have hne : (r != 0) = true := by simp [h0]
   clear hr h0 hLD hA hO hnn
   go_enter Tryz.func16, Tryz.ntmps16
   go_upto_region 1 with (fail)
   rw [← HW1.out]
   clear HW1
   obtain ⟨hcv, hfv⟩ := bcells HX1.out (Below.refl _ _)
   go_region_law (first
    | (go_simp; go_at_call 38; (with_reducible refine (HCS.out _ HB1.out).mono ?_); rintro e_ w5 ⟨rfl, hB5⟩; obtain ⟨hx5, hxf5⟩ := bcells HX1.out hB5; have HX5 := Lib.hid (blk_below2 HX1.out hB5); have HB5 := Lib.hid (HB1.out.trans (hB5.mono HB1.out.size)); clear hB5)
    | (go_simp; go_at_call 39; (with_reducible refine (HCV.out _ HB5.out).mono ?_); rintro e_ w6 ⟨rfl, hB6⟩; have HX6 := Lib.hid (blk_below2 HX5.out hB6); have HB6 := Lib.hid (HB5.out.trans (hB6.mono HB5.out.size)); clear hB6)
    | (go_simp; go_at_call 37; (with_reducible refine (or_err2 _ _ _ _).mono ?_); rintro e_ w7 ⟨rfl, rfl⟩; rw [← HOR.out]))
   all_goals
    rename_i q_ k_ a_
    refine a_ _ _ ?_
    clear a_ hcv hfv hx5 hxf5
    go_wp2_with fail
    go_ret2
    exact ⟨none, 0, by rw [HRES.out]; rfl, by rw [HRES.out]; exact Kd.R_nil _ _ _ _ _, HB6.out.alloc HB6.out.size _⟩
end Go.Proofs.YtmfpakolfpoamaaGreatDoor.P

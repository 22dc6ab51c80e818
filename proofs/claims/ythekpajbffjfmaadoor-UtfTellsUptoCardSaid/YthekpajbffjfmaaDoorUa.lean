/- utf.runes, utf.Check: contracts. -/
import Derived.Test.YthekpajbffjfmaaDoorU0
import Derived.RangeFuncNested
namespace Go.Proofs.YthekpajbffjfmaaDoor.P
set_option linter.unusedVariables false
set_option linter.unusedSimpArgs false
open Go.RowKit Go.Shelf
attribute [local go_sem] Oper.semAt_some

theorem runes_in (n : Nat) (s : ByteArray) (w : World) :
    CallsIn Fence.wide n Tryd.prog 31 #[.string s] w fun e w' => e = .returned (.func (.func 39) #[] #[.pointer (some ⟨w.heap.size, 0, none⟩)]) ∧ w' = w.alloc (.cells #[.string s] 9) := by
  refine callsIn_of_wp Tryd.func31 rfl trivial ?_ rfl
  simp only [Tryd.ntmps31, List.size_toArray, List.length_cons, List.length_nil, Nat.reduceAdd, Nat.reduceSub, Array.replicate_succ, Array.replicate_zero, List.push_toArray, List.append_toArray, List.nil_append, List.cons_append]
  gi_wp2
  go_ret
  exact ⟨rfl, rfl⟩

/-- utf.runes' value hands over all characters, or, where a round has said 'no more', a beginning of them. n₀: what lies below it the rounds keep. -/
theorem runes_stops (n : Nat) (hn : 2 ≤ n) (Bn n₀ : Nat) (s : ByteArray) (hs : s.size ≤ 1152921504606846976) (w w0 : World) (hn₀ : n₀ ≤ w.heap.size) (hL : LaidW w0) (hLn : w0.heap.size ≤ n₀) (hLb : Below n₀ w0 w)
    (hc : w.cell? ⟨Bn, 0, none⟩ = some (.string s)) :
    SeqStopsK Fence.wide n Tryd.prog 39 #[.pointer (some ⟨Bn, 0, none⟩)] (fun x : UItem => #[Value.int .i64 x.1.1, .int .i32 x.1.2]) (KpS n₀ Bn) (fun ys => ys = usub s hs s.size 0) (fun pre => pre <+: usub s hs s.size 0) (usub s hs s.size 0).length w := fun l J Jx W hW hJ _ hY h0 =>
  runes1_in n hn l Bn n₀ s hs J Jx (fun a b c e f => hJ a b c none e f (fun r er => by cases er)) hY W ((hW.cell (p := ⟨Bn, 0, none⟩) (World.block_lt_of_cell? _ _ hc)).trans hc) w0 hL hLn (hLb.trans (hW.mono hn₀)) (Nat.le_trans hn₀ hW.size) h0

/-- Where a text is none. -/
def checkL : List (Nat × Int) → Option Nat
  | [] => none
  | (p, c) :: l => if c < 0 then some p else checkL l
def utf_Check.f (s : ByteArray) : Option (Int × Int) :=
  if s.size ≤ 1152921504606846976 then
    match checkL (uitems s s.size 0) with
    | none => some ((s.size : Int), 0)
    | some p => some ((p : Int), 61)
  else none
/-- None of these is below 0. -/
def allGood (l : List UItem) : Prop := ∀ x ∈ l, 0 ≤ x.1.2
theorem checkL_good : ∀ (l : List UItem), allGood l → checkL (l.map (·.1)) = none
  | [], _ => rfl
  | ⟨(p, c), _⟩ :: l, h => by
    have h1 := h _ (List.mem_cons_self)
    simp only [List.map_cons, checkL]
    rw [if_neg (by simpa using h1)]
    exact checkL_good l (fun x hx => h x (List.mem_cons_of_mem _ hx))
theorem checkL_bad : ∀ (l r : List UItem) (x : UItem), allGood l → x.1.2 < 0 → checkL ((l ++ x :: r).map (·.1)) = some x.1.1
  | [], r, ⟨(p, c), _⟩, _, h => by simp only [List.nil_append, List.map_cons, checkL]; rw [if_pos (by simpa using h)]
  | ⟨(p, c), _⟩ :: l, r, x, h, hx => by
    have h1 := h _ (List.mem_cons_self)
    simp only [List.cons_append, List.map_cons, checkL]
    rw [if_neg (by simpa using h1)]
    exact checkL_bad l r x (fun x hx => h x (List.mem_cons_of_mem _ hx)) hx

set_option maxRecDepth 100000 in
set_option maxHeartbeats 4000000 in
theorem check_in (n : Nat) (hn : 4 ≤ n) (s : ByteArray) (hs : s.size ≤ 1152921504606846976) (w : World) (hLD : LaidW w) :
    CallsIn Fence.wide n Tryd.prog 20 #[.string s] w fun e W' => ∃ p c : Int, e = .returned (.tuple #[.int .i64 p, .int .i64 c]) ∧ utf_Check.f s = some (p, c) ∧ Below w.heap.size w W' := by
  have h1 : 1 ≤ n := by omega
  have HS := Lib.hid hs
  refine callsIn_of_wp_marks Tryd.func20 rfl trivial ?_ rfl
  simp only [Tryd.ntmps20, List.size_toArray, List.length_cons, List.length_nil, Nat.reduceAdd, Nat.reduceSub, Array.replicate_succ, Array.replicate_zero, List.push_toArray, List.append_toArray, List.nil_append, List.cons_append]
  gi_wp2_with (refine ⟨trivial, ?_⟩; gi_at_call 31; refine (runes_in (n - 1) _ _).mono ?_; rintro e w' ⟨rfl, rfl⟩)
  have b2 := Boxed.new w 3 (.int .i64 0)
  have b3 := Boxed.new (w.alloc (.cells #[.int .i64 0] 3)) 24 (.int .i64 0)
  have bS := Boxed.new ((w.alloc (.cells #[.int .i64 0] 3)).alloc (.cells #[.int .i64 0] 24)) 9 (.string s)
  have hB0 : Below w.heap.size w (((w.alloc (.cells #[.int .i64 0] 3)).alloc (.cells #[.int .i64 0] 24)).alloc (.cells #[.string s] 9)) := (((Below.refl _ w).alloc (Nat.le_refl _) _).alloc (by simp) _).alloc (by simp; omega) _
  simp only [World.size_alloc] at b3 bS
  have b2' := (b2.alloc (.cells #[.int .i64 0] 24)).alloc (.cells #[.string s] 9)
  have b3' := b3.alloc (.cells #[.string s] 9)
  obtain ⟨W0, hW0⟩ : ∃ W0, W0 = ((w.alloc (.cells #[.int .i64 0] 3)).alloc (.cells #[.int .i64 0] 24)).alloc (.cells #[.string s] 9) := ⟨_, rfl⟩
  have hz : W0.heap.size = w.heap.size + 3 := by rw [hW0]; simp
  rw [← hW0] at hB0 b2' b3' bS ⊢
  have hLD0 : LaidW W0 := hLD.below hB0
  have hZ := Lib.hid hz
  have HB0 := Lib.hid hB0
  have HLD0 := Lib.hid hLD0
  clear b2 b3 hz hB0 hLD0 hW0
  have c2 := b2'.cell
  have c3 := b3'.cell
  have f2 := b2'.frozen
  have f3 := b3'.frozen
  have C2 := Lib.hid c2
  have C3 := Lib.hid c3
  have F2 := Lib.hid f2
  have F3 := Lib.hid f3
  clear c2 c3 f2 f3 b2' b3'
  refine wpIn_rangeFunc_ownF rfl h1 (gf := 39) (lb := #[.pointer (some ⟨w.heap.size + 1 + 1, 0, none⟩)]) rfl trivial (enters_of Tryd.func39 (by kernel_rfl) rfl)
    (runes_stops (n - 1) (by omega) (w.heap.size + 1 + 1) W0.heap.size s HS.out W0 W0 (Nat.le_refl _) HLD0.out (Nat.le_refl _) (Below.refl _ _) bS.cell) kpS_t (kpS_b (Nat.le_refl _) (by have := hZ.out; omega)) (Below.refl _ _) (fun _ => rfl)
    (fun pre W => allGood pre ∧ Below W0.heap.size W0 W)
    (fun c pre W => (c = .ret ∧ (∃ l x, pre = l ++ [x] ∧ allGood l ∧ x.1.2 < 0 ∧ W.cell? ⟨w.heap.size, 0, none⟩ = some (.int .i64 x.1.1)) ∧ W.cell? ⟨w.heap.size + 1, 0, none⟩ = some (.int .i64 61)) ∧ Below w.heap.size w W)
    (OwnFrom.and (fun _ _ _ _ hs _ _ => hs) (ownFrom_below (Nat.le_refl _) (Nat.le_refl _)))
    (fun c => OwnFrom.and (Own.from (fun s A B row hs hg hr => by
      obtain ⟨h0, ⟨l, x, hl, hg0, hx, hc1⟩, hc2⟩ := hs
      exact ⟨h0, ⟨l, x, hl, hg0, hx, cell_kept hc1 hg hr⟩, cell_kept hc2 hg hr⟩) _) (ownFrom_below (Nat.le_refl _) (by have := hZ.out; omega)))
    ⟨(fun _ h => by cases h), Below.refl _ _⟩
    (fun x => { tmps := #[.string s, undef, .pointer (some ⟨w.heap.size, 0, none⟩), .pointer (some ⟨w.heap.size + 1, 0, none⟩), .int .i64 x.1.1, .int .i32 x.1.2, .string s, .func (.func 39) #[] #[.pointer (some ⟨w.heap.size + 1 + 1, 0, none⟩)], .int .i64 x.1.1, .int .i32 x.1.2, undef, undef, undef, undef, undef], defers := [] }) ?assign ?body ?done ?stop
  case assign =>
    intro l x W K hK
    gi_wp2
    exact hK
  case body =>
    rintro l pre x W ⟨hgood, hB⟩ _
    have hb0 := HB0.out.trans (hB.mono HB0.out.size)
    have hb1 : W0.heap.size ≤ W.heap.size := hB.size
    have hc2 : W.cell? ⟨w.heap.size, 0, none⟩ = some (.int .i64 0) := (hB.cell (p := ⟨w.heap.size, 0, none⟩) (by have := hZ.out; simp; omega)).trans C2.out
    have hc3 : W.cell? ⟨w.heap.size + 1, 0, none⟩ = some (.int .i64 0) := (hB.cell (p := ⟨w.heap.size + 1, 0, none⟩) (by have := hZ.out; simp; omega)).trans C3.out
    have hf2 : W.frozen? ⟨w.heap.size, 0, none⟩ = false := (hB.frozen (p := ⟨w.heap.size, 0, none⟩) (by have := hZ.out; simp; omega)).trans F2.out
    have hf3 : W.frozen? ⟨w.heap.size + 1, 0, none⟩ = false := (hB.frozen (p := ⟨w.heap.size + 1, 0, none⟩) (by have := hZ.out; simp; omega)).trans F3.out
    have HGOOD := Lib.hid hgood
    have HB := Lib.hid hB
    have HBB := Lib.hid hb0
    clear hgood hB hb0
    by_cases hx : x.1.2 < 0
    · gi_wp2
      refine ⟨(KeepsOthers.setCell W _ _).trans (KeepsOthers.setCell _ _ _), ⟨rfl, ⟨pre, x, rfl, HGOOD.out, hx, by go_simp⟩, by go_simp⟩, (HBB.out.setCell (p := ⟨w.heap.size, 0, none⟩) (by simp) _).setCell (p := ⟨w.heap.size + 1, 0, none⟩) (by simp) _⟩
    · gi_wp2
      refine ⟨KeepsOthers.refl _, kpS_refl _ _ _, fun y hy => ?_, HB.out⟩
      rcases List.mem_append.1 hy with h | h
      · exact HGOOD.out y h
      · simp at h; subst h; assumption
  case done =>
    rintro D ys W hD rfl ⟨hgood, hB⟩ hK
    have hb0 := HB0.out.trans (hB.mono HB0.out.size)
    have hb1 : W0.heap.size ≤ W.heap.size := hB.size
    have hc2 : W.cell? ⟨w.heap.size, 0, none⟩ = some (.int .i64 0) := (hB.cell (p := ⟨w.heap.size, 0, none⟩) (by have := hZ.out; simp; omega)).trans C2.out
    have hc3 : W.cell? ⟨w.heap.size + 1, 0, none⟩ = some (.int .i64 0) := (hB.cell (p := ⟨w.heap.size + 1, 0, none⟩) (by have := hZ.out; simp; omega)).trans C3.out
    have hf2 : W.frozen? ⟨w.heap.size, 0, none⟩ = false := (hB.frozen (p := ⟨w.heap.size, 0, none⟩) (by have := hZ.out; simp; omega)).trans F2.out
    have hf3 : W.frozen? ⟨w.heap.size + 1, 0, none⟩ = false := (hB.frozen (p := ⟨w.heap.size + 1, 0, none⟩) (by have := hZ.out; simp; omega)).trans F3.out
    have HGOOD := Lib.hid hgood
    have HB := Lib.hid hB
    have HBB := Lib.hid hb0
    have HK := Lib.hid hK
    clear hgood hB hb0 hK
    gi_wp2
    have hK' := (KeepsOthers.setCell (W.setCell ⟨w.heap.size, 0, none⟩ (.int .i64 s.size)) ⟨w.heap.size + 1, 0, none⟩ (.int .i64 0)).same D _ ((KeepsOthers.setCell W ⟨w.heap.size, 0, none⟩ (.int .i64 s.size)).same D _ HK.out rfl) rfl
    refine ⟨by simp, .inl ⟨_, _, rfl, run_takeDeferred hK', ?_⟩⟩
    have e2 : ((W.setCell ⟨w.heap.size, 0, none⟩ (.int .i64 s.size)).setCell ⟨w.heap.size + 1, 0, none⟩ (.int .i64 0)).cell? ⟨w.heap.size, 0, none⟩ = some (.int .i64 s.size) := by go_simp
    have e3 : ((W.setCell ⟨w.heap.size, 0, none⟩ (.int .i64 s.size)).setCell ⟨w.heap.size + 1, 0, none⟩ (.int .i64 0)).cell? ⟨w.heap.size + 1, 0, none⟩ = some (.int .i64 0) := by go_simp
    have k2 := cell_kept e2 (grownBy_putObj' _ D (.deferred none)) (fun r e => by cases e; exact ⟨_, hK', rfl⟩)
    have k3 := cell_kept e3 (grownBy_putObj' _ D (.deferred none)) (fun r e => by cases e; exact ⟨_, hK', rfl⟩)
    refine ⟨.tuple #[.int .i64 s.size, .int .i64 0], ?_, _, _, rfl, ?_, ((HBB.out.setCell (p := ⟨w.heap.size, 0, none⟩) (by simp) _).setCell (p := ⟨w.heap.size + 1, 0, none⟩) (by simp) _).trans (belowK_b (w := w) (Nat.le_refl _) _ D _ _ (by have := hZ.out; omega) hK' rfl rfl)⟩
    · simp [results, Tryd.f20, go_sem, k2, k3]
    · unfold utf_Check.f
      rw [if_pos HS.out, ← usub_val s HS.out, checkL_good _ HGOOD.out]
  case stop =>
    rintro D c pre W hD hpre ⟨⟨rfl, ⟨l, x, rfl, hl, hx, e2⟩, e3⟩, hB⟩ hK
    have HB := Lib.hid hB
    have HK := Lib.hid hK
    have HL := Lib.hid hl
    clear hB hK hl
    gi_wp2
    refine ⟨by simp, .inl ⟨_, _, rfl, run_takeDeferred HK.out, ?_⟩⟩
    have k2 := cell_kept e2 (grownBy_putObj' _ D (.deferred none)) (fun r e => by cases e; exact ⟨_, HK.out, rfl⟩)
    have k3 := cell_kept e3 (grownBy_putObj' _ D (.deferred none)) (fun r e => by cases e; exact ⟨_, HK.out, rfl⟩)
    refine ⟨.tuple #[.int .i64 x.1.1, .int .i64 61], ?_, _, _, rfl, ?_, HB.out.trans (belowK_b (w := w) (Nat.le_refl _) W D _ _ (by have := hZ.out; omega) HK.out rfl rfl)⟩
    · simp [results, Tryd.f20, go_sem, k2, k3]
    · obtain ⟨t, ht⟩ := hpre
      unfold utf_Check.f
      rw [if_pos HS.out, ← usub_val s HS.out, ← ht, List.append_assoc, List.singleton_append, checkL_bad l t x HL.out hx]

theorem utf_Check.calls (a0 : ByteArray) (r1 r2 : Int) (w : World) (hLD : LaidW w) (h : utf_Check.f a0 = some (r1, r2)) :
    Calls Tryd.prog 20 #[.string a0] w fun e w' => e = .returned (.tuple #[.int .i64 r1, .int .i64 r2]) ∧ Below w.heap.size w w' := by
  have hs : a0.size ≤ 1152921504606846976 := by
    by_cases hs : a0.size ≤ 1152921504606846976
    · exact hs
    · unfold utf_Check.f at h; rw [if_neg hs] at h; cases h
  refine (callsIn_wide.1 (check_in 4 (Nat.le_refl _) a0 hs w hLD)).mono ?_
  rintro e w' ⟨p, c, rfl, hf, hb⟩
  rw [h] at hf
  simp only [Option.some.injEq, Prod.mk.injEq] at hf
  obtain ⟨rfl, rfl⟩ := hf
  exact ⟨rfl, hb⟩
end Go.Proofs.YthekpajbffjfmaaDoor.P

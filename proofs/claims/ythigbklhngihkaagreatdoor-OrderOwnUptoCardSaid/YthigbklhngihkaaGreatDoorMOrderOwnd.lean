import Derived.Test.YthigbklhngihkaaGreatDoorMOrderOwna
import Derived.Test.YthigbklhngihkaaGreatDoorMOrderOwnc
import Derived.WalkSpells
import Derived.Lib.Hide
import Derived.Laws.BitsAllLaws
import Derived.Shelf.Small.Utf8
import Derived.Shelf.Small.Strs
import Derived.Shelf.Strings.Search1
import Derived.Shelf.Strings.Runes
import Derived.Shelf.Strings.AsciiSet
import Derived.Shelf.Unicode.DecodeAny
import Derived.Lib.DecodeN
import Derived.RangeFuncBox
import Derived.RangeFuncLeaves
import Derived.RangeFuncFrom
import Derived.Shelf.Abstract
import Derived.OwnWalkIn
import Derived.TacticsInMore
import Derived.LoopNIn
import Derived.LoopIn
set_option linter.unusedVariables false
set_option linter.unusedSimpArgs false
set_option maxRecDepth 100000
namespace Go.Proofs.YthigbklhngihkaaGreatDoor.P
open Go.RowKit Go.Proofs.YthigbklhngihkaaGreatDoorW.PrintWords Go.Proofs.YthigbklhngihkaaGreatDoorW.PrintLast Go.Proofs.YthigbklhngihkaaGreatDoorW.PrintMore
attribute [local go_sem] max2_int min2_int max_two min_two max_three min_three max_four min_four   -- for this text's walks alone
def errW : Option Int → Value
 | none => .nilIface
 | some c => .iface 0 (.int .i64 c)
theorem errW_none : errW none = .nilIface := rfl
theorem errW_some (c : Int) : errW (some c) = .iface 0 (.int .i64 c) := rfl
theorem info131 : (Tryz.prog.info? 131).map (fun i => (i.zero, i.size, i.bytes)) = some (some (.int .u32 0), 1, 4) := by kernel_rfl
def rd_L3 (xs : List (List Int)) (i : Int) : (List Int) := xs.getD i.toNat ([] : List Int)
structure S24 where
 f0 : Bool
 f1 : (List Int)
 f2 : Int
def z24 : S24 := ⟨false, ([] : List Int), (0 : Int)⟩
def k24 : Kd S24 := Kd.iso (Kd.pair Kd.bool (Kd.pair (Kd.slice 131 (Kd.int .u32)) (Kd.int .i64))) (fun x : S24 => (x.f0, x.f1, x.f2))
theorem k24_open {w : World} {x : S24} {cs : List Value} (h : k24.K w x cs) : ∃ A1 c1, cs = [.bool x.f0, .slice A1 x.f1.length c1, .int .i64 x.f2] ∧ x.f1.length ≤ c1 ∧ (Kd.int .u32).C w A1 x.f1.length x.f1 := by
 obtain ⟨_, _, rfl, rfl, ⟨_, _, rfl, ⟨A1, c1, rfl, l1, g1⟩, rfl⟩⟩ := h
 exact ⟨A1, c1, rfl, l1, g1⟩
theorem k24_openM {w : World} {base : Nat} {ok : Nat → Prop} {x : S24} {cs : List Value} (h : k24.M w base ok x cs) : ∃ v1, cs = [.bool x.f0, v1, .int .i64 x.f2] ∧ (Kd.int .u32).R 131 w base ok v1 x.f1 := by
 obtain ⟨_, _, rfl, rfl, ⟨_, _, rfl, ⟨v1, rfl, g1⟩, rfl⟩⟩ := h
 exact ⟨v1, rfl, g1⟩
theorem k24_mk (w : World) (x : S24) {A1 : Option Addr} {c1 : Nat} (l1 : x.f1.length ≤ c1) (g1 : (Kd.int .u32).C w A1 x.f1.length x.f1) : k24.K w x [.bool x.f0, .slice A1 x.f1.length c1, .int .i64 x.f2] := ⟨[.bool x.f0], [.slice A1 x.f1.length c1, .int .i64 x.f2], rfl, rfl, ⟨[.slice A1 x.f1.length c1], [.int .i64 x.f2], rfl, ⟨A1, c1, rfl, l1, g1⟩, rfl⟩⟩
theorem k24_mkM (w : World) (base : Nat) (ok : Nat → Prop) (x : S24) {v1 : Value} (g1 : (Kd.int .u32).R 131 w base ok v1 x.f1) : k24.M w base ok x [.bool x.f0, v1, .int .i64 x.f2] := ⟨[.bool x.f0], [v1, .int .i64 x.f2], rfl, rfl, ⟨[v1], [.int .i64 x.f2], rfl, ⟨v1, rfl, g1⟩, rfl⟩⟩
def rd_T24 (xs : List S24) (i : Int) : S24 := xs.getD i.toNat z24
theorem at_T24 {w : World} {A : Option Addr} {n : Nat} {xs : List S24} (h : Kd.C k24 w A n xs) (i : Int) (h0 : 0 ≤ i) (h1 : i < n) : ∃ ad A1 c1, A = some ad ∧ w.cell? (ad.add (i.toNat * 3)) = some (.bool (rd_T24 xs i).f0) ∧ w.cell? ⟨(ad.add (i.toNat * 3)).block, (ad.add (i.toNat * 3)).off + 1, none⟩ = some (.slice A1 (rd_T24 xs i).f1.length c1) ∧ w.cell? ⟨(ad.add (i.toNat * 3)).block, (ad.add (i.toNat * 3)).off + 2, none⟩ = some (.int .i64 (rd_T24 xs i).f2) ∧ (rd_T24 xs i).f1.length ≤ c1 ∧ (Kd.int .u32).C w A1 (rd_T24 xs i).f1.length (rd_T24 xs i).f1 := by
 obtain ⟨ad, c, e, _, hK, hc0⟩ := Kd.C_get h z24 i h0 h1
 have hc : ∀ j u, c[j]? = some u → w.cell? (ad.add (i.toNat * 3 + j)) = some u := hc0
 obtain ⟨A1, c1, rfl, l1, g1⟩ := k24_open hK
 exact ⟨ad, A1, c1, e, hc 0 _ rfl, by rw [← add_field _ _ 1 (by omega)]; exact hc 1 _ rfl, by rw [← add_field _ _ 2 (by omega)]; exact hc 2 _ rfl, l1, g1⟩
def rd_L6 (xs : List (List ByteArray)) (i : Int) : (List ByteArray) := xs.getD i.toNat ([] : List ByteArray)
structure S28 where
 f0 : Int
 f1 : S24
 f2 : ByteArray
 f3 : (List S28)
 f4 : (List ByteArray)
def z28 : S28 := ⟨(0 : Int), z24, (⟨#[]⟩ : ByteArray), ([] : List S28), ([] : List ByteArray)⟩
def F28 (d : Kd S28) : Kd S28 := Kd.iso (Kd.pair (Kd.int .i64) (Kd.pair k24 (Kd.pair Kd.string (Kd.pair (Kd.slice 28 d) (Kd.slice 9 Kd.string))))) (fun x : S28 => (x.f0, x.f1, x.f2, x.f3, x.f4))
theorem mono28 : Kd.Mono F28 := Kd.mono_iso _ (Kd.mono_pair (Kd.mono_const _) (Kd.mono_pair (Kd.mono_const _) (Kd.mono_pair (Kd.mono_const _) (Kd.mono_pair (Kd.mono_slice 28 Kd.mono_id) (Kd.mono_const _)))))
theorem sub28 : Kd.Sub F28 [9, 28, 131] := Kd.sub_iso _ (Kd.sub_pair (Kd.sub_const _ (by decide)) (Kd.sub_pair (Kd.sub_const _ (by decide)) (Kd.sub_pair (Kd.sub_const _ (by decide)) (Kd.sub_pair (Kd.sub_slice 28 (by decide) Kd.sub_id) (Kd.sub_const _ (by decide))))))
theorem sz28 : ∀ n, (Kd.upto F28 7 [9, 28, 131] n).sz = 7 := Kd.upto_sz (fun _ => rfl)
def k28 : Kd S28 := Kd.fix F28 7 [9, 28, 131] sz28 (Kd.upto_E sub28)
theorem k28_open {w : World} {x : S28} {cs : List Value} (h : k28.K w x cs) : ∃ A2 c2 A5 c5 A6 c6, cs = [.int .i64 x.f0, .bool x.f1.f0, .slice A2 x.f1.f1.length c2, .int .i64 x.f1.f2, .string x.f2, .slice A5 x.f3.length c5, .slice A6 x.f4.length c6] ∧ x.f1.f1.length ≤ c2 ∧ (Kd.int .u32).C w A2 x.f1.f1.length x.f1.f1 ∧ x.f3.length ≤ c5 ∧ k28.C w A5 x.f3.length x.f3 ∧ x.f4.length ≤ c6 ∧ Kd.string.C w A6 x.f4.length x.f4 := by
 obtain ⟨n, h⟩ := h
 cases n with
 | zero => exact h.elim
 | succ n =>
  obtain ⟨_, _, rfl, rfl, ⟨_, _, rfl, s1, ⟨_, _, rfl, rfl, ⟨_, _, rfl, ⟨A5, c5, rfl, l5, g5⟩, ⟨A6, c6, rfl, l6, g6⟩⟩⟩⟩⟩ := h
  obtain ⟨A2, c2, rfl, l2, g2⟩ := k24_open s1
  exact ⟨A2, c2, A5, c5, A6, c6, rfl, l2, g2, l5, Kd.fix_C g5, l6, g6⟩
theorem k28_openM {w : World} {base : Nat} {ok : Nat → Prop} {x : S28} {cs : List Value} (h : k28.M w base ok x cs) : ∃ v2 v5 v6, cs = [.int .i64 x.f0, .bool x.f1.f0, v2, .int .i64 x.f1.f2, .string x.f2, v5, v6] ∧ (Kd.int .u32).R 131 w base ok v2 x.f1.f1 ∧ k28.R 28 w base ok v5 x.f3 ∧ Kd.string.R 9 w base ok v6 x.f4 := by
 obtain ⟨n, h⟩ := h
 cases n with
 | zero => exact h.elim
 | succ n =>
  obtain ⟨_, _, rfl, rfl, ⟨_, _, rfl, s1, ⟨_, _, rfl, rfl, ⟨_, _, rfl, ⟨v5, rfl, g5⟩, ⟨v6, rfl, g6⟩⟩⟩⟩⟩ := h
  obtain ⟨v2, rfl, g2⟩ := k24_openM s1
  exact ⟨v2, v5, v6, rfl, g2, Kd.fix_R g5, g6⟩
theorem k28_mk (w : World) (x : S28) {A2 : Option Addr} {c2 : Nat} (l2 : x.f1.f1.length ≤ c2) (g2 : (Kd.int .u32).C w A2 x.f1.f1.length x.f1.f1) {A5 : Option Addr} {c5 : Nat} (l5 : x.f3.length ≤ c5) (g5 : k28.C w A5 x.f3.length x.f3) {A6 : Option Addr} {c6 : Nat} (l6 : x.f4.length ≤ c6) (g6 : Kd.string.C w A6 x.f4.length x.f4) : k28.K w x [.int .i64 x.f0, .bool x.f1.f0, .slice A2 x.f1.f1.length c2, .int .i64 x.f1.f2, .string x.f2, .slice A5 x.f3.length c5, .slice A6 x.f4.length c6] := by
 obtain ⟨n5, q5⟩ := Kd.fix_C_back mono28 g5
 have r5 := Kd.upto_C_le mono28 sz28 (show n5 ≤ n5 by omega) q5
 exact ⟨n5 + 1, ⟨[.int .i64 x.f0], [.bool x.f1.f0, .slice A2 x.f1.f1.length c2, .int .i64 x.f1.f2, .string x.f2, .slice A5 x.f3.length c5, .slice A6 x.f4.length c6], rfl, rfl, ⟨[.bool x.f1.f0, .slice A2 x.f1.f1.length c2, .int .i64 x.f1.f2], [.string x.f2, .slice A5 x.f3.length c5, .slice A6 x.f4.length c6], rfl, (k24_mk w x.f1 l2 g2), ⟨[.string x.f2], [.slice A5 x.f3.length c5, .slice A6 x.f4.length c6], rfl, rfl, ⟨[.slice A5 x.f3.length c5], [.slice A6 x.f4.length c6], rfl, ⟨A5, c5, rfl, l5, r5⟩, ⟨A6, c6, rfl, l6, g6⟩⟩⟩⟩⟩⟩
theorem k28_mkM (w : World) (base : Nat) (ok : Nat → Prop) (x : S28) {v2 : Value} (g2 : (Kd.int .u32).R 131 w base ok v2 x.f1.f1) {v5 : Value} (g5 : k28.R 28 w base ok v5 x.f3) {v6 : Value} (g6 : Kd.string.R 9 w base ok v6 x.f4) : k28.M w base ok x [.int .i64 x.f0, .bool x.f1.f0, v2, .int .i64 x.f1.f2, .string x.f2, v5, v6] := by
 obtain ⟨n5, q5⟩ := Kd.fix_R_back mono28 g5
 have r5 := Kd.upto_R_le mono28 sz28 (show n5 ≤ n5 by omega) q5
 exact ⟨n5 + 1, ⟨[.int .i64 x.f0], [.bool x.f1.f0, v2, .int .i64 x.f1.f2, .string x.f2, v5, v6], rfl, rfl, ⟨[.bool x.f1.f0, v2, .int .i64 x.f1.f2], [.string x.f2, v5, v6], rfl, (k24_mkM w base ok x.f1 g2), ⟨[.string x.f2], [v5, v6], rfl, rfl, ⟨[v5], [v6], rfl, ⟨v5, rfl, r5⟩, ⟨v6, rfl, g6⟩⟩⟩⟩⟩⟩
def rd_T28 (xs : List S28) (i : Int) : S28 := xs.getD i.toNat z28
theorem at_T28 {w : World} {A : Option Addr} {n : Nat} {xs : List S28} (h : Kd.C k28 w A n xs) (i : Int) (h0 : 0 ≤ i) (h1 : i < n) : ∃ ad A2 c2 A5 c5 A6 c6, A = some ad ∧ w.cell? (ad.add (i.toNat * 7)) = some (.int .i64 (rd_T28 xs i).f0) ∧ w.cell? ⟨(ad.add (i.toNat * 7)).block, (ad.add (i.toNat * 7)).off + 1, none⟩ = some (.bool (rd_T28 xs i).f1.f0) ∧ w.cell? ⟨(ad.add (i.toNat * 7)).block, (ad.add (i.toNat * 7)).off + 2, none⟩ = some (.slice A2 (rd_T28 xs i).f1.f1.length c2) ∧ w.cell? ⟨(ad.add (i.toNat * 7)).block, (ad.add (i.toNat * 7)).off + 3, none⟩ = some (.int .i64 (rd_T28 xs i).f1.f2) ∧ w.cell? ⟨(ad.add (i.toNat * 7)).block, (ad.add (i.toNat * 7)).off + 4, none⟩ = some (.string (rd_T28 xs i).f2) ∧ w.cell? ⟨(ad.add (i.toNat * 7)).block, (ad.add (i.toNat * 7)).off + 5, none⟩ = some (.slice A5 (rd_T28 xs i).f3.length c5) ∧ w.cell? ⟨(ad.add (i.toNat * 7)).block, (ad.add (i.toNat * 7)).off + 6, none⟩ = some (.slice A6 (rd_T28 xs i).f4.length c6) ∧ (rd_T28 xs i).f1.f1.length ≤ c2 ∧ (Kd.int .u32).C w A2 (rd_T28 xs i).f1.f1.length (rd_T28 xs i).f1.f1 ∧ (rd_T28 xs i).f3.length ≤ c5 ∧ k28.C w A5 (rd_T28 xs i).f3.length (rd_T28 xs i).f3 ∧ (rd_T28 xs i).f4.length ≤ c6 ∧ Kd.string.C w A6 (rd_T28 xs i).f4.length (rd_T28 xs i).f4 := by
 obtain ⟨ad, c, e, _, hK, hc0⟩ := Kd.C_get h z28 i h0 h1
 have hc : ∀ j u, c[j]? = some u → w.cell? (ad.add (i.toNat * 7 + j)) = some u := hc0
 obtain ⟨A2, c2, A5, c5, A6, c6, rfl, l2, g2, l5, g5, l6, g6⟩ := k28_open hK
 exact ⟨ad, A2, c2, A5, c5, A6, c6, e, hc 0 _ rfl, by rw [← add_field _ _ 1 (by omega)]; exact hc 1 _ rfl, by rw [← add_field _ _ 2 (by omega)]; exact hc 2 _ rfl, by rw [← add_field _ _ 3 (by omega)]; exact hc 3 _ rfl, by rw [← add_field _ _ 4 (by omega)]; exact hc 4 _ rfl, by rw [← add_field _ _ 5 (by omega)]; exact hc 5 _ rfl, by rw [← add_field _ _ 6 (by omega)]; exact hc 6 _ rfl, l2, g2, l5, g5, l6, g6⟩
def rd_L8 (xs : List (List S28)) (i : Int) : (List S28) := xs.getD i.toNat ([] : List S28)
def rd_L9 (xs : List (List Int)) (i : Int) : (List Int) := xs.getD i.toNat ([] : List Int)
def rd_L10 (xs : List (List S24)) (i : Int) : (List S24) := xs.getD i.toNat ([] : List S24)
structure S137 where
 f0 : S24
def z137 : S137 := ⟨z24⟩
def k137 : Kd S137 := Kd.iso k24 (fun x : S137 => x.f0)
def rd_T137 (xs : List S137) (i : Int) : S137 := xs.getD i.toNat z137
structure S102 where
 f0 : S28
 f1 : S28
def z102 : S102 := ⟨z28, z28⟩
def k102 : Kd S102 := Kd.iso (Kd.pair k28 k28) (fun x : S102 => (x.f0, x.f1))
def rd_T102 (xs : List S102) (i : Int) : S102 := xs.getD i.toNat z102
def rd_L15 (xs : List (List (List S28))) (i : Int) : (List (List S28)) := xs.getD i.toNat ([] : List (List S28))
end Go.Proofs.YthigbklhngihkaaGreatDoor.P
namespace Go.Proofs.YthigbklhngihkaaGreatDoor.P
open Go.RowKit Go.Proofs.YthigbklhngihkaaGreatDoorW.PrintWords
def okL (l : List Int) : Prop := ∀ x ∈ l, 0 ≤ x ∧ x < 4294967296
instance (l : List Int) : Decidable (okL l) := by unfold okL; infer_instance
def val : List Int → Nat
 | [] => 0
 | x :: l => x.toNat + 4294967296 * val l
def limbs (n : Nat) : List Int := if h : n = 0 then [] else ((n % 4294967296 : Nat) : Int) :: limbs (n / 4294967296)
termination_by n
decreasing_by omega
theorem limbs_zero : limbs 0 = [] := by rw [limbs, dif_pos rfl]
theorem limbs_pos {n : Nat} (h : n ≠ 0) : limbs n = ((n % 4294967296 : Nat) : Int) :: limbs (n / 4294967296) := by rw [limbs, dif_neg h]
theorem okL_nil : okL [] := fun x hx => by simp at hx
theorem okL_cons {x : Int} {l : List Int} : okL (x :: l) ↔ (0 ≤ x ∧ x < 4294967296) ∧ okL l := by unfold okL; simp
theorem okL_app {l r : List Int} : okL (l ++ r) ↔ okL l ∧ okL r := by
 unfold okL
 constructor
 · intro h; exact ⟨fun x hx => h x (List.mem_append_left _ hx), fun x hx => h x (List.mem_append_right _ hx)⟩
 · rintro ⟨h, k⟩ x hx; exact (List.mem_append.1 hx).elim (h x) (k x)
theorem okL_take {l : List Int} (h : okL l) (n : Nat) : okL (l.take n) := fun x hx => h x (List.mem_of_mem_take hx)
theorem okL_getD {l : List Int} (h : okL l) (i : Nat) : 0 ≤ l.getD i 0 ∧ l.getD i 0 < 4294967296 := by
 rw [List.getD_eq_getElem?_getD]
 by_cases hi : i < l.length
 · rw [List.getElem?_eq_getElem hi]; exact h _ (List.getElem_mem hi)
 · rw [List.getElem?_eq_none (by omega)]; simp
theorem okL_limbs : ∀ n, okL (limbs n) := by
 intro n
 induction n using Nat.strongRecOn with
 | _ n ih =>
  by_cases h : n = 0
  · subst h; rw [limbs_zero]; exact okL_nil
  · rw [limbs_pos h, okL_cons]; exact ⟨by omega, ih _ (by omega)⟩
theorem val_limbs : ∀ n, val (limbs n) = n := by
 intro n
 induction n using Nat.strongRecOn with
 | _ n ih =>
  by_cases h : n = 0
  · subst h; rw [limbs_zero]; rfl
  · rw [limbs_pos h, val, ih _ (by omega)]; omega
def canon (l : List Int) : Prop := limbs (val l) = l
instance (l : List Int) : Decidable (canon l) := by unfold canon; infer_instance
theorem canon_limbs (n : Nat) : canon (limbs n) := by unfold canon; rw [val_limbs]
theorem canon_okL {l : List Int} (h : canon l) : okL l := by have := okL_limbs (val l); rwa [h] at this
theorem val_app : ∀ (l r : List Int), val (l ++ r) = val l + 4294967296 ^ l.length * val r
 | [], r => by simp [val]
 | x :: l, r => by
  rw [List.cons_append, val, val_app l r, val, List.length_cons, Nat.pow_succ, Nat.mul_add, Nat.mul_comm (4294967296 ^ l.length) 4294967296, Nat.mul_assoc, Nat.add_assoc]
theorem val_lt : ∀ {l : List Int}, okL l → val l < 4294967296 ^ l.length
 | [], _ => by simp [val]
 | x :: l, h => by
  rw [okL_cons] at h
  have := val_lt h.2
  rw [val, List.length_cons, Nat.pow_succ]
  omega
theorem val_zero : ∀ {l : List Int}, okL l → (val l = 0 ↔ ∀ x ∈ l, x = 0)
 | [], _ => by simp [val]
 | x :: l, h => by
  rw [okL_cons] at h
  have := val_zero h.2
  rw [val]
  constructor
  · intro hv y hy
    rcases List.mem_cons.1 hy with rfl | hy
    · omega
    · exact (this.1 (by omega)) y hy
  · intro hv
    have h1 := hv x List.mem_cons_self
    have h2 := this.2 fun y hy => hv y (List.mem_cons_of_mem _ hy)
    rw [h1, h2]; rfl
theorem canon_of_last : ∀ {l : List Int}, okL l → (∀ h : l ≠ [], l.getLast h ≠ 0) → canon l
 | [], _, _ => by unfold canon; rw [val, limbs_zero]
 | [x], h, hl => by
  rw [okL_cons] at h
  have := hl (by simp)
  simp at this
  unfold canon
  have hv : val [x] = x.toNat := by simp [val]
  rw [hv, limbs_pos (by omega), show x.toNat / 4294967296 = 0 by omega, limbs_zero, show ((x.toNat % 4294967296 : Nat) : Int) = x by omega]
 | x :: y :: l, h, hl => by
  have h0 := okL_cons.1 h
  have ih := canon_of_last (l := y :: l) h0.2 (fun hn => by have := hl (by simp); rwa [List.getLast_cons hn] at this)
  have hp : val (y :: l) ≠ 0 := by
   intro e
   unfold canon at ih
   rw [e, limbs_zero] at ih
   simp at ih
  unfold canon at ih ⊢
  rw [val, limbs_pos (by omega), show (x.toNat + 4294967296 * val (y :: l)) % 4294967296 = x.toNat by omega, show (x.toNat + 4294967296 * val (y :: l)) / 4294967296 = val (y :: l) by omega, ih, show ((x.toNat : Nat) : Int) = x by omega]
theorem canon_last {l : List Int} (h : canon l) (hn : l ≠ []) : l.getLast hn ≠ 0 := by
 have key : ∀ n (hn : limbs n ≠ []), (limbs n).getLast hn ≠ 0 := by
  intro n
  induction n using Nat.strongRecOn with
  | _ n ih =>
   intro hn
   have h0 : n ≠ 0 := by intro e; subst e; exact hn limbs_zero
   by_cases h1 : n / 4294967296 = 0
   · have e : limbs n = [((n % 4294967296 : Nat) : Int)] := by rw [limbs_pos h0, h1, limbs_zero]
     simp only [e, List.getLast_singleton]
     omega
   · have hm : limbs (n / 4294967296) ≠ [] := by rw [limbs_pos h1]; simp
     have := ih (n / 4294967296) (by omega) hm
     simp only [limbs_pos h0]
     rw [List.getLast_cons hm]
     exact this
 have e : limbs (val l) = l := h
 have hm : limbs (val l) ≠ [] := by rw [e]; exact hn
 have := key (val l) hm
 simp only [e] at this
 exact this
theorem take_succ_getD {l : List Int} {n : Nat} (h : n < l.length) : l.take (n + 1) = l.take n ++ [l.getD n 0] := by
 rw [List.take_succ_eq_append_getElem h, List.getD_eq_getElem?_getD, List.getElem?_eq_getElem h]
 rfl
theorem val_take_succ {l : List Int} {n : Nat} (h : n < l.length) : val (l.take (n + 1)) = val (l.take n) + 4294967296 ^ n * (l.getD n 0).toNat := by
 rw [take_succ_getD h, val_app, List.length_take, Nat.min_eq_left (by omega)]
 simp [val]
theorem val_take_step (l : List Int) (i : Nat) : val (l.take (i + 1)) = val (l.take i) + 4294967296 ^ i * (l.getD i 0).toNat := by
 by_cases h : i < l.length
 · exact val_take_succ h
 · rw [List.take_of_length_le (by omega), List.take_of_length_le (by omega), List.getD_eq_getElem?_getD, List.getElem?_eq_none (by omega)]; simp
theorem trim_done {l : List Int} (h : okL l) {m : Nat} (hm : m ≤ l.length) (hv : val (l.take m) = val l) (hl : m = 0 ∨ l.getD (m - 1) 0 ≠ 0) : l.take m = limbs (val l) := by
 have hc : canon (l.take m) := by
  refine canon_of_last (okL_take h m) fun hn => ?_
  rcases hl with rfl | hl
  · simp at hn
  · obtain ⟨j, rfl⟩ : ∃ j, m = j + 1 := ⟨m - 1, by rcases m with _ | m; simp at hn; omega⟩
    have e := take_succ_getD (l := l) (n := j) (by omega)
    simp only [e, List.getLast_concat]
    simpa using hl
 rw [← hv]
 exact hc.symm
theorem trim_step {l : List Int} {m : Nat} (hm : m + 1 ≤ l.length) (hv : val (l.take (m + 1)) = val l) (h0 : l.getD m 0 = 0) : val (l.take m) = val l := by
 rw [val_take_succ (by omega), h0] at hv
 simpa using hv
theorem canon_len {l : List Int} (h : canon l) {k : Nat} (hk : val l < 4294967296 ^ k) : l.length ≤ k := by
 rcases Nat.lt_or_ge k l.length with hlt | hge
 · exfalso
   have hn : l ≠ [] := by intro e; subst e; simp at hlt
   have hl := canon_last h hn
   have hok := canon_okL h
   obtain ⟨j, hj⟩ : ∃ j, l.length = j + 1 := ⟨l.length - 1, by omega⟩
   have e := val_take_succ (l := l) (n := j) (by omega)
   rw [show j + 1 = l.length by omega, List.take_length] at e
   have hg : l.getD j 0 = l.getLast hn := by
    rw [List.getLast_eq_getElem, List.getD_eq_getElem?_getD, List.getElem?_eq_getElem (show j < l.length by omega)]
    simp only [Option.getD_some]
    congr 1
    omega
   have hb := okL_getD hok j
   rw [hg] at hb
   have h1 : 1 ≤ (l.getD j 0).toNat := by rw [hg]; omega
   have h2 : 4294967296 ^ k ≤ 4294967296 ^ j := Nat.pow_le_pow_right (by omega) (by omega)
   have h3 : 4294967296 ^ j ≤ 4294967296 ^ j * (l.getD j 0).toNat := Nat.le_mul_of_pos_right _ h1
   omega
 · exact hge
theorem canon_ge {l : List Int} (h : canon l) (hn : l ≠ []) : 4294967296 ^ (l.length - 1) ≤ val l := by
 rcases Nat.lt_or_ge (val l) (4294967296 ^ (l.length - 1)) with hlt | hge
 · have := canon_len h hlt
   have := List.length_pos_iff.2 hn
   omega
 · exact hge
end Go.Proofs.YthigbklhngihkaaGreatDoor.P
namespace Go.Proofs.YthigbklhngihkaaGreatDoor.P
open Go.RowKit Go.Proofs.YthigbklhngihkaaGreatDoorW.PrintWords Go.Proofs.YthigbklhngihkaaGreatDoorW.PrintMore Go.Proofs.YthigbklhngihkaaGreatDoorW.PrintLast
theorem infoU : (Tryz.prog.info? 131).map (fun i => (i.zero, i.size, i.bytes)) = some (some (.int .u32 0), 1, 4) := by kernel_rfl
def nat_num_trim.f (l0 : List Int) : Option (List Int) := if okL l0 ∧ l0.length ≤ 1152921504606846976 then some (limbs (val l0)) else none
theorem rd_nat (l : List Int) (j : Nat) : rd l (j : Int) = l.getD j 0 := by unfold rd; rw [Int.toNat_natCast]
def lenOf : Value → Nat
 | .slice _ n _ => n
 | _ => 0
theorem wrap_in (x : Int) (h : -9223372036854775808 ≤ x ∧ x ≤ 9223372036854775807) : IntKind.i64.wrap x = x := by rw [i64_w]; unfold wrap64; omega
set_option maxHeartbeats 4000000 in
theorem trim_in (A : Option Addr) (c : Nat) (l : List Int) (w : World) (hC : Kd.C (Kd.int .u32) w A l.length l) (hc : l.length ≤ c) (hl : okL l) (hz : l.length ≤ 1152921504606846976) :
 Calls Tryz.prog 149 #[.slice A l.length c] w fun e w' => w' = w ∧ ∃ m, m ≤ l.length ∧ l.take m = limbs (val l) ∧ ((m = 0 ∧ e = .returned (.slice none 0 0)) ∨ (0 < m ∧ e = .returned (.slice A m c))) := by
 obtain ⟨i0, hi, _, _, _⟩ := info_parts infoU
 have HC := Lib.hid hC
 have HL := Lib.hid hl
 clear hC hl
 go_enter Tryz.func149, Tryz.ntmps149
 go_wp2
 go_loopw [0] (fun i wr => ∃ m : Nat, m ≤ l.length ∧ i = .slice A m c ∧ Hid (val (l.take m) = val l) ∧ wr = w) (fun i _ => lenOf i)
 case atStart => exact ⟨l.length, Nat.le_refl _, rfl, Lib.hid (by rw [List.take_length]), rfl⟩
 case round =>
  obtain ⟨m, hm, rfl, hv, rfl⟩ := hrel
  rcases m with _ | j
  · go_wp2
    go_ret
    exact ⟨rfl, 0, by omega, trim_done HL.out (by omega) hv.out (.inl rfl), .inl ⟨rfl, rfl⟩⟩
  · obtain ⟨ad, rfl, hx⟩ := Kd.at_int HC.out (j : Int) (by omega) (by omega)
    rw [Int.toNat_natCast] at hx
    have hw : IntKind.i64.wrap (((j + 1 : Nat) : Int) - 1) = (j : Int) := by rw [wrap_in _ (by omega)]; omega
    have hcut := cut_to (P := Tryz.prog) 171 131 .i64 Tryz.underlying171 hi (some ad) (j + 1) c (j : Int) (by omega) (by omega) (by omega) wr
    by_cases h0 : rd l (j : Int) = 0
    · have hv2 := trim_step (by omega) hv.out (by rw [← rd_nat]; exact h0)
      go_wp2
      exact ⟨⟨j, by omega, rfl, Lib.hid hv2, trivial⟩, by simp [lenOf]⟩
    · go_wp2
      go_ret
      exact ⟨rfl, j + 1, hm, trim_done HL.out hm hv.out (.inr (by rw [← rd_nat]; exact h0)), .inr ⟨by omega, rfl⟩⟩
def trimV (A : Option Addr) (c : Nat) (l : List Int) : Value := if (limbs (val l)).length = 0 then .slice none 0 0 else .slice A (limbs (val l)).length c
theorem trim_det (A : Option Addr) (c : Nat) (l : List Int) (w : World) (hC : Kd.C (Kd.int .u32) w A l.length l) (hc : l.length ≤ c) (hl : okL l) (hz : l.length ≤ 1152921504606846976) :
 Calls Tryz.prog 149 #[.slice A l.length c] w fun e w' => e = .returned (trimV A c l) ∧ w' = w := by
 refine (trim_in A c l w hC hc hl hz).mono ?_
 rintro e w' ⟨hw, m, hm, hr, he⟩
 refine ⟨?_, hw⟩
 have hlen : (limbs (val l)).length = m := by rw [← hr, List.length_take]; omega
 unfold trimV
 rw [hlen]
 rcases he with ⟨rfl, rfl⟩ | ⟨h, rfl⟩
 · rw [if_pos rfl]
 · rw [if_neg (by omega)]
theorem trimV_R {A : Option Addr} {c base : Nat} {l : List Int} {w : World} {ok : Nat → Prop} (h : Kd.R (Kd.int .u32) 131 w base ok (.slice A l.length c) l) (hl : okL l) (hlen : (limbs (val l)).length ≤ l.length) (ht : l.take (limbs (val l)).length = limbs (val l)) : Kd.R (Kd.int .u32) 131 w base ok (trimV A c l) (limbs (val l)) := by
 unfold trimV
 split
 · rename_i h0
   rw [List.eq_nil_of_length_eq_zero h0]
   exact Kd.R_nil _ _ _ _ _
 · have := Kd.R_take h hlen
   rwa [ht] at this
theorem limbs_take : ∀ {l : List Int}, okL l → (limbs (val l)).length ≤ l.length ∧ l.take (limbs (val l)).length = limbs (val l) := by
 intro l
 have key : ∀ (k : Nat) (l : List Int), l.length = k → okL l → (limbs (val l)).length ≤ l.length ∧ l.take (limbs (val l)).length = limbs (val l) := by
  intro k
  induction k with
  | zero =>
   intro l hk hl
   have : l = [] := List.eq_nil_of_length_eq_zero hk
   subst this
   rw [val, limbs_zero]
   exact ⟨Nat.le_refl _, rfl⟩
  | succ k ih =>
   intro l hk hl
   by_cases h0 : l.getD k 0 = 0
   · have hv : val (l.take k) = val l := trim_step (l := l) (m := k) (by omega) (by rw [← hk, List.take_length]) h0
     obtain ⟨i1, i2⟩ := ih (l.take k) (by rw [List.length_take]; omega) (okL_take hl k)
     rw [hv] at i1 i2
     rw [List.length_take] at i1
     refine ⟨by omega, ?_⟩
     rw [List.take_take, Nat.min_eq_left (by omega)] at i2
     exact i2
   · have := trim_done hl (m := k + 1) (by omega) (by rw [← hk, List.take_length]) (.inr (by simpa using h0))
     rw [← hk, List.take_length] at this
     rw [← this]
     exact ⟨Nat.le_refl _, List.take_length⟩
 exact key l.length l rfl
theorem nat_num_trim.calls (P0_ : Nat → Prop) (u9000_ : Value) (l0 : List Int) (r : List Int) (w0 w : World) (hB : Below w0.heap.size w0 w) (ho0 : Kd.R (Kd.int .u32) 131 w w0.heap.size P0_ u9000_ l0) (h : nat_num_trim.f l0 = some r) :
 Calls Tryz.prog 149 #[u9000_] w fun e w' => ∃ v0_ : Value, e = .returned (v0_) ∧ Kd.R (Kd.int .u32) 131 w' w0.heap.size (fun k_ => (P0_ k_ ∨ w.heap.size ≤ k_)) v0_ r ∧ Below w0.heap.size w0 w' ∧ Kept w w' (fun k_ => P0_ k_) := by
 unfold nat_num_trim.f at h
 by_cases hc : okL l0 ∧ l0.length ≤ 1152921504606846976
 · rw [if_pos hc] at h
   obtain rfl := Option.some.inj h
   obtain ⟨A, c, rfl⟩ := Kd.R_slice ho0
   refine (trim_in A c l0 w (Kd.R_reads' ho0).2.2 (Kd.R_reads' ho0).2.1 hc.1 hc.2).mono ?_
   rintro e w' ⟨rfl, m, hm, hr, he⟩
   rcases he with ⟨rfl, rfl⟩ | ⟨_, rfl⟩
   · refine ⟨_, rfl, ?_, hB, Kept.refl _ _⟩
     rw [← hr, List.take_zero]
     exact Kd.R_nil _ _ _ _ _
   · refine ⟨_, rfl, ?_, hB, Kept.refl _ _⟩
     rw [← hr]
     exact Kd.R_mono (Kd.R_take ho0 hm) (fun k hk => .inl hk)
 · rw [if_neg hc] at h; cases h
end Go.Proofs.YthigbklhngihkaaGreatDoor.P
namespace Go.Proofs.YthigbklhngihkaaGreatDoor.P
open Go.RowKit Go.Proofs.YthigbklhngihkaaGreatDoorW.PrintWords Go.Proofs.YthigbklhngihkaaGreatDoorW.PrintMore Go.Proofs.YthigbklhngihkaaGreatDoorW.PrintLast
def bits_Add32.f (x y b : Int) : Option (Int × Int) :=
 if (0 ≤ x ∧ x < 4294967296) ∧ (0 ≤ y ∧ y < 4294967296) ∧ (0 ≤ b ∧ b ≤ 1) then some ((x + y + b) % 4294967296, (x + y + b) / 4294967296) else none
set_option maxHeartbeats 4000000 in
theorem bits_Add32.calls (x y b : Int) (r1 r2 : Int) (w : World) (h : bits_Add32.f x y b = some (r1, r2)) :
 Calls Tryz.prog 269 #[.int .u32 x, .int .u32 y, .int .u32 b] w fun e w' => e = .returned (.tuple #[.int .u32 r1, .int .u32 r2]) ∧ Drawn0 w w' := by
 unfold bits_Add32.f at h
 by_cases hc : (0 ≤ x ∧ x < 4294967296) ∧ (0 ≤ y ∧ y < 4294967296) ∧ (0 ≤ b ∧ b ≤ 1)
 case neg => rw [if_neg hc] at h; cases h
 rw [if_pos hc] at h
 obtain ⟨hx, hy, hb⟩ := hc
 simp only [Option.some.injEq, Prod.mk.injEq] at h
 obtain ⟨rfl, rfl⟩ := h
 go_enter Tryz.func269, Tryz.ntmps269
 go_wp2
 go_ret2
 refine ⟨?_, Drawn0.refl _⟩
 simp
def cmpI (x y : Int) : Int := if x < y then -1 else if x > y then 1 else 0
theorem cmpI_cases (x y : Int) : (x < y ∧ cmpI x y = -1) ∨ (¬ x < y ∧ x > y ∧ cmpI x y = 1) ∨ (¬ x < y ∧ ¬ x > y ∧ cmpI x y = 0) := by
 unfold cmpI
 by_cases h1 : x < y
 · rw [if_pos h1]; omega
 · rw [if_neg h1]
   by_cases h2 : x > y
   · rw [if_pos h2]; omega
   · rw [if_neg h2]; omega
def cmp_Compare_int.f (x y : Int) : Option Int := some (cmpI x y)
def cmp_Compare_uint32.f (x y : Int) : Option Int := some (cmpI x y)
theorem nan_int (x : Int) (w : World) : Calls Tryz.prog 141 #[.int .i64 x] w fun e w' => e = .returned (.bool false) ∧ w' = w := by
 go_enter Tryz.func141, Tryz.ntmps141
 go_wp2
 go_ret
 exact ⟨by simp, rfl⟩
theorem nan_u32 (x : Int) (w : World) : Calls Tryz.prog 299 #[.int .u32 x] w fun e w' => e = .returned (.bool false) ∧ w' = w := by
 go_enter Tryz.func299, Tryz.ntmps299
 go_wp2
 go_ret
 exact ⟨by simp, rfl⟩
set_option maxHeartbeats 4000000 in
theorem cmp_int (x y : Int) (w : World) : Calls Tryz.prog 98 #[.int .i64 x, .int .i64 y] w fun e w' => e = .returned (.int .i64 (cmpI x y)) ∧ w' = w := by
 have h3 := cmpI_cases x y
 go_enter Tryz.func98, Tryz.ntmps98
 rcases h3 with ⟨h1, h2⟩ | ⟨h1, h3, h2⟩ | ⟨h1, h3, h2⟩
 all_goals
  have H := Lib.hid h2
  clear h2
  go_wp2_with (first | (go_at_call 141; refine (nan_int _ _).mono ?_; rintro e w' ⟨rfl, rfl⟩))
  go_ret
  exact ⟨by simp [H.out], rfl⟩
set_option maxHeartbeats 4000000 in
theorem cmp_u32 (x y : Int) (w : World) : Calls Tryz.prog 271 #[.int .u32 x, .int .u32 y] w fun e w' => e = .returned (.int .i64 (cmpI x y)) ∧ w' = w := by
 have h3 := cmpI_cases x y
 go_enter Tryz.func271, Tryz.ntmps271
 rcases h3 with ⟨h1, h2⟩ | ⟨h1, h3, h2⟩ | ⟨h1, h3, h2⟩
 all_goals
  have H := Lib.hid h2
  clear h2
  go_wp2_with (first | (go_at_call 299; refine (nan_u32 _ _).mono ?_; rintro e w' ⟨rfl, rfl⟩))
  go_ret
  exact ⟨by simp [H.out], rfl⟩
theorem cmp_Compare_int.calls (a0 a1 r : Int) (w : World) (h : cmp_Compare_int.f a0 a1 = some r) : Calls Tryz.prog 98 #[.int .i64 a0, .int .i64 a1] w fun e w' => e = .returned (.int .i64 r) ∧ Drawn0 w w' := by
 obtain rfl := Option.some.inj h
 exact (cmp_int a0 a1 w).mono fun e w' h => ⟨h.1, h.2 ▸ Drawn0.refl _⟩
theorem cmp_Compare_uint32.calls (a0 a1 r : Int) (w : World) (h : cmp_Compare_uint32.f a0 a1 = some r) : Calls Tryz.prog 271 #[.int .u32 a0, .int .u32 a1] w fun e w' => e = .returned (.int .i64 r) ∧ Drawn0 w w' := by
 obtain rfl := Option.some.inj h
 exact (cmp_u32 a0 a1 w).mono fun e w' h => ⟨h.1, h.2 ▸ Drawn0.refl _⟩
end Go.Proofs.YthigbklhngihkaaGreatDoor.P
namespace Go.Proofs.YthigbklhngihkaaGreatDoor.P
open Go.RowKit Go.Proofs.YthigbklhngihkaaGreatDoorW.PrintWords Go.Proofs.YthigbklhngihkaaGreatDoorW.PrintMore Go.Proofs.YthigbklhngihkaaGreatDoorW.PrintLast
def bits_Sub32.f (x y b : Int) : Option (Int × Int) :=
 if (0 ≤ x ∧ x < 4294967296) ∧ (0 ≤ y ∧ y < 4294967296) ∧ (0 ≤ b ∧ b ≤ 1) then some ((x - y - b) % 4294967296, if x < y + b then 1 else 0) else none
theorem borrow_nat (x y d : Nat) : (((4294967295 ^^^ x) &&& y) ||| ((4294967295 ^^^ (x ^^^ y)) &&& d)) / 2147483648 = (((1 ^^^ x / 2147483648) &&& (y / 2147483648)) ||| ((1 ^^^ (x / 2147483648 ^^^ y / 2147483648)) &&& (d / 2147483648))) := by
 have e : ∀ n : Nat, n / 2147483648 = n >>> 31 := fun n => (Nat.shiftRight_eq_div_pow n 31).symm
 simp only [e, Nat.shiftRight_or_distrib, Nat.shiftRight_and_distrib, Nat.shiftRight_xor_distrib]
 rfl
theorem borrow_eq (x y b : Int) (hx : 0 ≤ x ∧ x < 4294967296) (hy : 0 ≤ y ∧ y < 4294967296) (hb : 0 ≤ b ∧ b ≤ 1) :
 bits .or .u32 (bits .and .u32 (bits .xor .u32 IntKind.u32.max x) y) (bits .and .u32 (bits .xor .u32 IntKind.u32.max (bits .xor .u32 x y)) ((x - y - b) % 4294967296)) / 2147483648 = if x < y + b then 1 else 0 := by
 have hm : IntKind.u32.max = 4294967295 := by decide
 obtain ⟨d, hd⟩ : ∃ d : Int, (x - y - b) % 4294967296 = d := ⟨_, rfl⟩
 have hd0 : 0 ≤ d ∧ d < 4294967296 := by omega
 have e0 : ∀ a b : Nat, a < 4294967296 → b < 4294967296 → a ^^^ b < 4294967296 := fun a b ha hb => Nat.xor_lt_two_pow (n := 32) (by omega) (by omega)
 have e1 : ∀ a b : Nat, a < 4294967296 → a &&& b < 4294967296 := fun a b ha => Nat.lt_of_le_of_lt Nat.and_le_left ha
 rw [hd, hm, u32_xor 4294967295 x (by omega) (by omega) hx.1 hx.2, u32_xor x y hx.1 hx.2 hy.1 hy.2]
 have x1 := e0 (4294967295 : Int).toNat x.toNat (by decide) (by omega)
 have x2 := e0 x.toNat y.toNat (by omega) (by omega)
 have x3 := e0 (4294967295 : Int).toNat (x.toNat ^^^ y.toNat) (by decide) x2
 rw [u32_xor 4294967295 _ (by omega) (by omega) (by omega) (by omega), u32_and _ y (by omega) (by omega) hy.1 hy.2]
 simp only [Int.toNat_natCast]
 rw [u32_and _ d (by omega) (by omega) hd0.1 hd0.2]
 simp only [Int.toNat_natCast]
 have x4 := e1 ((4294967295 : Int).toNat ^^^ x.toNat) y.toNat x1
 have x5 := e1 ((4294967295 : Int).toNat ^^^ (x.toNat ^^^ y.toNat)) d.toNat x3
 rw [u32_or _ _ (by omega) (by omega) (by omega) (by omega)]
 simp only [Int.toNat_natCast]
 rw [show (2147483648 : Int) = ((2147483648 : Nat) : Int) from rfl, ← Int.natCast_ediv, show (4294967295 : Int).toNat = 4294967295 from rfl, borrow_nat]
 have hx3 : x.toNat / 2147483648 = 0 ∨ x.toNat / 2147483648 = 1 := by omega
 have hy3 : y.toNat / 2147483648 = 0 ∨ y.toNat / 2147483648 = 1 := by omega
 have hd3 : d.toNat / 2147483648 = 0 ∨ d.toNat / 2147483648 = 1 := by omega
 rcases hx3 with hx3 | hx3 <;> rcases hy3 with hy3 | hy3 <;> rcases hd3 with hd3 | hd3 <;> rw [hx3, hy3, hd3]
 all_goals split
 all_goals first | rfl | (exfalso; omega)
set_option maxHeartbeats 4000000 in
theorem bits_Sub32.calls (x y b : Int) (r1 r2 : Int) (w : World) (h : bits_Sub32.f x y b = some (r1, r2)) :
 Calls Tryz.prog 272 #[.int .u32 x, .int .u32 y, .int .u32 b] w fun e w' => e = .returned (.tuple #[.int .u32 r1, .int .u32 r2]) ∧ Drawn0 w w' := by
 unfold bits_Sub32.f at h
 by_cases hc : (0 ≤ x ∧ x < 4294967296) ∧ (0 ≤ y ∧ y < 4294967296) ∧ (0 ≤ b ∧ b ≤ 1)
 case neg => rw [if_neg hc] at h; cases h
 rw [if_pos hc] at h
 obtain ⟨hx, hy, hb⟩ := hc
 simp only [Option.some.injEq, Prod.mk.injEq] at h
 obtain ⟨h1, h2⟩ := h
 have e := Lib.hid ((borrow_eq x y b hx hy hb).trans h2)
 have H1 := Lib.hid h1
 clear h1 h2
 clear hx hy hb
 go_enter Tryz.func272, Tryz.ntmps272
 go_wp2
 go_ret2
 refine ⟨?_, Drawn0.refl _⟩
 simp only [e.out]
 simp only [H1.out]
 rfl
end Go.Proofs.YthigbklhngihkaaGreatDoor.P
namespace Go.Proofs.YthigbklhngihkaaGreatDoor.P
open Go.RowKit Go.Proofs.YthigbklhngihkaaGreatDoorW.PrintWords Go.Proofs.YthigbklhngihkaaGreatDoorW.PrintMore Go.Proofs.YthigbklhngihkaaGreatDoorW.PrintLast
def len2 (n : Nat) : Nat := if n = 0 then 0 else Nat.log2 n + 1
theorem len2_shift (n k : Nat) (h : 2 ^ k ≤ n) : len2 n = k + len2 (n / 2 ^ k) := by
 have hp : 0 < 2 ^ k := Nat.two_pow_pos k
 have h0 : n ≠ 0 := by omega
 have h1 : n / 2 ^ k ≠ 0 := by
  have := Nat.div_pos h hp
  omega
 unfold len2
 rw [if_neg h0, if_neg h1]
 have e : n.log2 = k + (n / 2 ^ k).log2 := by
  rw [Nat.log2_eq_iff h0]
  have a1 := Nat.log2_self_le h1
  have a2 := @Nat.lt_log2_self (n / 2 ^ k)
  refine ⟨?_, ?_⟩
  · rw [Nat.pow_add, Nat.mul_comm]
    exact (Nat.le_div_iff_mul_le hp).1 a1
  · rw [Nat.add_assoc, Nat.pow_add, Nat.mul_comm]
    exact (Nat.div_lt_iff_lt_mul hp).1 a2
 omega
def T8 : ByteArray := ⟨#[0, 1, 2, 2, 3, 3, 3, 3, 4, 4, 4, 4, 4, 4, 4, 4, 5, 5, 5, 5, 5, 5, 5, 5, 5, 5, 5, 5, 5, 5, 5, 5, 6, 6, 6, 6, 6, 6, 6, 6, 6, 6, 6, 6, 6, 6, 6, 6, 6, 6, 6, 6, 6, 6, 6, 6, 6, 6, 6, 6, 6, 6, 6, 6, 7, 7, 7, 7, 7, 7, 7, 7, 7, 7, 7, 7, 7, 7, 7, 7, 7, 7, 7, 7, 7, 7, 7, 7, 7, 7, 7, 7, 7, 7, 7, 7, 7, 7, 7, 7, 7, 7, 7, 7, 7, 7, 7, 7, 7, 7, 7, 7, 7, 7, 7, 7, 7, 7, 7, 7, 7, 7, 7, 7, 7, 7, 7, 7, 8, 8, 8, 8, 8, 8, 8, 8, 8, 8, 8, 8, 8, 8, 8, 8, 8, 8, 8, 8, 8, 8, 8, 8, 8, 8, 8, 8, 8, 8, 8, 8, 8, 8, 8, 8, 8, 8, 8, 8, 8, 8, 8, 8, 8, 8, 8, 8, 8, 8, 8, 8, 8, 8, 8, 8, 8, 8, 8, 8, 8, 8, 8, 8, 8, 8, 8, 8, 8, 8, 8, 8, 8, 8, 8, 8, 8, 8, 8, 8, 8, 8, 8, 8, 8, 8, 8, 8, 8, 8, 8, 8, 8, 8, 8, 8, 8, 8, 8, 8, 8, 8, 8, 8, 8, 8, 8, 8, 8, 8, 8, 8, 8, 8, 8, 8, 8, 8, 8, 8, 8, 8, 8, 8, 8, 8, 8, 8]⟩
theorem T8_size : T8.size = 256 := by decide +kernel
theorem T8_all : ∀ v : Fin 256, (T8.data.getD v.1 0).toNat = len2 v.1 := by decide +kernel
theorem ba_get (s : ByteArray) (v : Nat) (h : v < s.size) : s[v]'h = s.data.getD v 0 := by
 show s.data[v] = s.data.getD v 0
 rw [Array.getD_eq_getD_getElem?, Array.getElem?_eq_getElem h]
 rfl
theorem T8_at (v : Nat) (h : v < T8.size) : (T8[v]'h).toNat = len2 v := by
 have h2 : v < 256 := by rw [T8_size] at h; exact h
 have := T8_all ⟨v, h2⟩
 simp only at this
 rw [← this, ba_get]
theorem len_fin (c ix : Int) (h0 : 0 ≤ ix) (h1 : ix < 256) (hT : ix.toNat < T8.size) (hc : 0 ≤ c ∧ c ≤ 24) (r : Int) (hr : c + (len2 ix.toNat : Int) = r) : wrap64 (c + wrap64 (((T8[ix.toNat]'hT).toNat : Nat) : Int)) = r := by
 have hl : len2 ix.toNat ≤ 8 := by
  unfold len2
  split
  · omega
  · rename_i hn
    have := (Nat.log2_lt hn).2 (show ix.toNat < 2 ^ 8 by omega)
    omega
 rw [T8_at]
 have e1 : wrap64 ((len2 ix.toNat : Nat) : Int) = (len2 ix.toNat : Int) := by unfold wrap64; omega
 rw [e1, ← hr]
 unfold wrap64
 omega
def bits_Len32.f (a0 : Int) : Option Int := if 0 ≤ a0 ∧ a0 < 4294967296 then some (len2 a0.toNat) else none
set_option maxHeartbeats 4000000 in
theorem bits_Len32.calls (a0 : Int) (r : Int) (w : World) (h : bits_Len32.f a0 = some r) :
 Calls Tryz.prog 193 #[.int .u32 a0] w fun e w' => e = .returned (.int .i64 r) ∧ Drawn0 w w' := by
 unfold bits_Len32.f at h
 by_cases hc : 0 ≤ a0 ∧ a0 < 4294967296
 case neg => rw [if_neg hc] at h; cases h
 rw [if_pos hc] at h
 have H := Lib.hid (Option.some.inj h)
 clear h
 go_enter Tryz.func193, Tryz.ntmps193
 by_cases c1 : a0 ≥ 65536
 · by_cases c2 : a0 / 65536 ≥ 256
   · go_wp2
     go_ret
     refine ⟨congrArg (fun z => Ending.returned (.int .i64 z)) ?_, Drawn0.refl _⟩
     refine (len_fin 24 (a0 / 65536 / 256) (by omega) (by omega) (by rw [T8_size]; omega) (by omega) r ?_)
     rw [← H.out]
     have hs := len2_shift a0.toNat 24 (by omega)
     have e : (a0 / 65536 / 256).toNat = a0.toNat / 2 ^ 24 := by omega
     rw [e]
     omega
   · go_wp2
     go_ret
     refine ⟨congrArg (fun z => Ending.returned (.int .i64 z)) ?_, Drawn0.refl _⟩
     refine (len_fin 16 (a0 / 65536) (by omega) (by omega) (by rw [T8_size]; omega) (by omega) r ?_)
     rw [← H.out]
     have hs := len2_shift a0.toNat 16 (by omega)
     have e : (a0 / 65536).toNat = a0.toNat / 2 ^ 16 := by omega
     rw [e]
     omega
 · by_cases c2 : a0 ≥ 256
   · go_wp2
     go_ret
     refine ⟨congrArg (fun z => Ending.returned (.int .i64 z)) ?_, Drawn0.refl _⟩
     refine (len_fin 8 (a0 / 256) (by omega) (by omega) (by rw [T8_size]; omega) (by omega) r ?_)
     rw [← H.out]
     have hs := len2_shift a0.toNat 8 (by omega)
     have e : (a0 / 256).toNat = a0.toNat / 2 ^ 8 := by omega
     rw [e]
     omega
   · go_wp2
     go_ret
     refine ⟨congrArg (fun z => Ending.returned (.int .i64 z)) ?_, Drawn0.refl _⟩
     have hr : (0 : Int) + (len2 a0.toNat : Int) = r := by rw [Int.zero_add]; exact H.out
     have hz := len_fin 0 a0 (by omega) (by omega) (by rw [T8_size]; omega) (by omega) r hr
     rw [Int.zero_add] at hz
     exact hz
theorem getLast_getD {l : List Int} (h : l ≠ []) : l.getLast h = l.getD (l.length - 1) 0 := by
 have := List.length_pos_iff.2 h
 rw [List.getLast_eq_getElem, List.getD_eq_getElem?_getD, List.getElem?_eq_getElem (by omega)]
 rfl
theorem limbs_len {n k : Nat} (h : n < 4294967296 ^ k) : (limbs n).length ≤ k := canon_len (canon_limbs n) (by rw [val_limbs]; exact h)
end Go.Proofs.YthigbklhngihkaaGreatDoor.P
namespace Go.Proofs.YthigbklhngihkaaGreatDoor.P
open Go.RowKit Go.Proofs.YthigbklhngihkaaGreatDoorW.PrintWords Go.Proofs.YthigbklhngihkaaGreatDoorW.PrintMore Go.Proofs.YthigbklhngihkaaGreatDoorW.PrintLast
def orL : List Int → Int
 | [] => 0
 | x :: l => if x = 0 then orL l else x
theorem orL_skip : ∀ (l : List Int) (k : Nat), (∀ i, i < k → rd l (i : Int) = 0) → orL (l.drop k) = orL l
 | _, 0, _ => rfl
 | [], k + 1, _ => by simp
 | x :: l, k + 1, h => by
  have h0 := h 0 (by omega)
  have : x = 0 := by simpa [rd] using h0
  subst this
  rw [List.drop_succ_cons, orL_skip l k fun i hi => by have := h (i + 1) (by omega); simpa [rd] using this]
  simp [orL]
set_option maxHeartbeats 1000000 in
theorem or_err (A : Option Addr) (c : Nat) (l : List Int) (w : World) (hC : Kd.C (Kd.int .i64) w A l.length l) :
 Calls Tryz.prog 61 #[.slice A l.length c] w fun e w' => e = .returned (.int .i64 (orL l)) ∧ w = w' := by
 have HC := Lib.hid hC
 have hlen := hC.2.1
 clear hC
 go_enter Tryz.func61, Tryz.ntmps61
 go_wp2
 go_loopw [8] (fun vi wr => ∃ k : Nat, k ≤ l.length ∧ vi = .int .i64 k ∧ Hid (∀ i, i < k → rd l (i : Int) = 0) ∧ wr = w) (fun vi _ => l.length - (intOf vi).toNat)
 case atStart => exact ⟨0, Nat.zero_le _, rfl, Lib.hid (fun i hi => by omega), rfl⟩
 case round =>
  obtain ⟨k, hk, rfl, hz, hw⟩ := hrel
  obtain rfl := hw.symm
  clear hw
  by_cases hlt : k < l.length
  · obtain ⟨ad, rfl, hx⟩ := Kd.at_int HC.out (k : Int) (by omega) (by omega)
    rw [Int.toNat_natCast] at hx
    have hw : wrap64 ((k : Int) + 1) = ((k + 1 : Nat) : Int) := by unfold wrap64; omega
    by_cases h0 : rd l (k : Int) = 0
    · have hn : (rd l (k : Int) != 0) = false := by simp [h0]
      have H0 := Lib.hid h0
      clear h0
      go_wp2
      go_roundw
      case rel => exact ⟨k + 1, by omega, by go_num, Lib.hid (fun i hi => by rcases Nat.lt_or_ge i k with h | h; exact hz.out i h; rw [show i = k by omega]; exact H0.out), trivial⟩
      case measure => simp [intOf]; omega
    · have hn : (rd l (k : Int) != 0) = true := by simp [h0]
      have hr : Hid (orL l = rd l (k : Int)) := Lib.hid (by
       rw [← orL_skip l k hz.out, List.drop_eq_getElem_cons hlt, orL]
       have e : l[k] = rd l (k : Int) := by simp [rd, hlt]
       rw [e, if_neg h0])
      clear h0
      go_wp2
      go_ret
      exact ⟨by rw [hr.out]; rfl, rfl⟩
  · obtain rfl : k = l.length := by omega
    have hr : Hid (orL l = 0) := Lib.hid (by rw [← orL_skip l _ hz.out, List.drop_length]; rfl)
    go_wp2
    go_ret
    exact ⟨by rw [hr.out]; rfl, rfl⟩
theorem two_C (w : World) (a b : Int) (t : Nat) : Kd.C (Kd.int .i64) (w.alloc (.cells #[.int .i64 a, .int .i64 b] t)) (some ⟨w.heap.size, 0, none⟩) [a, b].length [a, b] :=
 ⟨rfl, by simp, fun _ => ⟨_, rfl, fun j p hj => ⟨[.int .i64 p], rfl, rfl, fun i u hu => by
  cases i with
  | succ i => simp at hu
  | zero =>
   simp at hu
   subst hu
   rcases j with _ | _ | j
   · simp at hj; subst hj; rw [add_plain]; exact (blk_cell (blk_new w _) _).trans rfl
   · simp at hj; subst hj; rw [add_plain]; exact (blk_cell (blk_new w _) _).trans rfl
   · simp at hj⟩⟩⟩
theorem or_err2 (a b : Int) (w : World) (t : Nat) : Calls Tryz.prog 61 #[.slice (some ⟨w.heap.size, 0, none⟩) 2 2] (w.alloc (.cells #[.int .i64 a, .int .i64 b] t)) fun e w' => e = .returned (.int .i64 (orL [a, b])) ∧ w.alloc (.cells #[.int .i64 a, .int .i64 b] t) = w' :=
 or_err _ 2 [a, b] _ (two_C w a b t)
abbrev V := S28
theorem V.ind {P : V → Prop} (h : ∀ v : V, (∀ y ∈ v.f3, P y) → P v) : ∀ v, P v := by
 have key : ∀ (n : Nat) (v : V), SizeOf.sizeOf v = n → P v := by
  intro n
  induction n using Nat.strongRecOn with
  | _ n ih =>
   intro v hv
   refine h v fun y hy => ih (SizeOf.sizeOf y) ?_ y rfl
   have := List.sizeOf_lt_of_mem hy
   cases v
   simp only [S28.mk.sizeOf_spec] at hv
   simp only at this
   omega
 exact fun v => key _ v rfl
inductive OkV : V → Prop
 | mk (x : V) (h0 : (Lit.int .i64 x.f0).wf = true) (h1 : ∀ n ∈ x.f1.f1, (Lit.int .u32 n).wf = true) (h2 : (Lit.int .i64 x.f1.f2).wf = true) (h3 : x.f2.size ≤ 1073741824) (h4 : ∀ k ∈ x.f4, k.size ≤ 1073741824) (l1 : x.f1.f1.length ≤ 1073741824) (l3 : x.f3.length ≤ 1073741824) (l4 : x.f4.length ≤ 1073741824) (hk : ∀ y ∈ x.f3, OkV y) : OkV x
theorem OkV.kids {x : V} (h : OkV x) : ∀ y ∈ x.f3, OkV y := by cases h; assumption
theorem OkV.text {x : V} (h : OkV x) : x.f2.size ≤ 1073741824 := by cases h; assumption
theorem OkV.keys {x : V} (h : OkV x) : ∀ k ∈ x.f4, k.size ≤ 1073741824 := by cases h; assumption
theorem OkV.len1 {x : V} (h : OkV x) : x.f1.f1.length ≤ 1073741824 := by cases h; assumption
theorem OkV.len3 {x : V} (h : OkV x) : x.f3.length ≤ 1073741824 := by cases h; assumption
theorem OkV.len4 {x : V} (h : OkV x) : x.f4.length ≤ 1073741824 := by cases h; assumption
theorem OkV.rd {x : V} (h : OkV x) {k : Nat} (hk : k < x.f3.length) : OkV (rd_T28 x.f3 (k : Int)) := h.kids _ (by unfold rd_T28; simp [hk])
theorem list7 {α : Type} {l : List α} (h : l.length = 7) : ∃ c0 c1 c2 c3 c4 c5 c6, l = [c0, c1, c2, c3, c4, c5, c6] := by
 obtain ⟨c0, l, rfl⟩ := List.exists_cons_of_length_eq_add_one (show l.length = 6 + 1 from h)
 obtain ⟨c1, l, rfl⟩ := List.exists_cons_of_length_eq_add_one (show l.length = 5 + 1 by simpa using h)
 obtain ⟨c2, l, rfl⟩ := List.exists_cons_of_length_eq_add_one (show l.length = 4 + 1 by simpa using h)
 obtain ⟨c3, l, rfl⟩ := List.exists_cons_of_length_eq_add_one (show l.length = 3 + 1 by simpa using h)
 obtain ⟨c4, l, rfl⟩ := List.exists_cons_of_length_eq_add_one (show l.length = 2 + 1 by simpa using h)
 obtain ⟨c5, l, rfl⟩ := List.exists_cons_of_length_eq_add_one (show l.length = 1 + 1 by simpa using h)
 obtain ⟨c6, l, rfl⟩ := List.exists_cons_of_length_eq_add_one (show l.length = 0 + 1 by simpa using h)
 have : l = [] := List.eq_nil_of_length_eq_zero (by simpa using h)
 subst this
 exact ⟨c0, c1, c2, c3, c4, c5, c6, rfl⟩
def vdeep : Nat → V → Nat
 | 0, _ => 0
 | n + 1, v => if v.f0 = 5 ∨ v.f0 = 6 then (v.f3.map (vdeep n)).foldl max 0 + 1 else 0
theorem foldl_max_le {l : List Nat} {n b : Nat} (h : ∀ x ∈ l, x ≤ n) (hb : b ≤ n) : l.foldl max b ≤ n := by
 induction l generalizing b with
 | nil => exact hb
 | cons x l ih => exact ih (fun y hy => h y (List.mem_cons_of_mem _ hy)) (by have := h x List.mem_cons_self; omega)
theorem vdeep_le : ∀ n v, vdeep n v ≤ n
 | 0, _ => Nat.le_refl _
 | n + 1, v => by
  unfold vdeep
  by_cases h : v.f0 = 5 ∨ v.f0 = 6
  · rw [if_pos h]
    have : (v.f3.map (vdeep n)).foldl max 0 ≤ n := foldl_max_le (fun x hx => by
     obtain ⟨y, _, rfl⟩ := List.mem_map.1 hx
     exact vdeep_le n y) (Nat.zero_le _)
    omega
  · rw [if_neg h]; omega
def vmx (n : Nat) (l : List V) (k : Nat) : Nat := ((l.take k).map (vdeep n)).foldl max 0
theorem vmx_succ (n : Nat) (l : List V) (k : Nat) (h : k < l.length) : vmx n l (k + 1) = max (vmx n l k) (vdeep n (rd_T28 l (k : Int))) := by
 unfold vmx rd_T28
 rw [List.take_succ_eq_append_getElem h, List.map_append, List.foldl_append]
 simp [List.getD_eq_getElem?_getD, h]
theorem vmx_le (n : Nat) (l : List V) (k : Nat) : vmx n l k ≤ n := foldl_max_le (fun x hx => by
 obtain ⟨y, _, rfl⟩ := List.mem_map.1 hx
 exact vdeep_le n y) (Nat.zero_le _)
theorem below_box {B : Nat} {w wr w2 : World} {o : Obj} (h : Below B w wr) (hB : B ≤ wr.heap.size) (h2 : Below (wr.alloc o).heap.size (wr.alloc o) w2) : Below B w w2 := (h.alloc hB o).trans (h2.mono (by simp; omega))
set_option maxHeartbeats 1000000 in
theorem deep_any : ∀ (n : Nat), n ≤ 1000 → ∀ (x : V) (cs : List Value) (w : World), k28.K w x cs →
 Calls Tryz.prog 134 #[.agg cs.toArray, .int .i64 n] w fun e w' => e = .returned (.int .i64 (vdeep n x)) ∧ Below w.heap.size w w' := by
 intro n
 induction n with
 | zero =>
  intro _ x cs w hK
  obtain ⟨A2, c2, A5, c5, A6, c6, rfl, l2, g2, l5, g5, l6, g6⟩ := k28_open hK
  clear l2 g2 l5 g5 l6 g6 hK
  show Calls _ _ _ _ fun e w' => e = .returned (.int .i64 0) ∧ _
  by_cases h5 : x.f0 = 5
  · have h5b : (x.f0 != 5) = false := by simp [h5]
    go_enter Tryz.func134, Tryz.ntmps134
    go_wp2
    go_ret
    exact ⟨rfl, (Below.refl _ _).alloc (Nat.le_refl _) _⟩
  · have h5b : (x.f0 != 5) = true := by simpa using h5
    by_cases h6 : x.f0 = 6
    · have h6b : (x.f0 != 6) = false := by simp [h6]
      go_enter Tryz.func134, Tryz.ntmps134
      go_wp2
      go_ret
      exact ⟨rfl, (Below.refl _ _).alloc (Nat.le_refl _) _⟩
    · have h6b : (x.f0 != 6) = true := by simpa using h6
      go_enter Tryz.func134, Tryz.ntmps134
      go_wp2
      go_ret
      exact ⟨rfl, (Below.refl _ _).alloc (Nat.le_refl _) _⟩
 | succ n ih =>
  intro hn x cs w hK
  obtain ⟨A2, c2, A5, c5, A6, c6, rfl, l2, g2, l5, g5, l6, g6⟩ := k28_open hK
  have HC := Lib.hid g5
  have hlen := g5.2.1
  clear l2 g2 l5 g5 l6 g6 hK
  have IH := Lib.hid (ih (by omega))
  clear ih
  by_cases h56 : x.f0 = 5 ∨ x.f0 = 6
  · have hv : vdeep (n + 1) x = vmx n x.f3 x.f3.length + 1 := by unfold vdeep vmx; rw [if_pos h56, List.take_length]
    rw [hv]
    obtain ⟨m, hm⟩ : ∃ m : Int, m = ((n + 1 : Nat) : Int) := ⟨_, rfl⟩
    rw [← hm]
    have hp : (m == 0) = false := by simp; omega
    have hn1 : m - 1 = (n : Int) := by omega
    have hmb : 1 ≤ m ∧ m ≤ 1000 := by omega
    clear hm
    have hge : ∀ k, vmx n x.f3 k ≤ 1000 := fun k => Nat.le_trans (vmx_le n x.f3 k) (by omega)
    have e6 : x.f0 = 6 → (x.f0 != 5) = true ∧ (x.f0 != 6) = false := fun h => by simp [h]
    have e5 : x.f0 = 5 → (x.f0 != 5) = false := fun h => by simp [h]
    have GE := Lib.hid hge
    clear hge hv
    rcases h56 with h5 | h6
    · have hb := e5 h5
      clear e5 e6 h5
      go_enter Tryz.func134, Tryz.ntmps134
      go_wp2
      go_loopw [5, 23] (fun vm vi wr => ∃ k : Nat, k ≤ x.f3.length ∧ vi = .int .i64 k ∧ vm = .int .i64 (vmx n x.f3 k : Nat) ∧ Below w.heap.size w wr) (fun _ vi _ => x.f3.length - (intOf vi).toNat)
      case atStart => exact ⟨0, Nat.zero_le _, rfl, rfl, (Below.refl _ _).alloc (Nat.le_refl _) _⟩
      case round =>
       obtain ⟨k, hk, rfl, rfl, hB⟩ := hrel
       have HB := Lib.hid hB
       clear hB
       by_cases hlt : k < x.f3.length
       · obtain ⟨ad, D2, d2, D5, d5, D6, d6, rfl, q0, q1, q2, q3, q4, q5, q6, m2, G2, m5, G5, m6, G6⟩ := at_T28 (Kd.C_below HC.out HB.out) (k : Int) (by omega) (by omega)
         rw [Int.toNat_natCast] at q0 q1 q2 q3 q4 q5 q6
         have hKx := Lib.hid (k28_mk wr (rd_T28 x.f3 k) m2 G2 m5 G5 m6 G6)
         clear m2 G2 m5 G5 m6 G6
         have hs : Hid (max ((vmx n x.f3 k : Nat) : Int) ((vdeep n (rd_T28 x.f3 (k : Int)) : Nat) : Int) = ((vmx n x.f3 (k + 1) : Nat) : Int)) := Lib.hid (by rw [vmx_succ n x.f3 k hlt]; omega)
         have hw : wrap64 ((k : Int) + 1) = ((k + 1 : Nat) : Int) := by unfold wrap64; omega
         go_wp2_with (first | (go_at_call 134; refine (IH.out (rd_T28 x.f3 k) _ _ ?hK).mono ?_; (case hK => exact k28.K_below ((Below.refl _ _).alloc (Nat.le_refl _) _) hKx.out); rintro e w2 ⟨rfl, hB2⟩))
         have hB3 := below_box HB.out HB.out.size hB2
         clear hB2
         go_roundw
         case rel =>
          refine ⟨k + 1, by omega, ?_, ?_, hB3⟩
          · go_num
          · rw [hs.out]
         case measure => simp [intOf]; omega
       · obtain rfl : k = x.f3.length := by omega
         have hq := GE.out x.f3.length
         have hw : wrap64 ((vmx n x.f3 x.f3.length : Nat) + 1) = ((vmx n x.f3 x.f3.length + 1 : Nat) : Int) := by unfold wrap64; omega
         go_wp2
         go_ret
         exact ⟨by go_num, HB.out⟩
    · obtain ⟨hb1, hb2⟩ := e6 h6
      clear e5 e6 h6
      go_enter Tryz.func134, Tryz.ntmps134
      go_wp2
      go_loopw [5, 23] (fun vm vi wr => ∃ k : Nat, k ≤ x.f3.length ∧ vi = .int .i64 k ∧ vm = .int .i64 (vmx n x.f3 k : Nat) ∧ Below w.heap.size w wr) (fun _ vi _ => x.f3.length - (intOf vi).toNat)
      case atStart => exact ⟨0, Nat.zero_le _, rfl, rfl, (Below.refl _ _).alloc (Nat.le_refl _) _⟩
      case round =>
       obtain ⟨k, hk, rfl, rfl, hB⟩ := hrel
       have HB := Lib.hid hB
       clear hB
       by_cases hlt : k < x.f3.length
       · obtain ⟨ad, D2, d2, D5, d5, D6, d6, rfl, q0, q1, q2, q3, q4, q5, q6, m2, G2, m5, G5, m6, G6⟩ := at_T28 (Kd.C_below HC.out HB.out) (k : Int) (by omega) (by omega)
         rw [Int.toNat_natCast] at q0 q1 q2 q3 q4 q5 q6
         have hKx := Lib.hid (k28_mk wr (rd_T28 x.f3 k) m2 G2 m5 G5 m6 G6)
         clear m2 G2 m5 G5 m6 G6
         have hs : Hid (max ((vmx n x.f3 k : Nat) : Int) ((vdeep n (rd_T28 x.f3 (k : Int)) : Nat) : Int) = ((vmx n x.f3 (k + 1) : Nat) : Int)) := Lib.hid (by rw [vmx_succ n x.f3 k hlt]; omega)
         have hw : wrap64 ((k : Int) + 1) = ((k + 1 : Nat) : Int) := by unfold wrap64; omega
         go_wp2_with (first | (go_at_call 134; refine (IH.out (rd_T28 x.f3 k) _ _ ?hK).mono ?_; (case hK => exact k28.K_below ((Below.refl _ _).alloc (Nat.le_refl _) _) hKx.out); rintro e w2 ⟨rfl, hB2⟩))
         have hB3 := below_box HB.out HB.out.size hB2
         clear hB2
         go_roundw
         case rel =>
          refine ⟨k + 1, by omega, ?_, ?_, hB3⟩
          · go_num
          · rw [hs.out]
         case measure => simp [intOf]; omega
       · obtain rfl : k = x.f3.length := by omega
         have hq := GE.out x.f3.length
         have hw : wrap64 ((vmx n x.f3 x.f3.length : Nat) + 1) = ((vmx n x.f3 x.f3.length + 1 : Nat) : Int) := by unfold wrap64; omega
         go_wp2
         go_ret
         exact ⟨by go_num, HB.out⟩
  · have hv : vdeep (n + 1) x = 0 := by unfold vdeep; rw [if_neg h56]
    rw [hv]
    have hb1 : (x.f0 != 5) = true := by simp; omega
    have hb2 : (x.f0 != 6) = true := by simp; omega
    clear h56 hv
    go_enter Tryz.func134, Tryz.ntmps134
    go_wp2
    go_ret
    exact ⟨rfl, (Below.refl _ _).alloc (Nat.le_refl _) _⟩
end Go.Proofs.YthigbklhngihkaaGreatDoor.P
namespace Go.Proofs
open Go.Shelf
def Tryz.lays119_ren : Go.Shelf.Ren := ⟨fun | 119 => 306 | n => n, fun | 21 => 21 | 4 => 4 | n => n, fun | n => n⟩
def Tryz.lays120_ren : Go.Shelf.Ren := ⟨fun | 120 => 300 | n => n, fun | 5 => 5 | 4 => 4 | n => n, fun | n => n⟩
def Tryz.lays137_ren : Go.Shelf.Ren := ⟨fun | 137 => 320 | 217 => 327 | 266 => 328 | n => n, fun | 9 => 9 | 5 => 5 | 3 => 3 | n => n, fun | n => n⟩
def Tryz.lays217_ren : Go.Shelf.Ren := ⟨fun | 217 => 327 | 266 => 328 | n => n, fun | 9 => 9 | 5 => 5 | 3 => 3 | n => n, fun | n => n⟩
def Tryz.lays224_ren : Go.Shelf.Ren := ⟨fun | 224 => 321 | n => n, fun | 3 => 3 | n => n, fun | n => n⟩
def Tryz.lays152_ren : Go.Shelf.Ren := ⟨fun | 152 => 301 | 137 => 320 | 119 => 306 | 224 => 321 | 225 => 322 | 217 => 327 | 266 => 328 | n => n, fun | 9 => 9 | 21 => 21 | 3 => 3 | 4 => 4 | 5 => 5 | 0 => 0 | 46 => 172 | n => n, fun | n => n⟩
def Tryz.lays151_ren : Go.Shelf.Ren := ⟨fun | 151 => 276 | 152 => 301 | 137 => 320 | 119 => 306 | 224 => 321 | 225 => 322 | 217 => 327 | 266 => 328 | n => n, fun | 9 => 9 | 21 => 21 | 4 => 4 | 3 => 3 | 5 => 5 | 0 => 0 | 46 => 172 | n => n, fun | n => n⟩
def Tryz.lays227_ren : Go.Shelf.Ren := ⟨fun | 227 => 232 | n => n, fun | 9 => 9 | 116 => 253 | 4 => 4 | 0 => 0 | 3 => 3 | 5 => 5 | n => n, fun | n => n⟩
def Tryz.lays228_ren : Go.Shelf.Ren := ⟨fun | 228 => 274 | n => n, fun | 124 => 257 | 5 => 5 | 4 => 4 | 0 => 0 | 116 => 253 | n => n, fun | n => n⟩
def Tryz.lays260_ren : Go.Shelf.Ren := ⟨fun | 260 => 312 | n => n, fun | 9 => 9 | 21 => 21 | 3 => 3 | 4 => 4 | 5 => 5 | 119 => 332 | 0 => 0 | 46 => 172 | 139 => 335 | 138 => 334 | n => n, fun | 3 => 1 | 4 => 2 | n => n⟩
theorem Tryz.lays260 : Go.Proofs.Lays.n260 Tryz.prog Tryz.lays260_ren := {
 mixed := by kernel_rfl
 f260 := Tryz.func312.trans (congrArg some (by kernel_rfl))
 t0 := Tryz.underlying0
 a0 := Tryz.isAgg0
 z0 := Tryz.sizeOf0
 v0 := Tryz.zeroValue0
 t3 := Tryz.underlying3
 a3 := Tryz.isAgg3
 z3 := Tryz.sizeOf3
 v3 := Tryz.zeroValue3
 t4 := Tryz.underlying4
 a4 := Tryz.isAgg4
 z4 := Tryz.sizeOf4
 v4 := Tryz.zeroValue4
 t5 := Tryz.underlying5
 a5 := Tryz.isAgg5
 z5 := Tryz.sizeOf5
 v5 := Tryz.zeroValue5
 t9 := Tryz.underlying9
 a9 := Tryz.isAgg9
 z9 := Tryz.sizeOf9
 v9 := Tryz.zeroValue9
 t21 := Tryz.underlying21
 a21 := Tryz.isAgg21
 z21 := Tryz.sizeOf21
 v21 := Tryz.zeroValue21
 t46 := Tryz.underlying172
 a46 := Tryz.isAgg172
 z46 := Tryz.sizeOf172
 v46 := Tryz.zeroValue172
 t119 := Tryz.underlying332
 a119 := Tryz.isAgg332
 z119 := Tryz.sizeOf332
 t138 := Tryz.underlying334
 a138 := Tryz.isAgg334
 z138 := Tryz.sizeOf334
 v138 := Tryz.zeroValue334
 t139 := Tryz.underlying335
 a139 := Tryz.isAgg335
 z139 := Tryz.sizeOf335
 v139 := Tryz.zeroValue335
 g3 := by kernel_rfl
 g4 := by kernel_rfl }
def Tryz.lays197_ren : Go.Shelf.Ren := ⟨fun | 197 => 296 | 260 => 312 | n => n, fun | 9 => 9 | 21 => 21 | 3 => 3 | 4 => 4 | 5 => 5 | 105 => 292 | 119 => 332 | 0 => 0 | 46 => 172 | 139 => 335 | 138 => 334 | n => n, fun | 3 => 1 | 4 => 2 | n => n⟩
theorem Tryz.lays197 : Go.Proofs.Lays.n197 Tryz.prog Tryz.lays197_ren := {
 mixed := by kernel_rfl
 f197 := Tryz.func296.trans (congrArg some (by kernel_rfl))
 f260 := Tryz.func312.trans (congrArg some (by kernel_rfl))
 t0 := Tryz.underlying0
 a0 := Tryz.isAgg0
 z0 := Tryz.sizeOf0
 v0 := Tryz.zeroValue0
 t3 := Tryz.underlying3
 a3 := Tryz.isAgg3
 z3 := Tryz.sizeOf3
 v3 := Tryz.zeroValue3
 t4 := Tryz.underlying4
 a4 := Tryz.isAgg4
 z4 := Tryz.sizeOf4
 v4 := Tryz.zeroValue4
 t5 := Tryz.underlying5
 a5 := Tryz.isAgg5
 z5 := Tryz.sizeOf5
 v5 := Tryz.zeroValue5
 t9 := Tryz.underlying9
 a9 := Tryz.isAgg9
 z9 := Tryz.sizeOf9
 v9 := Tryz.zeroValue9
 t21 := Tryz.underlying21
 a21 := Tryz.isAgg21
 z21 := Tryz.sizeOf21
 v21 := Tryz.zeroValue21
 t46 := Tryz.underlying172
 a46 := Tryz.isAgg172
 z46 := Tryz.sizeOf172
 v46 := Tryz.zeroValue172
 t105 := Tryz.underlying292
 a105 := Tryz.isAgg292
 z105 := Tryz.sizeOf292
 v105 := Tryz.zeroValue292
 t119 := Tryz.underlying332
 a119 := Tryz.isAgg332
 z119 := Tryz.sizeOf332
 t138 := Tryz.underlying334
 a138 := Tryz.isAgg334
 z138 := Tryz.sizeOf334
 v138 := Tryz.zeroValue334
 t139 := Tryz.underlying335
 a139 := Tryz.isAgg335
 z139 := Tryz.sizeOf335
 v139 := Tryz.zeroValue335
 g3 := by kernel_rfl
 g4 := by kernel_rfl }
open Go.RowKit Go.Lib in
theorem Tryz.utf8_DecodeRuneInString (s : ByteArray) (w : World) (hT : Lib.Utf8Tabs 1 2 w) :
 Calls Tryz.prog 296 #[.string s] w fun e w' => e = .returned (.tuple #[.int .i32 (Lib.decodeGo s).1, .int .i64 (Lib.decodeGo s).2]) ∧ Below w.heap.size w w' := Any.utf8_DecodeRuneInString Tryz.lays197 s w hT
end Go.Proofs
namespace Go.Proofs.YthigbklhngihkaaGreatDoor.P
def uc (s : ByteArray) (p : Nat) : Int := if (Utf8.decode s p).1 = 65533 ∧ (Utf8.decode s p).2 = 1 then -1 else ((Utf8.decode s p).1 : Int)
def un (s : ByteArray) (p : Nat) : Nat := (Utf8.decode s p).2
theorem decodeN_pos (n b0 b1 b2 b3 : Nat) : 1 ≤ (Lib.decodeN n b0 b1 b2 b3).2 := by
 unfold Lib.decodeN
 repeat' split
 all_goals simp
theorem un_pos (s : ByteArray) (p : Nat) : 1 ≤ un s p := by
 unfold un
 rw [Lib.decode_at]
 exact decodeN_pos _ _ _ _ _
def uitems (s : ByteArray) : Nat → Nat → List (Nat × Int)
 | 0, _ => []
 | f + 1, p => if p < s.size then (p, uc s p) :: uitems s f (p + un s p) else []
theorem decodeN_le (n b0 b1 b2 b3 : Nat) (hn : 1 ≤ n) (h0 : b0 < 256) : ((Lib.decodeN n b0 b1 b2 b3).1 ≤ 1114111 ∧ ((Lib.decodeN n b0 b1 b2 b3).1 < 55296 ∨ 57343 < (Lib.decodeN n b0 b1 b2 b3).1)) ∧ (Lib.decodeN n b0 b1 b2 b3).2 ≤ n := by
 unfold Lib.decodeN
 repeat' split
 all_goals (simp; omega)
theorem get_lt (s : ByteArray) (i : Nat) : (s.get! i).toNat < 256 := UInt8.toNat_lt _
theorem uc_bd (s : ByteArray) (p : Nat) (h : p < s.size) : -1 ≤ uc s p ∧ (uc s p ≤ 1114111 ∧ (uc s p < 55296 ∨ 57343 < uc s p)) := by
 unfold uc
 have := decodeN_le (s.size - p) (s.get! p).toNat (s.get! (p + 1)).toNat (s.get! (p + 2)).toNat (s.get! (p + 3)).toNat (by omega) (get_lt _ _)
 rw [← Lib.decode_at] at this
 split <;> omega
theorem un_le (s : ByteArray) (p : Nat) (h : p < s.size) : p + un s p ≤ s.size := by
 have := decodeN_le (s.size - p) (s.get! p).toNat (s.get! (p + 1)).toNat (s.get! (p + 2)).toNat (s.get! (p + 3)).toNat (by omega) (get_lt _ _)
 rw [← Lib.decode_at] at this
 unfold un
 omega
theorem get_extract (s : ByteArray) (p i : Nat) : (s.extract p s.size).get! i = s.get! (p + i) := by
 simp only [ByteArray.get!, ByteArray.data_extract]
 simp only [getElem!_def]
 by_cases h : p + i < s.data.size
 · rw [Array.getElem?_extract_of_lt (by simp only [ByteArray.size_data] at *; omega), Array.getElem?_eq_getElem h]
 · have h1 : ¬ i < (s.data.extract p s.size).size := by simp only [Array.size_extract, ByteArray.size_data] at *; omega
   rw [Array.getElem?_eq_none (by omega), Array.getElem?_eq_none (by omega)]
theorem decodeGo_extract (s : ByteArray) (p : Nat) (h : p < s.size) : Lib.decodeGo (s.extract p s.size) = Utf8.decode s p := by
 have hz : (s.extract p s.size).size = s.size - p := by simp
 unfold Lib.decodeGo
 rw [if_neg (by omega), Lib.decode_at, Lib.decode_at, hz]
 simp only [get_extract, Nat.sub_zero, Nat.add_zero, Nat.zero_add]
abbrev UItem := { x : Nat × Int // x.1 ≤ 1152921504606846976 ∧ -1 ≤ x.2 ∧ (x.2 ≤ 1114111 ∧ (x.2 < 55296 ∨ 57343 < x.2)) }
def usub (s : ByteArray) (hs : s.size ≤ 1152921504606846976) : Nat → Nat → List UItem
 | 0, _ => []
 | f + 1, p => if h : p < s.size then ⟨(p, uc s p), by omega, (uc_bd s p h).1, (uc_bd s p h).2⟩ :: usub s hs f (p + un s p) else []
theorem usub_val (s : ByteArray) (hs : s.size ≤ 1152921504606846976) : ∀ f p, (usub s hs f p).map (·.1) = uitems s f p
 | 0, _ => rfl
 | f + 1, p => by
  unfold usub uitems
  by_cases h : p < s.size
  · rw [dif_pos h, if_pos h]; simp [usub_val s hs f]
  · rw [dif_neg h, if_neg h]; rfl
end Go.Proofs.YthigbklhngihkaaGreatDoor.P
namespace Go.Proofs.YthigbklhngihkaaGreatDoor.P
open Go.RowKit Go.Shelf
attribute [local go_sem] Oper.semAt_some
theorem laid_at {n₀ : Nat} {w W : World} (h : LaidW w) (hn : w.heap.size ≤ n₀) (hb : Below n₀ w W) : LaidW W := h.below (hb.mono hn)
theorem grown_of {w w1 : World} (h : Below w.heap.size w w1) : w.grownBy w1 none := ⟨h.os, h.tape, h.output, h.size, fun i hi _ => h.block i hi⟩
theorem dec_at (s : ByteArray) (p : Nat) (hp : p < s.size) (w : World) (hL : LaidW w) :
 Calls Tryz.prog 296 #[.string (s.extract p s.size)] w fun e w' => e = .returned (.tuple #[.int .i32 ((Utf8.decode s p).1 : Int), .int .i64 (un s p : Int)]) ∧ Below w.heap.size w w' := by
 have h := Tryz.utf8_DecodeRuneInString (s.extract p s.size) w hL
 rw [decodeGo_extract s p hp] at h
 exact h
theorem usub_step (s : ByteArray) (hs : s.size ≤ 1152921504606846976) (f p : Nat) (hp : p < s.size) (hf : s.size - p ≤ f) : ∃ g, s.size - (p + un s p) ≤ g ∧ usub s hs f p = ⟨(p, uc s p), by omega, (uc_bd s p hp).1, (uc_bd s p hp).2⟩ :: usub s hs g (p + un s p) := by
 obtain ⟨g, rfl⟩ : ∃ g, f = g + 1 := ⟨f - 1, by omega⟩
 have := un_pos s p
 refine ⟨g, by omega, ?_⟩
 rw [usub, dif_pos hp]
theorem usub_end (s : ByteArray) (hs : s.size ≤ 1152921504606846976) (f p : Nat) (hp : ¬ p < s.size) : usub s hs f p = [] := by
 cases f with
 | zero => rfl
 | succ f => rw [usub, dif_neg hp]
def KpS (n₀ Bn : Nat) (W W' : World) : Prop := Below n₀ W W' ∧ W'.cell? ⟨Bn, 0, none⟩ = W.cell? ⟨Bn, 0, none⟩
theorem kpS_t {n₀ Bn : Nat} {A B C : World} (h : KpS n₀ Bn A B) (k : KpS n₀ Bn B C) : KpS n₀ Bn A C := ⟨h.1.trans k.1, k.2.trans h.2⟩
theorem kpS_b {n₀ Bn : Nat} {w : World} (hn : n₀ ≤ w.heap.size) (hB : Bn < w.heap.size) (W : World) (l : Nat) (o o' : Obj) (hl : w.heap.size ≤ l) (h : W.heap[l]? = some o) (h1 : o.isCells = false) (h2 : o.isWalk = false) : KpS n₀ Bn W (W.putObj l o') :=
 ⟨belowK_b hn W l o o' hl h h1 h2, World.cell?_of_block (w := W) (World.putObj_heap_other (by simp; omega))⟩
theorem kpS_refl (n₀ Bn : Nat) (W : World) : KpS n₀ Bn W W := ⟨Below.refl _ _, rfl⟩
set_option maxHeartbeats 4000000 in
theorem runes1_in (n : Nat) (hn : 2 ≤ n) (l Bn n₀ : Nat) (s : ByteArray) (hs : s.size ≤ 1152921504606846976) (J Jx : List UItem → World → Prop) (hJA : ∀ x A B, J x A → A.grownBy B none → J x B)
 (hY : ∀ pre x W, J pre W → pre.length < (usub s hs s.size 0).length → YieldAt Fence.wide (n - 1) Tryz.prog l #[.int .i64 x.1.1, .int .i32 x.1.2] W fun e W' =>
  (e = .returned (.bool true) ∧ J (pre ++ [x]) W' ∧ KpS n₀ Bn W W') ∨ (e = .returned (.bool false) ∧ Jx (pre ++ [x]) W'))
 (W : World) (hc : W.cell? ⟨Bn, 0, none⟩ = some (.string s)) (w0 : World) (hL : LaidW w0) (hLn : w0.heap.size ≤ n₀) (hLb : Below n₀ w0 W) (hWn : n₀ ≤ W.heap.size) (h0 : J [] W) :
 CallsIn Fence.wide n Tryz.prog 295 #[.func (.yield l) #[] #[], .pointer (some ⟨Bn, 0, none⟩)] W fun e W' => (∃ v, e = .returned v) ∧
  ((∃ ys, ys = usub s hs s.size 0 ∧ J ys W') ∨ (∃ pre, pre <+: usub s hs s.size 0 ∧ Jx pre W')) := by
 have hn1 : 1 ≤ n := by omega
 have hn2 : 1 ≤ n - 1 := by omega
 have HS := Lib.hid hs
 have HLB := Lib.hid hLb
 have HWN := Lib.hid hWn
 have H0 := Lib.hid hc
 clear hLb hc
 refine callsIn_of_wp Tryz.func295 rfl trivial ?_ rfl
 simp only [Tryz.ntmps295, List.size_toArray, List.length_cons, List.length_nil, Nat.reduceAdd, Nat.reduceSub, Array.replicate_succ, Array.replicate_zero, List.push_toArray, List.append_toArray, List.nil_append, List.cons_append]
 gi_wp2
 gi_loopw [3] (fun i wr => ∃ (pre : List UItem) (f p : Nat), p ≤ s.size ∧ i = .int .i64 p ∧ s.size - p ≤ f ∧ Hid (usub s hs s.size 0 = pre ++ usub s hs f p) ∧ Below n₀ W wr ∧ wr.cell? ⟨Bn, 0, none⟩ = some (.string s) ∧ J pre wr) (fun i _ => s.size - (intOf i).toNat)
 case atStart => exact ⟨[], s.size, 0, Nat.zero_le _, rfl, by omega, Lib.hid (by simp), Below.refl _ _, H0.out, h0⟩
 case round =>
  obtain ⟨pre, f, p, hp, rfl, hf, hU, hB, hcell, hJs⟩ := hrel
  have HB := Lib.hid hB
  have HJ := Lib.hid hJs
  have hbn : Bn < wr.heap.size := World.block_lt_of_cell? _ _ hcell
  have hld : LaidW wr := laid_at hL hLn (HLB.out.trans hB)
  have HLD := Lib.hid hld
  clear hB hJs hld
  by_cases hlt : p < s.size
  · obtain ⟨g, hg, hu⟩ := usub_step s hs f p hlt hf
    have HU2 := Lib.hid hu
    clear hu
    have hup := un_pos s p
    have hul := un_le s p hlt
    obtain ⟨K, hK⟩ : ∃ K, K = un s p := ⟨_, rfl⟩
    obtain ⟨R, hR⟩ : ∃ R, R = (Utf8.decode s p).1 := ⟨_, rfl⟩
    have HK := Lib.hid hK
    have HR := Lib.hid hR
    rw [← hK] at hup hul
    clear hK hR
    have hx : uc s p = if R = 65533 ∧ K = 1 then -1 else (R : Int) := by rw [HR.out, HK.out]; rfl
    have HX := Lib.hid hx
    clear hx
    gi_wp2_with fail
    refine ⟨trivial, ?_⟩
    refine (callsIn_wide.2 (dec_at s p hlt _ HLD.out)).mono ?_
    rintro e w2 ⟨rfl, hb2⟩
    rw [← HK.out, ← HR.out]
    have hwr : n₀ ≤ wr.heap.size := Nat.le_trans HWN.out HB.out.size
    have hJ2 : J pre w2 := hJA pre wr w2 HJ.out (grown_of hb2)
    have hB2 : Below n₀ W w2 := HB.out.trans (hb2.mono hwr)
    have hcell2 : w2.cell? ⟨Bn, 0, none⟩ = some (.string s) := (hb2.cell (p := ⟨Bn, 0, none⟩) hbn).trans hcell
    obtain ⟨fn, tmps, assign, body, hy, hRd⟩ := hY pre ⟨(p, uc s p), by omega, (uc_bd s p hlt).1, (uc_bd s p hlt).2⟩ w2 hJ2 (by rw [hU.out, HU2.out]; simp)
    dsimp only at hy
    rw [HX.out] at hy
    have HB2 := Lib.hid hB2
    have HRD := Lib.hid hRd
    clear hB2 hJ2 hb2 hcell hRd
    have c1 : (((R : Int) == 65533) = true ∧ ((K : Int) == 1) = true ∧ (R = 65533 ∧ K = 1)) ∨ (((R : Int) == 65533) = true ∧ ((K : Int) == 1) = false ∧ ¬ (R = 65533 ∧ K = 1)) ∨ (((R : Int) == 65533) = false ∧ ¬ (R = 65533 ∧ K = 1)) := by
     by_cases h1 : R = 65533
     · by_cases h2 : K = 1
       · exact .inl ⟨by simp; omega, by simp; omega, h1, h2⟩
       · exact .inr (.inl ⟨by simp; omega, by simp; omega, fun h => h2 h.2⟩)
     · exact .inr (.inr ⟨by simp; omega, fun h => h1 h.1⟩)
    have Hrel : Hid (∀ W3, J (pre ++ [⟨(p, uc s p), by omega, (uc_bd s p hlt).1, (uc_bd s p hlt).2⟩]) W3 → KpS n₀ Bn w2 W3 → ∃ (pre : List UItem) (f q : Nat), q ≤ s.size ∧ Value.int .i64 ((p : Int) + (K : Int)) = .int .i64 q ∧ s.size - q ≤ f ∧ Hid (usub s hs s.size 0 = pre ++ usub s hs f q) ∧ Below n₀ W W3 ∧ W3.cell? ⟨Bn, 0, none⟩ = some (.string s) ∧ J pre W3) := by
     refine Lib.hid (fun W3 h3 hb3 => ⟨_, g, p + K, hul, by rw [Int.natCast_add], by rw [HK.out]; exact hg, ?_, HB2.out.trans hb3.1, hb3.2.trans hcell2, h3⟩)
     exact Lib.hid (by rw [hU.out, HU2.out, show usub s hs g (p + un s p) = usub s hs g (p + K) from congrArg (fun z => usub s hs g (p + z)) HK.out.symm]; simp)
    rcases c1 with ⟨c1, c2, c3⟩ | ⟨c1, c2, c3⟩ | ⟨c1, c3⟩
    all_goals
     first | rw [if_pos c3] at hy | rw [if_neg c3] at hy
     clear c3
     gi_wp2
     refine HRD.out.mono ?_
     rintro e W3 (⟨rfl, hJ3, hk3⟩ | ⟨rfl, hJx3⟩)
     · have HJ3 := Lib.hid hJ3
       have HK3 := Lib.hid hk3
       clear hJ3 hk3
       gi_wp2
       go_roundw
       case rel => exact Hrel.out _ HJ3.out HK3.out
       case measure => simp [intOf]; omega
     · gi_wp2
       refine bodyPost_ret (results_none rfl _ _ _) rfl ?_
       exact ⟨⟨_, rfl⟩, .inr ⟨_, ⟨usub s hs g (p + un s p), by rw [hU.out, HU2.out]; simp⟩, hJx3⟩⟩
  · have e := usub_end s hs f p hlt
    have HE := Lib.hid e
    clear e
    gi_wp2
    go_end0
    exact ⟨⟨_, rfl⟩, .inl ⟨pre, by rw [hU.out, HE.out]; simp, HJ.out⟩⟩
end Go.Proofs.YthigbklhngihkaaGreatDoor.P

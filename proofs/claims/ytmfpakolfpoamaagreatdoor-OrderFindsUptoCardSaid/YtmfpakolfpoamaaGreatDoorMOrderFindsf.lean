/- Texts of this claim, one behind the other. -/
import Derived.Shelf.Unicode.DecodeSlow
import Derived.Shelf.Unicode.DecodeAny
import Derived.Test.YtmfpakolfpoamaaGreatDoorProg
import Derived.Lib.DecodeN
import Derived.RangeFuncBox
import Derived.RangeFuncLeaves
import Derived.RangeFuncFrom
import Derived.Shelf.Abstract
import Derived.WalkKit
import Derived.OwnWalkIn
import Derived.TacticsInMore
import Derived.LoopNIn
import Derived.LoopIn
import Derived.Maps.AppendAt
import Derived.Lib.Hide
import Derived.Test.YtmfpakolfpoamaaGreatDoorMOrderFindsa
import Derived.RangeFuncNested
import Derived.Test.YtmfpakolfpoamaaGreatDoorMOrderFindse
set_option maxRecDepth 100000
namespace Go.Proofs
open Go.Shelf
def Tryz.lays260_ren : Go.Shelf.Ren := ⟨fun | 260 => 164 | n => n, fun | 9 => 9 | 21 => 21 | 3 => 3 | 4 => 4 | 5 => 5 | 119 => 196 | 0 => 0 | 46 => 108 | 139 => 199 | 138 => 198 | n => n, fun | 3 => 0 | 4 => 1 | n => n⟩
theorem Tryz.lays260 : Go.Proofs.Lays.n260 Tryz.prog Tryz.lays260_ren := {
 mixed := by kernel_rfl
 f260 := Tryz.func164.trans (congrArg some (by kernel_rfl))
 t0 := Tryz.underlying0
 a0 := Tryz.isAgg0
 z0 := Tryz.sizeOf0
 v0 := Tryz.zeroValue0
 t3 := Tryz.underlying3
 a3 := Tryz.isAgg3
 z3 := Tryz.sizeOf3
 v3 := Tryz.zeroValue3
 t4 := Tryz.underlying4
 a4 := Tryz.isAgg4
 z4 := Tryz.sizeOf4
 v4 := Tryz.zeroValue4
 t5 := Tryz.underlying5
 a5 := Tryz.isAgg5
 z5 := Tryz.sizeOf5
 v5 := Tryz.zeroValue5
 t9 := Tryz.underlying9
 a9 := Tryz.isAgg9
 z9 := Tryz.sizeOf9
 v9 := Tryz.zeroValue9
 t21 := Tryz.underlying21
 a21 := Tryz.isAgg21
 z21 := Tryz.sizeOf21
 v21 := Tryz.zeroValue21
 t46 := Tryz.underlying108
 a46 := Tryz.isAgg108
 z46 := Tryz.sizeOf108
 v46 := Tryz.zeroValue108
 t119 := Tryz.underlying196
 a119 := Tryz.isAgg196
 z119 := Tryz.sizeOf196
 t138 := Tryz.underlying198
 a138 := Tryz.isAgg198
 z138 := Tryz.sizeOf198
 v138 := Tryz.zeroValue198
 t139 := Tryz.underlying199
 a139 := Tryz.isAgg199
 z139 := Tryz.sizeOf199
 v139 := Tryz.zeroValue199
 g3 := by kernel_rfl
 g4 := by kernel_rfl }
def Tryz.lays197_ren : Go.Shelf.Ren := ⟨fun | 197 => 156 | 260 => 164 | n => n, fun | 9 => 9 | 21 => 21 | 3 => 3 | 4 => 4 | 5 => 5 | 105 => 181 | 119 => 196 | 0 => 0 | 46 => 108 | 139 => 199 | 138 => 198 | n => n, fun | 3 => 0 | 4 => 1 | n => n⟩
theorem Tryz.lays197 : Go.Proofs.Lays.n197 Tryz.prog Tryz.lays197_ren := {
 mixed := by kernel_rfl
 f197 := Tryz.func156.trans (congrArg some (by kernel_rfl))
 f260 := Tryz.func164.trans (congrArg some (by kernel_rfl))
 t0 := Tryz.underlying0
 a0 := Tryz.isAgg0
 z0 := Tryz.sizeOf0
 v0 := Tryz.zeroValue0
 t3 := Tryz.underlying3
 a3 := Tryz.isAgg3
 z3 := Tryz.sizeOf3
 v3 := Tryz.zeroValue3
 t4 := Tryz.underlying4
 a4 := Tryz.isAgg4
 z4 := Tryz.sizeOf4
 v4 := Tryz.zeroValue4
 t5 := Tryz.underlying5
 a5 := Tryz.isAgg5
 z5 := Tryz.sizeOf5
 v5 := Tryz.zeroValue5
 t9 := Tryz.underlying9
 a9 := Tryz.isAgg9
 z9 := Tryz.sizeOf9
 v9 := Tryz.zeroValue9
 t21 := Tryz.underlying21
 a21 := Tryz.isAgg21
 z21 := Tryz.sizeOf21
 v21 := Tryz.zeroValue21
 t46 := Tryz.underlying108
 a46 := Tryz.isAgg108
 z46 := Tryz.sizeOf108
 v46 := Tryz.zeroValue108
 t105 := Tryz.underlying181
 a105 := Tryz.isAgg181
 z105 := Tryz.sizeOf181
 v105 := Tryz.zeroValue181
 t119 := Tryz.underlying196
 a119 := Tryz.isAgg196
 z119 := Tryz.sizeOf196
 t138 := Tryz.underlying198
 a138 := Tryz.isAgg198
 z138 := Tryz.sizeOf198
 v138 := Tryz.zeroValue198
 t139 := Tryz.underlying199
 a139 := Tryz.isAgg199
 z139 := Tryz.sizeOf199
 v139 := Tryz.zeroValue199
 g3 := by kernel_rfl
 g4 := by kernel_rfl }
open Go.RowKit Go.Lib in
theorem Tryz.utf8_DecodeRuneInString (s : ByteArray) (w : World) (hT : Lib.Utf8Tabs 0 1 w) :
 Calls Tryz.prog 156 #[.string s] w fun e w' => e = .returned (.tuple #[.int .i32 (Lib.decodeGo s).1, .int .i64 (Lib.decodeGo s).2]) ∧ Below w.heap.size w w' := Any.utf8_DecodeRuneInString Tryz.lays197 s w hT
end Go.Proofs
namespace Go.Proofs.YtmfpakolfpoamaaGreatDoor.P
set_option linter.unusedVariables false
set_option linter.unusedSimpArgs false
def uc (s : ByteArray) (p : Nat) : Int := if (Utf8.decode s p).1 = 65533 ∧ (Utf8.decode s p).2 = 1 then -1 else ((Utf8.decode s p).1 : Int)
def un (s : ByteArray) (p : Nat) : Nat := (Utf8.decode s p).2
theorem decodeN_pos (n b0 b1 b2 b3 : Nat) : 1 ≤ (Lib.decodeN n b0 b1 b2 b3).2 := by
 unfold Lib.decodeN
 repeat' split
 all_goals simp
theorem un_pos (s : ByteArray) (p : Nat) : 1 ≤ un s p := by
 unfold un
 rw [Lib.decode_at]
 exact decodeN_pos _ _ _ _ _
def uitems (s : ByteArray) : Nat → Nat → List (Nat × Int)
 | 0, _ => []
 | f + 1, p => if p < s.size then (p, uc s p) :: uitems s f (p + un s p) else []
theorem decodeN_le (n b0 b1 b2 b3 : Nat) (hn : 1 ≤ n) (h0 : b0 < 256) : ((Lib.decodeN n b0 b1 b2 b3).1 ≤ 1114111 ∧ ((Lib.decodeN n b0 b1 b2 b3).1 < 55296 ∨ 57343 < (Lib.decodeN n b0 b1 b2 b3).1)) ∧ (Lib.decodeN n b0 b1 b2 b3).2 ≤ n := by
 unfold Lib.decodeN
 repeat' split
 all_goals (simp; omega)
theorem get_lt (s : ByteArray) (i : Nat) : (s.get! i).toNat < 256 := UInt8.toNat_lt _
theorem uc_bd (s : ByteArray) (p : Nat) (h : p < s.size) : -1 ≤ uc s p ∧ (uc s p ≤ 1114111 ∧ (uc s p < 55296 ∨ 57343 < uc s p)) := by
 unfold uc
 have := decodeN_le (s.size - p) (s.get! p).toNat (s.get! (p + 1)).toNat (s.get! (p + 2)).toNat (s.get! (p + 3)).toNat (by omega) (get_lt _ _)
 rw [← Lib.decode_at] at this
 split <;> omega
theorem un_le (s : ByteArray) (p : Nat) (h : p < s.size) : p + un s p ≤ s.size := by
 have := decodeN_le (s.size - p) (s.get! p).toNat (s.get! (p + 1)).toNat (s.get! (p + 2)).toNat (s.get! (p + 3)).toNat (by omega) (get_lt _ _)
 rw [← Lib.decode_at] at this
 unfold un
 omega
theorem get_extract (s : ByteArray) (p i : Nat) : (s.extract p s.size).get! i = s.get! (p + i) := by
 simp only [ByteArray.get!, ByteArray.data_extract]
 simp only [getElem!_def]
 by_cases h : p + i < s.data.size
 · rw [Array.getElem?_extract_of_lt (by simp only [ByteArray.size_data] at *; omega), Array.getElem?_eq_getElem h]
 · have h1 : ¬ i < (s.data.extract p s.size).size := by simp only [Array.size_extract, ByteArray.size_data] at *; omega
   rw [Array.getElem?_eq_none (by omega), Array.getElem?_eq_none (by omega)]
theorem decodeGo_extract (s : ByteArray) (p : Nat) (h : p < s.size) : Lib.decodeGo (s.extract p s.size) = Utf8.decode s p := by
 have hz : (s.extract p s.size).size = s.size - p := by simp
 unfold Lib.decodeGo
 rw [if_neg (by omega), Lib.decode_at, Lib.decode_at, hz]
 simp only [get_extract, Nat.sub_zero, Nat.add_zero, Nat.zero_add]
abbrev UItem := { x : Nat × Int // x.1 ≤ 1152921504606846976 ∧ -1 ≤ x.2 ∧ (x.2 ≤ 1114111 ∧ (x.2 < 55296 ∨ 57343 < x.2)) }
def usub (s : ByteArray) (hs : s.size ≤ 1152921504606846976) : Nat → Nat → List UItem
 | 0, _ => []
 | f + 1, p => if h : p < s.size then ⟨(p, uc s p), by omega, (uc_bd s p h).1, (uc_bd s p h).2⟩ :: usub s hs f (p + un s p) else []
theorem usub_val (s : ByteArray) (hs : s.size ≤ 1152921504606846976) : ∀ f p, (usub s hs f p).map (·.1) = uitems s f p
 | 0, _ => rfl
 | f + 1, p => by
  unfold usub uitems
  by_cases h : p < s.size
  · rw [dif_pos h, if_pos h]; simp [usub_val s hs f]
  · rw [dif_neg h, if_neg h]; rfl
end Go.Proofs.YtmfpakolfpoamaaGreatDoor.P
namespace Go.Proofs.YtmfpakolfpoamaaGreatDoor.P
set_option linter.unusedVariables false
set_option linter.unusedSimpArgs false
open Go.RowKit Go.Shelf
attribute [local go_sem] Oper.semAt_some
theorem laid_at {n₀ : Nat} {w W : World} (h : LaidW w) (hn : w.heap.size ≤ n₀) (hb : Below n₀ w W) : LaidW W := h.below (hb.mono hn)
theorem grown_of {w w1 : World} (h : Below w.heap.size w w1) : w.grownBy w1 none := ⟨h.os, h.tape, h.output, h.size, fun i hi _ => h.block i hi⟩
theorem dec_at (s : ByteArray) (p : Nat) (hp : p < s.size) (w : World) (hL : LaidW w) :
 Calls Tryz.prog 156 #[.string (s.extract p s.size)] w fun e w' => e = .returned (.tuple #[.int .i32 ((Utf8.decode s p).1 : Int), .int .i64 (un s p : Int)]) ∧ Below w.heap.size w w' := by
 have h := Tryz.utf8_DecodeRuneInString (s.extract p s.size) w hL
 rw [decodeGo_extract s p hp] at h
 exact h
theorem usub_step (s : ByteArray) (hs : s.size ≤ 1152921504606846976) (f p : Nat) (hp : p < s.size) (hf : s.size - p ≤ f) : ∃ g, s.size - (p + un s p) ≤ g ∧ usub s hs f p = ⟨(p, uc s p), by omega, (uc_bd s p hp).1, (uc_bd s p hp).2⟩ :: usub s hs g (p + un s p) := by
 obtain ⟨g, rfl⟩ : ∃ g, f = g + 1 := ⟨f - 1, by omega⟩
 have := un_pos s p
 refine ⟨g, by omega, ?_⟩
 rw [usub, dif_pos hp]
theorem usub_end (s : ByteArray) (hs : s.size ≤ 1152921504606846976) (f p : Nat) (hp : ¬ p < s.size) : usub s hs f p = [] := by
 cases f with
 | zero => rfl
 | succ f => rw [usub, dif_neg hp]
def KpS (n₀ Bn : Nat) (W W' : World) : Prop := Below n₀ W W' ∧ W'.cell? ⟨Bn, 0, none⟩ = W.cell? ⟨Bn, 0, none⟩
theorem kpS_t {n₀ Bn : Nat} {A B C : World} (h : KpS n₀ Bn A B) (k : KpS n₀ Bn B C) : KpS n₀ Bn A C := ⟨h.1.trans k.1, k.2.trans h.2⟩
theorem kpS_b {n₀ Bn : Nat} {w : World} (hn : n₀ ≤ w.heap.size) (hB : Bn < w.heap.size) (W : World) (l : Nat) (o o' : Obj) (hl : w.heap.size ≤ l) (h : W.heap[l]? = some o) (h1 : o.isCells = false) (h2 : o.isWalk = false) : KpS n₀ Bn W (W.putObj l o') :=
 ⟨belowK_b hn W l o o' hl h h1 h2, World.cell?_of_block (w := W) (World.putObj_heap_other (by simp; omega))⟩
theorem kpS_refl (n₀ Bn : Nat) (W : World) : KpS n₀ Bn W W := ⟨Below.refl _ _, rfl⟩
set_option maxHeartbeats 4000000 in
theorem runes1_in (n : Nat) (hn : 2 ≤ n) (l Bn n₀ : Nat) (s : ByteArray) (hs : s.size ≤ 1152921504606846976) (J Jx : List UItem → World → Prop) (hJA : ∀ x A B, J x A → A.grownBy B none → J x B)
 (hY : ∀ pre x W, J pre W → pre.length < (usub s hs s.size 0).length → YieldAt Fence.wide (n - 1) Tryz.prog l #[.int .i64 x.1.1, .int .i32 x.1.2] W fun e W' =>
  (e = .returned (.bool true) ∧ J (pre ++ [x]) W' ∧ KpS n₀ Bn W W') ∨ (e = .returned (.bool false) ∧ Jx (pre ++ [x]) W'))
 (W : World) (hc : W.cell? ⟨Bn, 0, none⟩ = some (.string s)) (w0 : World) (hL : LaidW w0) (hLn : w0.heap.size ≤ n₀) (hLb : Below n₀ w0 W) (hWn : n₀ ≤ W.heap.size) (h0 : J [] W) :
 CallsIn Fence.wide n Tryz.prog 155 #[.func (.yield l) #[] #[], .pointer (some ⟨Bn, 0, none⟩)] W fun e W' => (∃ v, e = .returned v) ∧
  ((∃ ys, ys = usub s hs s.size 0 ∧ J ys W') ∨ (∃ pre, pre <+: usub s hs s.size 0 ∧ Jx pre W')) := by
 have hn1 : 1 ≤ n := by omega
 have hn2 : 1 ≤ n - 1 := by omega
 have HS := Lib.hid hs
 have HLB := Lib.hid hLb
 have HWN := Lib.hid hWn
 have H0 := Lib.hid hc
 clear hLb hc
 refine callsIn_of_wp Tryz.func155 rfl trivial ?_ rfl
 simp only [Tryz.ntmps155, List.size_toArray, List.length_cons, List.length_nil, Nat.reduceAdd, Nat.reduceSub, Array.replicate_succ, Array.replicate_zero, List.push_toArray, List.append_toArray, List.nil_append, List.cons_append]
 gi_wp2
 gi_loopw [3] (fun i wr => ∃ (pre : List UItem) (f p : Nat), p ≤ s.size ∧ i = .int .i64 p ∧ s.size - p ≤ f ∧ Hid (usub s hs s.size 0 = pre ++ usub s hs f p) ∧ Below n₀ W wr ∧ wr.cell? ⟨Bn, 0, none⟩ = some (.string s) ∧ J pre wr) (fun i _ => s.size - (intOf i).toNat)
 case atStart => exact ⟨[], s.size, 0, Nat.zero_le _, rfl, by omega, Lib.hid (by simp), Below.refl _ _, H0.out, h0⟩
 case round =>
  obtain ⟨pre, f, p, hp, rfl, hf, hU, hB, hcell, hJs⟩ := hrel
  have HB := Lib.hid hB
  have HJ := Lib.hid hJs
  have hbn : Bn < wr.heap.size := World.block_lt_of_cell? _ _ hcell
  have hld : LaidW wr := laid_at hL hLn (HLB.out.trans hB)
  have HLD := Lib.hid hld
  clear hB hJs hld
  by_cases hlt : p < s.size
  · obtain ⟨g, hg, hu⟩ := usub_step s hs f p hlt hf
    have HU2 := Lib.hid hu
    clear hu
    have hup := un_pos s p
    have hul := un_le s p hlt
    obtain ⟨K, hK⟩ : ∃ K, K = un s p := ⟨_, rfl⟩
    obtain ⟨R, hR⟩ : ∃ R, R = (Utf8.decode s p).1 := ⟨_, rfl⟩
    have HK := Lib.hid hK
    have HR := Lib.hid hR
    rw [← hK] at hup hul
    clear hK hR
    have hx : uc s p = if R = 65533 ∧ K = 1 then -1 else (R : Int) := by rw [HR.out, HK.out]; rfl
    have HX := Lib.hid hx
    clear hx
    gi_wp2_with fail
    refine ⟨trivial, ?_⟩
    refine (callsIn_wide.2 (dec_at s p hlt _ HLD.out)).mono ?_
    rintro e w2 ⟨rfl, hb2⟩
    rw [← HK.out, ← HR.out]
    have hwr : n₀ ≤ wr.heap.size := Nat.le_trans HWN.out HB.out.size
    have hJ2 : J pre w2 := hJA pre wr w2 HJ.out (grown_of hb2)
    have hB2 : Below n₀ W w2 := HB.out.trans (hb2.mono hwr)
    have hcell2 : w2.cell? ⟨Bn, 0, none⟩ = some (.string s) := (hb2.cell (p := ⟨Bn, 0, none⟩) hbn).trans hcell
    obtain ⟨fn, tmps, assign, body, hy, hRd⟩ := hY pre ⟨(p, uc s p), by omega, (uc_bd s p hlt).1, (uc_bd s p hlt).2⟩ w2 hJ2 (by rw [hU.out, HU2.out]; simp)
    dsimp only at hy
    rw [HX.out] at hy
    have HB2 := Lib.hid hB2
    have HRD := Lib.hid hRd
    clear hB2 hJ2 hb2 hcell hRd
    have c1 : (((R : Int) == 65533) = true ∧ ((K : Int) == 1) = true ∧ (R = 65533 ∧ K = 1)) ∨ (((R : Int) == 65533) = true ∧ ((K : Int) == 1) = false ∧ ¬ (R = 65533 ∧ K = 1)) ∨ (((R : Int) == 65533) = false ∧ ¬ (R = 65533 ∧ K = 1)) := by
     by_cases h1 : R = 65533
     · by_cases h2 : K = 1
       · exact .inl ⟨by simp; omega, by simp; omega, h1, h2⟩
       · exact .inr (.inl ⟨by simp; omega, by simp; omega, fun h => h2 h.2⟩)
     · exact .inr (.inr ⟨by simp; omega, fun h => h1 h.1⟩)
    have Hrel : Hid (∀ W3, J (pre ++ [⟨(p, uc s p), by omega, (uc_bd s p hlt).1, (uc_bd s p hlt).2⟩]) W3 → KpS n₀ Bn w2 W3 → ∃ (pre : List UItem) (f q : Nat), q ≤ s.size ∧ Value.int .i64 ((p : Int) + (K : Int)) = .int .i64 q ∧ s.size - q ≤ f ∧ Hid (usub s hs s.size 0 = pre ++ usub s hs f q) ∧ Below n₀ W W3 ∧ W3.cell? ⟨Bn, 0, none⟩ = some (.string s) ∧ J pre W3) := by
     refine Lib.hid (fun W3 h3 hb3 => ⟨_, g, p + K, hul, by rw [Int.natCast_add], by rw [HK.out]; exact hg, ?_, HB2.out.trans hb3.1, hb3.2.trans hcell2, h3⟩)
     exact Lib.hid (by rw [hU.out, HU2.out, show usub s hs g (p + un s p) = usub s hs g (p + K) from congrArg (fun z => usub s hs g (p + z)) HK.out.symm]; simp)
    rcases c1 with ⟨c1, c2, c3⟩ | ⟨c1, c2, c3⟩ | ⟨c1, c3⟩
    all_goals
     first | rw [if_pos c3] at hy | rw [if_neg c3] at hy
     clear c3
     gi_wp2
     refine HRD.out.mono ?_
     rintro e W3 (⟨rfl, hJ3, hk3⟩ | ⟨rfl, hJx3⟩)
     · have HJ3 := Lib.hid hJ3
       have HK3 := Lib.hid hk3
       clear hJ3 hk3
       gi_wp2
       go_roundw
       case rel => exact Hrel.out _ HJ3.out HK3.out
       case measure => simp [intOf]; omega
     · gi_wp2
       refine bodyPost_ret (results_none rfl _ _ _) rfl ?_
       exact ⟨⟨_, rfl⟩, .inr ⟨_, ⟨usub s hs g (p + un s p), by rw [hU.out, HU2.out]; simp⟩, hJx3⟩⟩
  · have e := usub_end s hs f p hlt
    have HE := Lib.hid e
    clear e
    gi_wp2
    go_end0
    exact ⟨⟨_, rfl⟩, .inl ⟨pre, by rw [hU.out, HE.out]; simp, HJ.out⟩⟩
end Go.Proofs.YtmfpakolfpoamaaGreatDoor.P
namespace Go.Proofs.YtmfpakolfpoamaaGreatDoor.P
set_option linter.unusedVariables false
set_option linter.unusedSimpArgs false
open Go.RowKit Go.Shelf
attribute [local go_sem] Oper.semAt_some
theorem runes_in (n : Nat) (s : ByteArray) (w : World) :
 CallsIn Fence.wide n Tryz.prog 142 #[.string s] w fun e w' => e = .returned (.func (.func 155) #[] #[.pointer (some ⟨w.heap.size, 0, none⟩)]) ∧ w' = w.alloc (.cells #[.string s] 9) := by
 refine callsIn_of_wp Tryz.func142 rfl trivial ?_ rfl
 simp only [Tryz.ntmps142, List.size_toArray, List.length_cons, List.length_nil, Nat.reduceAdd, Nat.reduceSub, Array.replicate_succ, Array.replicate_zero, List.push_toArray, List.append_toArray, List.nil_append, List.cons_append]
 gi_wp2
 go_ret
 exact ⟨rfl, rfl⟩
theorem runes_stops (n : Nat) (hn : 2 ≤ n) (Bn n₀ : Nat) (s : ByteArray) (hs : s.size ≤ 1152921504606846976) (w w0 : World) (hn₀ : n₀ ≤ w.heap.size) (hL : LaidW w0) (hLn : w0.heap.size ≤ n₀) (hLb : Below n₀ w0 w)
 (hc : w.cell? ⟨Bn, 0, none⟩ = some (.string s)) :
 SeqStopsK Fence.wide n Tryz.prog 155 #[.pointer (some ⟨Bn, 0, none⟩)] (fun x : UItem => #[Value.int .i64 x.1.1, .int .i32 x.1.2]) (KpS n₀ Bn) (fun ys => ys = usub s hs s.size 0) (fun pre => pre <+: usub s hs s.size 0) (usub s hs s.size 0).length w := fun l J Jx W hW hJ _ hY h0 =>
 runes1_in n hn l Bn n₀ s hs J Jx (fun a b c e f => hJ a b c none e f (fun r er => by cases er)) hY W ((hW.cell (p := ⟨Bn, 0, none⟩) (World.block_lt_of_cell? _ _ hc)).trans hc) w0 hL hLn (hLb.trans (hW.mono hn₀)) (Nat.le_trans hn₀ hW.size) h0
def checkL : List (Nat × Int) → Option Nat
 | [] => none
 | (p, c) :: l => if c < 0 then some p else checkL l
def utf_Check.f (s : ByteArray) : Option (Int × Int) :=
 if s.size ≤ 1152921504606846976 then
  match checkL (uitems s s.size 0) with
  | none => some ((s.size : Int), 0)
  | some p => some ((p : Int), 61)
 else none
def allGood (l : List UItem) : Prop := ∀ x ∈ l, 0 ≤ x.1.2
theorem checkL_good : ∀ (l : List UItem), allGood l → checkL (l.map (·.1)) = none
 | [], _ => rfl
 | ⟨(p, c), _⟩ :: l, h => by
  have h1 := h _ (List.mem_cons_self)
  simp only [List.map_cons, checkL]
  rw [if_neg (by simpa using h1)]
  exact checkL_good l (fun x hx => h x (List.mem_cons_of_mem _ hx))
theorem checkL_bad : ∀ (l r : List UItem) (x : UItem), allGood l → x.1.2 < 0 → checkL ((l ++ x :: r).map (·.1)) = some x.1.1
 | [], r, ⟨(p, c), _⟩, _, h => by simp only [List.nil_append, List.map_cons, checkL]; rw [if_pos (by simpa using h)]
 | ⟨(p, c), _⟩ :: l, r, x, h, hx => by
  have h1 := h _ (List.mem_cons_self)
  simp only [List.cons_append, List.map_cons, checkL]
  rw [if_neg (by simpa using h1)]
  exact checkL_bad l r x (fun x hx => h x (List.mem_cons_of_mem _ hx)) hx
set_option maxHeartbeats 4000000 in
theorem check_in (n : Nat) (hn : 4 ≤ n) (s : ByteArray) (hs : s.size ≤ 1152921504606846976) (w : World) (hLD : LaidW w) :
 CallsIn Fence.wide n Tryz.prog 127 #[.string s] w fun e W' => ∃ p c : Int, e = .returned (.tuple #[.int .i64 p, .int .i64 c]) ∧ utf_Check.f s = some (p, c) ∧ Below w.heap.size w W' := by
 have h1 : 1 ≤ n := by omega
 have HS := Lib.hid hs
 refine callsIn_of_wp_marks Tryz.func127 rfl trivial ?_ rfl
 simp only [Tryz.ntmps127, List.size_toArray, List.length_cons, List.length_nil, Nat.reduceAdd, Nat.reduceSub, Array.replicate_succ, Array.replicate_zero, List.push_toArray, List.append_toArray, List.nil_append, List.cons_append]
 gi_wp2_with (refine ⟨trivial, ?_⟩; gi_at_call 142; refine (runes_in (n - 1) _ _).mono ?_; rintro e w' ⟨rfl, rfl⟩)
 have b2 := Boxed.new w 3 (.int .i64 0)
 have b3 := Boxed.new (w.alloc (.cells #[.int .i64 0] 3)) 25 (.int .i64 0)
 have bS := Boxed.new ((w.alloc (.cells #[.int .i64 0] 3)).alloc (.cells #[.int .i64 0] 25)) 9 (.string s)
 have hB0 : Below w.heap.size w (((w.alloc (.cells #[.int .i64 0] 3)).alloc (.cells #[.int .i64 0] 25)).alloc (.cells #[.string s] 9)) := (((Below.refl _ w).alloc (Nat.le_refl _) _).alloc (by simp) _).alloc (by simp; omega) _
 simp only [World.size_alloc] at b3 bS
 have b2' := (b2.alloc (.cells #[.int .i64 0] 25)).alloc (.cells #[.string s] 9)
 have b3' := b3.alloc (.cells #[.string s] 9)
 obtain ⟨W0, hW0⟩ : ∃ W0, W0 = ((w.alloc (.cells #[.int .i64 0] 3)).alloc (.cells #[.int .i64 0] 25)).alloc (.cells #[.string s] 9) := ⟨_, rfl⟩
 have hz : W0.heap.size = w.heap.size + 3 := by rw [hW0]; simp
 rw [← hW0] at hB0 b2' b3' bS ⊢
 have hLD0 : LaidW W0 := hLD.below hB0
 have hZ := Lib.hid hz
 have HB0 := Lib.hid hB0
 have HLD0 := Lib.hid hLD0
 clear b2 b3 hz hB0 hLD0 hW0
 have c2 := b2'.cell
 have c3 := b3'.cell
 have f2 := b2'.frozen
 have f3 := b3'.frozen
 have C2 := Lib.hid c2
 have C3 := Lib.hid c3
 have F2 := Lib.hid f2
 have F3 := Lib.hid f3
 clear c2 c3 f2 f3 b2' b3'
 refine wpIn_rangeFunc_ownF rfl h1 (gf := 155) (lb := #[.pointer (some ⟨w.heap.size + 1 + 1, 0, none⟩)]) rfl trivial (enters_of Tryz.func155 (by kernel_rfl) rfl)
  (runes_stops (n - 1) (by omega) (w.heap.size + 1 + 1) W0.heap.size s HS.out W0 W0 (Nat.le_refl _) HLD0.out (Nat.le_refl _) (Below.refl _ _) bS.cell) kpS_t (kpS_b (Nat.le_refl _) (by have := hZ.out; omega)) (Below.refl _ _) (fun _ => rfl)
  (fun pre W => allGood pre ∧ Below W0.heap.size W0 W)
  (fun c pre W => (c = .ret ∧ (∃ l x, pre = l ++ [x] ∧ allGood l ∧ x.1.2 < 0 ∧ W.cell? ⟨w.heap.size, 0, none⟩ = some (.int .i64 x.1.1)) ∧ W.cell? ⟨w.heap.size + 1, 0, none⟩ = some (.int .i64 61)) ∧ Below w.heap.size w W)
  (OwnFrom.and (fun _ _ _ _ hs _ _ => hs) (ownFrom_below (Nat.le_refl _) (Nat.le_refl _)))
  (fun c => OwnFrom.and (Own.from (fun s A B row hs hg hr => by
   obtain ⟨h0, ⟨l, x, hl, hg0, hx, hc1⟩, hc2⟩ := hs
   exact ⟨h0, ⟨l, x, hl, hg0, hx, cell_kept hc1 hg hr⟩, cell_kept hc2 hg hr⟩) _) (ownFrom_below (Nat.le_refl _) (by have := hZ.out; omega)))
  ⟨(fun _ h => by cases h), Below.refl _ _⟩
  (fun x => { tmps := #[.string s, undef, .pointer (some ⟨w.heap.size, 0, none⟩), .pointer (some ⟨w.heap.size + 1, 0, none⟩), .int .i64 x.1.1, .int .i32 x.1.2, .string s, .func (.func 155) #[] #[.pointer (some ⟨w.heap.size + 1 + 1, 0, none⟩)], .int .i64 x.1.1, .int .i32 x.1.2, undef, undef, undef, undef, undef], defers := [] }) ?assign ?body ?done ?stop
 case assign =>
  intro l x W K hK
  gi_wp2
  exact hK
 case body =>
  rintro l pre x W ⟨hgood, hB⟩ _
  have hb0 := HB0.out.trans (hB.mono HB0.out.size)
  have hb1 : W0.heap.size ≤ W.heap.size := hB.size
  have hc2 : W.cell? ⟨w.heap.size, 0, none⟩ = some (.int .i64 0) := (hB.cell (p := ⟨w.heap.size, 0, none⟩) (by have := hZ.out; simp; omega)).trans C2.out
  have hc3 : W.cell? ⟨w.heap.size + 1, 0, none⟩ = some (.int .i64 0) := (hB.cell (p := ⟨w.heap.size + 1, 0, none⟩) (by have := hZ.out; simp; omega)).trans C3.out
  have hf2 : W.frozen? ⟨w.heap.size, 0, none⟩ = false := (hB.frozen (p := ⟨w.heap.size, 0, none⟩) (by have := hZ.out; simp; omega)).trans F2.out
  have hf3 : W.frozen? ⟨w.heap.size + 1, 0, none⟩ = false := (hB.frozen (p := ⟨w.heap.size + 1, 0, none⟩) (by have := hZ.out; simp; omega)).trans F3.out
  have HGOOD := Lib.hid hgood
  have HB := Lib.hid hB
  have HBB := Lib.hid hb0
  clear hgood hB hb0
  by_cases hx : x.1.2 < 0
  · gi_wp2
    refine ⟨(KeepsOthers.setCell W _ _).trans (KeepsOthers.setCell _ _ _), ⟨rfl, ⟨pre, x, rfl, HGOOD.out, hx, by go_simp⟩, by go_simp⟩, (HBB.out.setCell (p := ⟨w.heap.size, 0, none⟩) (by simp) _).setCell (p := ⟨w.heap.size + 1, 0, none⟩) (by simp) _⟩
  · gi_wp2
    refine ⟨KeepsOthers.refl _, kpS_refl _ _ _, fun y hy => ?_, HB.out⟩
    rcases List.mem_append.1 hy with h | h
    · exact HGOOD.out y h
    · simp at h; subst h; assumption
 case done =>
  rintro D ys W hD rfl ⟨hgood, hB⟩ hK
  have hb0 := HB0.out.trans (hB.mono HB0.out.size)
  have hb1 : W0.heap.size ≤ W.heap.size := hB.size
  have hc2 : W.cell? ⟨w.heap.size, 0, none⟩ = some (.int .i64 0) := (hB.cell (p := ⟨w.heap.size, 0, none⟩) (by have := hZ.out; simp; omega)).trans C2.out
  have hc3 : W.cell? ⟨w.heap.size + 1, 0, none⟩ = some (.int .i64 0) := (hB.cell (p := ⟨w.heap.size + 1, 0, none⟩) (by have := hZ.out; simp; omega)).trans C3.out
  have hf2 : W.frozen? ⟨w.heap.size, 0, none⟩ = false := (hB.frozen (p := ⟨w.heap.size, 0, none⟩) (by have := hZ.out; simp; omega)).trans F2.out
  have hf3 : W.frozen? ⟨w.heap.size + 1, 0, none⟩ = false := (hB.frozen (p := ⟨w.heap.size + 1, 0, none⟩) (by have := hZ.out; simp; omega)).trans F3.out
  have HGOOD := Lib.hid hgood
  have HB := Lib.hid hB
  have HBB := Lib.hid hb0
  have HK := Lib.hid hK
  clear hgood hB hb0 hK
  gi_wp2
  have hK' := (KeepsOthers.setCell (W.setCell ⟨w.heap.size, 0, none⟩ (.int .i64 s.size)) ⟨w.heap.size + 1, 0, none⟩ (.int .i64 0)).same D _ ((KeepsOthers.setCell W ⟨w.heap.size, 0, none⟩ (.int .i64 s.size)).same D _ HK.out rfl) rfl
  refine ⟨by simp, .inl ⟨_, _, rfl, run_takeDeferred hK', ?_⟩⟩
  have e2 : ((W.setCell ⟨w.heap.size, 0, none⟩ (.int .i64 s.size)).setCell ⟨w.heap.size + 1, 0, none⟩ (.int .i64 0)).cell? ⟨w.heap.size, 0, none⟩ = some (.int .i64 s.size) := by go_simp
  have e3 : ((W.setCell ⟨w.heap.size, 0, none⟩ (.int .i64 s.size)).setCell ⟨w.heap.size + 1, 0, none⟩ (.int .i64 0)).cell? ⟨w.heap.size + 1, 0, none⟩ = some (.int .i64 0) := by go_simp
  have k2 := cell_kept e2 (grownBy_putObj' _ D (.deferred none)) (fun r e => by cases e; exact ⟨_, hK', rfl⟩)
  have k3 := cell_kept e3 (grownBy_putObj' _ D (.deferred none)) (fun r e => by cases e; exact ⟨_, hK', rfl⟩)
  refine ⟨.tuple #[.int .i64 s.size, .int .i64 0], ?_, _, _, rfl, ?_, ((HBB.out.setCell (p := ⟨w.heap.size, 0, none⟩) (by simp) _).setCell (p := ⟨w.heap.size + 1, 0, none⟩) (by simp) _).trans (belowK_b (w := w) (Nat.le_refl _) _ D _ _ (by have := hZ.out; omega) hK' rfl rfl)⟩
  · simp [results, Tryz.f127, go_sem, k2, k3]
  · unfold utf_Check.f
    rw [if_pos HS.out, ← usub_val s HS.out, checkL_good _ HGOOD.out]
 case stop =>
  rintro D c pre W hD hpre ⟨⟨rfl, ⟨l, x, rfl, hl, hx, e2⟩, e3⟩, hB⟩ hK
  have HB := Lib.hid hB
  have HK := Lib.hid hK
  have HL := Lib.hid hl
  clear hB hK hl
  gi_wp2
  refine ⟨by simp, .inl ⟨_, _, rfl, run_takeDeferred HK.out, ?_⟩⟩
  have k2 := cell_kept e2 (grownBy_putObj' _ D (.deferred none)) (fun r e => by cases e; exact ⟨_, HK.out, rfl⟩)
  have k3 := cell_kept e3 (grownBy_putObj' _ D (.deferred none)) (fun r e => by cases e; exact ⟨_, HK.out, rfl⟩)
  refine ⟨.tuple #[.int .i64 x.1.1, .int .i64 61], ?_, _, _, rfl, ?_, HB.out.trans (belowK_b (w := w) (Nat.le_refl _) W D _ _ (by have := hZ.out; omega) HK.out rfl rfl)⟩
  · simp [results, Tryz.f127, go_sem, k2, k3]
  · obtain ⟨t, ht⟩ := hpre
    unfold utf_Check.f
    rw [if_pos HS.out, ← usub_val s HS.out, ← ht, List.append_assoc, List.singleton_append, checkL_bad l t x HL.out hx]
theorem utf_Check.calls (a0 : ByteArray) (r1 r2 : Int) (w : World) (hLD : LaidW w) (h : utf_Check.f a0 = some (r1, r2)) :
 Calls Tryz.prog 127 #[.string a0] w fun e w' => e = .returned (.tuple #[.int .i64 r1, .int .i64 r2]) ∧ Below w.heap.size w w' := by
 have hs : a0.size ≤ 1152921504606846976 := by
  by_cases hs : a0.size ≤ 1152921504606846976
  · exact hs
  · unfold utf_Check.f at h; rw [if_neg hs] at h; cases h
 refine (callsIn_wide.1 (check_in 4 (Nat.le_refl _) a0 hs w hLD)).mono ?_
 rintro e w' ⟨p, c, rfl, hf, hb⟩
 rw [h] at hf
 simp only [Option.some.injEq, Prod.mk.injEq] at hf
 obtain ⟨rfl, rfl⟩ := hf
 exact ⟨rfl, hb⟩
end Go.Proofs.YtmfpakolfpoamaaGreatDoor.P
namespace Go.Proofs.YtmfpakolfpoamaaGreatDoor.P
open Go.RowKit Go.Proofs.YtmfpakolfpoamaaGreatDoorW.PrintWords Go.Proofs.YtmfpakolfpoamaaGreatDoorW.PrintLast Go.Proofs.YtmfpakolfpoamaaGreatDoorW.PrintMore
attribute [local go_sem] max2_int min2_int max_two min_two max_three min_three max_four min_four   -- for this text's walks alone
set_option linter.unusedVariables false
set_option linter.unusedSimpArgs false
def value_letters.f (a0 : ByteArray) : Option (Int) := (utf_Check.f a0).bind fun bt170 => (if bt170.2 = 0 then (if (a0.size : Int) > 16384 then (some 5) else (some 0)) else (some bt170.2))
set_option maxHeartbeats 8000000 in
theorem value_letters.calls (a0 : ByteArray) (r : Int) (w : World) (hLD : LaidW w) (h : value_letters.f a0 = some r) :
 Calls Tryz.prog 111 #[.string a0] w fun e w' => e = .returned (.int .i64 r) ∧ Below w.heap.size w w' := by
 have HLD := Aside0.mk hLD
 clear hLD
 have HB := Aside0.mk (Below.refl w.heap.size w)
 have H : ((utf_Check.f a0).bind fun bt170 => (if bt170.2 = 0 then (if (a0.size : Int) > 16384 then (some 5) else (some 0)) else (some bt170.2))) = some r := h
 clear h
 replace H := Option.bind_eq_some_iff.mp H
 obtain ⟨⟨t170, t171⟩, A20, H⟩ := H
 replace H : (if t171 = 0 then (if (a0.size : Int) > 16384 then (some 5) else (some 0)) else (some t171)) = some r := H
 have A2 := Aside0.mk A20
 clear A20
 by_cases c3 : t171 = 0
 · rw [if_pos c3] at H
   have c3b0 : (t171 == 0) = true := beq_iff_eq.mpr c3
   have c3b1 : (t171 != 0) = false := bne_eq_false_iff_eq.mpr c3
   clear c3
   by_cases c4 : (a0.size : Int) > 16384
   · rw [if_pos c4] at H
     have c4b0 : decide (16384 < (a0.size : Int)) = true := decide_eq_true c4
     have c4b1 : decide (16384 < a0.size) = true := decide_eq_true (by omega)
     clear c4
     obtain rfl := Option.some.inj H
     go_enter Tryz.func111, Tryz.ntmps111
     go_wp2_with (first | ((with_reducible refine gate_callee (f := 127) rfl ?_); refine goesL_ (some 7) rfl rfl Tryz.func127 (by kernel_rfl) rfl #[.string a0] rfl (by (try simp only [List.map_toArray, List.map_cons, List.map_nil]); first | done | rfl | (simp only [List.length_drop, List.length_take]; rfl)) ?_; (with_reducible refine (utf_Check.calls a0 t170 t171 _ ?side1 A2.out).mono ?_); (case side1 => exact LaidW.below HLD.out (by repeat (first | (with_reducible first | exact HB.out | apply below_alloc | apply pw_below_drewN | apply below_drew1) | exact HB.out))); rintro e w5 ⟨rfl, hb⟩; refine ⟨_, rfl, ?_⟩; have n0_ := Aside0.mk (below_step (by repeat (first | (with_reducible first | exact HB.out | apply below_alloc | apply pw_below_drewN | apply below_drew1) | exact HB.out)) hb); clear HB; have HB := n0_; clear n0_; (try clear hb); (try clear hb2); (try clear hk); (try clear hi)))
     go_ret
     exact ⟨by first | rfl | (simp [errW_none, errW_some] <;> rfl) | (simp [*, errW_none, errW_some] <;> rfl), by repeat (first | (with_reducible first | exact HB.out | apply below_alloc | apply pw_below_drewN | apply below_drew1) | exact HB.out)⟩
   · rw [if_neg c4] at H
     have c4b0 : decide (16384 < (a0.size : Int)) = false := decide_eq_false c4
     have c4b1 : decide (16384 < a0.size) = false := decide_eq_false (by omega)
     clear c4
     obtain rfl := Option.some.inj H
     go_enter Tryz.func111, Tryz.ntmps111
     go_wp2_with (first | ((with_reducible refine gate_callee (f := 127) rfl ?_); refine goesL_ (some 7) rfl rfl Tryz.func127 (by kernel_rfl) rfl #[.string a0] rfl (by (try simp only [List.map_toArray, List.map_cons, List.map_nil]); first | done | rfl | (simp only [List.length_drop, List.length_take]; rfl)) ?_; (with_reducible refine (utf_Check.calls a0 t170 t171 _ ?side1 A2.out).mono ?_); (case side1 => exact LaidW.below HLD.out (by repeat (first | (with_reducible first | exact HB.out | apply below_alloc | apply pw_below_drewN | apply below_drew1) | exact HB.out))); rintro e w6 ⟨rfl, hb⟩; refine ⟨_, rfl, ?_⟩; have n0_ := Aside0.mk (below_step (by repeat (first | (with_reducible first | exact HB.out | apply below_alloc | apply pw_below_drewN | apply below_drew1) | exact HB.out)) hb); clear HB; have HB := n0_; clear n0_; (try clear hb); (try clear hb2); (try clear hk); (try clear hi)))
     go_ret
     exact ⟨by first | rfl | (simp [errW_none, errW_some] <;> rfl) | (simp [*, errW_none, errW_some] <;> rfl), by repeat (first | (with_reducible first | exact HB.out | apply below_alloc | apply pw_below_drewN | apply below_drew1) | exact HB.out)⟩
 · rw [if_neg c3] at H
   have c3b0 : (t171 == 0) = false := beq_eq_false_iff_ne.mpr c3
   have c3b1 : (t171 != 0) = true := bne_iff_ne.mpr c3
   obtain rfl := Option.some.inj H
   go_enter Tryz.func111, Tryz.ntmps111
   go_wp2_with (first | ((with_reducible refine gate_callee (f := 127) rfl ?_); refine goesL_ (some 7) rfl rfl Tryz.func127 (by kernel_rfl) rfl #[.string a0] rfl (by (try simp only [List.map_toArray, List.map_cons, List.map_nil]); first | done | rfl | (simp only [List.length_drop, List.length_take]; rfl)) ?_; (with_reducible refine (utf_Check.calls a0 t170 t171 _ ?side1 A2.out).mono ?_); (case side1 => exact LaidW.below HLD.out (by repeat (first | (with_reducible first | exact HB.out | apply below_alloc | apply pw_below_drewN | apply below_drew1) | exact HB.out))); rintro e w7 ⟨rfl, hb⟩; refine ⟨_, rfl, ?_⟩; have n0_ := Aside0.mk (below_step (by repeat (first | (with_reducible first | exact HB.out | apply below_alloc | apply pw_below_drewN | apply below_drew1) | exact HB.out)) hb); clear HB; have HB := n0_; clear n0_; (try clear hb); (try clear hb2); (try clear hk); (try clear hi)))
   go_ret
   exact ⟨by first | rfl | (simp [errW_none, errW_some] <;> rfl) | (simp [*, errW_none, errW_some] <;> rfl), by repeat (first | (with_reducible first | exact HB.out | apply below_alloc | apply pw_below_drewN | apply below_drew1) | exact HB.out)⟩
end Go.Proofs.YtmfpakolfpoamaaGreatDoor.P

/- FeedOrder: the walk. -/
import Derived.Test.YtdgebcgcabhjoaaFc
namespace Go.Proofs.Ytdgebcgcabhjoaa
open Go.RowKit Go.Conc
theorem feed_size (a0 : Int) : ∃ n : Nat, 1 ≤ n ∧ n ≤ 50 ∧ wrap64 ((wrap64 (a0.tmod 50 + 50)).tmod 50 + 1) = (n : Int) := by
  have h1 : -50 < a0.tmod 50 ∧ a0.tmod 50 < 50 := by
    constructor
    · have := Int.lt_tmod_of_pos a0 (by omega : (0 : Int) < 50); omega
    · exact Int.tmod_lt_of_pos a0 (by omega)
  have h2 : wrap64 (a0.tmod 50 + 50) = a0.tmod 50 + 50 := by unfold wrap64; omega
  have h3 : (a0.tmod 50 + 50).tmod 50 = (a0.tmod 50 + 50) % 50 := Int.tmod_eq_emod_of_nonneg (by omega)
  refine ⟨((a0.tmod 50 + 50) % 50 + 1).toNat, by omega, by omega, ?_⟩
  rw [h2, h3]
  unfold wrap64
  omega
def IntCells (w : World) (a : Option Addr) (vs : List Int) : Prop := vs = [] ∨ ∃ b off, a = some ⟨b, off, none⟩ ∧ ∀ k, k < vs.length → w.cell? ⟨b, off + k, none⟩ = some (.int .i64 (vs.getD k 0))
def iv (vs : List Int) : List Value := vs.map (.int .i64)
theorem iv_len (vs : List Int) : (iv vs).length = vs.length := by simp [iv]
theorem iv_get (vs : List Int) (k : Nat) (h : k < vs.length) : (iv vs).getD k undef = .int .i64 (vs.getD k 0) := by
  simp [iv, List.getD_eq_getElem?_getD, List.getElem?_eq_getElem h]
theorem IntCells.at {w w1 : World} {a : Option Addr} {vs : List Int} (h : IntCells w a vs) (hb : Below w.heap.size w w1) {c : Nat} (hc : w.heap.size ≤ c) : CellsAt w1 c a (iv vs) := by
  rcases h with rfl | ⟨b, off, rfl, h⟩
  · exact .inl rfl
  · by_cases e : vs = []
    · subst e; exact .inl rfl
    · refine .inr ⟨b, off, rfl, ?_, fun k hk => ?_⟩
      · have h0 := h 0 (by cases vs <;> simp_all)
        have := World.block_lt_of_cell? _ _ h0
        simp at this; omega
      · rw [iv_len] at hk
        rw [iv_get _ _ hk]
        exact cell_later hb (h k hk)
/-- What is still in the queue when k of the n that were put have been taken. -/
def rest (l : List Value) (n k : Nat) : Array Value := ((l.take n).drop k).toArray
theorem rest_extract (l : List Value) (n k : Nat) : (rest l n k).extract 1 (rest l n k).size = rest l n (k + 1) := by
  apply Array.toList_inj.1
  unfold rest
  rw [Array.toList_extract]
  simp only [List.size_toArray, List.extract_eq_take_drop, List.drop_drop]
  exact List.take_of_length_le (by simp; omega)
theorem rest_size (l : List Value) (n k : Nat) (h : n ≤ l.length) : (rest l n k).size = n - k := by
  simp [rest]; omega
theorem rest_getD (l : List Value) (n k : Nat) (hk : k < n) (h : n ≤ l.length) : (rest l n k).getD 0 undef = l.getD k undef := by
  have : k < l.length := by omega
  simp [rest, Array.getD_eq_getD_getElem?, List.getD_eq_getElem?_getD, hk]
theorem rest_done (l : List Value) (n : Nat) : rest l n n = #[] := by
  apply Array.toList_inj.1
  simp [rest]
theorem take_at (b c cap n k : Nat) (l : List Value) (w : World) (hq : w.cell? ⟨b, 0, none⟩ = some (.chan (some c))) (hC : QC w c cap (rest l n k)) (hk : k < n) (hn : n ≤ l.length) :
    Calls Try.prog 10 #[.pointer (some ⟨b, 0, none⟩)] w fun e w' => e = .returned (.tuple #[l.getD k undef, .bool true]) ∧ QW w c cap (rest l n (k + 1)) w' := by
  rw [← rest_getD l n k hk hn, ← rest_extract]
  exact take_int_some b c cap _ w hq hC (by rw [rest_size _ _ _ hn]; omega)
theorem len_at (b c cap n k : Nat) (l : List Value) (w : World) (hq : w.cell? ⟨b, 0, none⟩ = some (.chan (some c))) (hC : QC w c cap (rest l n (k + 1))) (hk : k < n) (hn : n ≤ l.length) :
    Calls Try.prog 11 #[.pointer (some ⟨b, 0, none⟩)] w fun e w' => e = .returned (.int .i64 ((n : Int) - 1 - k)) ∧ w = w' := by
  have h := len_int_any b c cap _ w hq hC
  rw [rest_size _ _ _ hn] at h
  rw [show ((n : Int) - 1 - k) = ((n - (k + 1) : Nat) : Int) by omega]
  exact h
theorem ret_true {b : Bool} (h : b = true) : Ending.returned (.bool b) = .returned (.bool true) := by rw [h]
set_option maxHeartbeats 1000000 in
theorem order_any (a0 : Int) (a1 : Option Addr) (len1 cap1 : Nat) (vs : List Int) (w : World) (hl : len1 = vs.length) (hm : len1 ≤ 9223372036854775807) (hc : IntCells w a1 vs) :
    Calls Try.prog 3 #[.int .i64 a0, .slice a1 len1 cap1] w fun e w' => e = .returned (.bool true) ∧ Below w.heap.size w w' := by
  obtain ⟨sz, hs1, hs2, hs⟩ := feed_size a0
  have HS := Lib.hid hs
  have HL := Lib.hid hl
  have HC := Lib.hid hc
  clear hs hl hc
  go_enter Try.func3, Try.ntmps3
  go_wp2_with fail
  refine (alive_any _).mono ?_
  rintro e wa ⟨rfl, hb⟩
  have HA := Lib.hid hb
  clear hb
  go_wp2_with fail
  simp only [HS.out]
  refine (new_int_yes sz _ hs1 (by omega)).mono ?_
  rintro e w' ⟨rfl, rfl⟩
  have hC := mkW_int_chan sz wa
  have hz := mkW_int_size sz wa
  have hb := mkW_int_below sz wa
  have h0 := mkW_int_cell0 sz wa
  have h1 := mkW_int_cell1 sz wa
  obtain ⟨W, hW⟩ : ∃ W, W = mkW_int sz wa := ⟨_, rfl⟩
  rw [← hW] at hC hz hb h0 h1 ⊢
  have HCH := Lib.hid hC
  have HZ := Lib.hid hz
  have HW := Lib.hid hW
  have HB := Lib.hid hb
  clear hC hz hW hb
  have hsz := HA.out.size
  have hcw : CellsAt W wa.heap.size a1 (iv vs) := HC.out.at (HA.out.trans (HB.out.mono hsz)) hsz
  have HCW := Lib.hid hcw
  clear hcw
  go_wp2_with fail
  refine (Put_int_open (wa.heap.size + 1) wa.heap.size sz #[] a1 len1 cap1 (iv vs) W (by rw [iv_len]; exact HL.out) hm (by simp) h0 h1 HCH.out (by omega) HCW.out).mono ?_
  rintro e w2 ⟨rfl, hQ⟩
  have HQ := Lib.hid hQ
  obtain ⟨n, hn⟩ : ∃ n, n = putn sz #[] (iv vs) := ⟨_, rfl⟩
  rw [← hn] at HQ ⊢
  have hn2 : n = min sz len1 := by rw [hn]; have := HL.out; simp [putn, iv_len]; omega
  have HN := Lib.hid hn2
  have hnl : n ≤ len1 := by omega
  clear hQ hn hn2
  go_wp2_with fail
  go_loopw [8] (fun i wr => ∃ k : Nat, k ≤ n ∧ i = .int .i64 k ∧ QW W wa.heap.size sz (rest (iv vs) n k) wr) (fun i _ => n - (intOf i).toNat)
  case atStart => exact ⟨0, Nat.zero_le _, rfl, by simpa [rest] using HQ.out⟩
  case round =>
    obtain ⟨k, hk, rfl, hR⟩ := hrel
    have HR := Lib.hid hR
    clear hR
    have hq1 := HR.out.cells (b := wa.heap.size + 1) (o := 0) (by omega) h0
    have hch := HR.out.chan (HCH.out.lt)
    have HCK := Lib.hid hch
    clear hch
    by_cases hlt : k < n
    · have hnv : n ≤ (iv vs).length := by rw [iv_len]; have := HL.out; omega
      have hge := iv_get vs k (by have := HL.out; omega)
      have HGE := Lib.hid hge
      clear hge
      obtain e0 | ⟨bl, off, rfl, hbl, hcl⟩ := HCW.out
      · exact absurd hnv (by rw [e0]; simp; omega)
      have hcell := HR.out.cells hbl (hcl k (by omega))
      rw [HGE.out] at hcell
      clear hbl hcl
      go_wp2_with fail
      refine (take_at (wa.heap.size + 1) wa.heap.size sz n k (iv vs) _ hq1 HCK.out hlt hnv).mono ?_
      rintro e wx ⟨rfl, hQ2⟩
      rw [HGE.out]
      have HQ2 := Lib.hid hQ2
      clear hQ2
      have hcell2 := HQ2.out.cells (b := bl) (o := off + k) (by have := HCW.out; rcases this with h | ⟨_, _, h, h', _⟩ <;> simp_all) hcell
      have hq2 := HQ2.out.cells (b := wa.heap.size + 1) (o := 0) (by omega) hq1
      go_wp2_with (go_at_call 11; refine (len_at (wa.heap.size + 1) wa.heap.size sz n k (iv vs) _ hq2 (HQ2.out.chan HCK.out.lt) hlt hnv).mono ?_; rintro e w' ⟨rfl, rfl⟩)
      go_roundw
      case rel => exact ⟨k + 1, by omega, by go_num, HR.out.trans HQ2.out⟩
      case measure => simp [intOf]; omega
    · have e : k = n := by omega
      have HR2 : Hid (QW W wa.heap.size sz #[] wr) := by
        have := HR.out
        rw [e, rest_done] at this
        exact Lib.hid this
      have hchk : QC wr wa.heap.size sz #[] := HR2.out.chan HCH.out.lt
      have HCK2 := Lib.hid hchk
      clear e hchk
      have hmin : (n : Int) = min (sz : Int) (len1 : Int) := by have := HN.out; omega
      have HM := Lib.hid hmin
      clear hmin
      go_wp2_with (go_at_call 10; refine (take_int_none (wa.heap.size + 1) wa.heap.size sz _ hq1 HCK2.out).mono ?_; rintro e w' ⟨rfl, rfl⟩)
      all_goals
        go_ret
        refine ⟨ret_true ?_, HR2.out.below (HA.out.trans (HB.out.mono hsz)) hsz⟩
        have hM := HM.out
        simp
        omega
end Go.Proofs.Ytdgebcgcabhjoaa

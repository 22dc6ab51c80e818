/- FeedCloses: the walk. -/
import Derived.Test.YtdgebcgcabhjoaaFo
namespace Go.Proofs.Ytdgebcgcabhjoaa
open Go.RowKit Go.Conc
def StrCells (w : World) (a : Option Addr) (vs : List ByteArray) : Prop := vs = [] ∨ ∃ b off, a = some ⟨b, off, none⟩ ∧ ∀ k, k < vs.length → w.cell? ⟨b, off + k, none⟩ = some (.string (vs.getD k ByteArray.empty))
def sv (vs : List ByteArray) : List Value := vs.map .string
theorem sv_len (vs : List ByteArray) : (sv vs).length = vs.length := by simp [sv]
theorem sv_get (vs : List ByteArray) (k : Nat) (h : k < vs.length) : (sv vs).getD k undef = .string (vs.getD k ByteArray.empty) := by
  simp [sv, List.getD_eq_getElem?_getD, List.getElem?_eq_getElem h]
theorem StrCells.at {w w1 : World} {a : Option Addr} {vs : List ByteArray} (h : StrCells w a vs) (hb : Below w.heap.size w w1) {c : Nat} (hc : w.heap.size ≤ c) : CellsAt w1 c a (sv vs) := by
  rcases h with rfl | ⟨b, off, rfl, h⟩
  · exact .inl rfl
  · by_cases e : vs = []
    · subst e; exact .inl rfl
    · refine .inr ⟨b, off, rfl, ?_, fun k hk => ?_⟩
      · have h0 := h 0 (by cases vs <;> simp_all)
        have := World.block_lt_of_cell? _ _ h0
        simp at this; omega
      · rw [sv_len] at hk
        rw [sv_get _ _ hk]
        exact cell_later hb (h k hk)
theorem take_str_at (b c cap n k : Nat) (l : List Value) (w : World) (hq : w.cell? ⟨b, 0, none⟩ = some (.chan (some c))) (hC : QC w c cap (rest l n k)) (hk : k < n) (hn : n ≤ l.length) :
    Calls Try.prog 15 #[.pointer (some ⟨b, 0, none⟩)] w fun e w' => e = .returned (.tuple #[l.getD k undef, .bool true]) ∧ QW w c cap (rest l n (k + 1)) w' := by
  rw [← rest_getD l n k hk hn, ← rest_extract]
  exact take_str_some b c cap _ w hq hC (by rw [rest_size _ _ _ hn]; omega)
theorem len_str_zero' (b c cap : Nat) (w : World) (hq : w.cell? ⟨b, 0, none⟩ = some (.chan (some c))) (hC : QC w c cap #[]) :
    Calls Try.prog 16 #[.pointer (some ⟨b, 0, none⟩)] w fun e w' => e = .returned (.int .i64 0) ∧ w = w' := len_str_any b c cap _ w hq hC
theorem QC.setCell {w : World} {c cap : Nat} {b : Array Value} (h : QC w c cap b) {a : Addr} (u : Value) (hne : c ≠ a.block) : QC (w.setCell a u) c cap b := by
  obtain ⟨s, r, h⟩ := h
  exact ⟨s, r, by rw [Below.heap_setCell _ _ _ _ hne]; exact h⟩
theorem QC.other {w w1 : World} {c : Nat} {cap : Nat} {b : Array Value} (h : QC w c cap b) (hh : w1.heap[c]? = w.heap[c]?) : QC w1 c cap b := by
  obtain ⟨s, r, h⟩ := h
  exact ⟨s, r, by rw [hh]; exact h⟩
theorem CellsAt.setCell {w : World} {c : Nat} {a : Option Addr} {vs : List Value} (h : CellsAt w c a vs) {p : Addr} (u : Value) (hp : ∀ b off, a = some ⟨b, off, none⟩ → vs ≠ [] → b ≠ p.block) : CellsAt (w.setCell p u) c a vs := by
  rcases h with h | ⟨b, off, rfl, h1, h2⟩
  · exact .inl h
  · by_cases e : vs = []
    · exact .inl e
    · refine .inr ⟨b, off, rfl, h1, fun k hk => ?_⟩
      rw [World.cell?_of_block (w := w) (Below.heap_setCell _ _ _ _ (hp _ _ rfl e))]
      exact h2 k hk
set_option maxHeartbeats 2000000 in
theorem closes_any (a0 : Int) (a1 a2 : Option Addr) (len1 cap1 len2 cap2 : Nat) (vs : List ByteArray) (w : World) (hl : len1 = vs.length) (hm : len1 ≤ 9223372036854775807) (hc : StrCells w a1 vs) :
    Calls Try.prog 4 #[.int .i64 a0, .slice a1 len1 cap1, .slice a2 len2 cap2] w fun e w' => e = .returned (.bool true) ∧ Below w.heap.size w w' := by
  obtain ⟨sz, hs1, hs2, hs⟩ := feed_size a0
  have HS := Lib.hid hs
  have HL := Lib.hid hl
  have HC := Lib.hid hc
  clear hs hl hc
  go_enter Try.func4, Try.ntmps4
  go_wp2_with fail
  refine (alive_any _).mono ?_
  rintro e wa ⟨rfl, hb⟩
  have HA := Lib.hid hb
  clear hb
  go_wp2_with fail
  simp only [HS.out]
  refine (new_str_yes sz _ hs1 (by omega)).mono ?_
  rintro e w' ⟨rfl, rfl⟩
  have hC := mkW_str_chan sz wa
  have hz := mkW_str_size sz wa
  have hb := mkW_str_below sz wa
  have h0 := mkW_str_cell0 sz wa
  have h1 := mkW_str_cell1 sz wa
  have hf := mkW_str_free sz wa
  obtain ⟨W, hW⟩ : ∃ W, W = mkW_str sz wa := ⟨_, rfl⟩
  rw [← hW] at hC hz hb h0 h1 hf ⊢
  have HCH := Lib.hid hC
  have HZ := Lib.hid hz
  have HW := Lib.hid hW
  have HB := Lib.hid hb
  have H0 := Lib.hid h0
  have H1 := Lib.hid h1
  have HF := Lib.hid hf
  clear hC hz hW hb h0 h1 hf
  have hsz := HA.out.size
  have hcw : CellsAt W wa.heap.size a1 (sv vs) := HC.out.at (HA.out.trans (HB.out.mono hsz)) hsz
  have HCW := Lib.hid hcw
  clear hcw
  go_wp2_with fail
  refine (Put_str_open (wa.heap.size + 1) wa.heap.size sz #[] a1 len1 cap1 (sv vs) W (by rw [sv_len]; exact HL.out) hm (by simp) H0.out H1.out HCH.out (by omega) HCW.out).mono ?_
  rintro e w2 ⟨rfl, hQ⟩
  obtain ⟨n, hn⟩ : ∃ n, n = putn sz #[] (sv vs) := ⟨_, rfl⟩
  rw [← hn] at hQ ⊢
  have hnl : n ≤ len1 := by rw [hn]; have := HL.out; simp [putn, sv_len]; omega
  have hQ2 : QW W wa.heap.size sz (rest (sv vs) n 0) w2 := by simpa [rest] using hQ
  have HQ := Lib.hid hQ2
  clear hQ hn hQ2
  have hq0 := HQ.out.cells (b := wa.heap.size + 1) (o := 0) (by omega) H0.out
  have hq1 := HQ.out.cells (b := wa.heap.size + 1) (o := 1) (by omega) H1.out
  have hqf : w2.frozen? ⟨wa.heap.size + 1, 1, none⟩ = false := by rw [HQ.out.frozen (by omega)]; exact HF.out
  have HQ0 := Lib.hid hq0
  have HQ1 := Lib.hid hq1
  have HQF := Lib.hid hqf
  clear hq0 hq1 hqf
  go_wp2_with fail
  refine (close_str_any (wa.heap.size + 1) wa.heap.size false _ HQ0.out HQ1.out HQF.out).mono ?_
  rintro e w3 ⟨rfl, h3⟩
  have h30 : w3.cell? ⟨wa.heap.size + 1, 0, none⟩ = some (.chan (some wa.heap.size)) := by
    rw [h3]
    have := HQ0.out
    go_simp
  have h31 : w3.cell? ⟨wa.heap.size + 1, 1, none⟩ = some (.bool true) := by
    rw [h3]
    have := HQ1.out
    go_simp
  have h3f : w3.frozen? ⟨wa.heap.size + 1, 1, none⟩ = false := by
    rw [h3]
    have := HQF.out
    go_simp
  have h3c : QC w3 wa.heap.size sz (rest (sv vs) n 0) := by
    rw [h3]
    exact (HQ.out.chan HCH.out.lt).setCell _ (by simp)
  have h3b : Below w.heap.size w w3 := by
    rw [h3]
    exact (HQ.out.below (HA.out.trans (HB.out.mono hsz)) hsz).setCell (by simp; omega) _
  have h3k : CellsAt w3 wa.heap.size a1 (sv vs) := HC.out.at h3b hsz
  have H30 := Lib.hid h30
  have H31 := Lib.hid h31
  have H3F := Lib.hid h3f
  have H3C := Lib.hid h3c
  have H3B := Lib.hid h3b
  clear h30 h31 h3f h3c h3b h3 h3k
  go_wp2_with fail
  refine (close_str_any (wa.heap.size + 1) wa.heap.size true _ H30.out H31.out H3F.out).mono ?_
  rintro e w4 ⟨rfl, h4⟩
  have h40 : w4.cell? ⟨wa.heap.size + 1, 0, none⟩ = some (.chan (some wa.heap.size)) := by
    rw [h4]
    have := H30.out
    go_simp
  have h41 : w4.cell? ⟨wa.heap.size + 1, 1, none⟩ = some (.bool true) := by
    rw [h4]
    have := H31.out
    go_simp
  have h4c : QC w4 wa.heap.size sz (rest (sv vs) n 0) := by
    rw [h4]
    exact H3C.out.setCell _ (by simp)
  have h4b : Below w.heap.size w w4 := by
    rw [h4]
    exact H3B.out.setCell (by simp; omega) _
  have h4k : CellsAt w4 wa.heap.size a1 (sv vs) := HC.out.at h4b hsz
  have H40 := Lib.hid h40
  have H41 := Lib.hid h41
  have H4C := Lib.hid h4c
  have H4B := Lib.hid h4b
  have H4K := Lib.hid h4k
  clear h40 h41 h4c h4b h4 h4k
  go_wp2_with fail
  refine (Put_str_closed (wa.heap.size + 1) wa.heap.size _ _ H40.out H41.out).mono ?_
  rintro e w' ⟨rfl, rfl⟩
  go_wp2_with fail
  go_loopw [13] (fun i wr => ∃ k : Nat, k ≤ n ∧ i = .int .i64 k ∧ QW w4 wa.heap.size sz (rest (sv vs) n k) wr) (fun i _ => n - (intOf i).toNat)
  case atStart => exact ⟨0, Nat.zero_le _, rfl, QW.refl H4C.out⟩
  case round =>
    obtain ⟨k, hk, rfl, hR⟩ := hrel
    have HR := Lib.hid hR
    clear hR
    have hq1 := HR.out.cells (b := wa.heap.size + 1) (o := 0) (by omega) H40.out
    have hch := HR.out.chan (H4C.out.lt)
    have HCK := Lib.hid hch
    clear hch
    by_cases hlt : k < n
    · have hnv : n ≤ (sv vs).length := by rw [sv_len]; have := HL.out; omega
      have hge := sv_get vs k (by have := HL.out; omega)
      have HGE := Lib.hid hge
      clear hge
      obtain e0 | ⟨bl, off, rfl, hbl, hcl⟩ := H4K.out
      · exact absurd hnv (by rw [e0]; simp; omega)
      have hcell := HR.out.cells hbl (hcl k (by omega))
      rw [HGE.out] at hcell
      clear hbl hcl
      go_wp2_with fail
      refine (take_str_at (wa.heap.size + 1) wa.heap.size sz n k (sv vs) _ hq1 HCK.out hlt hnv).mono ?_
      rintro e wx ⟨rfl, hQ2⟩
      rw [HGE.out]
      have HQ2 := Lib.hid hQ2
      clear hQ2
      have hcell2 := HQ2.out.cells (b := bl) (o := off + k) (by have := H4K.out; rcases this with h | ⟨_, _, h, h', _⟩ <;> simp_all) hcell
      go_wp2
      go_roundw
      case rel => exact ⟨k + 1, by omega, by go_num, HR.out.trans HQ2.out⟩
      case measure => simp [intOf]; omega
    · have e : k = n := by omega
      have HR2 : Hid (QW w4 wa.heap.size sz #[] wr) := by
        have := HR.out
        rw [e, rest_done] at this
        exact Lib.hid this
      have hchk : QC wr wa.heap.size sz #[] := HR2.out.chan H4C.out.lt
      have HCK2 := Lib.hid hchk
      clear e hchk
      go_wp2_with (go_at_call 16; refine (len_str_zero' (wa.heap.size + 1) wa.heap.size sz _ hq1 HCK2.out).mono ?_; rintro e w' ⟨rfl, rfl⟩)
      go_ret
      exact ⟨rfl, HR2.out.below H4B.out hsz⟩
end Go.Proofs.Ytdgebcgcabhjoaa

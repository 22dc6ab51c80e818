/- The contract of Put: as many as there are places. -/
import Derived.Test.YtdgebcgcabhjoaaFa
namespace Go.Proofs.Ytdgebcgcabhjoaa
open Go.RowKit Go.Conc

/-- A slice's cells, none of them in block c. -/
def CellsAt (w : World) (c : Nat) (a : Option Addr) (vs : List Value) : Prop := vs = [] ∨ ∃ b off, a = some ⟨b, off, none⟩ ∧ b ≠ c ∧ ∀ k, k < vs.length → w.cell? ⟨b, off + k, none⟩ = some (vs.getD k undef)

theorem QW.cells {w w1 : World} {c cap : Nat} {b1 : Array Value} (h1 : QW w c cap b1 w1) {b : Nat} (h : b ≠ c) {o : Nat} {v : Value} (hv : w.cell? ⟨b, o, none⟩ = some v) : w1.cell? ⟨b, o, none⟩ = some v := by
  rw [h1.cell h]; exact hv
/-- What Put puts. -/
def putn (cap : Nat) (buf : Array Value) (vs : List Value) : Nat := min (cap - buf.size) vs.length
theorem take_push (buf : Array Value) (vs : List Value) (k : Nat) (h : k < vs.length) : (buf ++ (vs.take k).toArray).push (vs.getD k undef) = buf ++ (vs.take (k + 1)).toArray := by
  apply Array.toList_inj.1
  have e : vs.getD k undef = vs[k] := by rw [List.getD_eq_getElem?_getD, List.getElem?_eq_getElem h]; rfl
  rw [List.take_succ_eq_append_getElem h, e]
  simp
theorem size_take (buf : Array Value) (vs : List Value) (k : Nat) (h : k ≤ vs.length) : (buf ++ (vs.take k).toArray).size = buf.size + k := by
  simp; omega


/-! ### int -/
set_option maxHeartbeats 400000 in
theorem Put_int_nil (l : Value) (w : World) : Calls Try.prog 9 #[.pointer none, l] w fun e w' => e = .returned (.int .i64 0) ∧ w = w' := by
  go_enter Try.func9, Try.ntmps9
  go_wp2_with (go_at_call 20; refine (open_int_nil _).mono ?_; rintro e w' ⟨rfl, rfl⟩)
  go_ret
  exact ⟨rfl, rfl⟩
set_option maxHeartbeats 400000 in
theorem Put_int_zero (b : Nat) (l : Value) (w : World) (hq : w.cell? ⟨b, 0, none⟩ = some (.chan none)) : Calls Try.prog 9 #[.pointer (some ⟨b, 0, none⟩), l] w fun e w' => e = .returned (.int .i64 0) ∧ w = w' := by
  go_enter Try.func9, Try.ntmps9
  go_wp2_with (go_at_call 20; refine (open_int_zero _ _ hq).mono ?_; rintro e w' ⟨rfl, rfl⟩)
  go_ret
  exact ⟨rfl, rfl⟩
set_option maxHeartbeats 400000 in
theorem Put_int_closed (b c : Nat) (l : Value) (w : World) (hq : w.cell? ⟨b, 0, none⟩ = some (.chan (some c))) (hcl : w.cell? ⟨b, 1, none⟩ = some (.bool true)) : Calls Try.prog 9 #[.pointer (some ⟨b, 0, none⟩), l] w fun e w' => e = .returned (.int .i64 0) ∧ w = w' := by
  go_enter Try.func9, Try.ntmps9
  go_wp2_with (go_at_call 20; refine (open_int_any _ _ true _ hq hcl).mono ?_; rintro e w' ⟨rfl, rfl⟩)
  go_ret
  exact ⟨rfl, rfl⟩

set_option maxHeartbeats 1000000 in
theorem Put_int_open (b c cap : Nat) (buf : Array Value) (al : Option Addr) (n cp : Nat) (vs : List Value) (w : World) (hn : n = vs.length) (hm : n ≤ 9223372036854775807) (hbuf : buf.size ≤ cap) (hq : w.cell? ⟨b, 0, none⟩ = some (.chan (some c))) (hcl : w.cell? ⟨b, 1, none⟩ = some (.bool false)) (hC : QC w c cap buf)
    (hbc : b ≠ c) (hcells : CellsAt w c al vs) :
    Calls Try.prog 9 #[.pointer (some ⟨b, 0, none⟩), .slice al n cp] w fun e w' => e = .returned (.int .i64 (putn cap buf vs)) ∧ QW w c cap (buf ++ (vs.take (putn cap buf vs)).toArray) w' := by
  have HN := Lib.hid hn
  have HC := Lib.hid hC
  have HB := Lib.hid hbc
  have HCE := Lib.hid hcells
  clear hn hC hbc hcells
  go_enter Try.func9, Try.ntmps9
  go_wp2_with (go_at_call 20; refine (open_int_any _ _ false _ hq hcl).mono ?_; rintro e w' ⟨rfl, rfl⟩)
  go_loopw [12] (fun i wr => ∃ k : Nat, k ≤ n ∧ i = .int .i64 k ∧ buf.size + k ≤ cap ∧ QW w c cap (buf ++ (vs.take k).toArray) wr) (fun i _ => n - (intOf i).toNat)
  case atStart => exact ⟨0, Nat.zero_le _, rfl, by omega, by simpa using QW.refl HC.out⟩
  case round =>
    obtain ⟨k, hk, rfl, hroom, hQ⟩ := hrel
    have HQ := Lib.hid hQ
    clear hQ
    by_cases hlt : k < n
    · obtain h0 | ⟨bl, off, rfl, hblc, hc⟩ := HCE.out
      · exact absurd hlt (by have := HN.out; rw [h0] at this; simp at this; omega)
      have hcell := HQ.out.cells hblc (hc k (by have := HN.out; omega))
      clear hblc hc
      have hq1 := HQ.out.cells HB.out hq
      by_cases hfull : buf.size + k < cap
      · go_wp2_with (go_at_call 21; refine (put_int_ok _ _ _ _ _ _ hq1 (HQ.out.chan HC.out.lt) (by rw [size_take _ _ _ (by have := HN.out; omega)]; exact hfull)).mono ?_; rintro e w' ⟨rfl, hw'⟩; have HW := Lib.hid hw'; clear hw')
        go_roundw
        case rel => exact ⟨k + 1, by omega, by go_num, by omega, by rw [← take_push _ _ _ (by have := HN.out; omega)]; exact HQ.out.trans HW.out⟩
        case measure => simp [intOf]; omega
      · have e : k = putn cap buf vs := by have := HN.out; unfold putn; omega
        have E := Lib.hid e
        clear e
        go_wp2_with (go_at_call 21; refine (put_int_full _ _ _ _ _ _ hq1 (HQ.out.chan HC.out.lt) (by rw [size_take _ _ _ (by have := HN.out; omega)]; omega)).mono ?_; rintro e w' ⟨rfl, rfl⟩)
        go_ret
        rw [← E.out]
        exact ⟨rfl, HQ.out⟩
    · have e : k = putn cap buf vs := by have := HN.out; unfold putn; omega
      have e2 : k = n := by omega
      have E := Lib.hid e
      have E2 := Lib.hid e2
      clear e e2
      go_wp2
      go_ret
      rw [← E.out, ← E2.out]
      exact ⟨rfl, HQ.out⟩


/-! ### str -/
set_option maxHeartbeats 400000 in
theorem Put_str_nil (l : Value) (w : World) : Calls Try.prog 13 #[.pointer none, l] w fun e w' => e = .returned (.int .i64 0) ∧ w = w' := by
  go_enter Try.func13, Try.ntmps13
  go_wp2_with (go_at_call 22; refine (open_str_nil _).mono ?_; rintro e w' ⟨rfl, rfl⟩)
  go_ret
  exact ⟨rfl, rfl⟩
set_option maxHeartbeats 400000 in
theorem Put_str_zero (b : Nat) (l : Value) (w : World) (hq : w.cell? ⟨b, 0, none⟩ = some (.chan none)) : Calls Try.prog 13 #[.pointer (some ⟨b, 0, none⟩), l] w fun e w' => e = .returned (.int .i64 0) ∧ w = w' := by
  go_enter Try.func13, Try.ntmps13
  go_wp2_with (go_at_call 22; refine (open_str_zero _ _ hq).mono ?_; rintro e w' ⟨rfl, rfl⟩)
  go_ret
  exact ⟨rfl, rfl⟩
set_option maxHeartbeats 400000 in
theorem Put_str_closed (b c : Nat) (l : Value) (w : World) (hq : w.cell? ⟨b, 0, none⟩ = some (.chan (some c))) (hcl : w.cell? ⟨b, 1, none⟩ = some (.bool true)) : Calls Try.prog 13 #[.pointer (some ⟨b, 0, none⟩), l] w fun e w' => e = .returned (.int .i64 0) ∧ w = w' := by
  go_enter Try.func13, Try.ntmps13
  go_wp2_with (go_at_call 22; refine (open_str_any _ _ true _ hq hcl).mono ?_; rintro e w' ⟨rfl, rfl⟩)
  go_ret
  exact ⟨rfl, rfl⟩

set_option maxHeartbeats 1000000 in
theorem Put_str_open (b c cap : Nat) (buf : Array Value) (al : Option Addr) (n cp : Nat) (vs : List Value) (w : World) (hn : n = vs.length) (hm : n ≤ 9223372036854775807) (hbuf : buf.size ≤ cap) (hq : w.cell? ⟨b, 0, none⟩ = some (.chan (some c))) (hcl : w.cell? ⟨b, 1, none⟩ = some (.bool false)) (hC : QC w c cap buf)
    (hbc : b ≠ c) (hcells : CellsAt w c al vs) :
    Calls Try.prog 13 #[.pointer (some ⟨b, 0, none⟩), .slice al n cp] w fun e w' => e = .returned (.int .i64 (putn cap buf vs)) ∧ QW w c cap (buf ++ (vs.take (putn cap buf vs)).toArray) w' := by
  have HN := Lib.hid hn
  have HC := Lib.hid hC
  have HB := Lib.hid hbc
  have HCE := Lib.hid hcells
  clear hn hC hbc hcells
  go_enter Try.func13, Try.ntmps13
  go_wp2_with (go_at_call 22; refine (open_str_any _ _ false _ hq hcl).mono ?_; rintro e w' ⟨rfl, rfl⟩)
  go_loopw [12] (fun i wr => ∃ k : Nat, k ≤ n ∧ i = .int .i64 k ∧ buf.size + k ≤ cap ∧ QW w c cap (buf ++ (vs.take k).toArray) wr) (fun i _ => n - (intOf i).toNat)
  case atStart => exact ⟨0, Nat.zero_le _, rfl, by omega, by simpa using QW.refl HC.out⟩
  case round =>
    obtain ⟨k, hk, rfl, hroom, hQ⟩ := hrel
    have HQ := Lib.hid hQ
    clear hQ
    by_cases hlt : k < n
    · obtain h0 | ⟨bl, off, rfl, hblc, hc⟩ := HCE.out
      · exact absurd hlt (by have := HN.out; rw [h0] at this; simp at this; omega)
      have hcell := HQ.out.cells hblc (hc k (by have := HN.out; omega))
      clear hblc hc
      have hq1 := HQ.out.cells HB.out hq
      by_cases hfull : buf.size + k < cap
      · go_wp2_with (go_at_call 23; refine (put_str_ok _ _ _ _ _ _ hq1 (HQ.out.chan HC.out.lt) (by rw [size_take _ _ _ (by have := HN.out; omega)]; exact hfull)).mono ?_; rintro e w' ⟨rfl, hw'⟩; have HW := Lib.hid hw'; clear hw')
        go_roundw
        case rel => exact ⟨k + 1, by omega, by go_num, by omega, by rw [← take_push _ _ _ (by have := HN.out; omega)]; exact HQ.out.trans HW.out⟩
        case measure => simp [intOf]; omega
      · have e : k = putn cap buf vs := by have := HN.out; unfold putn; omega
        have E := Lib.hid e
        clear e
        go_wp2_with (go_at_call 23; refine (put_str_full _ _ _ _ _ _ hq1 (HQ.out.chan HC.out.lt) (by rw [size_take _ _ _ (by have := HN.out; omega)]; omega)).mono ?_; rintro e w' ⟨rfl, rfl⟩)
        go_ret
        rw [← E.out]
        exact ⟨rfl, HQ.out⟩
    · have e : k = putn cap buf vs := by have := HN.out; unfold putn; omega
      have e2 : k = n := by omega
      have E := Lib.hid e
      have E2 := Lib.hid e2
      clear e e2
      go_wp2
      go_ret
      rw [← E.out, ← E2.out]
      exact ⟨rfl, HQ.out⟩


end Go.Proofs.Ytdgebcgcabhjoaa

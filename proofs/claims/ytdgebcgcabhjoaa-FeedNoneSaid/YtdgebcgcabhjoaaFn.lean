/- FeedNone: the walk. -/
import Derived.Test.YtdgebcgcabhjoaaFo
namespace Go.Proofs.Ytdgebcgcabhjoaa
open Go.RowKit Go.Conc
set_option maxHeartbeats 2000000 in
theorem none_no (a0 : Int) (l : Value) (w : World) (h : a0 < 1 ∨ 4096 < a0) :
    Calls Try.prog 5 #[.int .i64 a0, l] w fun e w' => e = .returned (.bool true) ∧ Below w.heap.size w w' := by
  go_enter Try.func5, Try.ntmps5
  go_wp2_with fail
  refine (alive_any _).mono ?_
  rintro e wa ⟨rfl, hb⟩
  have HA := Lib.hid hb
  clear hb
  have hsz := HA.out.size
  go_wp2_with fail
  refine (new_int_no a0 _ h).mono ?_
  rintro e w' ⟨rfl, rfl⟩
  have hz0 : (wa.alloc (.cells #[.chan none, .bool false] 43 (0, 0))).cell? ⟨wa.heap.size, 0, none⟩ = some (.chan none) := by go_simp
  have hz1 : (wa.alloc (.cells #[.chan none, .bool false] 43 (0, 0))).cell? ⟨wa.heap.size, 1, none⟩ = some (.bool false) := by go_simp
  have hz2 : (wa.alloc (.cells #[.chan none, .bool false] 43 (0, 0))).frozen? ⟨wa.heap.size, 1, none⟩ = false := by go_simp
  have HZ0 := Lib.hid hz0
  have HZ1 := Lib.hid hz1
  have HZ2 := Lib.hid hz2
  clear hz0 hz1 hz2
  go_wp2_with fail
  refine (take_int_nil _).mono ?_
  rintro e w' ⟨rfl, rfl⟩
  go_wp2_with fail
  refine (take_int_zero _ _ HZ0.out).mono ?_
  rintro e w' ⟨rfl, rfl⟩
  go_wp2_with fail
  refine (Put_int_nil _ _).mono ?_
  rintro e w' ⟨rfl, rfl⟩
  go_wp2_with fail
  refine (Put_int_zero _ _ _ HZ0.out).mono ?_
  rintro e w' ⟨rfl, rfl⟩
  go_wp2_with fail
  refine (len_int_nil _).mono ?_
  rintro e w' ⟨rfl, rfl⟩
  go_wp2_with fail
  refine (len_int_zero _ _ HZ0.out).mono ?_
  rintro e w' ⟨rfl, rfl⟩
  go_wp2_with fail
  refine (close_int_nil _).mono ?_
  rintro e w' ⟨rfl, rfl⟩
  go_wp2_with fail
  refine (close_int_zero _ _ HZ0.out HZ1.out HZ2.out).mono ?_
  rintro e w' ⟨rfl, rfl⟩
  rcases h with h | h
  · go_wp2
    go_ret
    exact ⟨rfl, HA.out.alloc hsz _⟩
  · have h' : ¬ a0 < 1 := by omega
    go_wp2
    go_ret
    exact ⟨rfl, HA.out.alloc hsz _⟩
set_option maxHeartbeats 2000000 in
theorem none_yes (n : Nat) (l : Value) (w : World) (h1 : 1 ≤ n) (h2 : n ≤ 4096) :
    Calls Try.prog 5 #[.int .i64 n, l] w fun e w' => e = .returned (.bool true) ∧ Below w.heap.size w w' := by
  go_enter Try.func5, Try.ntmps5
  go_wp2_with fail
  refine (alive_any _).mono ?_
  rintro e wa ⟨rfl, hb⟩
  have HA := Lib.hid hb
  clear hb
  have hsz := HA.out.size
  go_wp2_with fail
  refine (new_int_yes n _ h1 h2).mono ?_
  rintro e w' ⟨rfl, rfl⟩
  have hC := mkW_int_chan n wa
  have hz := mkW_int_size n wa
  have hb := mkW_int_below n wa
  have h0 := mkW_int_cell0 n wa
  obtain ⟨W, hW⟩ : ∃ W, W = mkW_int n wa := ⟨_, rfl⟩
  rw [← hW] at hC hz hb h0 ⊢
  have HCH := Lib.hid hC
  have HZ := Lib.hid hz
  have HB := Lib.hid hb
  have H0 := Lib.hid h0
  clear hC hz hW hb h0
  have hz0 : (W.alloc (.cells #[.chan none, .bool false] 43 (0, 0))).cell? ⟨W.heap.size, 0, none⟩ = some (.chan none) := by go_simp
  have hz1 : (W.alloc (.cells #[.chan none, .bool false] 43 (0, 0))).cell? ⟨W.heap.size, 1, none⟩ = some (.bool false) := by go_simp
  have hz2 : (W.alloc (.cells #[.chan none, .bool false] 43 (0, 0))).frozen? ⟨W.heap.size, 1, none⟩ = false := by go_simp
  have HZ0 := Lib.hid hz0
  have HZ1 := Lib.hid hz1
  have HZ2 := Lib.hid hz2
  clear hz0 hz1 hz2
  go_wp2_with fail
  refine (take_int_nil _).mono ?_
  rintro e w' ⟨rfl, rfl⟩
  go_wp2_with fail
  refine (take_int_zero _ _ HZ0.out).mono ?_
  rintro e w' ⟨rfl, rfl⟩
  go_wp2_with fail
  refine (Put_int_nil _ _).mono ?_
  rintro e w' ⟨rfl, rfl⟩
  go_wp2_with fail
  refine (Put_int_zero _ _ _ HZ0.out).mono ?_
  rintro e w' ⟨rfl, rfl⟩
  go_wp2_with fail
  refine (len_int_nil _).mono ?_
  rintro e w' ⟨rfl, rfl⟩
  go_wp2_with fail
  refine (len_int_zero _ _ HZ0.out).mono ?_
  rintro e w' ⟨rfl, rfl⟩
  go_wp2_with fail
  refine (close_int_nil _).mono ?_
  rintro e w' ⟨rfl, rfl⟩
  go_wp2_with fail
  refine (close_int_zero _ _ HZ0.out HZ1.out HZ2.out).mono ?_
  rintro e w' ⟨rfl, rfl⟩
  have h1' : ¬ (n : Int) < 1 := by omega
  have h2' : ¬ 4096 < (n : Int) := by omega
  have hc2 : QC (W.alloc (.cells #[.chan none, .bool true] 43 (0, 0))) wa.heap.size n #[] := HCH.out.alloc _
  have hq2 : (W.alloc (.cells #[.chan none, .bool true] 43 (0, 0))).cell? ⟨wa.heap.size + 1, 0, none⟩ = some (.chan (some wa.heap.size)) := later H0.out
  have HC2 := Lib.hid hc2
  have HQ2 := Lib.hid hq2
  clear hc2 hq2
  go_wp2_with fail
  refine (len_int_any _ _ _ _ _ HQ2.out HC2.out).mono ?_
  rintro e w' ⟨rfl, rfl⟩
  go_wp2
  go_ret
  have hb := HB.out.mono hsz
  have hs2 : w.heap.size ≤ W.heap.size := Nat.le_trans hsz HB.out.size
  exact ⟨rfl, (HA.out.trans hb).alloc hs2 _⟩
theorem none_any (a0 : Int) (l : Value) (w : World) :
    Calls Try.prog 5 #[.int .i64 a0, l] w fun e w' => e = .returned (.bool true) ∧ Below w.heap.size w w' := by
  by_cases h : a0 < 1 ∨ 4096 < a0
  · exact none_no a0 l w h
  · obtain ⟨n, rfl⟩ : ∃ n : Nat, a0 = n := ⟨a0.toNat, by omega⟩
    exact none_yes n l w (by omega) (by omega)
end Go.Proofs.Ytdgebcgcabhjoaa

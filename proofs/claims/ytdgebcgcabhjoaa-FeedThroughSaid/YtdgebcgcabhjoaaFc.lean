/- alive: the page's example holds. -/
import Derived.Test.YtdgebcgcabhjoaaFb
namespace Go.Proofs.Ytdgebcgcabhjoaa
open Go.RowKit Go.Conc
theorem QC.alloc {w : World} {c cap : Nat} {b : Array Value} (h : QC w c cap b) (o : Obj) : QC (w.alloc o) c cap b := by
  have hl := h.lt
  obtain ⟨s, r, h⟩ := h
  exact ⟨s, r, by rw [Below.heap_alloc _ _ _ hl]; exact h⟩
theorem later {w : World} {a : Addr} {v : Value} {o : Obj} (h : w.cell? a = some v) : (w.alloc o).cell? a = some v :=
  cell_later ((Below.refl _ _).alloc (Nat.le_refl _) _) h
set_option maxHeartbeats 400000 in
theorem alive_any (w : World) : Calls Try.prog 7 #[] w fun e w' => e = .returned (.bool true) ∧ Below w.heap.size w w' := by
  have hC := mkW_int_chan 1 w
  have hz := mkW_int_size 1 w
  have hb := mkW_int_below 1 w
  have h0 := mkW_int_cell0 1 w
  have h1 := mkW_int_cell1 1 w
  obtain ⟨W, hW⟩ : ∃ W, W = mkW_int 1 w := ⟨_, rfl⟩
  rw [← hW] at hC hz hb h0 h1
  have HC := Lib.hid hC
  have HZ := Lib.hid hz
  have HW := Lib.hid hW
  have HB := Lib.hid hb
  clear hC hz hW hb
  go_enter Try.func7, Try.ntmps7
  go_wp2_with fail
  refine (new_int_yes 1 _ (by omega) (by omega)).mono ?_
  rintro e w' ⟨rfl, rfl⟩
  rw [← HW.out]
  go_wp2_with fail
  refine (Put_int_open (w.heap.size + 1) w.heap.size 1 #[] (some ⟨W.heap.size, 0, none⟩) 2 2 [.int .i64 7, .int .i64 8] _ rfl (by omega) (by simp) (later h0) (later h1) (HC.out.alloc _) (by omega) (.inr ⟨_, _, rfl, by have := HZ.out; omega, ?_⟩)).mono ?_
  · intro k hk
    rcases k with _ | _ | k
    · go_simp
    · go_simp
    · simp at hk; omega
  · rintro e w' ⟨rfl, hQ⟩
    have hp : (putn 1 #[] [Value.int .i64 7, Value.int .i64 8]) = 1 := rfl
    rw [hp] at hQ ⊢
    have hq1 := hQ.cells (b := w.heap.size + 1) (o := 0) (v := .chan (some w.heap.size)) (by omega) (later h0)
    have HQ := Lib.hid hQ
    clear hQ hp
    go_wp2_with (go_at_call 11; refine (len_int_any _ _ _ _ _ hq1 (HQ.out.chan (by have := HZ.out; simp; omega))).mono ?_; rintro e w' ⟨rfl, rfl⟩)
    go_ret
    refine ⟨rfl, ?_⟩
    exact HQ.out.below (HB.out.alloc (by have := HZ.out; omega) _) (Nat.le_refl _)

end Go.Proofs.Ytdgebcgcabhjoaa

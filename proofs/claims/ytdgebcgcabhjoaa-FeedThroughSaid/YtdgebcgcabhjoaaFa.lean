/- Contracts of the queue's small functions (New, open, put, Take, Len, Close), at int and at string. -/
import Derived.Test.YtdgebcgcabhjoaaRows
import Derived.WalkKit
import Derived.WalkSpells
import Derived.WalkLawsBesides
import Derived.Conc.LoneCalls
import Derived.Conc.LoneSelect
import Derived.Conc.LoneSelectN
import Derived.Deep.QuietTactic
import Derived.BigQuiet
import Derived.Lib.Hide
namespace Go.Proofs.Ytdgebcgcabhjoaa
open Go.RowKit Go.Conc

/-- The world w with channel c's block holding buf (open). -/
def QW (w : World) (c cap : Nat) (buf : Array Value) (w' : World) : Prop := ∃ s r, w' = w.setChan c cap buf false s r false
/-- Block c is an open channel holding buf. -/
def QC (w : World) (c cap : Nat) (buf : Array Value) : Prop := ∃ s r, w.heap[c]? = some (.chan cap buf false s r false)

theorem setChan_self {w : World} {c cap s r : Nat} {buf : Array Value} {cl tm : Bool} (h : w.heap[c]? = some (.chan cap buf cl s r tm)) : w.setChan c cap buf cl s r tm = w := by
  obtain ⟨hlt, he⟩ := Array.getElem?_eq_some_iff.1 h
  have : w.heap.setIfInBounds c (.chan cap buf cl s r tm) = w.heap := by
    rw [← he]; apply Array.ext
    · simp
    · intro i h1 h2
      by_cases e : c = i
      · subst e; simp
      · rw [Array.getElem_setIfInBounds_ne (by simpa using h2) e]
  simp only [World.setChan, this]

theorem setChan_setChan (w : World) (c cap s r cap' s' r' : Nat) (buf buf' : Array Value) (cl tm cl' tm' : Bool) : (w.setChan c cap buf cl s r tm).setChan c cap' buf' cl' s' r' tm' = w.setChan c cap' buf' cl' s' r' tm' := by
  simp [World.setChan, Array.setIfInBounds_setIfInBounds]

theorem setChan_cell (w : World) (c cap s r : Nat) (buf : Array Value) (cl tm : Bool) (a : Addr) (h : a.block ≠ c) : (w.setChan c cap buf cl s r tm).cell? a = w.cell? a := by
  refine World.cell?_of_block (w := w) ?_
  simp [World.setChan, Array.getElem?_setIfInBounds_ne (Ne.symm h)]
theorem setChan_frozen (w : World) (c cap s r : Nat) (buf : Array Value) (cl tm : Bool) (a : Addr) (h : a.block ≠ c) : (w.setChan c cap buf cl s r tm).frozen? a = w.frozen? a := by
  refine World.frozen?_of_block (w := w) ?_
  simp [World.setChan, Array.getElem?_setIfInBounds_ne (Ne.symm h)]

theorem QW.refl {w : World} {c cap : Nat} {buf : Array Value} (h : QC w c cap buf) : QW w c cap buf w := by
  obtain ⟨s, r, h⟩ := h
  exact ⟨s, r, (setChan_self h).symm⟩
theorem QW.trans {w w1 w2 : World} {c cap cap' : Nat} {b1 b2 : Array Value} (h1 : QW w c cap b1 w1) (h2 : QW w1 c cap' b2 w2) : QW w c cap' b2 w2 := by
  obtain ⟨s, r, rfl⟩ := h1
  obtain ⟨s', r', rfl⟩ := h2
  exact ⟨s', r', setChan_setChan ..⟩
theorem QW.chan {w w1 : World} {c cap : Nat} {b1 : Array Value} (h1 : QW w c cap b1 w1) (hc : c < w.heap.size) : QC w1 c cap b1 := by
  obtain ⟨s, r, rfl⟩ := h1
  exact ⟨s, r, heap_setChan _ _ _ _ _ _ _ _ hc⟩
theorem QW.cell {w w1 : World} {c cap : Nat} {b1 : Array Value} (h1 : QW w c cap b1 w1) {b o : Nat} (h : b ≠ c) : w1.cell? ⟨b, o, none⟩ = w.cell? ⟨b, o, none⟩ := by
  obtain ⟨s, r, rfl⟩ := h1
  exact setChan_cell _ _ _ _ _ _ _ _ _ h
theorem QW.frozen {w w1 : World} {c cap : Nat} {b1 : Array Value} (h1 : QW w c cap b1 w1) {b o : Nat} (h : b ≠ c) : w1.frozen? ⟨b, o, none⟩ = w.frozen? ⟨b, o, none⟩ := by
  obtain ⟨s, r, rfl⟩ := h1
  exact setChan_frozen _ _ _ _ _ _ _ _ _ h
theorem QW.size {w w1 : World} {c cap : Nat} {b1 : Array Value} (h1 : QW w c cap b1 w1) : w1.heap.size = w.heap.size := by
  obtain ⟨s, r, rfl⟩ := h1
  exact size_setChan ..
theorem QW.below {w0 w w1 : World} {c cap : Nat} {b1 : Array Value} (h1 : QW w c cap b1 w1) {B : Nat} (h : Below B w0 w) (hB : B ≤ c) : Below B w0 w1 := by
  obtain ⟨s, r, rfl⟩ := h1
  exact below_setChan h hB _ _ _ _ _ _
theorem QC.lt {w : World} {c cap : Nat} {b1 : Array Value} (h1 : QC w c cap b1) : c < w.heap.size := by
  obtain ⟨s, r, h⟩ := h1
  exact (Array.getElem?_eq_some_iff.1 h).1

theorem run_equalIn_chan {P : Program} (w : World) (d : Nat) (t : TypeId) (dir : ChanDir) (e : TypeId) (a b : Option Nat) (h : P.underlying t = some (.chan dir e)) :
    (Op.equalIn (d + 1) t (.chan a) (.chan b)).run P w = .ok (a == b) w := by
  simp [Op.equalIn, run_underlying h]
theorem run_eql_chan {P : Program} (w : World) (t : TypeId) (dir : ChanDir) (e : TypeId) (a b : Option Nat) (h : P.underlying t = some (.chan dir e)) :
    (Go.binOp .eql t (.chan a) (.chan b)).run P w = .ok (.bool (a == b)) w := by
  simp only [Go.binOp]
  simp [Op.equal, Op.maxDepth, run_equalIn_chan w 9999 t dir e a b h]
theorem run_neq_chan {P : Program} (w : World) (t : TypeId) (dir : ChanDir) (e : TypeId) (a b : Option Nat) (h : P.underlying t = some (.chan dir e)) :
    (Go.binOp .neq t (.chan a) (.chan b)).run P w = .ok (.bool (!(a == b))) w := by
  simp only [Go.binOp]
  simp [Op.equal, Op.maxDepth, run_equalIn_chan w 9999 t dir e a b h]
theorem run_len_nilchan {P : Program} {w : World} {dir : ChanDir} {e : TypeId} (t ty : TypeId) (ht : P.underlying t = some (.chan dir e)) :
    (Builtin.len_ #[t] ty #[.chan none]).run P w = .ok (goInt 0) w := by
  simp [Builtin.len_, run_underlying ht]

theorem res_s_ok (a : Nat) (u z : Value) : commResult #[scase a u z] .select ((0 : Nat) : Int) undef false = .tuple #[goInt 0, .bool false] := by
  simp [commResult, scase, List.zipIdx_cons]


/-! ### int -/
theorem bytes_int : ∃ i, Try.prog.info? 3 = some i ∧ i.bytes = 8 := by
  have h : (Try.prog.info? 3).map (·.bytes) = some 8 := by kernel_rfl
  obtain ⟨i, hi, hb⟩ := Option.map_eq_some_iff.1 h
  exact ⟨i, hi, hb⟩

theorem mk_int (n : Nat) (hn : n ≤ 4096) (w : World) : (Instr.makeChan 41 (.int .i64 n)).run Try.prog w = .ok (.chan (some w.heap.size)) (w.alloc (.chan n #[] false 0 0 false)) := by
  obtain ⟨i, hi, hb⟩ := bytes_int
  simpa using run_makeChan (P := Try.prog) (w := w) Try.underlying41 hi .i64 n (by omega) (by rw [hb]; omega)

/-- The world behind New: a channel's block, then the queue's. -/
def mkW_int (n : Nat) (w : World) : World := (w.alloc (.chan n #[] false 0 0 false)).alloc (.cells #[.chan (some w.heap.size), .bool false] 43 (0, 0))

set_option maxHeartbeats 400000 in
theorem new_int_no (n : Int) (w : World) (h : n < 1 ∨ 4096 < n) : Calls Try.prog 8 #[.int .i64 n] w fun e w' => e = .returned (.tuple #[.pointer none, .int .i64 4]) ∧ w = w' := by
  rcases h with h | h
  · go_enter Try.func8, Try.ntmps8
    go_wp2
    go_ret2
    exact ⟨rfl, rfl⟩
  · have h' : ¬ n < 1 := by omega
    go_enter Try.func8, Try.ntmps8
    go_wp2
    go_ret2
    exact ⟨rfl, rfl⟩

set_option maxHeartbeats 400000 in
theorem new_int_yes (n : Nat) (w : World) (h1 : 1 ≤ n) (h2 : n ≤ 4096) : Calls Try.prog 8 #[.int .i64 n] w fun e w' => e = .returned (.tuple #[.pointer (some ⟨w.heap.size + 1, 0, none⟩), .int .i64 0]) ∧ w' = mkW_int n w := by
  have h1' : ¬ (n : Int) < 1 := by omega
  have h2' : ¬ 4096 < (n : Int) := by omega
  have hmk := mk_int n h2
  go_enter Try.func8, Try.ntmps8
  go_wp2
  go_ret2
  exact ⟨rfl, rfl⟩

theorem mkW_int_chan (n : Nat) (w : World) : QC (mkW_int n w) w.heap.size n #[] := by
  refine ⟨0, 0, ?_⟩
  unfold mkW_int
  rw [Below.heap_alloc _ _ _ (by simp)]
  exact heap_alloc_new w _
theorem mkW_int_size (n : Nat) (w : World) : (mkW_int n w).heap.size = w.heap.size + 2 := by
  simp [mkW_int]
theorem mkW_int_below (n : Nat) (w : World) : Below w.heap.size w (mkW_int n w) :=
  ((Below.refl _ _).alloc (Nat.le_refl _) _).alloc (by simp) _
theorem mkW_int_cell0 (n : Nat) (w : World) : (mkW_int n w).cell? ⟨w.heap.size + 1, 0, none⟩ = some (.chan (some w.heap.size)) := by
  unfold mkW_int
  go_simp
theorem mkW_int_cell1 (n : Nat) (w : World) : (mkW_int n w).cell? ⟨w.heap.size + 1, 1, none⟩ = some (.bool false) := by
  unfold mkW_int
  go_simp
theorem mkW_int_free (n : Nat) (w : World) : (mkW_int n w).frozen? ⟨w.heap.size + 1, 1, none⟩ = false := by
  unfold mkW_int
  go_simp

set_option maxRecDepth 100000 in
set_option maxHeartbeats 1000000 in
theorem put_int_ok (b c cap : Nat) (buf : Array Value) (v : Value) (w : World) (hq : w.cell? ⟨b, 0, none⟩ = some (.chan (some c))) (hC : QC w c cap buf) (hroom : buf.size < cap) :
    Calls Try.prog 21 #[.pointer (some ⟨b, 0, none⟩), v] w fun e w' => e = .returned (.bool true) ∧ QW w c cap (buf.push v) w' := by
  obtain ⟨s, r, hc⟩ := hC
  refine calls_of_loneTo fun cs => ?_
  have e : Frame.enter Try.prog 21 #[.pointer (some ⟨b, 0, none⟩), v] .normal = (base 21).at ⟨#[.pointer (some ⟨b, 0, none⟩), v, undef, undef, undef, undef, undef, undef, undef, undef, undef, undef, undef], []⟩ [.code (Try.f21.body.getD .skip)] := by
    simp [Frame.enter, Frame.at, Try.func21, base, Try.f21]
  rw [e]
  refine LoneTo.goes (n := 40) ?_
  simp only [Try.f21, Option.getD_some]
  s_c stepG_seq
  s_reg
  s_op
  s_c stepG_region_end
  s_c stepG_seq
  s_c stepG_seq
  s_reg
  s_op
  s_op
  s_op
  s_op
  s_c stepG_region_end
  s_reg
  s_op
  s_c stepG_region_end
  s_c stepG_seq
  s_reg
  s_stop
  refine LoneTo.step (step_lone_select_send_room (c := c) (v := v) (z' := .int .i64 0) (cap := cap) (buf := buf) (s := s) (r := r) (tm := false)
    (stepG_comm (cases := #[scase c v (.int .i64 0)]) (blocking := false) (shape := .select) (w' := w) rfl rfl (by decide) (by simp [go_sem, execOp, scase, Act.eval])) hc hroom) ?_
  rw [Frame.finish_at]
  walk_nrm
  refine LoneTo.goes (n := 40) ?_
  s_op
  s_op
  s_c stepG_region_end
  s_c stepG_block
  s_cond true
  s_c stepG_seq
  s_reg
  s_op
  s_c stepG_region_end
  s_c stepG_ret'
  s_stop
  refine LoneTo.done ⟨.returned (.bool true), _, rfl, ⟨rfl, ⟨_, _, rfl⟩⟩, rfl, rfl, rfl, rfl, _, Try.func21, by simp [results, Try.f21, Frame.at]⟩

set_option maxRecDepth 100000 in
set_option maxHeartbeats 1000000 in
theorem put_int_full (b c cap : Nat) (buf : Array Value) (v : Value) (w : World) (hq : w.cell? ⟨b, 0, none⟩ = some (.chan (some c))) (hC : QC w c cap buf) (hroom : cap ≤ buf.size) :
    Calls Try.prog 21 #[.pointer (some ⟨b, 0, none⟩), v] w fun e w' => e = .returned (.bool false) ∧ w = w' := by
  obtain ⟨s, r, hc⟩ := hC
  refine calls_of_loneTo fun cs => ?_
  have e : Frame.enter Try.prog 21 #[.pointer (some ⟨b, 0, none⟩), v] .normal = (base 21).at ⟨#[.pointer (some ⟨b, 0, none⟩), v, undef, undef, undef, undef, undef, undef, undef, undef, undef, undef, undef], []⟩ [.code (Try.f21.body.getD .skip)] := by
    simp [Frame.enter, Frame.at, Try.func21, base, Try.f21]
  rw [e]
  refine LoneTo.goes (n := 40) ?_
  simp only [Try.f21, Option.getD_some]
  s_c stepG_seq
  s_reg
  s_op
  s_c stepG_region_end
  s_c stepG_seq
  s_c stepG_seq
  s_reg
  s_op
  s_op
  s_op
  s_op
  s_c stepG_region_end
  s_reg
  s_op
  s_c stepG_region_end
  s_c stepG_seq
  s_reg
  s_stop
  refine LoneTo.step (step_lone_select_send_full (c := c) (v := v) (z' := .int .i64 0) (cap := cap) (buf := buf) (s := s) (r := r) (tm := false)
    (stepG_comm (cases := #[scase c v (.int .i64 0)]) (blocking := false) (shape := .select) (w' := w) rfl rfl (by decide) (by simp [go_sem, execOp, scase, Act.eval])) hc hroom) ?_
  rw [Frame.finish_at]
  walk_nrm
  refine LoneTo.goes (n := 40) ?_
  s_op
  s_op
  s_c stepG_region_end
  s_c stepG_block
  s_cond false
  s_c stepG_seq
  s_reg
  s_op
  s_c stepG_region_end
  s_c stepG_ret'
  s_stop
  refine LoneTo.done ⟨.returned (.bool false), _, rfl, ⟨rfl, rfl⟩, rfl, rfl, rfl, rfl, _, Try.func21, by simp [results, Try.f21, Frame.at]⟩


theorem res_int_some (a : Nat) (v : Value) : commResult #[rcase a (.int .i64 0)] .select ((0 : Nat) : Int) v true = .tuple #[goInt 0, .bool true, v] := by
  simp [commResult, rcase, List.zipIdx_cons]

set_option maxRecDepth 100000 in
set_option maxHeartbeats 1000000 in
theorem take_int_some (b c cap : Nat) (buf : Array Value) (w : World) (hq : w.cell? ⟨b, 0, none⟩ = some (.chan (some c))) (hC : QC w c cap buf) (hsome : 0 < buf.size) :
    Calls Try.prog 10 #[.pointer (some ⟨b, 0, none⟩)] w fun e w' => e = .returned (.tuple #[buf.getD 0 undef, .bool true]) ∧ QW w c cap (buf.extract 1 buf.size) w' := by
  obtain ⟨s, r, hc⟩ := hC
  obtain ⟨v, hv⟩ : ∃ v, v = buf.getD 0 undef := ⟨_, rfl⟩
  rw [← hv]
  have hv := Lib.hid hv
  have hsome := Lib.hid hsome
  refine calls_of_loneTo fun cs => ?_
  have e : Frame.enter Try.prog 10 #[.pointer (some ⟨b, 0, none⟩)] .normal = (base 10).at ⟨#[.pointer (some ⟨b, 0, none⟩), undef, undef, undef, undef, undef, undef, undef, undef, undef, undef, undef, undef, undef, undef, undef, undef, undef, undef, undef, undef, undef, undef, undef], []⟩ [.code (Try.f10.body.getD .skip)] := by
    simp [Frame.enter, Frame.at, Try.func10, base, Try.f10]
  rw [e]
  refine LoneTo.goes (n := 80) ?_
  simp only [Try.f10, Option.getD_some]
  s_c stepG_seq
  s_reg
  s_op
  s_op
  s_c stepG_region_end
  s_c stepG_seq
  s_c stepG_seq
  s_reg
  s_op
  s_op
  s_op
  s_op
  s_op
  s_op
  s_op
  s_op
  s_op
  s_c stepG_region_end
  s_cond false
  s_in
  rw [stepG_skip]
  simp only [goes_go]
  refine ⟨trivial, ?_⟩
  s_c stepG_seq
  s_reg
  s_op
  s_op
  s_op
  s_op
  s_c stepG_region_end
  s_c stepG_seq
  s_reg
  s_stop
  refine LoneTo.step (step_lone_select_recv_buf (c := c) (z := .int .i64 0) (cap := cap) (buf := buf) (closed := false) (s := s) (r := r) (tm := false)
    (stepG_comm (cases := #[rcase c (.int .i64 0)]) (blocking := false) (shape := .select) (w' := w) rfl rfl (by decide) (by simp [go_sem, execOp, rcase, Act.eval])) hc hsome.out) ?_
  rw [Frame.finish_at, ← hv.out]
  walk_nrm
  refine LoneTo.goes (n := 40) ?_
  s_op
  s_op
  s_c stepG_region_end
  s_c stepG_block
  s_cond true
  s_c stepG_seq
  s_reg
  s_op
  s_op
  s_c stepG_region_end
  s_c stepG_seq
  s_reg
  s_op
  s_op
  s_op
  s_c stepG_region_end
  s_c stepG_ret'
  s_stop
  refine LoneTo.done ⟨.returned (.tuple #[v, .bool true]), _, rfl, ⟨rfl, ⟨_, _, rfl⟩⟩, rfl, rfl, rfl, rfl, _, Try.func10, by simp [results, Try.f10, Frame.at, hv.out, hsome.out]⟩


theorem res_int_none (a : Nat) : commResult #[rcase a (.int .i64 0)] .select (-1) undef false = .tuple #[goInt (-1), .bool false, .int .i64 0] := by
  simp [commResult, rcase, List.zipIdx_cons]

set_option maxRecDepth 100000 in
set_option maxHeartbeats 1000000 in
theorem take_int_none (b c cap : Nat) (w : World) (hq : w.cell? ⟨b, 0, none⟩ = some (.chan (some c))) (hC : QC w c cap #[]) :
    Calls Try.prog 10 #[.pointer (some ⟨b, 0, none⟩)] w fun e w' => e = .returned (.tuple #[.int .i64 0, .bool false]) ∧ w = w' := by
  obtain ⟨s, r, hc⟩ := hC
  refine calls_of_loneTo fun cs => ?_
  have e : Frame.enter Try.prog 10 #[.pointer (some ⟨b, 0, none⟩)] .normal = (base 10).at ⟨#[.pointer (some ⟨b, 0, none⟩), undef, undef, undef, undef, undef, undef, undef, undef, undef, undef, undef, undef, undef, undef, undef, undef, undef, undef, undef, undef, undef, undef, undef], []⟩ [.code (Try.f10.body.getD .skip)] := by
    simp [Frame.enter, Frame.at, Try.func10, base, Try.f10]
  rw [e]
  refine LoneTo.goes (n := 80) ?_
  simp only [Try.f10, Option.getD_some]
  s_c stepG_seq
  s_reg
  s_op
  s_op
  s_c stepG_region_end
  s_c stepG_seq
  s_c stepG_seq
  s_reg
  s_op
  s_op
  s_op
  s_op
  s_op
  s_op
  s_op
  s_op
  s_op
  s_c stepG_region_end
  s_cond false
  s_in
  rw [stepG_skip]
  simp only [goes_go]
  refine ⟨trivial, ?_⟩
  s_c stepG_seq
  s_reg
  s_op
  s_op
  s_op
  s_op
  s_c stepG_region_end
  s_c stepG_seq
  s_reg
  s_stop
  refine LoneTo.step (step_lone_select_default (c := c) (z := .int .i64 0) (cap := cap) (s := s) (r := r) (tm := false)
    (stepG_comm (cases := #[rcase c (.int .i64 0)]) (blocking := false) (shape := .select) (w' := w) rfl rfl (by decide) (by simp [go_sem, execOp, rcase, Act.eval])) hc) ?_
  rw [Frame.finish_at]
  walk_nrm
  refine LoneTo.goes (n := 40) ?_
  s_op
  s_op
  s_c stepG_region_end
  s_c stepG_block
  s_cond false
  s_c stepG_seq
  s_reg
  s_op
  s_op
  s_op
  s_c stepG_region_end
  s_c stepG_ret'
  s_stop
  refine LoneTo.done ⟨.returned (.tuple #[.int .i64 0, .bool false]), _, rfl, ⟨rfl, rfl⟩, rfl, rfl, rfl, rfl, _, Try.func10, by simp [results, Try.f10, Frame.at]⟩

set_option maxHeartbeats 400000 in
theorem take_int_nil (w : World) : Calls Try.prog 10 #[.pointer none] w fun e w' => e = .returned (.tuple #[.int .i64 0, .bool false]) ∧ w = w' := by
  go_enter Try.func10, Try.ntmps10
  go_wp2
  go_ret2
  exact ⟨rfl, rfl⟩
set_option maxHeartbeats 400000 in
theorem take_int_zero (b : Nat) (w : World) (hq : w.cell? ⟨b, 0, none⟩ = some (.chan none)) : Calls Try.prog 10 #[.pointer (some ⟨b, 0, none⟩)] w fun e w' => e = .returned (.tuple #[.int .i64 0, .bool false]) ∧ w = w' := by
  have q1 := fun (w : World) (a b : Option Nat) => run_eql_chan (P := Try.prog) w 41 _ _ a b Try.underlying41
  have q2 := fun (w : World) (a b : Option Nat) => run_neq_chan (P := Try.prog) w 41 _ _ a b Try.underlying41
  go_enter Try.func10, Try.ntmps10
  go_wp2
  go_ret2
  exact ⟨rfl, rfl⟩

set_option maxHeartbeats 400000 in
theorem len_int_nil (w : World) : Calls Try.prog 11 #[.pointer none] w fun e w' => e = .returned (.int .i64 0) ∧ w = w' := by
  go_enter Try.func11, Try.ntmps11
  go_wp2
  go_ret
  exact ⟨rfl, rfl⟩
set_option maxHeartbeats 400000 in
theorem len_int_zero (b : Nat) (w : World) (hq : w.cell? ⟨b, 0, none⟩ = some (.chan none)) : Calls Try.prog 11 #[.pointer (some ⟨b, 0, none⟩)] w fun e w' => e = .returned (.int .i64 0) ∧ w = w' := by
  have hlen := fun ty => run_len_nilchan (P := Try.prog) (w := w) 41 ty Try.underlying41
  go_enter Try.func11, Try.ntmps11
  go_wp2
  go_ret
  exact ⟨rfl, rfl⟩
set_option maxHeartbeats 400000 in
theorem len_int_any (b c cap : Nat) (buf : Array Value) (w : World) (hq : w.cell? ⟨b, 0, none⟩ = some (.chan (some c))) (hC : QC w c cap buf) : Calls Try.prog 11 #[.pointer (some ⟨b, 0, none⟩)] w fun e w' => e = .returned (.int .i64 buf.size) ∧ w = w' := by
  obtain ⟨s, r, hc⟩ := hC
  have hlen := fun ty => run_len_chan (P := Try.prog) 41 ty Try.underlying41 hc
  go_enter Try.func11, Try.ntmps11
  go_wp2
  go_ret
  exact ⟨rfl, rfl⟩

set_option maxHeartbeats 400000 in
theorem open_int_nil (w : World) : Calls Try.prog 20 #[.pointer none] w fun e w' => e = .returned (.bool false) ∧ w = w' := by
  go_enter Try.func20, Try.ntmps20
  go_wp2
  go_ret
  exact ⟨rfl, rfl⟩
set_option maxHeartbeats 400000 in
theorem open_int_zero (b : Nat) (w : World) (hq : w.cell? ⟨b, 0, none⟩ = some (.chan none)) : Calls Try.prog 20 #[.pointer (some ⟨b, 0, none⟩)] w fun e w' => e = .returned (.bool false) ∧ w = w' := by
  have q1 := fun (w : World) (a b : Option Nat) => run_eql_chan (P := Try.prog) w 41 _ _ a b Try.underlying41
  have q2 := fun (w : World) (a b : Option Nat) => run_neq_chan (P := Try.prog) w 41 _ _ a b Try.underlying41
  go_enter Try.func20, Try.ntmps20
  go_wp2
  go_ret
  exact ⟨rfl, rfl⟩
set_option maxHeartbeats 400000 in
theorem open_int_any (b c : Nat) (cl : Bool) (w : World) (hq : w.cell? ⟨b, 0, none⟩ = some (.chan (some c))) (hcl : w.cell? ⟨b, 1, none⟩ = some (.bool cl)) : Calls Try.prog 20 #[.pointer (some ⟨b, 0, none⟩)] w fun e w' => e = .returned (.bool (!cl)) ∧ w = w' := by
  have q1 := fun (w : World) (a b : Option Nat) => run_eql_chan (P := Try.prog) w 41 _ _ a b Try.underlying41
  have q2 := fun (w : World) (a b : Option Nat) => run_neq_chan (P := Try.prog) w 41 _ _ a b Try.underlying41
  go_enter Try.func20, Try.ntmps20
  go_wp2
  go_ret
  exact ⟨rfl, rfl⟩

set_option maxHeartbeats 400000 in
theorem close_int_nil (w : World) : Calls Try.prog 17 #[.pointer none] w fun e w' => e = .returned (.bool false) ∧ w = w' := by
  go_enter Try.func17, Try.ntmps17
  go_wp2_with (go_at_call 20; refine (open_int_nil _).mono ?_; rintro e w' ⟨rfl, rfl⟩)
  go_ret
  exact ⟨rfl, rfl⟩
set_option maxHeartbeats 400000 in
theorem close_int_zero (b : Nat) (w : World) (hq : w.cell? ⟨b, 0, none⟩ = some (.chan none)) (hcl : w.cell? ⟨b, 1, none⟩ = some (.bool false)) (hf : w.frozen? ⟨b, 1, none⟩ = false) : Calls Try.prog 17 #[.pointer (some ⟨b, 0, none⟩)] w fun e w' => e = .returned (.bool false) ∧ w' = w.setCell ⟨b, 1, none⟩ (.bool true) := by
  go_enter Try.func17, Try.ntmps17
  go_wp2_with (go_at_call 20; refine (open_int_zero _ _ hq).mono ?_; rintro e w' ⟨rfl, rfl⟩)
  go_ret
  exact ⟨rfl, rfl⟩
set_option maxHeartbeats 400000 in
theorem close_int_any (b c : Nat) (cl : Bool) (w : World) (hq : w.cell? ⟨b, 0, none⟩ = some (.chan (some c))) (hcl : w.cell? ⟨b, 1, none⟩ = some (.bool cl)) (hf : w.frozen? ⟨b, 1, none⟩ = false) : Calls Try.prog 17 #[.pointer (some ⟨b, 0, none⟩)] w fun e w' => e = .returned (.bool (!cl)) ∧ w' = w.setCell ⟨b, 1, none⟩ (.bool true) := by
  go_enter Try.func17, Try.ntmps17
  go_wp2_with (go_at_call 20; refine (open_int_any _ _ _ _ hq hcl).mono ?_; rintro e w' ⟨rfl, rfl⟩)
  go_ret
  exact ⟨rfl, rfl⟩


/-! ### str -/
theorem bytes_str : ∃ i, Try.prog.info? 9 = some i ∧ i.bytes = 16 := by
  have h : (Try.prog.info? 9).map (·.bytes) = some 16 := by kernel_rfl
  obtain ⟨i, hi, hb⟩ := Option.map_eq_some_iff.1 h
  exact ⟨i, hi, hb⟩

theorem mk_str (n : Nat) (hn : n ≤ 4096) (w : World) : (Instr.makeChan 49 (.int .i64 n)).run Try.prog w = .ok (.chan (some w.heap.size)) (w.alloc (.chan n #[] false 0 0 false)) := by
  obtain ⟨i, hi, hb⟩ := bytes_str
  simpa using run_makeChan (P := Try.prog) (w := w) Try.underlying49 hi .i64 n (by omega) (by rw [hb]; omega)

/-- The world behind New: a channel's block, then the queue's. -/
def mkW_str (n : Nat) (w : World) : World := (w.alloc (.chan n #[] false 0 0 false)).alloc (.cells #[.chan (some w.heap.size), .bool false] 51 (0, 0))

set_option maxHeartbeats 400000 in
theorem new_str_no (n : Int) (w : World) (h : n < 1 ∨ 4096 < n) : Calls Try.prog 12 #[.int .i64 n] w fun e w' => e = .returned (.tuple #[.pointer none, .int .i64 4]) ∧ w = w' := by
  rcases h with h | h
  · go_enter Try.func12, Try.ntmps12
    go_wp2
    go_ret2
    exact ⟨rfl, rfl⟩
  · have h' : ¬ n < 1 := by omega
    go_enter Try.func12, Try.ntmps12
    go_wp2
    go_ret2
    exact ⟨rfl, rfl⟩

set_option maxHeartbeats 400000 in
theorem new_str_yes (n : Nat) (w : World) (h1 : 1 ≤ n) (h2 : n ≤ 4096) : Calls Try.prog 12 #[.int .i64 n] w fun e w' => e = .returned (.tuple #[.pointer (some ⟨w.heap.size + 1, 0, none⟩), .int .i64 0]) ∧ w' = mkW_str n w := by
  have h1' : ¬ (n : Int) < 1 := by omega
  have h2' : ¬ 4096 < (n : Int) := by omega
  have hmk := mk_str n h2
  go_enter Try.func12, Try.ntmps12
  go_wp2
  go_ret2
  exact ⟨rfl, rfl⟩

theorem mkW_str_chan (n : Nat) (w : World) : QC (mkW_str n w) w.heap.size n #[] := by
  refine ⟨0, 0, ?_⟩
  unfold mkW_str
  rw [Below.heap_alloc _ _ _ (by simp)]
  exact heap_alloc_new w _
theorem mkW_str_size (n : Nat) (w : World) : (mkW_str n w).heap.size = w.heap.size + 2 := by
  simp [mkW_str]
theorem mkW_str_below (n : Nat) (w : World) : Below w.heap.size w (mkW_str n w) :=
  ((Below.refl _ _).alloc (Nat.le_refl _) _).alloc (by simp) _
theorem mkW_str_cell0 (n : Nat) (w : World) : (mkW_str n w).cell? ⟨w.heap.size + 1, 0, none⟩ = some (.chan (some w.heap.size)) := by
  unfold mkW_str
  go_simp
theorem mkW_str_cell1 (n : Nat) (w : World) : (mkW_str n w).cell? ⟨w.heap.size + 1, 1, none⟩ = some (.bool false) := by
  unfold mkW_str
  go_simp
theorem mkW_str_free (n : Nat) (w : World) : (mkW_str n w).frozen? ⟨w.heap.size + 1, 1, none⟩ = false := by
  unfold mkW_str
  go_simp

set_option maxRecDepth 100000 in
set_option maxHeartbeats 1000000 in
theorem put_str_ok (b c cap : Nat) (buf : Array Value) (v : Value) (w : World) (hq : w.cell? ⟨b, 0, none⟩ = some (.chan (some c))) (hC : QC w c cap buf) (hroom : buf.size < cap) :
    Calls Try.prog 23 #[.pointer (some ⟨b, 0, none⟩), v] w fun e w' => e = .returned (.bool true) ∧ QW w c cap (buf.push v) w' := by
  obtain ⟨s, r, hc⟩ := hC
  refine calls_of_loneTo fun cs => ?_
  have e : Frame.enter Try.prog 23 #[.pointer (some ⟨b, 0, none⟩), v] .normal = (base 23).at ⟨#[.pointer (some ⟨b, 0, none⟩), v, undef, undef, undef, undef, undef, undef, undef, undef, undef, undef, undef], []⟩ [.code (Try.f23.body.getD .skip)] := by
    simp [Frame.enter, Frame.at, Try.func23, base, Try.f23]
  rw [e]
  refine LoneTo.goes (n := 40) ?_
  simp only [Try.f23, Option.getD_some]
  s_c stepG_seq
  s_reg
  s_op
  s_c stepG_region_end
  s_c stepG_seq
  s_c stepG_seq
  s_reg
  s_op
  s_op
  s_op
  s_op
  s_c stepG_region_end
  s_reg
  s_op
  s_c stepG_region_end
  s_c stepG_seq
  s_reg
  s_stop
  refine LoneTo.step (step_lone_select_send_room (c := c) (v := v) (z' := .string ⟨#[]⟩) (cap := cap) (buf := buf) (s := s) (r := r) (tm := false)
    (stepG_comm (cases := #[scase c v (.string ⟨#[]⟩)]) (blocking := false) (shape := .select) (w' := w) rfl rfl (by decide) (by simp [go_sem, execOp, scase, Act.eval])) hc hroom) ?_
  rw [Frame.finish_at]
  walk_nrm
  refine LoneTo.goes (n := 40) ?_
  s_op
  s_op
  s_c stepG_region_end
  s_c stepG_block
  s_cond true
  s_c stepG_seq
  s_reg
  s_op
  s_c stepG_region_end
  s_c stepG_ret'
  s_stop
  refine LoneTo.done ⟨.returned (.bool true), _, rfl, ⟨rfl, ⟨_, _, rfl⟩⟩, rfl, rfl, rfl, rfl, _, Try.func23, by simp [results, Try.f23, Frame.at]⟩

set_option maxRecDepth 100000 in
set_option maxHeartbeats 1000000 in
theorem put_str_full (b c cap : Nat) (buf : Array Value) (v : Value) (w : World) (hq : w.cell? ⟨b, 0, none⟩ = some (.chan (some c))) (hC : QC w c cap buf) (hroom : cap ≤ buf.size) :
    Calls Try.prog 23 #[.pointer (some ⟨b, 0, none⟩), v] w fun e w' => e = .returned (.bool false) ∧ w = w' := by
  obtain ⟨s, r, hc⟩ := hC
  refine calls_of_loneTo fun cs => ?_
  have e : Frame.enter Try.prog 23 #[.pointer (some ⟨b, 0, none⟩), v] .normal = (base 23).at ⟨#[.pointer (some ⟨b, 0, none⟩), v, undef, undef, undef, undef, undef, undef, undef, undef, undef, undef, undef], []⟩ [.code (Try.f23.body.getD .skip)] := by
    simp [Frame.enter, Frame.at, Try.func23, base, Try.f23]
  rw [e]
  refine LoneTo.goes (n := 40) ?_
  simp only [Try.f23, Option.getD_some]
  s_c stepG_seq
  s_reg
  s_op
  s_c stepG_region_end
  s_c stepG_seq
  s_c stepG_seq
  s_reg
  s_op
  s_op
  s_op
  s_op
  s_c stepG_region_end
  s_reg
  s_op
  s_c stepG_region_end
  s_c stepG_seq
  s_reg
  s_stop
  refine LoneTo.step (step_lone_select_send_full (c := c) (v := v) (z' := .string ⟨#[]⟩) (cap := cap) (buf := buf) (s := s) (r := r) (tm := false)
    (stepG_comm (cases := #[scase c v (.string ⟨#[]⟩)]) (blocking := false) (shape := .select) (w' := w) rfl rfl (by decide) (by simp [go_sem, execOp, scase, Act.eval])) hc hroom) ?_
  rw [Frame.finish_at]
  walk_nrm
  refine LoneTo.goes (n := 40) ?_
  s_op
  s_op
  s_c stepG_region_end
  s_c stepG_block
  s_cond false
  s_c stepG_seq
  s_reg
  s_op
  s_c stepG_region_end
  s_c stepG_ret'
  s_stop
  refine LoneTo.done ⟨.returned (.bool false), _, rfl, ⟨rfl, rfl⟩, rfl, rfl, rfl, rfl, _, Try.func23, by simp [results, Try.f23, Frame.at]⟩


theorem res_str_some (a : Nat) (v : Value) : commResult #[rcase a (.string ⟨#[]⟩)] .select ((0 : Nat) : Int) v true = .tuple #[goInt 0, .bool true, v] := by
  simp [commResult, rcase, List.zipIdx_cons]

set_option maxRecDepth 100000 in
set_option maxHeartbeats 1000000 in
theorem take_str_some (b c cap : Nat) (buf : Array Value) (w : World) (hq : w.cell? ⟨b, 0, none⟩ = some (.chan (some c))) (hC : QC w c cap buf) (hsome : 0 < buf.size) :
    Calls Try.prog 15 #[.pointer (some ⟨b, 0, none⟩)] w fun e w' => e = .returned (.tuple #[buf.getD 0 undef, .bool true]) ∧ QW w c cap (buf.extract 1 buf.size) w' := by
  obtain ⟨s, r, hc⟩ := hC
  obtain ⟨v, hv⟩ : ∃ v, v = buf.getD 0 undef := ⟨_, rfl⟩
  rw [← hv]
  have hv := Lib.hid hv
  have hsome := Lib.hid hsome
  refine calls_of_loneTo fun cs => ?_
  have e : Frame.enter Try.prog 15 #[.pointer (some ⟨b, 0, none⟩)] .normal = (base 15).at ⟨#[.pointer (some ⟨b, 0, none⟩), undef, undef, undef, undef, undef, undef, undef, undef, undef, undef, undef, undef, undef, undef, undef, undef, undef, undef, undef, undef, undef, undef, undef], []⟩ [.code (Try.f15.body.getD .skip)] := by
    simp [Frame.enter, Frame.at, Try.func15, base, Try.f15]
  rw [e]
  refine LoneTo.goes (n := 80) ?_
  simp only [Try.f15, Option.getD_some]
  s_c stepG_seq
  s_reg
  s_op
  s_op
  s_c stepG_region_end
  s_c stepG_seq
  s_c stepG_seq
  s_reg
  s_op
  s_op
  s_op
  s_op
  s_op
  s_op
  s_op
  s_op
  s_op
  s_c stepG_region_end
  s_cond false
  s_in
  rw [stepG_skip]
  simp only [goes_go]
  refine ⟨trivial, ?_⟩
  s_c stepG_seq
  s_reg
  s_op
  s_op
  s_op
  s_op
  s_c stepG_region_end
  s_c stepG_seq
  s_reg
  s_stop
  refine LoneTo.step (step_lone_select_recv_buf (c := c) (z := .string ⟨#[]⟩) (cap := cap) (buf := buf) (closed := false) (s := s) (r := r) (tm := false)
    (stepG_comm (cases := #[rcase c (.string ⟨#[]⟩)]) (blocking := false) (shape := .select) (w' := w) rfl rfl (by decide) (by simp [go_sem, execOp, rcase, Act.eval])) hc hsome.out) ?_
  rw [Frame.finish_at, ← hv.out]
  walk_nrm
  refine LoneTo.goes (n := 40) ?_
  s_op
  s_op
  s_c stepG_region_end
  s_c stepG_block
  s_cond true
  s_c stepG_seq
  s_reg
  s_op
  s_op
  s_c stepG_region_end
  s_c stepG_seq
  s_reg
  s_op
  s_op
  s_op
  s_c stepG_region_end
  s_c stepG_ret'
  s_stop
  refine LoneTo.done ⟨.returned (.tuple #[v, .bool true]), _, rfl, ⟨rfl, ⟨_, _, rfl⟩⟩, rfl, rfl, rfl, rfl, _, Try.func15, by simp [results, Try.f15, Frame.at, hv.out, hsome.out]⟩


theorem res_str_none (a : Nat) : commResult #[rcase a (.string ⟨#[]⟩)] .select (-1) undef false = .tuple #[goInt (-1), .bool false, .string ⟨#[]⟩] := by
  simp [commResult, rcase, List.zipIdx_cons]

set_option maxRecDepth 100000 in
set_option maxHeartbeats 1000000 in
theorem take_str_none (b c cap : Nat) (w : World) (hq : w.cell? ⟨b, 0, none⟩ = some (.chan (some c))) (hC : QC w c cap #[]) :
    Calls Try.prog 15 #[.pointer (some ⟨b, 0, none⟩)] w fun e w' => e = .returned (.tuple #[.string ⟨#[]⟩, .bool false]) ∧ w = w' := by
  obtain ⟨s, r, hc⟩ := hC
  refine calls_of_loneTo fun cs => ?_
  have e : Frame.enter Try.prog 15 #[.pointer (some ⟨b, 0, none⟩)] .normal = (base 15).at ⟨#[.pointer (some ⟨b, 0, none⟩), undef, undef, undef, undef, undef, undef, undef, undef, undef, undef, undef, undef, undef, undef, undef, undef, undef, undef, undef, undef, undef, undef, undef], []⟩ [.code (Try.f15.body.getD .skip)] := by
    simp [Frame.enter, Frame.at, Try.func15, base, Try.f15]
  rw [e]
  refine LoneTo.goes (n := 80) ?_
  simp only [Try.f15, Option.getD_some]
  s_c stepG_seq
  s_reg
  s_op
  s_op
  s_c stepG_region_end
  s_c stepG_seq
  s_c stepG_seq
  s_reg
  s_op
  s_op
  s_op
  s_op
  s_op
  s_op
  s_op
  s_op
  s_op
  s_c stepG_region_end
  s_cond false
  s_in
  rw [stepG_skip]
  simp only [goes_go]
  refine ⟨trivial, ?_⟩
  s_c stepG_seq
  s_reg
  s_op
  s_op
  s_op
  s_op
  s_c stepG_region_end
  s_c stepG_seq
  s_reg
  s_stop
  refine LoneTo.step (step_lone_select_default (c := c) (z := .string ⟨#[]⟩) (cap := cap) (s := s) (r := r) (tm := false)
    (stepG_comm (cases := #[rcase c (.string ⟨#[]⟩)]) (blocking := false) (shape := .select) (w' := w) rfl rfl (by decide) (by simp [go_sem, execOp, rcase, Act.eval])) hc) ?_
  rw [Frame.finish_at]
  walk_nrm
  refine LoneTo.goes (n := 40) ?_
  s_op
  s_op
  s_c stepG_region_end
  s_c stepG_block
  s_cond false
  s_c stepG_seq
  s_reg
  s_op
  s_op
  s_op
  s_c stepG_region_end
  s_c stepG_ret'
  s_stop
  refine LoneTo.done ⟨.returned (.tuple #[.string ⟨#[]⟩, .bool false]), _, rfl, ⟨rfl, rfl⟩, rfl, rfl, rfl, rfl, _, Try.func15, by simp [results, Try.f15, Frame.at]⟩

set_option maxHeartbeats 400000 in
theorem take_str_nil (w : World) : Calls Try.prog 15 #[.pointer none] w fun e w' => e = .returned (.tuple #[.string ⟨#[]⟩, .bool false]) ∧ w = w' := by
  go_enter Try.func15, Try.ntmps15
  go_wp2
  go_ret2
  exact ⟨rfl, rfl⟩
set_option maxHeartbeats 400000 in
theorem take_str_zero (b : Nat) (w : World) (hq : w.cell? ⟨b, 0, none⟩ = some (.chan none)) : Calls Try.prog 15 #[.pointer (some ⟨b, 0, none⟩)] w fun e w' => e = .returned (.tuple #[.string ⟨#[]⟩, .bool false]) ∧ w = w' := by
  have q1 := fun (w : World) (a b : Option Nat) => run_eql_chan (P := Try.prog) w 49 _ _ a b Try.underlying49
  have q2 := fun (w : World) (a b : Option Nat) => run_neq_chan (P := Try.prog) w 49 _ _ a b Try.underlying49
  go_enter Try.func15, Try.ntmps15
  go_wp2
  go_ret2
  exact ⟨rfl, rfl⟩

set_option maxHeartbeats 400000 in
theorem len_str_nil (w : World) : Calls Try.prog 16 #[.pointer none] w fun e w' => e = .returned (.int .i64 0) ∧ w = w' := by
  go_enter Try.func16, Try.ntmps16
  go_wp2
  go_ret
  exact ⟨rfl, rfl⟩
set_option maxHeartbeats 400000 in
theorem len_str_zero (b : Nat) (w : World) (hq : w.cell? ⟨b, 0, none⟩ = some (.chan none)) : Calls Try.prog 16 #[.pointer (some ⟨b, 0, none⟩)] w fun e w' => e = .returned (.int .i64 0) ∧ w = w' := by
  have hlen := fun ty => run_len_nilchan (P := Try.prog) (w := w) 49 ty Try.underlying49
  go_enter Try.func16, Try.ntmps16
  go_wp2
  go_ret
  exact ⟨rfl, rfl⟩
set_option maxHeartbeats 400000 in
theorem len_str_any (b c cap : Nat) (buf : Array Value) (w : World) (hq : w.cell? ⟨b, 0, none⟩ = some (.chan (some c))) (hC : QC w c cap buf) : Calls Try.prog 16 #[.pointer (some ⟨b, 0, none⟩)] w fun e w' => e = .returned (.int .i64 buf.size) ∧ w = w' := by
  obtain ⟨s, r, hc⟩ := hC
  have hlen := fun ty => run_len_chan (P := Try.prog) 49 ty Try.underlying49 hc
  go_enter Try.func16, Try.ntmps16
  go_wp2
  go_ret
  exact ⟨rfl, rfl⟩

set_option maxHeartbeats 400000 in
theorem open_str_nil (w : World) : Calls Try.prog 22 #[.pointer none] w fun e w' => e = .returned (.bool false) ∧ w = w' := by
  go_enter Try.func22, Try.ntmps22
  go_wp2
  go_ret
  exact ⟨rfl, rfl⟩
set_option maxHeartbeats 400000 in
theorem open_str_zero (b : Nat) (w : World) (hq : w.cell? ⟨b, 0, none⟩ = some (.chan none)) : Calls Try.prog 22 #[.pointer (some ⟨b, 0, none⟩)] w fun e w' => e = .returned (.bool false) ∧ w = w' := by
  have q1 := fun (w : World) (a b : Option Nat) => run_eql_chan (P := Try.prog) w 49 _ _ a b Try.underlying49
  have q2 := fun (w : World) (a b : Option Nat) => run_neq_chan (P := Try.prog) w 49 _ _ a b Try.underlying49
  go_enter Try.func22, Try.ntmps22
  go_wp2
  go_ret
  exact ⟨rfl, rfl⟩
set_option maxHeartbeats 400000 in
theorem open_str_any (b c : Nat) (cl : Bool) (w : World) (hq : w.cell? ⟨b, 0, none⟩ = some (.chan (some c))) (hcl : w.cell? ⟨b, 1, none⟩ = some (.bool cl)) : Calls Try.prog 22 #[.pointer (some ⟨b, 0, none⟩)] w fun e w' => e = .returned (.bool (!cl)) ∧ w = w' := by
  have q1 := fun (w : World) (a b : Option Nat) => run_eql_chan (P := Try.prog) w 49 _ _ a b Try.underlying49
  have q2 := fun (w : World) (a b : Option Nat) => run_neq_chan (P := Try.prog) w 49 _ _ a b Try.underlying49
  go_enter Try.func22, Try.ntmps22
  go_wp2
  go_ret
  exact ⟨rfl, rfl⟩

set_option maxHeartbeats 400000 in
theorem close_str_nil (w : World) : Calls Try.prog 14 #[.pointer none] w fun e w' => e = .returned (.bool false) ∧ w = w' := by
  go_enter Try.func14, Try.ntmps14
  go_wp2_with (go_at_call 22; refine (open_str_nil _).mono ?_; rintro e w' ⟨rfl, rfl⟩)
  go_ret
  exact ⟨rfl, rfl⟩
set_option maxHeartbeats 400000 in
theorem close_str_zero (b : Nat) (w : World) (hq : w.cell? ⟨b, 0, none⟩ = some (.chan none)) (hcl : w.cell? ⟨b, 1, none⟩ = some (.bool false)) (hf : w.frozen? ⟨b, 1, none⟩ = false) : Calls Try.prog 14 #[.pointer (some ⟨b, 0, none⟩)] w fun e w' => e = .returned (.bool false) ∧ w' = w.setCell ⟨b, 1, none⟩ (.bool true) := by
  go_enter Try.func14, Try.ntmps14
  go_wp2_with (go_at_call 22; refine (open_str_zero _ _ hq).mono ?_; rintro e w' ⟨rfl, rfl⟩)
  go_ret
  exact ⟨rfl, rfl⟩
set_option maxHeartbeats 400000 in
theorem close_str_any (b c : Nat) (cl : Bool) (w : World) (hq : w.cell? ⟨b, 0, none⟩ = some (.chan (some c))) (hcl : w.cell? ⟨b, 1, none⟩ = some (.bool cl)) (hf : w.frozen? ⟨b, 1, none⟩ = false) : Calls Try.prog 14 #[.pointer (some ⟨b, 0, none⟩)] w fun e w' => e = .returned (.bool (!cl)) ∧ w' = w.setCell ⟨b, 1, none⟩ (.bool true) := by
  go_enter Try.func14, Try.ntmps14
  go_wp2_with (go_at_call 22; refine (open_str_any _ _ _ _ hq hcl).mono ?_; rintro e w' ⟨rfl, rfl⟩)
  go_ret
  exact ⟨rfl, rfl⟩


end Go.Proofs.Ytdgebcgcabhjoaa

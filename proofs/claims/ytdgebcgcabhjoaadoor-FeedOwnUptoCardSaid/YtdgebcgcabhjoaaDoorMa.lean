/- Texts of this claim, one behind the other. -/
import Derived.Test.YtdgebcgcabhjoaaDoorRows
import Derived.WalkKit
import Derived.WalkSpells
import Derived.WalkLawsBesides
import Derived.Conc.LoneCalls
import Derived.Conc.LoneSelect
import Derived.Conc.LoneSelectN
import Derived.Deep.QuietTactic
import Derived.BigQuiet
import Derived.Lib.Hide
import Derived.Shelf.Unicode.DecodeSlow
import Derived.Test.YtdgebcgcabhjoaaDoorProg
import Derived.Below
import Derived.Deep.Draws
import Derived.Deep.AppendLies
import Derived.Maps.AppendAt
import Derived.OwnWalk
import Derived.Laws.BytesArg
import Derived.Laws.MakeOwn
import Derived.Laws.OwnMore
import Derived.Deep.OwnRows
import Derived.Tactics
import Derived.Lib.ConvBytes
import Derived.Laws.Slices
import Derived.KernelRfl
import Derived.RowKit3
import Derived.Deep.LoopGhost
import Derived.WideLaws
import Derived.Deep.DeepCutAuto
import Derived.Deep.CutBlock
import Derived.Deep.RegionHeld3
import Derived.Laws.Rows
import Derived.Lib.AppendStr
import Derived.ArgAppend
import Derived.Laws.IdiomCopy
import Derived.OrdersHeld
import Derived.Laws.BitsLemmas
import Derived.RowKit
import Derived.Test.YtdgebcgcabhjoaaDoorWWords
import Derived.Test.YtdgebcgcabhjoaaDoorWLast
import Derived.Test.YtdgebcgcabhjoaaDoorWTab
import Derived.Test.YtdgebcgcabhjoaaDoorWFour
import Derived.Test.YtdgebcgcabhjoaaDoorWQPut
import Derived.Test.YtdgebcgcabhjoaaDoorWApart
import Derived.Test.YtdgebcgcabhjoaaDoorWArr
import Derived.Test.YtdgebcgcabhjoaaDoorWZeros
import Derived.Test.YtdgebcgcabhjoaaDoorWFoot
import Derived.Test.YtdgebcgcabhjoaaDoorWKept
import Derived.Test.YtdgebcgcabhjoaaDoorWShare
import Derived.Test.YtdgebcgcabhjoaaDoorWN
import Derived.Test.YtdgebcgcabhjoaaDoorWFootNe
import Derived.Test.YtdgebcgcabhjoaaDoorWAt
import Derived.Test.YtdgebcgcabhjoaaDoorWEqStruct
import Derived.Test.YtdgebcgcabhjoaaDoorWRepsOne
import Derived.Test.YtdgebcgcabhjoaaDoorWInv
import Derived.Test.YtdgebcgcabhjoaaDoorWInvWords
import Derived.Test.YtdgebcgcabhjoaaDoorWGuard
import Derived.Test.YtdgebcgcabhjoaaDoorWNEv
import Derived.Test.YtdgebcgcabhjoaaDoorWMore
import Derived.Laws.BitsAllLaws
import Derived.Shelf.Unicode.DecodeAny
import Derived.Lib.DecodeN
import Derived.RangeFuncBox
import Derived.RangeFuncLeaves
import Derived.RangeFuncFrom
import Derived.Shelf.Abstract
import Derived.OwnWalkIn
import Derived.TacticsInMore
import Derived.LoopNIn
import Derived.LoopIn
import Derived.RangeFuncNested
import Derived.Lib.LazyBuf
import Derived.Sort.BigQuietIn
import Derived.Shelf.RegionOpen
import Derived.RangeFuncCalls
import Derived.TacticsIn
/- Contracts of the queue's small functions (New, open, put, Take, Len, Close), at int and at string. -/
namespace Go.Proofs.YtdgebcgcabhjoaaDoor
open Go.RowKit Go.Conc

/-- The world w with channel c's block holding buf (open). -/
def QW (w : World) (c cap : Nat) (buf : Array Value) (w' : World) : Prop := ∃ s r, w' = w.setChan c cap buf false s r false
/-- Block c is an open channel holding buf. -/
def QC (w : World) (c cap : Nat) (buf : Array Value) : Prop := ∃ s r, w.heap[c]? = some (.chan cap buf false s r false)

theorem setChan_self {w : World} {c cap s r : Nat} {buf : Array Value} {cl tm : Bool} (h : w.heap[c]? = some (.chan cap buf cl s r tm)) : w.setChan c cap buf cl s r tm = w := by
  obtain ⟨hlt, he⟩ := Array.getElem?_eq_some_iff.1 h
  have : w.heap.setIfInBounds c (.chan cap buf cl s r tm) = w.heap := by
    rw [← he]; apply Array.ext
    · simp
    · intro i h1 h2
      by_cases e : c = i
      · subst e; simp
      · rw [Array.getElem_setIfInBounds_ne (by simpa using h2) e]
  simp only [World.setChan, this]

theorem setChan_setChan (w : World) (c cap s r cap' s' r' : Nat) (buf buf' : Array Value) (cl tm cl' tm' : Bool) : (w.setChan c cap buf cl s r tm).setChan c cap' buf' cl' s' r' tm' = w.setChan c cap' buf' cl' s' r' tm' := by
  simp [World.setChan, Array.setIfInBounds_setIfInBounds]

theorem setChan_cell (w : World) (c cap s r : Nat) (buf : Array Value) (cl tm : Bool) (a : Addr) (h : a.block ≠ c) : (w.setChan c cap buf cl s r tm).cell? a = w.cell? a := by
  refine World.cell?_of_block (w := w) ?_
  simp [World.setChan, Array.getElem?_setIfInBounds_ne (Ne.symm h)]
theorem setChan_frozen (w : World) (c cap s r : Nat) (buf : Array Value) (cl tm : Bool) (a : Addr) (h : a.block ≠ c) : (w.setChan c cap buf cl s r tm).frozen? a = w.frozen? a := by
  refine World.frozen?_of_block (w := w) ?_
  simp [World.setChan, Array.getElem?_setIfInBounds_ne (Ne.symm h)]

theorem QW.refl {w : World} {c cap : Nat} {buf : Array Value} (h : QC w c cap buf) : QW w c cap buf w := by
  obtain ⟨s, r, h⟩ := h
  exact ⟨s, r, (setChan_self h).symm⟩
theorem QW.trans {w w1 w2 : World} {c cap cap' : Nat} {b1 b2 : Array Value} (h1 : QW w c cap b1 w1) (h2 : QW w1 c cap' b2 w2) : QW w c cap' b2 w2 := by
  obtain ⟨s, r, rfl⟩ := h1
  obtain ⟨s', r', rfl⟩ := h2
  exact ⟨s', r', setChan_setChan ..⟩
theorem QW.chan {w w1 : World} {c cap : Nat} {b1 : Array Value} (h1 : QW w c cap b1 w1) (hc : c < w.heap.size) : QC w1 c cap b1 := by
  obtain ⟨s, r, rfl⟩ := h1
  exact ⟨s, r, heap_setChan _ _ _ _ _ _ _ _ hc⟩
theorem QW.cell {w w1 : World} {c cap : Nat} {b1 : Array Value} (h1 : QW w c cap b1 w1) {b o : Nat} (h : b ≠ c) : w1.cell? ⟨b, o, none⟩ = w.cell? ⟨b, o, none⟩ := by
  obtain ⟨s, r, rfl⟩ := h1
  exact setChan_cell _ _ _ _ _ _ _ _ _ h
theorem QW.frozen {w w1 : World} {c cap : Nat} {b1 : Array Value} (h1 : QW w c cap b1 w1) {b o : Nat} (h : b ≠ c) : w1.frozen? ⟨b, o, none⟩ = w.frozen? ⟨b, o, none⟩ := by
  obtain ⟨s, r, rfl⟩ := h1
  exact setChan_frozen _ _ _ _ _ _ _ _ _ h
theorem QW.size {w w1 : World} {c cap : Nat} {b1 : Array Value} (h1 : QW w c cap b1 w1) : w1.heap.size = w.heap.size := by
  obtain ⟨s, r, rfl⟩ := h1
  exact size_setChan ..
theorem QW.below {w0 w w1 : World} {c cap : Nat} {b1 : Array Value} (h1 : QW w c cap b1 w1) {B : Nat} (h : Below B w0 w) (hB : B ≤ c) : Below B w0 w1 := by
  obtain ⟨s, r, rfl⟩ := h1
  exact below_setChan h hB _ _ _ _ _ _
theorem QC.lt {w : World} {c cap : Nat} {b1 : Array Value} (h1 : QC w c cap b1) : c < w.heap.size := by
  obtain ⟨s, r, h⟩ := h1
  exact (Array.getElem?_eq_some_iff.1 h).1

theorem run_equalIn_chan {P : Program} (w : World) (d : Nat) (t : TypeId) (dir : ChanDir) (e : TypeId) (a b : Option Nat) (h : P.underlying t = some (.chan dir e)) :
    (Op.equalIn (d + 1) t (.chan a) (.chan b)).run P w = .ok (a == b) w := by
  simp [Op.equalIn, run_underlying h]
theorem run_eql_chan {P : Program} (w : World) (t : TypeId) (dir : ChanDir) (e : TypeId) (a b : Option Nat) (h : P.underlying t = some (.chan dir e)) :
    (Go.binOp .eql t (.chan a) (.chan b)).run P w = .ok (.bool (a == b)) w := by
  simp only [Go.binOp]
  simp [Op.equal, Op.maxDepth, run_equalIn_chan w 9999 t dir e a b h]
theorem run_neq_chan {P : Program} (w : World) (t : TypeId) (dir : ChanDir) (e : TypeId) (a b : Option Nat) (h : P.underlying t = some (.chan dir e)) :
    (Go.binOp .neq t (.chan a) (.chan b)).run P w = .ok (.bool (!(a == b))) w := by
  simp only [Go.binOp]
  simp [Op.equal, Op.maxDepth, run_equalIn_chan w 9999 t dir e a b h]
theorem run_len_nilchan {P : Program} {w : World} {dir : ChanDir} {e : TypeId} (t ty : TypeId) (ht : P.underlying t = some (.chan dir e)) :
    (Builtin.len_ #[t] ty #[.chan none]).run P w = .ok (goInt 0) w := by
  simp [Builtin.len_, run_underlying ht]

theorem res_s_ok (a : Nat) (u z : Value) : commResult #[scase a u z] .select ((0 : Nat) : Int) undef false = .tuple #[goInt 0, .bool false] := by
  simp [commResult, scase, List.zipIdx_cons]


/-! ### int -/
theorem bytes_int : ∃ i, Tryd.prog.info? 3 = some i ∧ i.bytes = 8 := by
  have h : (Tryd.prog.info? 3).map (·.bytes) = some 8 := by kernel_rfl
  obtain ⟨i, hi, hb⟩ := Option.map_eq_some_iff.1 h
  exact ⟨i, hi, hb⟩

theorem mk_int (n : Nat) (hn : n ≤ 4096) (w : World) : (Instr.makeChan 51 (.int .i64 n)).run Tryd.prog w = .ok (.chan (some w.heap.size)) (w.alloc (.chan n #[] false 0 0 false)) := by
  obtain ⟨i, hi, hb⟩ := bytes_int
  simpa using run_makeChan (P := Tryd.prog) (w := w) Tryd.underlying51 hi .i64 n (by omega) (by rw [hb]; omega)

/-- The world behind New: a channel's block, then the queue's. -/
def mkW_int (n : Nat) (w : World) : World := (w.alloc (.chan n #[] false 0 0 false)).alloc (.cells #[.chan (some w.heap.size), .bool false] 53 (0, 0))

set_option maxHeartbeats 400000 in
theorem new_int_no (n : Int) (w : World) (h : n < 1 ∨ 4096 < n) : Calls Tryd.prog 9 #[.int .i64 n] w fun e w' => e = .returned (.tuple #[.pointer none, .int .i64 4]) ∧ w = w' := by
  rcases h with h | h
  · go_enter Tryd.func9, Tryd.ntmps9
    go_wp2
    go_ret2
    exact ⟨rfl, rfl⟩
  · have h' : ¬ n < 1 := by omega
    go_enter Tryd.func9, Tryd.ntmps9
    go_wp2
    go_ret2
    exact ⟨rfl, rfl⟩

set_option maxHeartbeats 400000 in
theorem new_int_yes (n : Nat) (w : World) (h1 : 1 ≤ n) (h2 : n ≤ 4096) : Calls Tryd.prog 9 #[.int .i64 n] w fun e w' => e = .returned (.tuple #[.pointer (some ⟨w.heap.size + 1, 0, none⟩), .int .i64 0]) ∧ w' = mkW_int n w := by
  have h1' : ¬ (n : Int) < 1 := by omega
  have h2' : ¬ 4096 < (n : Int) := by omega
  have hmk := mk_int n h2
  go_enter Tryd.func9, Tryd.ntmps9
  go_wp2
  go_ret2
  exact ⟨rfl, rfl⟩

theorem mkW_int_chan (n : Nat) (w : World) : QC (mkW_int n w) w.heap.size n #[] := by
  refine ⟨0, 0, ?_⟩
  unfold mkW_int
  rw [Below.heap_alloc _ _ _ (by simp)]
  exact heap_alloc_new w _
theorem mkW_int_size (n : Nat) (w : World) : (mkW_int n w).heap.size = w.heap.size + 2 := by
  simp [mkW_int]
theorem mkW_int_below (n : Nat) (w : World) : Below w.heap.size w (mkW_int n w) :=
  ((Below.refl _ _).alloc (Nat.le_refl _) _).alloc (by simp) _
theorem mkW_int_cell0 (n : Nat) (w : World) : (mkW_int n w).cell? ⟨w.heap.size + 1, 0, none⟩ = some (.chan (some w.heap.size)) := by
  unfold mkW_int
  go_simp
theorem mkW_int_cell1 (n : Nat) (w : World) : (mkW_int n w).cell? ⟨w.heap.size + 1, 1, none⟩ = some (.bool false) := by
  unfold mkW_int
  go_simp
theorem mkW_int_free (n : Nat) (w : World) : (mkW_int n w).frozen? ⟨w.heap.size + 1, 1, none⟩ = false := by
  unfold mkW_int
  go_simp

set_option maxRecDepth 100000 in
set_option maxHeartbeats 1000000 in
theorem put_int_ok (b c cap : Nat) (buf : Array Value) (v : Value) (w : World) (hq : w.cell? ⟨b, 0, none⟩ = some (.chan (some c))) (hC : QC w c cap buf) (hroom : buf.size < cap) :
    Calls Tryd.prog 21 #[.pointer (some ⟨b, 0, none⟩), v] w fun e w' => e = .returned (.bool true) ∧ QW w c cap (buf.push v) w' := by
  obtain ⟨s, r, hc⟩ := hC
  refine calls_of_loneTo fun cs => ?_
  have e : Frame.enter Tryd.prog 21 #[.pointer (some ⟨b, 0, none⟩), v] .normal = (base 21).at ⟨#[.pointer (some ⟨b, 0, none⟩), v, undef, undef, undef, undef, undef, undef, undef, undef, undef, undef, undef], []⟩ [.code (Tryd.f21.body.getD .skip)] := by
    simp [Frame.enter, Frame.at, Tryd.func21, base, Tryd.f21]
  rw [e]
  refine LoneTo.goes (n := 40) ?_
  simp only [Tryd.f21, Option.getD_some]
  s_c stepG_seq
  s_reg
  s_op
  s_c stepG_region_end
  s_c stepG_seq
  s_c stepG_seq
  s_reg
  s_op
  s_op
  s_op
  s_op
  s_c stepG_region_end
  s_reg
  s_op
  s_c stepG_region_end
  s_c stepG_seq
  s_reg
  s_stop
  refine LoneTo.step (step_lone_select_send_room (c := c) (v := v) (z' := .int .i64 0) (cap := cap) (buf := buf) (s := s) (r := r) (tm := false)
    (stepG_comm (cases := #[scase c v (.int .i64 0)]) (blocking := false) (shape := .select) (w' := w) rfl rfl (by decide) (by simp [go_sem, execOp, scase, Act.eval])) hc hroom) ?_
  rw [Frame.finish_at]
  walk_nrm
  refine LoneTo.goes (n := 40) ?_
  s_op
  s_op
  s_c stepG_region_end
  s_c stepG_block
  s_cond true
  s_c stepG_seq
  s_reg
  s_op
  s_c stepG_region_end
  s_c stepG_ret'
  s_stop
  refine LoneTo.done ⟨.returned (.bool true), _, rfl, ⟨rfl, ⟨_, _, rfl⟩⟩, rfl, rfl, rfl, rfl, _, Tryd.func21, by simp [results, Tryd.f21, Frame.at]⟩

set_option maxRecDepth 100000 in
set_option maxHeartbeats 1000000 in
theorem put_int_full (b c cap : Nat) (buf : Array Value) (v : Value) (w : World) (hq : w.cell? ⟨b, 0, none⟩ = some (.chan (some c))) (hC : QC w c cap buf) (hroom : cap ≤ buf.size) :
    Calls Tryd.prog 21 #[.pointer (some ⟨b, 0, none⟩), v] w fun e w' => e = .returned (.bool false) ∧ w = w' := by
  obtain ⟨s, r, hc⟩ := hC
  refine calls_of_loneTo fun cs => ?_
  have e : Frame.enter Tryd.prog 21 #[.pointer (some ⟨b, 0, none⟩), v] .normal = (base 21).at ⟨#[.pointer (some ⟨b, 0, none⟩), v, undef, undef, undef, undef, undef, undef, undef, undef, undef, undef, undef], []⟩ [.code (Tryd.f21.body.getD .skip)] := by
    simp [Frame.enter, Frame.at, Tryd.func21, base, Tryd.f21]
  rw [e]
  refine LoneTo.goes (n := 40) ?_
  simp only [Tryd.f21, Option.getD_some]
  s_c stepG_seq
  s_reg
  s_op
  s_c stepG_region_end
  s_c stepG_seq
  s_c stepG_seq
  s_reg
  s_op
  s_op
  s_op
  s_op
  s_c stepG_region_end
  s_reg
  s_op
  s_c stepG_region_end
  s_c stepG_seq
  s_reg
  s_stop
  refine LoneTo.step (step_lone_select_send_full (c := c) (v := v) (z' := .int .i64 0) (cap := cap) (buf := buf) (s := s) (r := r) (tm := false)
    (stepG_comm (cases := #[scase c v (.int .i64 0)]) (blocking := false) (shape := .select) (w' := w) rfl rfl (by decide) (by simp [go_sem, execOp, scase, Act.eval])) hc hroom) ?_
  rw [Frame.finish_at]
  walk_nrm
  refine LoneTo.goes (n := 40) ?_
  s_op
  s_op
  s_c stepG_region_end
  s_c stepG_block
  s_cond false
  s_c stepG_seq
  s_reg
  s_op
  s_c stepG_region_end
  s_c stepG_ret'
  s_stop
  refine LoneTo.done ⟨.returned (.bool false), _, rfl, ⟨rfl, rfl⟩, rfl, rfl, rfl, rfl, _, Tryd.func21, by simp [results, Tryd.f21, Frame.at]⟩


theorem res_int_some (a : Nat) (v : Value) : commResult #[rcase a (.int .i64 0)] .select ((0 : Nat) : Int) v true = .tuple #[goInt 0, .bool true, v] := by
  simp [commResult, rcase, List.zipIdx_cons]

theorem res_int_none (a : Nat) : commResult #[rcase a (.int .i64 0)] .select (-1) undef false = .tuple #[goInt (-1), .bool false, .int .i64 0] := by
  simp [commResult, rcase, List.zipIdx_cons]

set_option maxHeartbeats 400000 in
theorem len_int_nil (w : World) : Calls Tryd.prog 11 #[.pointer none] w fun e w' => e = .returned (.int .i64 0) ∧ w = w' := by
  go_enter Tryd.func11, Tryd.ntmps11
  go_wp2
  go_ret
  exact ⟨rfl, rfl⟩
set_option maxHeartbeats 400000 in
theorem len_int_zero (b : Nat) (w : World) (hq : w.cell? ⟨b, 0, none⟩ = some (.chan none)) : Calls Tryd.prog 11 #[.pointer (some ⟨b, 0, none⟩)] w fun e w' => e = .returned (.int .i64 0) ∧ w = w' := by
  have hlen := fun ty => run_len_nilchan (P := Tryd.prog) (w := w) 51 ty Tryd.underlying51
  go_enter Tryd.func11, Tryd.ntmps11
  go_wp2
  go_ret
  exact ⟨rfl, rfl⟩
set_option maxHeartbeats 400000 in
theorem len_int_any (b c cap : Nat) (buf : Array Value) (w : World) (hq : w.cell? ⟨b, 0, none⟩ = some (.chan (some c))) (hC : QC w c cap buf) : Calls Tryd.prog 11 #[.pointer (some ⟨b, 0, none⟩)] w fun e w' => e = .returned (.int .i64 buf.size) ∧ w = w' := by
  obtain ⟨s, r, hc⟩ := hC
  have hlen := fun ty => run_len_chan (P := Tryd.prog) 51 ty Tryd.underlying51 hc
  go_enter Tryd.func11, Tryd.ntmps11
  go_wp2
  go_ret
  exact ⟨rfl, rfl⟩

set_option maxHeartbeats 400000 in
theorem open_int_nil (w : World) : Calls Tryd.prog 20 #[.pointer none] w fun e w' => e = .returned (.bool false) ∧ w = w' := by
  go_enter Tryd.func20, Tryd.ntmps20
  go_wp2
  go_ret
  exact ⟨rfl, rfl⟩
set_option maxHeartbeats 400000 in
theorem open_int_zero (b : Nat) (w : World) (hq : w.cell? ⟨b, 0, none⟩ = some (.chan none)) : Calls Tryd.prog 20 #[.pointer (some ⟨b, 0, none⟩)] w fun e w' => e = .returned (.bool false) ∧ w = w' := by
  have q1 := fun (w : World) (a b : Option Nat) => run_eql_chan (P := Tryd.prog) w 51 _ _ a b Tryd.underlying51
  have q2 := fun (w : World) (a b : Option Nat) => run_neq_chan (P := Tryd.prog) w 51 _ _ a b Tryd.underlying51
  go_enter Tryd.func20, Tryd.ntmps20
  go_wp2
  go_ret
  exact ⟨rfl, rfl⟩
set_option maxHeartbeats 400000 in
theorem open_int_any (b c : Nat) (cl : Bool) (w : World) (hq : w.cell? ⟨b, 0, none⟩ = some (.chan (some c))) (hcl : w.cell? ⟨b, 1, none⟩ = some (.bool cl)) : Calls Tryd.prog 20 #[.pointer (some ⟨b, 0, none⟩)] w fun e w' => e = .returned (.bool (!cl)) ∧ w = w' := by
  have q1 := fun (w : World) (a b : Option Nat) => run_eql_chan (P := Tryd.prog) w 51 _ _ a b Tryd.underlying51
  have q2 := fun (w : World) (a b : Option Nat) => run_neq_chan (P := Tryd.prog) w 51 _ _ a b Tryd.underlying51
  go_enter Tryd.func20, Tryd.ntmps20
  go_wp2
  go_ret
  exact ⟨rfl, rfl⟩

theorem bytes_val : ∃ i, Tryd.prog.info? 34 = some i ∧ i.bytes = 112 := by
  have h : (Tryd.prog.info? 34).map (·.bytes) = some 112 := by kernel_rfl
  obtain ⟨i, hi, hb⟩ := Option.map_eq_some_iff.1 h
  exact ⟨i, hi, hb⟩

theorem mk_val (n : Nat) (hn : n ≤ 4096) (w : World) : (Instr.makeChan 56 (.int .i64 n)).run Tryd.prog w = .ok (.chan (some w.heap.size)) (w.alloc (.chan n #[] false 0 0 false)) := by
  obtain ⟨i, hi, hb⟩ := bytes_val
  simpa using run_makeChan (P := Tryd.prog) (w := w) Tryd.underlying56 hi .i64 n (by omega) (by rw [hb]; omega)

/-- The world behind New: a channel's block, then the queue's. -/
def mkW_val (n : Nat) (w : World) : World := (w.alloc (.chan n #[] false 0 0 false)).alloc (.cells #[.chan (some w.heap.size), .bool false] 58 (0, 0))

set_option maxHeartbeats 400000 in
theorem new_val_no (n : Int) (w : World) (h : n < 1 ∨ 4096 < n) : Calls Tryd.prog 13 #[.int .i64 n] w fun e w' => e = .returned (.tuple #[.pointer none, .int .i64 4]) ∧ w = w' := by
  rcases h with h | h
  · go_enter Tryd.func13, Tryd.ntmps13
    go_wp2
    go_ret2
    exact ⟨rfl, rfl⟩
  · have h' : ¬ n < 1 := by omega
    go_enter Tryd.func13, Tryd.ntmps13
    go_wp2
    go_ret2
    exact ⟨rfl, rfl⟩

set_option maxHeartbeats 400000 in
theorem new_val_yes (n : Nat) (w : World) (h1 : 1 ≤ n) (h2 : n ≤ 4096) : Calls Tryd.prog 13 #[.int .i64 n] w fun e w' => e = .returned (.tuple #[.pointer (some ⟨w.heap.size + 1, 0, none⟩), .int .i64 0]) ∧ w' = mkW_val n w := by
  have h1' : ¬ (n : Int) < 1 := by omega
  have h2' : ¬ 4096 < (n : Int) := by omega
  have hmk := mk_val n h2
  go_enter Tryd.func13, Tryd.ntmps13
  go_wp2
  go_ret2
  exact ⟨rfl, rfl⟩

theorem mkW_val_chan (n : Nat) (w : World) : QC (mkW_val n w) w.heap.size n #[] := by
  refine ⟨0, 0, ?_⟩
  unfold mkW_val
  rw [Below.heap_alloc _ _ _ (by simp)]
  exact heap_alloc_new w _
theorem mkW_val_size (n : Nat) (w : World) : (mkW_val n w).heap.size = w.heap.size + 2 := by
  simp [mkW_val]
theorem mkW_val_below (n : Nat) (w : World) : Below w.heap.size w (mkW_val n w) :=
  ((Below.refl _ _).alloc (Nat.le_refl _) _).alloc (by simp) _
theorem mkW_val_cell0 (n : Nat) (w : World) : (mkW_val n w).cell? ⟨w.heap.size + 1, 0, none⟩ = some (.chan (some w.heap.size)) := by
  unfold mkW_val
  go_simp
theorem mkW_val_cell1 (n : Nat) (w : World) : (mkW_val n w).cell? ⟨w.heap.size + 1, 1, none⟩ = some (.bool false) := by
  unfold mkW_val
  go_simp
theorem mkW_val_free (n : Nat) (w : World) : (mkW_val n w).frozen? ⟨w.heap.size + 1, 1, none⟩ = false := by
  unfold mkW_val
  go_simp

theorem res_val_some (a : Nat) (v : Value) : commResult #[rcase a (.agg #[.int .i64 0, .bool false, .slice none 0 0, .int .i64 0, .string ⟨#[]⟩, .slice none 0 0, .slice none 0 0])] .select ((0 : Nat) : Int) v true = .tuple #[goInt 0, .bool true, v] := by
  simp [commResult, rcase, List.zipIdx_cons]

theorem res_val_none (a : Nat) : commResult #[rcase a (.agg #[.int .i64 0, .bool false, .slice none 0 0, .int .i64 0, .string ⟨#[]⟩, .slice none 0 0, .slice none 0 0])] .select (-1) undef false = .tuple #[goInt (-1), .bool false, .agg #[.int .i64 0, .bool false, .slice none 0 0, .int .i64 0, .string ⟨#[]⟩, .slice none 0 0, .slice none 0 0]] := by
  simp [commResult, rcase, List.zipIdx_cons]

set_option maxHeartbeats 400000 in
theorem open_val_nil (w : World) : Calls Tryd.prog 23 #[.pointer none] w fun e w' => e = .returned (.bool false) ∧ w = w' := by
  go_enter Tryd.func23, Tryd.ntmps23
  go_wp2
  go_ret
  exact ⟨rfl, rfl⟩
set_option maxHeartbeats 400000 in
theorem open_val_zero (b : Nat) (w : World) (hq : w.cell? ⟨b, 0, none⟩ = some (.chan none)) : Calls Tryd.prog 23 #[.pointer (some ⟨b, 0, none⟩)] w fun e w' => e = .returned (.bool false) ∧ w = w' := by
  have q1 := fun (w : World) (a b : Option Nat) => run_eql_chan (P := Tryd.prog) w 56 _ _ a b Tryd.underlying56
  have q2 := fun (w : World) (a b : Option Nat) => run_neq_chan (P := Tryd.prog) w 56 _ _ a b Tryd.underlying56
  go_enter Tryd.func23, Tryd.ntmps23
  go_wp2
  go_ret
  exact ⟨rfl, rfl⟩
set_option maxHeartbeats 400000 in
theorem open_val_any (b c : Nat) (cl : Bool) (w : World) (hq : w.cell? ⟨b, 0, none⟩ = some (.chan (some c))) (hcl : w.cell? ⟨b, 1, none⟩ = some (.bool cl)) : Calls Tryd.prog 23 #[.pointer (some ⟨b, 0, none⟩)] w fun e w' => e = .returned (.bool (!cl)) ∧ w = w' := by
  have q1 := fun (w : World) (a b : Option Nat) => run_eql_chan (P := Tryd.prog) w 56 _ _ a b Tryd.underlying56
  have q2 := fun (w : World) (a b : Option Nat) => run_neq_chan (P := Tryd.prog) w 56 _ _ a b Tryd.underlying56
  go_enter Tryd.func23, Tryd.ntmps23
  go_wp2
  go_ret
  exact ⟨rfl, rfl⟩

end Go.Proofs.YtdgebcgcabhjoaaDoor
/- What the listed variables (the two tables of UTF-8) hold in a world, and that it stays. -/
namespace Go.Proofs.YtdgebcgcabhjoaaDoor.P
set_option linter.unusedVariables false
set_option linter.unusedSimpArgs false
open Go.RowKit
/-- The two tables lie as their initialisers lay them. -/
def LaidW (w : World) : Prop := Lib.Utf8Tabs 0 1 w
theorem LaidW.below {w w' : World} (h : LaidW w) (hb : Below w.heap.size w w') : LaidW w' := Utf8Tabs_below h hb
theorem LaidW.drewN {w : World} (h : LaidW w) (n : Nat) : LaidW (w.drewN n) := h
theorem LaidW.drew {w : World} (h : LaidW w) : LaidW w.drew := h
end Go.Proofs.YtdgebcgcabhjoaaDoor.P
-- Written by a program for this claim. Not trusted: Lean checks it.
namespace Go.Proofs.YtdgebcgcabhjoaaDoor.P
open Go.RowKit Go.Proofs.YtdgebcgcabhjoaaDoorW.PrintWords Go.Proofs.YtdgebcgcabhjoaaDoorW.PrintLast Go.Proofs.YtdgebcgcabhjoaaDoorW.PrintMore
attribute [local go_sem] max2_int min2_int max_two min_two max_three min_three max_four min_four   -- for this text's walks alone
set_option linter.unusedVariables false
set_option linter.unusedSimpArgs false



def errW : Option Int → Value
  | none => .nilIface
  | some c => .iface 0 (.int .i64 c)
theorem errW_none : errW none = .nilIface := rfl
theorem errW_some (c : Int) : errW (some c) = .iface 0 (.int .i64 c) := rfl

theorem info5 : (Tryd.prog.info? 5).map (fun i => (i.zero, i.size, i.bytes)) = some (some (.int .u8 0), 1, 1) := by kernel_rfl
theorem info25 : (Tryd.prog.info? 25).map (fun i => (i.zero, i.size, i.bytes)) = some (some (.int .i64 0), 1, 8) := by kernel_rfl
theorem info34 : (Tryd.prog.info? 34).map (fun i => (i.zero, i.size, i.bytes)) = some (some (.agg #[(.int .i64 0), (.bool false), (.slice none 0 0), (.int .i64 0), (.string ⟨#[]⟩), (.slice none 0 0), (.slice none 0 0)]), 7, 112) := by kernel_rfl
theorem info63 : (Tryd.prog.info? 63).map (fun i => (i.zero, i.size, i.bytes)) = some (some (.int .u32 0), 1, 4) := by kernel_rfl
-- the values' own types
def rd_L3 (xs : List (List Int)) (i : Int) : (List Int) := xs.getD i.toNat ([] : List Int)
theorem at_L3 {w : World} {A : Option Addr} {n : Nat} {xs : List (List Int)} (h : Kd.C (Kd.slice 63 (Kd.int .u32)) w A n xs) (i : Int) (h0 : 0 ≤ i) (h1 : i < n) : ∃ ad A0 c0, A = some ad ∧ w.cell? (ad.add i.toNat) = some (.slice A0 (rd_L3 xs i).length c0) ∧ (rd_L3 xs i).length ≤ c0 ∧ (Kd.int .u32).C w A0 (rd_L3 xs i).length (rd_L3 xs i) := by
  obtain ⟨ad, c, e, _, hK, hc0⟩ := Kd.C_get h ([] : List Int) i h0 h1
  have hc : ∀ j u, c[j]? = some u → w.cell? (ad.add (i.toNat * 1 + j)) = some u := hc0
  obtain ⟨A0, c0, rfl, l0, g0⟩ := hK
  exact ⟨ad, A0, c0, e, by have hq := hc 0 _ rfl; rwa [Nat.mul_one, Nat.add_zero] at hq, l0, g0⟩

/-! #### struct type 31 -/
structure S31 where
  f0 : Bool
  f1 : (List Int)
  f2 : Int
def z31 : S31 := ⟨false, ([] : List Int), (0 : Int)⟩
def k31 : Kd S31 := Kd.iso (Kd.pair Kd.bool (Kd.pair (Kd.slice 63 (Kd.int .u32)) (Kd.int .i64))) (fun x : S31 => (x.f0, x.f1, x.f2))
theorem k31_heap : Kd.Heap k31 := Kd.heap_iso _ (Kd.heap_pair Kd.heap_bool (Kd.heap_pair (Kd.heap_slice 63 (Kd.heap_int .u32)) (Kd.heap_int .i64)))
theorem k31_open {w : World} {x : S31} {cs : List Value} (h : k31.K w x cs) : ∃ A1 c1, cs = [.bool x.f0, .slice A1 x.f1.length c1, .int .i64 x.f2] ∧ x.f1.length ≤ c1 ∧ (Kd.int .u32).C w A1 x.f1.length x.f1 := by
  obtain ⟨_, _, rfl, rfl, ⟨_, _, rfl, ⟨A1, c1, rfl, l1, g1⟩, rfl⟩⟩ := h
  exact ⟨A1, c1, rfl, l1, g1⟩
theorem k31_openM {w : World} {base : Nat} {ok : Nat → Prop} {x : S31} {cs : List Value} (h : k31.M w base ok x cs) : ∃ v1, cs = [.bool x.f0, v1, .int .i64 x.f2] ∧ (Kd.int .u32).R 63 w base ok v1 x.f1 := by
  obtain ⟨_, _, rfl, rfl, ⟨_, _, rfl, ⟨v1, rfl, g1⟩, rfl⟩⟩ := h
  exact ⟨v1, rfl, g1⟩
theorem k31_mk (w : World) (x : S31) {A1 : Option Addr} {c1 : Nat} (l1 : x.f1.length ≤ c1) (g1 : (Kd.int .u32).C w A1 x.f1.length x.f1) : k31.K w x [.bool x.f0, .slice A1 x.f1.length c1, .int .i64 x.f2] := ⟨[.bool x.f0], [.slice A1 x.f1.length c1, .int .i64 x.f2], rfl, rfl, ⟨[.slice A1 x.f1.length c1], [.int .i64 x.f2], rfl, ⟨A1, c1, rfl, l1, g1⟩, rfl⟩⟩
theorem k31_mkM (w : World) (base : Nat) (ok : Nat → Prop) (x : S31) {v1 : Value} (g1 : (Kd.int .u32).R 63 w base ok v1 x.f1) : k31.M w base ok x [.bool x.f0, v1, .int .i64 x.f2] := ⟨[.bool x.f0], [v1, .int .i64 x.f2], rfl, rfl, ⟨[v1], [.int .i64 x.f2], rfl, ⟨v1, rfl, g1⟩, rfl⟩⟩
theorem k31_openF {W : World} {ok : Nat → Prop} {x : S31} {cs : List Value} (h : Kd.FK k31 W ok x cs) : ∃ A1 c1, cs = [.bool x.f0, .slice A1 x.f1.length c1, .int .i64 x.f2] ∧ x.f1.length ≤ c1 ∧ Kd.F (Kd.int .u32) W ok A1 x.f1.length x.f1 := by
  obtain ⟨A1, c1, rfl, l1, _⟩ := k31_open (Kd.FK_now h)
  exact ⟨A1, c1, rfl, l1, (fun W' hW => by obtain ⟨A1_, c1_, he, l1_, g1_⟩ := k31_open (h W' hW); injection (Option.some.inj (show some (Value.slice A1 x.f1.length c1) = some (Value.slice A1_ x.f1.length c1_) from congrArg (fun l => l[1]?) he)) with ha_ _ _; rw [ha_]; exact g1_)⟩
theorem k31_mkF (W : World) (ok : Nat → Prop) (x : S31) {A1 : Option Addr} {c1 : Nat} (l1 : x.f1.length ≤ c1) (g1 : Kd.F (Kd.int .u32) W ok A1 x.f1.length x.f1) : Kd.FK k31 W ok x [.bool x.f0, .slice A1 x.f1.length c1, .int .i64 x.f2] := fun W2 hW => k31_mk W2 x l1 (g1 W2 hW)
def rd_T31 (xs : List S31) (i : Int) : S31 := xs.getD i.toNat z31
theorem at_T31 {w : World} {A : Option Addr} {n : Nat} {xs : List S31} (h : Kd.C k31 w A n xs) (i : Int) (h0 : 0 ≤ i) (h1 : i < n) : ∃ ad A1 c1, A = some ad ∧ w.cell? (ad.add (i.toNat * 3)) = some (.bool (rd_T31 xs i).f0) ∧ w.cell? ⟨(ad.add (i.toNat * 3)).block, (ad.add (i.toNat * 3)).off + 1, none⟩ = some (.slice A1 (rd_T31 xs i).f1.length c1) ∧ w.cell? ⟨(ad.add (i.toNat * 3)).block, (ad.add (i.toNat * 3)).off + 2, none⟩ = some (.int .i64 (rd_T31 xs i).f2) ∧ (rd_T31 xs i).f1.length ≤ c1 ∧ (Kd.int .u32).C w A1 (rd_T31 xs i).f1.length (rd_T31 xs i).f1 := by
  obtain ⟨ad, c, e, _, hK, hc0⟩ := Kd.C_get h z31 i h0 h1
  have hc : ∀ j u, c[j]? = some u → w.cell? (ad.add (i.toNat * 3 + j)) = some u := hc0
  obtain ⟨A1, c1, rfl, l1, g1⟩ := k31_open hK
  exact ⟨ad, A1, c1, e, hc 0 _ rfl, by rw [← add_field _ _ 1 (by omega)]; exact hc 1 _ rfl, by rw [← add_field _ _ 2 (by omega)]; exact hc 2 _ rfl, l1, g1⟩

def rd_L6 (xs : List (List ByteArray)) (i : Int) : (List ByteArray) := xs.getD i.toNat ([] : List ByteArray)
theorem at_L6 {w : World} {A : Option Addr} {n : Nat} {xs : List (List ByteArray)} (h : Kd.C (Kd.slice 9 Kd.string) w A n xs) (i : Int) (h0 : 0 ≤ i) (h1 : i < n) : ∃ ad A0 c0, A = some ad ∧ w.cell? (ad.add i.toNat) = some (.slice A0 (rd_L6 xs i).length c0) ∧ (rd_L6 xs i).length ≤ c0 ∧ Kd.string.C w A0 (rd_L6 xs i).length (rd_L6 xs i) := by
  obtain ⟨ad, c, e, _, hK, hc0⟩ := Kd.C_get h ([] : List ByteArray) i h0 h1
  have hc : ∀ j u, c[j]? = some u → w.cell? (ad.add (i.toNat * 1 + j)) = some u := hc0
  obtain ⟨A0, c0, rfl, l0, g0⟩ := hK
  exact ⟨ad, A0, c0, e, by have hq := hc 0 _ rfl; rwa [Nat.mul_one, Nat.add_zero] at hq, l0, g0⟩

/-! #### struct type 34, nested in itself -/
structure S34 where
  f0 : Int
  f1 : S31
  f2 : ByteArray
  f3 : (List S34)
  f4 : (List ByteArray)
def z34 : S34 := ⟨(0 : Int), z31, (⟨#[]⟩ : ByteArray), ([] : List S34), ([] : List ByteArray)⟩
def F34 (d : Kd S34) : Kd S34 := Kd.iso (Kd.pair (Kd.int .i64) (Kd.pair k31 (Kd.pair Kd.string (Kd.pair (Kd.slice 34 d) (Kd.slice 9 Kd.string))))) (fun x : S34 => (x.f0, x.f1, x.f2, x.f3, x.f4))
theorem mono34 : Kd.Mono F34 := Kd.mono_iso _ (Kd.mono_pair (Kd.mono_const _) (Kd.mono_pair (Kd.mono_const _) (Kd.mono_pair (Kd.mono_const _) (Kd.mono_pair (Kd.mono_slice 34 Kd.mono_id) (Kd.mono_const _)))))
theorem sub34 : Kd.Sub F34 [9, 34, 63] := Kd.sub_iso _ (Kd.sub_pair (Kd.sub_const _ (by decide)) (Kd.sub_pair (Kd.sub_const _ (by decide)) (Kd.sub_pair (Kd.sub_const _ (by decide)) (Kd.sub_pair (Kd.sub_slice 34 (by decide) Kd.sub_id) (Kd.sub_const _ (by decide))))))
theorem sz34 : ∀ n, (Kd.upto F34 7 [9, 34, 63] n).sz = 7 := Kd.upto_sz (fun _ => rfl)
def k34 : Kd S34 := Kd.fix F34 7 [9, 34, 63] sz34 (Kd.upto_E sub34)
theorem k34_heap : Kd.Heap k34 := Kd.heap_fix (fun _ h_ => Kd.heap_iso _ (Kd.heap_pair (Kd.heap_int .i64) (Kd.heap_pair k31_heap (Kd.heap_pair Kd.heap_string (Kd.heap_pair (Kd.heap_slice 34 h_) (Kd.heap_slice 9 Kd.heap_string))))))
theorem k34_open {w : World} {x : S34} {cs : List Value} (h : k34.K w x cs) : ∃ A2 c2 A5 c5 A6 c6, cs = [.int .i64 x.f0, .bool x.f1.f0, .slice A2 x.f1.f1.length c2, .int .i64 x.f1.f2, .string x.f2, .slice A5 x.f3.length c5, .slice A6 x.f4.length c6] ∧ x.f1.f1.length ≤ c2 ∧ (Kd.int .u32).C w A2 x.f1.f1.length x.f1.f1 ∧ x.f3.length ≤ c5 ∧ k34.C w A5 x.f3.length x.f3 ∧ x.f4.length ≤ c6 ∧ Kd.string.C w A6 x.f4.length x.f4 := by
  obtain ⟨n, h⟩ := h
  cases n with
  | zero => exact h.elim
  | succ n =>
    obtain ⟨_, _, rfl, rfl, ⟨_, _, rfl, s1, ⟨_, _, rfl, rfl, ⟨_, _, rfl, ⟨A5, c5, rfl, l5, g5⟩, ⟨A6, c6, rfl, l6, g6⟩⟩⟩⟩⟩ := h
    obtain ⟨A2, c2, rfl, l2, g2⟩ := k31_open s1
    exact ⟨A2, c2, A5, c5, A6, c6, rfl, l2, g2, l5, Kd.fix_C g5, l6, g6⟩
theorem k34_openM {w : World} {base : Nat} {ok : Nat → Prop} {x : S34} {cs : List Value} (h : k34.M w base ok x cs) : ∃ v2 v5 v6, cs = [.int .i64 x.f0, .bool x.f1.f0, v2, .int .i64 x.f1.f2, .string x.f2, v5, v6] ∧ (Kd.int .u32).R 63 w base ok v2 x.f1.f1 ∧ k34.R 34 w base ok v5 x.f3 ∧ Kd.string.R 9 w base ok v6 x.f4 := by
  obtain ⟨n, h⟩ := h
  cases n with
  | zero => exact h.elim
  | succ n =>
    obtain ⟨_, _, rfl, rfl, ⟨_, _, rfl, s1, ⟨_, _, rfl, rfl, ⟨_, _, rfl, ⟨v5, rfl, g5⟩, ⟨v6, rfl, g6⟩⟩⟩⟩⟩ := h
    obtain ⟨v2, rfl, g2⟩ := k31_openM s1
    exact ⟨v2, v5, v6, rfl, g2, Kd.fix_R g5, g6⟩
theorem k34_mk (w : World) (x : S34) {A2 : Option Addr} {c2 : Nat} (l2 : x.f1.f1.length ≤ c2) (g2 : (Kd.int .u32).C w A2 x.f1.f1.length x.f1.f1) {A5 : Option Addr} {c5 : Nat} (l5 : x.f3.length ≤ c5) (g5 : k34.C w A5 x.f3.length x.f3) {A6 : Option Addr} {c6 : Nat} (l6 : x.f4.length ≤ c6) (g6 : Kd.string.C w A6 x.f4.length x.f4) : k34.K w x [.int .i64 x.f0, .bool x.f1.f0, .slice A2 x.f1.f1.length c2, .int .i64 x.f1.f2, .string x.f2, .slice A5 x.f3.length c5, .slice A6 x.f4.length c6] := by
  obtain ⟨n5, q5⟩ := Kd.fix_C_back mono34 g5
  have r5 := Kd.upto_C_le mono34 sz34 (show n5 ≤ n5 by omega) q5
  exact ⟨n5 + 1, ⟨[.int .i64 x.f0], [.bool x.f1.f0, .slice A2 x.f1.f1.length c2, .int .i64 x.f1.f2, .string x.f2, .slice A5 x.f3.length c5, .slice A6 x.f4.length c6], rfl, rfl, ⟨[.bool x.f1.f0, .slice A2 x.f1.f1.length c2, .int .i64 x.f1.f2], [.string x.f2, .slice A5 x.f3.length c5, .slice A6 x.f4.length c6], rfl, (k31_mk w x.f1 l2 g2), ⟨[.string x.f2], [.slice A5 x.f3.length c5, .slice A6 x.f4.length c6], rfl, rfl, ⟨[.slice A5 x.f3.length c5], [.slice A6 x.f4.length c6], rfl, ⟨A5, c5, rfl, l5, r5⟩, ⟨A6, c6, rfl, l6, g6⟩⟩⟩⟩⟩⟩
theorem k34_mkM (w : World) (base : Nat) (ok : Nat → Prop) (x : S34) {v2 : Value} (g2 : (Kd.int .u32).R 63 w base ok v2 x.f1.f1) {v5 : Value} (g5 : k34.R 34 w base ok v5 x.f3) {v6 : Value} (g6 : Kd.string.R 9 w base ok v6 x.f4) : k34.M w base ok x [.int .i64 x.f0, .bool x.f1.f0, v2, .int .i64 x.f1.f2, .string x.f2, v5, v6] := by
  obtain ⟨n5, q5⟩ := Kd.fix_R_back mono34 g5
  have r5 := Kd.upto_R_le mono34 sz34 (show n5 ≤ n5 by omega) q5
  exact ⟨n5 + 1, ⟨[.int .i64 x.f0], [.bool x.f1.f0, v2, .int .i64 x.f1.f2, .string x.f2, v5, v6], rfl, rfl, ⟨[.bool x.f1.f0, v2, .int .i64 x.f1.f2], [.string x.f2, v5, v6], rfl, (k31_mkM w base ok x.f1 g2), ⟨[.string x.f2], [v5, v6], rfl, rfl, ⟨[v5], [v6], rfl, ⟨v5, rfl, r5⟩, ⟨v6, rfl, g6⟩⟩⟩⟩⟩⟩
theorem k34_openF {W : World} {ok : Nat → Prop} {x : S34} {cs : List Value} (h : Kd.FK k34 W ok x cs) : ∃ A2 c2 A5 c5 A6 c6, cs = [.int .i64 x.f0, .bool x.f1.f0, .slice A2 x.f1.f1.length c2, .int .i64 x.f1.f2, .string x.f2, .slice A5 x.f3.length c5, .slice A6 x.f4.length c6] ∧ x.f1.f1.length ≤ c2 ∧ Kd.F (Kd.int .u32) W ok A2 x.f1.f1.length x.f1.f1 ∧ x.f3.length ≤ c5 ∧ Kd.F k34 W ok A5 x.f3.length x.f3 ∧ x.f4.length ≤ c6 ∧ Kd.F Kd.string W ok A6 x.f4.length x.f4 := by
  obtain ⟨A2, c2, A5, c5, A6, c6, rfl, l2, _, l5, _, l6, _⟩ := k34_open (Kd.FK_now h)
  exact ⟨A2, c2, A5, c5, A6, c6, rfl, l2, (fun W' hW => by obtain ⟨A2_, c2_, A5_, c5_, A6_, c6_, he, l2_, g2_, l5_, g5_, l6_, g6_⟩ := k34_open (h W' hW); injection (Option.some.inj (show some (Value.slice A2 x.f1.f1.length c2) = some (Value.slice A2_ x.f1.f1.length c2_) from congrArg (fun l => l[2]?) he)) with ha_ _ _; rw [ha_]; exact g2_), l5, (fun W' hW => by obtain ⟨A2_, c2_, A5_, c5_, A6_, c6_, he, l2_, g2_, l5_, g5_, l6_, g6_⟩ := k34_open (h W' hW); injection (Option.some.inj (show some (Value.slice A5 x.f3.length c5) = some (Value.slice A5_ x.f3.length c5_) from congrArg (fun l => l[5]?) he)) with ha_ _ _; rw [ha_]; exact g5_), l6, (fun W' hW => by obtain ⟨A2_, c2_, A5_, c5_, A6_, c6_, he, l2_, g2_, l5_, g5_, l6_, g6_⟩ := k34_open (h W' hW); injection (Option.some.inj (show some (Value.slice A6 x.f4.length c6) = some (Value.slice A6_ x.f4.length c6_) from congrArg (fun l => l[6]?) he)) with ha_ _ _; rw [ha_]; exact g6_)⟩
theorem k34_mkF (W : World) (ok : Nat → Prop) (x : S34) {A2 : Option Addr} {c2 : Nat} (l2 : x.f1.f1.length ≤ c2) (g2 : Kd.F (Kd.int .u32) W ok A2 x.f1.f1.length x.f1.f1) {A5 : Option Addr} {c5 : Nat} (l5 : x.f3.length ≤ c5) (g5 : Kd.F k34 W ok A5 x.f3.length x.f3) {A6 : Option Addr} {c6 : Nat} (l6 : x.f4.length ≤ c6) (g6 : Kd.F Kd.string W ok A6 x.f4.length x.f4) : Kd.FK k34 W ok x [.int .i64 x.f0, .bool x.f1.f0, .slice A2 x.f1.f1.length c2, .int .i64 x.f1.f2, .string x.f2, .slice A5 x.f3.length c5, .slice A6 x.f4.length c6] := fun W2 hW => k34_mk W2 x l2 (g2 W2 hW) l5 (g5 W2 hW) l6 (g6 W2 hW)
def rd_T34 (xs : List S34) (i : Int) : S34 := xs.getD i.toNat z34
theorem at_T34 {w : World} {A : Option Addr} {n : Nat} {xs : List S34} (h : Kd.C k34 w A n xs) (i : Int) (h0 : 0 ≤ i) (h1 : i < n) : ∃ ad A2 c2 A5 c5 A6 c6, A = some ad ∧ w.cell? (ad.add (i.toNat * 7)) = some (.int .i64 (rd_T34 xs i).f0) ∧ w.cell? ⟨(ad.add (i.toNat * 7)).block, (ad.add (i.toNat * 7)).off + 1, none⟩ = some (.bool (rd_T34 xs i).f1.f0) ∧ w.cell? ⟨(ad.add (i.toNat * 7)).block, (ad.add (i.toNat * 7)).off + 2, none⟩ = some (.slice A2 (rd_T34 xs i).f1.f1.length c2) ∧ w.cell? ⟨(ad.add (i.toNat * 7)).block, (ad.add (i.toNat * 7)).off + 3, none⟩ = some (.int .i64 (rd_T34 xs i).f1.f2) ∧ w.cell? ⟨(ad.add (i.toNat * 7)).block, (ad.add (i.toNat * 7)).off + 4, none⟩ = some (.string (rd_T34 xs i).f2) ∧ w.cell? ⟨(ad.add (i.toNat * 7)).block, (ad.add (i.toNat * 7)).off + 5, none⟩ = some (.slice A5 (rd_T34 xs i).f3.length c5) ∧ w.cell? ⟨(ad.add (i.toNat * 7)).block, (ad.add (i.toNat * 7)).off + 6, none⟩ = some (.slice A6 (rd_T34 xs i).f4.length c6) ∧ (rd_T34 xs i).f1.f1.length ≤ c2 ∧ (Kd.int .u32).C w A2 (rd_T34 xs i).f1.f1.length (rd_T34 xs i).f1.f1 ∧ (rd_T34 xs i).f3.length ≤ c5 ∧ k34.C w A5 (rd_T34 xs i).f3.length (rd_T34 xs i).f3 ∧ (rd_T34 xs i).f4.length ≤ c6 ∧ Kd.string.C w A6 (rd_T34 xs i).f4.length (rd_T34 xs i).f4 := by
  obtain ⟨ad, c, e, _, hK, hc0⟩ := Kd.C_get h z34 i h0 h1
  have hc : ∀ j u, c[j]? = some u → w.cell? (ad.add (i.toNat * 7 + j)) = some u := hc0
  obtain ⟨A2, c2, A5, c5, A6, c6, rfl, l2, g2, l5, g5, l6, g6⟩ := k34_open hK
  exact ⟨ad, A2, c2, A5, c5, A6, c6, e, hc 0 _ rfl, by rw [← add_field _ _ 1 (by omega)]; exact hc 1 _ rfl, by rw [← add_field _ _ 2 (by omega)]; exact hc 2 _ rfl, by rw [← add_field _ _ 3 (by omega)]; exact hc 3 _ rfl, by rw [← add_field _ _ 4 (by omega)]; exact hc 4 _ rfl, by rw [← add_field _ _ 5 (by omega)]; exact hc 5 _ rfl, by rw [← add_field _ _ 6 (by omega)]; exact hc 6 _ rfl, l2, g2, l5, g5, l6, g6⟩

def rd_L8 (xs : List (List S34)) (i : Int) : (List S34) := xs.getD i.toNat ([] : List S34)
theorem at_L8 {w : World} {A : Option Addr} {n : Nat} {xs : List (List S34)} (h : Kd.C (Kd.slice 34 k34) w A n xs) (i : Int) (h0 : 0 ≤ i) (h1 : i < n) : ∃ ad A0 c0, A = some ad ∧ w.cell? (ad.add i.toNat) = some (.slice A0 (rd_L8 xs i).length c0) ∧ (rd_L8 xs i).length ≤ c0 ∧ k34.C w A0 (rd_L8 xs i).length (rd_L8 xs i) := by
  obtain ⟨ad, c, e, _, hK, hc0⟩ := Kd.C_get h ([] : List S34) i h0 h1
  have hc : ∀ j u, c[j]? = some u → w.cell? (ad.add (i.toNat * 1 + j)) = some u := hc0
  obtain ⟨A0, c0, rfl, l0, g0⟩ := hK
  exact ⟨ad, A0, c0, e, by have hq := hc 0 _ rfl; rwa [Nat.mul_one, Nat.add_zero] at hq, l0, g0⟩

end Go.Proofs.YtdgebcgcabhjoaaDoor.P
/- Limbs and their number: plain. -/
namespace Go.Proofs.YtdgebcgcabhjoaaDoor.P
set_option linter.unusedVariables false
set_option linter.unusedSimpArgs false
open Go.RowKit Go.Proofs.YtdgebcgcabhjoaaDoorW.PrintWords
/-- Limbs. -/
def okL (l : List Int) : Prop := ∀ x ∈ l, 0 ≤ x ∧ x < 4294967296
instance (l : List Int) : Decidable (okL l) := by unfold okL; infer_instance
/-- Their number. -/
def val : List Int → Nat
  | [] => 0
  | x :: l => x.toNat + 4294967296 * val l
/-- A number's limbs. -/
def limbs (n : Nat) : List Int := if h : n = 0 then [] else ((n % 4294967296 : Nat) : Int) :: limbs (n / 4294967296)
termination_by n
decreasing_by omega
theorem limbs_zero : limbs 0 = [] := by rw [limbs, dif_pos rfl]
theorem limbs_pos {n : Nat} (h : n ≠ 0) : limbs n = ((n % 4294967296 : Nat) : Int) :: limbs (n / 4294967296) := by rw [limbs, dif_neg h]
theorem okL_nil : okL [] := fun x hx => by simp at hx
theorem okL_cons {x : Int} {l : List Int} : okL (x :: l) ↔ (0 ≤ x ∧ x < 4294967296) ∧ okL l := by unfold okL; simp
theorem okL_app {l r : List Int} : okL (l ++ r) ↔ okL l ∧ okL r := by
  unfold okL
  constructor
  · intro h; exact ⟨fun x hx => h x (List.mem_append_left _ hx), fun x hx => h x (List.mem_append_right _ hx)⟩
  · rintro ⟨h, k⟩ x hx; exact (List.mem_append.1 hx).elim (h x) (k x)
theorem okL_take {l : List Int} (h : okL l) (n : Nat) : okL (l.take n) := fun x hx => h x (List.mem_of_mem_take hx)
theorem okL_drop {l : List Int} (h : okL l) (n : Nat) : okL (l.drop n) := fun x hx => h x (List.mem_of_mem_drop hx)
theorem okL_getD {l : List Int} (h : okL l) (i : Nat) : 0 ≤ l.getD i 0 ∧ l.getD i 0 < 4294967296 := by
  rw [List.getD_eq_getElem?_getD]
  by_cases hi : i < l.length
  · rw [List.getElem?_eq_getElem hi]; exact h _ (List.getElem_mem hi)
  · rw [List.getElem?_eq_none (by omega)]; simp
theorem okL_limbs : ∀ n, okL (limbs n) := by
  intro n
  induction n using Nat.strongRecOn with
  | _ n ih =>
    by_cases h : n = 0
    · subst h; rw [limbs_zero]; exact okL_nil
    · rw [limbs_pos h, okL_cons]; exact ⟨by omega, ih _ (by omega)⟩
theorem val_limbs : ∀ n, val (limbs n) = n := by
  intro n
  induction n using Nat.strongRecOn with
  | _ n ih =>
    by_cases h : n = 0
    · subst h; rw [limbs_zero]; rfl
    · rw [limbs_pos h, val, ih _ (by omega)]; omega
/-- Limbs as they may be: the last one not 0. -/
def canon (l : List Int) : Prop := limbs (val l) = l
instance (l : List Int) : Decidable (canon l) := by unfold canon; infer_instance
theorem canon_limbs (n : Nat) : canon (limbs n) := by unfold canon; rw [val_limbs]
theorem canon_okL {l : List Int} (h : canon l) : okL l := by have := okL_limbs (val l); rwa [h] at this
theorem val_app : ∀ (l r : List Int), val (l ++ r) = val l + 4294967296 ^ l.length * val r
  | [], r => by simp [val]
  | x :: l, r => by
    rw [List.cons_append, val, val_app l r, val, List.length_cons, Nat.pow_succ, Nat.mul_add, Nat.mul_comm (4294967296 ^ l.length) 4294967296, Nat.mul_assoc, Nat.add_assoc]
theorem val_lt : ∀ {l : List Int}, okL l → val l < 4294967296 ^ l.length
  | [], _ => by simp [val]
  | x :: l, h => by
    rw [okL_cons] at h
    have := val_lt h.2
    rw [val, List.length_cons, Nat.pow_succ]
    omega
theorem val_zero : ∀ {l : List Int}, okL l → (val l = 0 ↔ ∀ x ∈ l, x = 0)
  | [], _ => by simp [val]
  | x :: l, h => by
    rw [okL_cons] at h
    have := val_zero h.2
    rw [val]
    constructor
    · intro hv y hy
      rcases List.mem_cons.1 hy with rfl | hy
      · omega
      · exact (this.1 (by omega)) y hy
    · intro hv
      have h1 := hv x List.mem_cons_self
      have h2 := this.2 fun y hy => hv y (List.mem_cons_of_mem _ hy)
      rw [h1, h2]; rfl
/-- Limbs whose last one is not 0 are their number's. -/
theorem canon_of_last : ∀ {l : List Int}, okL l → (∀ h : l ≠ [], l.getLast h ≠ 0) → canon l
  | [], _, _ => by unfold canon; rw [val, limbs_zero]
  | [x], h, hl => by
    rw [okL_cons] at h
    have := hl (by simp)
    simp at this
    unfold canon
    have hv : val [x] = x.toNat := by simp [val]
    rw [hv, limbs_pos (by omega), show x.toNat / 4294967296 = 0 by omega, limbs_zero, show ((x.toNat % 4294967296 : Nat) : Int) = x by omega]
  | x :: y :: l, h, hl => by
    have h0 := okL_cons.1 h
    have ih := canon_of_last (l := y :: l) h0.2 (fun hn => by have := hl (by simp); rwa [List.getLast_cons hn] at this)
    have hp : val (y :: l) ≠ 0 := by
      intro e
      unfold canon at ih
      rw [e, limbs_zero] at ih
      simp at ih
    unfold canon at ih ⊢
    rw [val, limbs_pos (by omega), show (x.toNat + 4294967296 * val (y :: l)) % 4294967296 = x.toNat by omega, show (x.toNat + 4294967296 * val (y :: l)) / 4294967296 = val (y :: l) by omega, ih, show ((x.toNat : Nat) : Int) = x by omega]
theorem canon_last {l : List Int} (h : canon l) (hn : l ≠ []) : l.getLast hn ≠ 0 := by
  have key : ∀ n (hn : limbs n ≠ []), (limbs n).getLast hn ≠ 0 := by
    intro n
    induction n using Nat.strongRecOn with
    | _ n ih =>
      intro hn
      have h0 : n ≠ 0 := by intro e; subst e; exact hn limbs_zero
      by_cases h1 : n / 4294967296 = 0
      · have e : limbs n = [((n % 4294967296 : Nat) : Int)] := by rw [limbs_pos h0, h1, limbs_zero]
        simp only [e, List.getLast_singleton]
        omega
      · have hm : limbs (n / 4294967296) ≠ [] := by rw [limbs_pos h1]; simp
        have := ih (n / 4294967296) (by omega) hm
        simp only [limbs_pos h0]
        rw [List.getLast_cons hm]
        exact this
  have e : limbs (val l) = l := h
  have hm : limbs (val l) ≠ [] := by rw [e]; exact hn
  have := key (val l) hm
  simp only [e] at this
  exact this
theorem take_succ_getD {l : List Int} {n : Nat} (h : n < l.length) : l.take (n + 1) = l.take n ++ [l.getD n 0] := by
  rw [List.take_succ_eq_append_getElem h, List.getD_eq_getElem?_getD, List.getElem?_eq_getElem h]
  rfl
theorem val_take_succ {l : List Int} {n : Nat} (h : n < l.length) : val (l.take (n + 1)) = val (l.take n) + 4294967296 ^ n * (l.getD n 0).toNat := by
  rw [take_succ_getD h, val_app, List.length_take, Nat.min_eq_left (by omega)]
  simp [val]
theorem val_take_step (l : List Int) (i : Nat) : val (l.take (i + 1)) = val (l.take i) + 4294967296 ^ i * (l.getD i 0).toNat := by
  by_cases h : i < l.length
  · exact val_take_succ h
  · rw [List.take_of_length_le (by omega), List.take_of_length_le (by omega), List.getD_eq_getElem?_getD, List.getElem?_eq_none (by omega)]; simp
/-- Limbs without 0 at their end. -/
theorem trim_done {l : List Int} (h : okL l) {m : Nat} (hm : m ≤ l.length) (hv : val (l.take m) = val l) (hl : m = 0 ∨ l.getD (m - 1) 0 ≠ 0) : l.take m = limbs (val l) := by
  have hc : canon (l.take m) := by
    refine canon_of_last (okL_take h m) fun hn => ?_
    rcases hl with rfl | hl
    · simp at hn
    · obtain ⟨j, rfl⟩ : ∃ j, m = j + 1 := ⟨m - 1, by rcases m with _ | m; simp at hn; omega⟩
      have e := take_succ_getD (l := l) (n := j) (by omega)
      simp only [e, List.getLast_concat]
      simpa using hl
  rw [← hv]
  exact hc.symm
theorem trim_step {l : List Int} {m : Nat} (hm : m + 1 ≤ l.length) (hv : val (l.take (m + 1)) = val l) (h0 : l.getD m 0 = 0) : val (l.take m) = val l := by
  rw [val_take_succ (by omega), h0] at hv
  simpa using hv
theorem canon_len {l : List Int} (h : canon l) {k : Nat} (hk : val l < 4294967296 ^ k) : l.length ≤ k := by
  rcases Nat.lt_or_ge k l.length with hlt | hge
  · exfalso
    have hn : l ≠ [] := by intro e; subst e; simp at hlt
    have hl := canon_last h hn
    have hok := canon_okL h
    obtain ⟨j, hj⟩ : ∃ j, l.length = j + 1 := ⟨l.length - 1, by omega⟩
    have e := val_take_succ (l := l) (n := j) (by omega)
    rw [show j + 1 = l.length by omega, List.take_length] at e
    have hg : l.getD j 0 = l.getLast hn := by
      rw [List.getLast_eq_getElem, List.getD_eq_getElem?_getD, List.getElem?_eq_getElem (show j < l.length by omega)]
      simp only [Option.getD_some]
      congr 1
      omega
    have hb := okL_getD hok j
    rw [hg] at hb
    have h1 : 1 ≤ (l.getD j 0).toNat := by rw [hg]; omega
    have h2 : 4294967296 ^ k ≤ 4294967296 ^ j := Nat.pow_le_pow_right (by omega) (by omega)
    have h3 : 4294967296 ^ j ≤ 4294967296 ^ j * (l.getD j 0).toNat := Nat.le_mul_of_pos_right _ h1
    omega
  · exact hge
theorem canon_ge {l : List Int} (h : canon l) (hn : l ≠ []) : 4294967296 ^ (l.length - 1) ≤ val l := by
  rcases Nat.lt_or_ge (val l) (4294967296 ^ (l.length - 1)) with hlt | hge
  · have := canon_len h hlt
    have := List.length_pos_iff.2 hn
    omega
  · exact hge
theorem canon_inj {a b : List Int} (ha : canon a) (hb : canon b) (h : val a = val b) : a = b := by rw [← ha, ← hb, h]
end Go.Proofs.YtdgebcgcabhjoaaDoor.P
namespace Go.Proofs.YtdgebcgcabhjoaaDoor.P
set_option linter.unusedVariables false
set_option linter.unusedSimpArgs false
open Go.RowKit Go.Proofs.YtdgebcgcabhjoaaDoorW.PrintWords Go.Proofs.YtdgebcgcabhjoaaDoorW.PrintMore Go.Proofs.YtdgebcgcabhjoaaDoorW.PrintLast
theorem infoU : (Tryd.prog.info? 63).map (fun i => (i.zero, i.size, i.bytes)) = some (some (.int .u32 0), 1, 4) := by kernel_rfl
def nat_num_trim.f (l0 : List Int) : Option (List Int) := if okL l0 ∧ l0.length ≤ 1152921504606846976 then some (limbs (val l0)) else none

theorem rd_nat (l : List Int) (j : Nat) : rd l (j : Int) = l.getD j 0 := by unfold rd; rw [Int.toNat_natCast]
def lenOf : Value → Nat
  | .slice _ n _ => n
  | _ => 0
theorem wrap_in (x : Int) (h : -9223372036854775808 ≤ x ∧ x ≤ 9223372036854775807) : IntKind.i64.wrap x = x := by rw [i64_w]; unfold wrap64; omega
set_option maxHeartbeats 4000000 in
set_option maxRecDepth 100000 in
theorem trim_in (A : Option Addr) (c : Nat) (l : List Int) (w : World) (hC : Kd.C (Kd.int .u32) w A l.length l) (hc : l.length ≤ c) (hl : okL l) (hz : l.length ≤ 1152921504606846976) :
    Calls Tryd.prog 60 #[.slice A l.length c] w fun e w' => w' = w ∧ ∃ m, m ≤ l.length ∧ l.take m = limbs (val l) ∧ ((m = 0 ∧ e = .returned (.slice none 0 0)) ∨ (0 < m ∧ e = .returned (.slice A m c))) := by
  obtain ⟨i0, hi, _, _, _⟩ := info_parts infoU
  have HC := Lib.hid hC
  have HL := Lib.hid hl
  clear hC hl
  go_enter Tryd.func60, Tryd.ntmps60
  go_wp2
  go_loopw [0] (fun i wr => ∃ m : Nat, m ≤ l.length ∧ i = .slice A m c ∧ Hid (val (l.take m) = val l) ∧ wr = w) (fun i _ => lenOf i)
  case atStart => exact ⟨l.length, Nat.le_refl _, rfl, Lib.hid (by rw [List.take_length]), rfl⟩
  case round =>
    obtain ⟨m, hm, rfl, hv, rfl⟩ := hrel
    rcases m with _ | j
    · go_wp2
      go_ret
      exact ⟨rfl, 0, by omega, trim_done HL.out (by omega) hv.out (.inl rfl), .inl ⟨rfl, rfl⟩⟩
    · obtain ⟨ad, rfl, hx⟩ := Kd.at_int HC.out (j : Int) (by omega) (by omega)
      rw [Int.toNat_natCast] at hx
      have hw : IntKind.i64.wrap (((j + 1 : Nat) : Int) - 1) = (j : Int) := by rw [wrap_in _ (by omega)]; omega
      have hcut := cut_to (P := Tryd.prog) 97 63 .i64 Tryd.underlying97 hi (some ad) (j + 1) c (j : Int) (by omega) (by omega) (by omega) wr
      by_cases h0 : rd l (j : Int) = 0
      · have hv2 := trim_step (by omega) hv.out (by rw [← rd_nat]; exact h0)
        go_wp2
        exact ⟨⟨j, by omega, rfl, Lib.hid hv2, trivial⟩, by simp [lenOf]⟩
      · go_wp2
        go_ret
        exact ⟨rfl, j + 1, hm, trim_done HL.out hm hv.out (.inr (by rw [← rd_nat]; exact h0)), .inr ⟨by omega, rfl⟩⟩
/-- What trim hands back. -/
def trimV (A : Option Addr) (c : Nat) (l : List Int) : Value := if (limbs (val l)).length = 0 then .slice none 0 0 else .slice A (limbs (val l)).length c
theorem trim_det (A : Option Addr) (c : Nat) (l : List Int) (w : World) (hC : Kd.C (Kd.int .u32) w A l.length l) (hc : l.length ≤ c) (hl : okL l) (hz : l.length ≤ 1152921504606846976) :
    Calls Tryd.prog 60 #[.slice A l.length c] w fun e w' => e = .returned (trimV A c l) ∧ w' = w := by
  refine (trim_in A c l w hC hc hl hz).mono ?_
  rintro e w' ⟨hw, m, hm, hr, he⟩
  refine ⟨?_, hw⟩
  have hlen : (limbs (val l)).length = m := by rw [← hr, List.length_take]; omega
  unfold trimV
  rw [hlen]
  rcases he with ⟨rfl, rfl⟩ | ⟨h, rfl⟩
  · rw [if_pos rfl]
  · rw [if_neg (by omega)]
theorem trimV_R {A : Option Addr} {c base : Nat} {l : List Int} {w : World} {ok : Nat → Prop} (h : Kd.R (Kd.int .u32) 63 w base ok (.slice A l.length c) l) (hl : okL l) (hlen : (limbs (val l)).length ≤ l.length) (ht : l.take (limbs (val l)).length = limbs (val l)) : Kd.R (Kd.int .u32) 63 w base ok (trimV A c l) (limbs (val l)) := by
  unfold trimV
  split
  · rename_i h0
    rw [List.eq_nil_of_length_eq_zero h0]
    exact Kd.R_nil _ _ _ _ _
  · have := Kd.R_take h hlen
    rwa [ht] at this
theorem limbs_take : ∀ {l : List Int}, okL l → (limbs (val l)).length ≤ l.length ∧ l.take (limbs (val l)).length = limbs (val l) := by
  intro l
  have key : ∀ (k : Nat) (l : List Int), l.length = k → okL l → (limbs (val l)).length ≤ l.length ∧ l.take (limbs (val l)).length = limbs (val l) := by
    intro k
    induction k with
    | zero =>
      intro l hk hl
      have : l = [] := List.eq_nil_of_length_eq_zero hk
      subst this
      rw [val, limbs_zero]
      exact ⟨Nat.le_refl _, rfl⟩
    | succ k ih =>
      intro l hk hl
      by_cases h0 : l.getD k 0 = 0
      · have hv : val (l.take k) = val l := trim_step (l := l) (m := k) (by omega) (by rw [← hk, List.take_length]) h0
        obtain ⟨i1, i2⟩ := ih (l.take k) (by rw [List.length_take]; omega) (okL_take hl k)
        rw [hv] at i1 i2
        rw [List.length_take] at i1
        refine ⟨by omega, ?_⟩
        rw [List.take_take, Nat.min_eq_left (by omega)] at i2
        exact i2
      · have := trim_done hl (m := k + 1) (by omega) (by rw [← hk, List.take_length]) (.inr (by simpa using h0))
        rw [← hk, List.take_length] at this
        rw [← this]
        exact ⟨Nat.le_refl _, List.take_length⟩
  exact key l.length l rfl
theorem nat_num_trim.calls (P0_ : Nat → Prop) (u9000_ : Value) (l0 : List Int) (r : List Int) (w0 w : World) (hB : Below w0.heap.size w0 w) (ho0 : Kd.R (Kd.int .u32) 63 w w0.heap.size P0_ u9000_ l0) (h : nat_num_trim.f l0 = some r) :
    Calls Tryd.prog 60 #[u9000_] w fun e w' => ∃ v0_ : Value, e = .returned (v0_) ∧ Kd.R (Kd.int .u32) 63 w' w0.heap.size (fun k_ => (P0_ k_ ∨ w.heap.size ≤ k_)) v0_ r ∧ Below w0.heap.size w0 w' ∧ Kept w w' (fun k_ => P0_ k_) := by
  unfold nat_num_trim.f at h
  by_cases hc : okL l0 ∧ l0.length ≤ 1152921504606846976
  · rw [if_pos hc] at h
    obtain rfl := Option.some.inj h
    obtain ⟨A, c, rfl⟩ := Kd.R_slice ho0
    refine (trim_in A c l0 w (Kd.R_reads' ho0).2.2 (Kd.R_reads' ho0).2.1 hc.1 hc.2).mono ?_
    rintro e w' ⟨rfl, m, hm, hr, he⟩
    rcases he with ⟨rfl, rfl⟩ | ⟨_, rfl⟩
    · refine ⟨_, rfl, ?_, hB, Kept.refl _ _⟩
      rw [← hr, List.take_zero]
      exact Kd.R_nil _ _ _ _ _
    · refine ⟨_, rfl, ?_, hB, Kept.refl _ _⟩
      rw [← hr]
      exact Kd.R_mono (Kd.R_take ho0 hm) (fun k hk => .inl hk)
  · rw [if_neg hc] at h; cases h
end Go.Proofs.YtdgebcgcabhjoaaDoor.P
namespace Go.Proofs.YtdgebcgcabhjoaaDoor.P
set_option linter.unusedVariables false
set_option linter.unusedSimpArgs false
open Go.RowKit Go.Proofs.YtdgebcgcabhjoaaDoorW.PrintWords Go.Proofs.YtdgebcgcabhjoaaDoorW.PrintMore Go.Proofs.YtdgebcgcabhjoaaDoorW.PrintLast
def bits_Add32.f (x y b : Int) : Option (Int × Int) :=
  if (0 ≤ x ∧ x < 4294967296) ∧ (0 ≤ y ∧ y < 4294967296) ∧ (0 ≤ b ∧ b ≤ 1) then some ((x + y + b) % 4294967296, (x + y + b) / 4294967296) else none
set_option maxHeartbeats 4000000 in
set_option maxRecDepth 100000 in
theorem bits_Add32.calls (x y b : Int) (r1 r2 : Int) (w : World) (h : bits_Add32.f x y b = some (r1, r2)) :
    Calls Tryd.prog 79 #[.int .u32 x, .int .u32 y, .int .u32 b] w fun e w' => e = .returned (.tuple #[.int .u32 r1, .int .u32 r2]) ∧ Drawn0 w w' := by
  unfold bits_Add32.f at h
  by_cases hc : (0 ≤ x ∧ x < 4294967296) ∧ (0 ≤ y ∧ y < 4294967296) ∧ (0 ≤ b ∧ b ≤ 1)
  case neg => rw [if_neg hc] at h; cases h
  rw [if_pos hc] at h
  obtain ⟨hx, hy, hb⟩ := hc
  simp only [Option.some.injEq, Prod.mk.injEq] at h
  obtain ⟨rfl, rfl⟩ := h
  go_enter Tryd.func79, Tryd.ntmps79
  go_wp2
  go_ret2
  refine ⟨?_, Drawn0.refl _⟩
  simp
def cmpI (x y : Int) : Int := if x < y then -1 else if x > y then 1 else 0
theorem cmpI_cases (x y : Int) : (x < y ∧ cmpI x y = -1) ∨ (¬ x < y ∧ x > y ∧ cmpI x y = 1) ∨ (¬ x < y ∧ ¬ x > y ∧ cmpI x y = 0) := by
  unfold cmpI
  by_cases h1 : x < y
  · rw [if_pos h1]; omega
  · rw [if_neg h1]
    by_cases h2 : x > y
    · rw [if_pos h2]; omega
    · rw [if_neg h2]; omega
def cmp_Compare_int.f (x y : Int) : Option Int := some (cmpI x y)
def cmp_Compare_uint32.f (x y : Int) : Option Int := some (cmpI x y)
theorem nan_int (x : Int) (w : World) : Calls Tryd.prog 80 #[.int .i64 x] w fun e w' => e = .returned (.bool false) ∧ w' = w := by
  go_enter Tryd.func80, Tryd.ntmps80
  go_wp2
  go_ret
  exact ⟨by simp, rfl⟩
theorem nan_u32 (x : Int) (w : World) : Calls Tryd.prog 81 #[.int .u32 x] w fun e w' => e = .returned (.bool false) ∧ w' = w := by
  go_enter Tryd.func81, Tryd.ntmps81
  go_wp2
  go_ret
  exact ⟨by simp, rfl⟩
set_option maxHeartbeats 4000000 in
set_option maxRecDepth 100000 in
theorem cmp_int (x y : Int) (w : World) : Calls Tryd.prog 74 #[.int .i64 x, .int .i64 y] w fun e w' => e = .returned (.int .i64 (cmpI x y)) ∧ w' = w := by
  have h3 := cmpI_cases x y
  go_enter Tryd.func74, Tryd.ntmps74
  rcases h3 with ⟨h1, h2⟩ | ⟨h1, h3, h2⟩ | ⟨h1, h3, h2⟩
  all_goals
    have H := Lib.hid h2
    clear h2
    go_wp2_with (first | (go_at_call 80; refine (nan_int _ _).mono ?_; rintro e w' ⟨rfl, rfl⟩))
    go_ret
    exact ⟨by simp [H.out], rfl⟩
set_option maxHeartbeats 4000000 in
set_option maxRecDepth 100000 in
theorem cmp_u32 (x y : Int) (w : World) : Calls Tryd.prog 75 #[.int .u32 x, .int .u32 y] w fun e w' => e = .returned (.int .i64 (cmpI x y)) ∧ w' = w := by
  have h3 := cmpI_cases x y
  go_enter Tryd.func75, Tryd.ntmps75
  rcases h3 with ⟨h1, h2⟩ | ⟨h1, h3, h2⟩ | ⟨h1, h3, h2⟩
  all_goals
    have H := Lib.hid h2
    clear h2
    go_wp2_with (first | (go_at_call 81; refine (nan_u32 _ _).mono ?_; rintro e w' ⟨rfl, rfl⟩))
    go_ret
    exact ⟨by simp [H.out], rfl⟩
theorem cmp_Compare_int.calls (a0 a1 r : Int) (w : World) (h : cmp_Compare_int.f a0 a1 = some r) : Calls Tryd.prog 74 #[.int .i64 a0, .int .i64 a1] w fun e w' => e = .returned (.int .i64 r) ∧ Drawn0 w w' := by
  obtain rfl := Option.some.inj h
  exact (cmp_int a0 a1 w).mono fun e w' h => ⟨h.1, h.2 ▸ Drawn0.refl _⟩
theorem cmp_Compare_uint32.calls (a0 a1 r : Int) (w : World) (h : cmp_Compare_uint32.f a0 a1 = some r) : Calls Tryd.prog 75 #[.int .u32 a0, .int .u32 a1] w fun e w' => e = .returned (.int .i64 r) ∧ Drawn0 w w' := by
  obtain rfl := Option.some.inj h
  exact (cmp_u32 a0 a1 w).mono fun e w' h => ⟨h.1, h.2 ▸ Drawn0.refl _⟩
end Go.Proofs.YtdgebcgcabhjoaaDoor.P
namespace Go.Proofs.YtdgebcgcabhjoaaDoor.P
set_option linter.unusedVariables false
set_option linter.unusedSimpArgs false
open Go.RowKit Go.Proofs.YtdgebcgcabhjoaaDoorW.PrintWords Go.Proofs.YtdgebcgcabhjoaaDoorW.PrintMore Go.Proofs.YtdgebcgcabhjoaaDoorW.PrintLast
def bits_Sub32.f (x y b : Int) : Option (Int × Int) :=
  if (0 ≤ x ∧ x < 4294967296) ∧ (0 ≤ y ∧ y < 4294967296) ∧ (0 ≤ b ∧ b ≤ 1) then some ((x - y - b) % 4294967296, if x < y + b then 1 else 0) else none
theorem borrow_nat (x y d : Nat) : (((4294967295 ^^^ x) &&& y) ||| ((4294967295 ^^^ (x ^^^ y)) &&& d)) / 2147483648 = (((1 ^^^ x / 2147483648) &&& (y / 2147483648)) ||| ((1 ^^^ (x / 2147483648 ^^^ y / 2147483648)) &&& (d / 2147483648))) := by
  have e : ∀ n : Nat, n / 2147483648 = n >>> 31 := fun n => (Nat.shiftRight_eq_div_pow n 31).symm
  simp only [e, Nat.shiftRight_or_distrib, Nat.shiftRight_and_distrib, Nat.shiftRight_xor_distrib]
  rfl
theorem borrow_eq (x y b : Int) (hx : 0 ≤ x ∧ x < 4294967296) (hy : 0 ≤ y ∧ y < 4294967296) (hb : 0 ≤ b ∧ b ≤ 1) :
    bits .or .u32 (bits .and .u32 (bits .xor .u32 IntKind.u32.max x) y) (bits .and .u32 (bits .xor .u32 IntKind.u32.max (bits .xor .u32 x y)) ((x - y - b) % 4294967296)) / 2147483648 = if x < y + b then 1 else 0 := by
  have hm : IntKind.u32.max = 4294967295 := by decide
  obtain ⟨d, hd⟩ : ∃ d : Int, (x - y - b) % 4294967296 = d := ⟨_, rfl⟩
  have hd0 : 0 ≤ d ∧ d < 4294967296 := by omega
  have e0 : ∀ a b : Nat, a < 4294967296 → b < 4294967296 → a ^^^ b < 4294967296 := fun a b ha hb => Nat.xor_lt_two_pow (n := 32) (by omega) (by omega)
  have e1 : ∀ a b : Nat, a < 4294967296 → a &&& b < 4294967296 := fun a b ha => Nat.lt_of_le_of_lt Nat.and_le_left ha
  rw [hd, hm, u32_xor 4294967295 x (by omega) (by omega) hx.1 hx.2, u32_xor x y hx.1 hx.2 hy.1 hy.2]
  have x1 := e0 (4294967295 : Int).toNat x.toNat (by decide) (by omega)
  have x2 := e0 x.toNat y.toNat (by omega) (by omega)
  have x3 := e0 (4294967295 : Int).toNat (x.toNat ^^^ y.toNat) (by decide) x2
  rw [u32_xor 4294967295 _ (by omega) (by omega) (by omega) (by omega), u32_and _ y (by omega) (by omega) hy.1 hy.2]
  simp only [Int.toNat_natCast]
  rw [u32_and _ d (by omega) (by omega) hd0.1 hd0.2]
  simp only [Int.toNat_natCast]
  have x4 := e1 ((4294967295 : Int).toNat ^^^ x.toNat) y.toNat x1
  have x5 := e1 ((4294967295 : Int).toNat ^^^ (x.toNat ^^^ y.toNat)) d.toNat x3
  rw [u32_or _ _ (by omega) (by omega) (by omega) (by omega)]
  simp only [Int.toNat_natCast]
  rw [show (2147483648 : Int) = ((2147483648 : Nat) : Int) from rfl, ← Int.natCast_ediv, show (4294967295 : Int).toNat = 4294967295 from rfl, borrow_nat]
  have hx3 : x.toNat / 2147483648 = 0 ∨ x.toNat / 2147483648 = 1 := by omega
  have hy3 : y.toNat / 2147483648 = 0 ∨ y.toNat / 2147483648 = 1 := by omega
  have hd3 : d.toNat / 2147483648 = 0 ∨ d.toNat / 2147483648 = 1 := by omega
  rcases hx3 with hx3 | hx3 <;> rcases hy3 with hy3 | hy3 <;> rcases hd3 with hd3 | hd3 <;> rw [hx3, hy3, hd3]
  all_goals split
  all_goals first | rfl | (exfalso; omega)
set_option maxHeartbeats 4000000 in
set_option maxRecDepth 100000 in
theorem bits_Sub32.calls (x y b : Int) (r1 r2 : Int) (w : World) (h : bits_Sub32.f x y b = some (r1, r2)) :
    Calls Tryd.prog 78 #[.int .u32 x, .int .u32 y, .int .u32 b] w fun e w' => e = .returned (.tuple #[.int .u32 r1, .int .u32 r2]) ∧ Drawn0 w w' := by
  unfold bits_Sub32.f at h
  by_cases hc : (0 ≤ x ∧ x < 4294967296) ∧ (0 ≤ y ∧ y < 4294967296) ∧ (0 ≤ b ∧ b ≤ 1)
  case neg => rw [if_neg hc] at h; cases h
  rw [if_pos hc] at h
  obtain ⟨hx, hy, hb⟩ := hc
  simp only [Option.some.injEq, Prod.mk.injEq] at h
  obtain ⟨h1, h2⟩ := h
  have e := Lib.hid ((borrow_eq x y b hx hy hb).trans h2)
  have H1 := Lib.hid h1
  clear h1 h2
  clear hx hy hb
  go_enter Tryd.func78, Tryd.ntmps78
  go_wp2
  go_ret2
  refine ⟨?_, Drawn0.refl _⟩
  simp only [e.out]
  simp only [H1.out]
  rfl
end Go.Proofs.YtdgebcgcabhjoaaDoor.P
namespace Go.Proofs.YtdgebcgcabhjoaaDoor.P
set_option linter.unusedVariables false
set_option linter.unusedSimpArgs false
open Go.RowKit Go.Proofs.YtdgebcgcabhjoaaDoorW.PrintWords Go.Proofs.YtdgebcgcabhjoaaDoorW.PrintMore Go.Proofs.YtdgebcgcabhjoaaDoorW.PrintLast
/-- How many bits a number has. -/
def len2 (n : Nat) : Nat := if n = 0 then 0 else Nat.log2 n + 1
theorem len2_shift (n k : Nat) (h : 2 ^ k ≤ n) : len2 n = k + len2 (n / 2 ^ k) := by
  have hp : 0 < 2 ^ k := Nat.two_pow_pos k
  have h0 : n ≠ 0 := by omega
  have h1 : n / 2 ^ k ≠ 0 := by
    have := Nat.div_pos h hp
    omega
  unfold len2
  rw [if_neg h0, if_neg h1]
  have e : n.log2 = k + (n / 2 ^ k).log2 := by
    rw [Nat.log2_eq_iff h0]
    have a1 := Nat.log2_self_le h1
    have a2 := @Nat.lt_log2_self (n / 2 ^ k)
    refine ⟨?_, ?_⟩
    · rw [Nat.pow_add, Nat.mul_comm]
      exact (Nat.le_div_iff_mul_le hp).1 a1
    · rw [Nat.add_assoc, Nat.pow_add, Nat.mul_comm]
      exact (Nat.div_lt_iff_lt_mul hp).1 a2
  omega
/-- The library's table of 256. -/
def T8 : ByteArray := ⟨#[0, 1, 2, 2, 3, 3, 3, 3, 4, 4, 4, 4, 4, 4, 4, 4, 5, 5, 5, 5, 5, 5, 5, 5, 5, 5, 5, 5, 5, 5, 5, 5, 6, 6, 6, 6, 6, 6, 6, 6, 6, 6, 6, 6, 6, 6, 6, 6, 6, 6, 6, 6, 6, 6, 6, 6, 6, 6, 6, 6, 6, 6, 6, 6, 7, 7, 7, 7, 7, 7, 7, 7, 7, 7, 7, 7, 7, 7, 7, 7, 7, 7, 7, 7, 7, 7, 7, 7, 7, 7, 7, 7, 7, 7, 7, 7, 7, 7, 7, 7, 7, 7, 7, 7, 7, 7, 7, 7, 7, 7, 7, 7, 7, 7, 7, 7, 7, 7, 7, 7, 7, 7, 7, 7, 7, 7, 7, 7, 8, 8, 8, 8, 8, 8, 8, 8, 8, 8, 8, 8, 8, 8, 8, 8, 8, 8, 8, 8, 8, 8, 8, 8, 8, 8, 8, 8, 8, 8, 8, 8, 8, 8, 8, 8, 8, 8, 8, 8, 8, 8, 8, 8, 8, 8, 8, 8, 8, 8, 8, 8, 8, 8, 8, 8, 8, 8, 8, 8, 8, 8, 8, 8, 8, 8, 8, 8, 8, 8, 8, 8, 8, 8, 8, 8, 8, 8, 8, 8, 8, 8, 8, 8, 8, 8, 8, 8, 8, 8, 8, 8, 8, 8, 8, 8, 8, 8, 8, 8, 8, 8, 8, 8, 8, 8, 8, 8, 8, 8, 8, 8, 8, 8, 8, 8, 8, 8, 8, 8, 8, 8, 8, 8, 8, 8, 8, 8]⟩
theorem T8_size : T8.size = 256 := by decide +kernel
theorem T8_all : ∀ v : Fin 256, (T8.data.getD v.1 0).toNat = len2 v.1 := by decide +kernel
theorem ba_get (s : ByteArray) (v : Nat) (h : v < s.size) : s[v]'h = s.data.getD v 0 := by
  show s.data[v] = s.data.getD v 0
  rw [Array.getD_eq_getD_getElem?, Array.getElem?_eq_getElem h]
  rfl
theorem T8_at (v : Nat) (h : v < T8.size) : (T8[v]'h).toNat = len2 v := by
  have h2 : v < 256 := by rw [T8_size] at h; exact h
  have := T8_all ⟨v, h2⟩
  simp only at this
  rw [← this, ba_get]
theorem len_fin (c ix : Int) (h0 : 0 ≤ ix) (h1 : ix < 256) (hT : ix.toNat < T8.size) (hc : 0 ≤ c ∧ c ≤ 24) (r : Int) (hr : c + (len2 ix.toNat : Int) = r) : wrap64 (c + wrap64 (((T8[ix.toNat]'hT).toNat : Nat) : Int)) = r := by
  have hl : len2 ix.toNat ≤ 8 := by
    unfold len2
    split
    · omega
    · rename_i hn
      have := (Nat.log2_lt hn).2 (show ix.toNat < 2 ^ 8 by omega)
      omega
  rw [T8_at]
  have e1 : wrap64 ((len2 ix.toNat : Nat) : Int) = (len2 ix.toNat : Int) := by unfold wrap64; omega
  rw [e1, ← hr]
  unfold wrap64
  omega
def bits_Len32.f (a0 : Int) : Option Int := if 0 ≤ a0 ∧ a0 < 4294967296 then some (len2 a0.toNat) else none
set_option maxHeartbeats 4000000 in
set_option maxRecDepth 100000 in
theorem bits_Len32.calls (a0 : Int) (r : Int) (w : World) (h : bits_Len32.f a0 = some r) :
    Calls Tryd.prog 76 #[.int .u32 a0] w fun e w' => e = .returned (.int .i64 r) ∧ Drawn0 w w' := by
  unfold bits_Len32.f at h
  by_cases hc : 0 ≤ a0 ∧ a0 < 4294967296
  case neg => rw [if_neg hc] at h; cases h
  rw [if_pos hc] at h
  have H := Lib.hid (Option.some.inj h)
  clear h
  go_enter Tryd.func76, Tryd.ntmps76
  by_cases c1 : a0 ≥ 65536
  · by_cases c2 : a0 / 65536 ≥ 256
    · go_wp2
      go_ret
      refine ⟨congrArg (fun z => Ending.returned (.int .i64 z)) ?_, Drawn0.refl _⟩
      refine (len_fin 24 (a0 / 65536 / 256) (by omega) (by omega) (by rw [T8_size]; omega) (by omega) r ?_)
      rw [← H.out]
      have hs := len2_shift a0.toNat 24 (by omega)
      have e : (a0 / 65536 / 256).toNat = a0.toNat / 2 ^ 24 := by omega
      rw [e]
      omega
    · go_wp2
      go_ret
      refine ⟨congrArg (fun z => Ending.returned (.int .i64 z)) ?_, Drawn0.refl _⟩
      refine (len_fin 16 (a0 / 65536) (by omega) (by omega) (by rw [T8_size]; omega) (by omega) r ?_)
      rw [← H.out]
      have hs := len2_shift a0.toNat 16 (by omega)
      have e : (a0 / 65536).toNat = a0.toNat / 2 ^ 16 := by omega
      rw [e]
      omega
  · by_cases c2 : a0 ≥ 256
    · go_wp2
      go_ret
      refine ⟨congrArg (fun z => Ending.returned (.int .i64 z)) ?_, Drawn0.refl _⟩
      refine (len_fin 8 (a0 / 256) (by omega) (by omega) (by rw [T8_size]; omega) (by omega) r ?_)
      rw [← H.out]
      have hs := len2_shift a0.toNat 8 (by omega)
      have e : (a0 / 256).toNat = a0.toNat / 2 ^ 8 := by omega
      rw [e]
      omega
    · go_wp2
      go_ret
      refine ⟨congrArg (fun z => Ending.returned (.int .i64 z)) ?_, Drawn0.refl _⟩
      have hr : (0 : Int) + (len2 a0.toNat : Int) = r := by rw [Int.zero_add]; exact H.out
      have hz := len_fin 0 a0 (by omega) (by omega) (by rw [T8_size]; omega) (by omega) r hr
      rw [Int.zero_add] at hz
      exact hz
theorem getLast_getD {l : List Int} (h : l ≠ []) : l.getLast h = l.getD (l.length - 1) 0 := by
  have := List.length_pos_iff.2 h
  rw [List.getLast_eq_getElem, List.getD_eq_getElem?_getD, List.getElem?_eq_getElem (by omega)]
  rfl
theorem limbs_len {n k : Nat} (h : n < 4294967296 ^ k) : (limbs n).length ≤ k := canon_len (canon_limbs n) (by rw [val_limbs]; exact h)
end Go.Proofs.YtdgebcgcabhjoaaDoor.P
/- value.Deep, value.Size by value. -/
namespace Go.Proofs.YtdgebcgcabhjoaaDoor.P
set_option linter.unusedVariables false
set_option linter.unusedSimpArgs false
open Go.RowKit Go.Proofs.YtdgebcgcabhjoaaDoorW.PrintWords Go.Proofs.YtdgebcgcabhjoaaDoorW.PrintMore Go.Proofs.YtdgebcgcabhjoaaDoorW.PrintLast
abbrev V := S34
theorem V.ind {P : V → Prop} (h : ∀ v : V, (∀ y ∈ v.f3, P y) → P v) : ∀ v, P v := by
  have key : ∀ (n : Nat) (v : V), SizeOf.sizeOf v = n → P v := by
    intro n
    induction n using Nat.strongRecOn with
    | _ n ih =>
      intro v hv
      refine h v fun y hy => ih (SizeOf.sizeOf y) ?_ y rfl
      have := List.sizeOf_lt_of_mem hy
      cases v
      simp only [S34.mk.sizeOf_spec] at hv
      simp only at this
      omega
  exact fun v => key _ v rfl
/-- Numbers that fit their kinds; nothing is longer than 2^30. -/
inductive OkV : V → Prop
  | mk (x : V) (h0 : (Lit.int .i64 x.f0).wf = true) (h1 : ∀ n ∈ x.f1.f1, (Lit.int .u32 n).wf = true) (h2 : (Lit.int .i64 x.f1.f2).wf = true) (h3 : x.f2.size ≤ 1073741824) (h4 : ∀ k ∈ x.f4, k.size ≤ 1073741824) (l1 : x.f1.f1.length ≤ 1073741824) (l3 : x.f3.length ≤ 1073741824) (l4 : x.f4.length ≤ 1073741824) (hk : ∀ y ∈ x.f3, OkV y) : OkV x
theorem OkV.kids {x : V} (h : OkV x) : ∀ y ∈ x.f3, OkV y := by cases h; assumption
theorem OkV.text {x : V} (h : OkV x) : x.f2.size ≤ 1073741824 := by cases h; assumption
theorem OkV.keys {x : V} (h : OkV x) : ∀ k ∈ x.f4, k.size ≤ 1073741824 := by cases h; assumption
theorem OkV.len1 {x : V} (h : OkV x) : x.f1.f1.length ≤ 1073741824 := by cases h; assumption
theorem OkV.len3 {x : V} (h : OkV x) : x.f3.length ≤ 1073741824 := by cases h; assumption
theorem OkV.len4 {x : V} (h : OkV x) : x.f4.length ≤ 1073741824 := by cases h; assumption
theorem OkV.rd {x : V} (h : OkV x) {k : Nat} (hk : k < x.f3.length) : OkV (rd_T34 x.f3 (k : Int)) := h.kids _ (by unfold rd_T34; simp [hk])
theorem list7 {α : Type} {l : List α} (h : l.length = 7) : ∃ c0 c1 c2 c3 c4 c5 c6, l = [c0, c1, c2, c3, c4, c5, c6] := by
  obtain ⟨c0, l, rfl⟩ := List.exists_cons_of_length_eq_add_one (show l.length = 6 + 1 from h)
  obtain ⟨c1, l, rfl⟩ := List.exists_cons_of_length_eq_add_one (show l.length = 5 + 1 by simpa using h)
  obtain ⟨c2, l, rfl⟩ := List.exists_cons_of_length_eq_add_one (show l.length = 4 + 1 by simpa using h)
  obtain ⟨c3, l, rfl⟩ := List.exists_cons_of_length_eq_add_one (show l.length = 3 + 1 by simpa using h)
  obtain ⟨c4, l, rfl⟩ := List.exists_cons_of_length_eq_add_one (show l.length = 2 + 1 by simpa using h)
  obtain ⟨c5, l, rfl⟩ := List.exists_cons_of_length_eq_add_one (show l.length = 1 + 1 by simpa using h)
  obtain ⟨c6, l, rfl⟩ := List.exists_cons_of_length_eq_add_one (show l.length = 0 + 1 by simpa using h)
  have : l = [] := List.eq_nil_of_length_eq_zero (by simpa using h)
  subst this
  exact ⟨c0, c1, c2, c3, c4, c5, c6, rfl⟩
def vdeep : Nat → V → Nat
  | 0, _ => 0
  | n + 1, v => if v.f0 = 5 ∨ v.f0 = 6 then (v.f3.map (vdeep n)).foldl max 0 + 1 else 0
theorem foldl_max_le {l : List Nat} {n b : Nat} (h : ∀ x ∈ l, x ≤ n) (hb : b ≤ n) : l.foldl max b ≤ n := by
  induction l generalizing b with
  | nil => exact hb
  | cons x l ih => exact ih (fun y hy => h y (List.mem_cons_of_mem _ hy)) (by have := h x List.mem_cons_self; omega)
theorem vdeep_le : ∀ n v, vdeep n v ≤ n
  | 0, _ => Nat.le_refl _
  | n + 1, v => by
    unfold vdeep
    by_cases h : v.f0 = 5 ∨ v.f0 = 6
    · rw [if_pos h]
      have : (v.f3.map (vdeep n)).foldl max 0 ≤ n := foldl_max_le (fun x hx => by
        obtain ⟨y, _, rfl⟩ := List.mem_map.1 hx
        exact vdeep_le n y) (Nat.zero_le _)
      omega
    · rw [if_neg h]; omega
def vmx (n : Nat) (l : List V) (k : Nat) : Nat := ((l.take k).map (vdeep n)).foldl max 0
theorem vmx_succ (n : Nat) (l : List V) (k : Nat) (h : k < l.length) : vmx n l (k + 1) = max (vmx n l k) (vdeep n (rd_T34 l (k : Int))) := by
  unfold vmx rd_T34
  rw [List.take_succ_eq_append_getElem h, List.map_append, List.foldl_append]
  simp [List.getD_eq_getElem?_getD, h]
theorem vmx_le (n : Nat) (l : List V) (k : Nat) : vmx n l k ≤ n := foldl_max_le (fun x hx => by
  obtain ⟨y, _, rfl⟩ := List.mem_map.1 hx
  exact vdeep_le n y) (Nat.zero_le _)
theorem below_box {B : Nat} {w wr w2 : World} {o : Obj} (h : Below B w wr) (hB : B ≤ wr.heap.size) (h2 : Below (wr.alloc o).heap.size (wr.alloc o) w2) : Below B w w2 := (h.alloc hB o).trans (h2.mono (by simp; omega))
set_option maxHeartbeats 1000000 in
set_option maxRecDepth 100000 in
theorem deep_any : ∀ (n : Nat), n ≤ 1000 → ∀ (x : V) (cs : List Value) (w : World), k34.K w x cs →
    Calls Tryd.prog 35 #[.agg cs.toArray, .int .i64 n] w fun e w' => e = .returned (.int .i64 (vdeep n x)) ∧ Below w.heap.size w w' := by
  intro n
  induction n with
  | zero =>
    intro _ x cs w hK
    obtain ⟨A2, c2, A5, c5, A6, c6, rfl, l2, g2, l5, g5, l6, g6⟩ := k34_open hK
    clear l2 g2 l5 g5 l6 g6 hK
    show Calls _ _ _ _ fun e w' => e = .returned (.int .i64 0) ∧ _
    by_cases h5 : x.f0 = 5
    · have h5b : (x.f0 != 5) = false := by simp [h5]
      go_enter Tryd.func35, Tryd.ntmps35
      go_wp2
      go_ret
      exact ⟨rfl, (Below.refl _ _).alloc (Nat.le_refl _) _⟩
    · have h5b : (x.f0 != 5) = true := by simpa using h5
      by_cases h6 : x.f0 = 6
      · have h6b : (x.f0 != 6) = false := by simp [h6]
        go_enter Tryd.func35, Tryd.ntmps35
        go_wp2
        go_ret
        exact ⟨rfl, (Below.refl _ _).alloc (Nat.le_refl _) _⟩
      · have h6b : (x.f0 != 6) = true := by simpa using h6
        go_enter Tryd.func35, Tryd.ntmps35
        go_wp2
        go_ret
        exact ⟨rfl, (Below.refl _ _).alloc (Nat.le_refl _) _⟩
  | succ n ih =>
    intro hn x cs w hK
    obtain ⟨A2, c2, A5, c5, A6, c6, rfl, l2, g2, l5, g5, l6, g6⟩ := k34_open hK
    have HC := Lib.hid g5
    have hlen := g5.2.1
    clear l2 g2 l5 g5 l6 g6 hK
    have IH := Lib.hid (ih (by omega))
    clear ih
    by_cases h56 : x.f0 = 5 ∨ x.f0 = 6
    · have hv : vdeep (n + 1) x = vmx n x.f3 x.f3.length + 1 := by unfold vdeep vmx; rw [if_pos h56, List.take_length]
      rw [hv]
      obtain ⟨m, hm⟩ : ∃ m : Int, m = ((n + 1 : Nat) : Int) := ⟨_, rfl⟩
      rw [← hm]
      have hp : (m == 0) = false := by simp; omega
      have hn1 : m - 1 = (n : Int) := by omega
      have hmb : 1 ≤ m ∧ m ≤ 1000 := by omega
      clear hm
      have hge : ∀ k, vmx n x.f3 k ≤ 1000 := fun k => Nat.le_trans (vmx_le n x.f3 k) (by omega)
      have e6 : x.f0 = 6 → (x.f0 != 5) = true ∧ (x.f0 != 6) = false := fun h => by simp [h]
      have e5 : x.f0 = 5 → (x.f0 != 5) = false := fun h => by simp [h]
      have GE := Lib.hid hge
      clear hge hv
      rcases h56 with h5 | h6
      · have hb := e5 h5
        clear e5 e6 h5
        go_enter Tryd.func35, Tryd.ntmps35
        go_wp2
        go_loopw [5, 23] (fun vm vi wr => ∃ k : Nat, k ≤ x.f3.length ∧ vi = .int .i64 k ∧ vm = .int .i64 (vmx n x.f3 k : Nat) ∧ Below w.heap.size w wr) (fun _ vi _ => x.f3.length - (intOf vi).toNat)
        case atStart => exact ⟨0, Nat.zero_le _, rfl, rfl, (Below.refl _ _).alloc (Nat.le_refl _) _⟩
        case round =>
          obtain ⟨k, hk, rfl, rfl, hB⟩ := hrel
          have HB := Lib.hid hB
          clear hB
          by_cases hlt : k < x.f3.length
          · obtain ⟨ad, D2, d2, D5, d5, D6, d6, rfl, q0, q1, q2, q3, q4, q5, q6, m2, G2, m5, G5, m6, G6⟩ := at_T34 (Kd.C_below HC.out HB.out) (k : Int) (by omega) (by omega)
            rw [Int.toNat_natCast] at q0 q1 q2 q3 q4 q5 q6
            have hKx := Lib.hid (k34_mk wr (rd_T34 x.f3 k) m2 G2 m5 G5 m6 G6)
            clear m2 G2 m5 G5 m6 G6
            have hs : Hid (max ((vmx n x.f3 k : Nat) : Int) ((vdeep n (rd_T34 x.f3 (k : Int)) : Nat) : Int) = ((vmx n x.f3 (k + 1) : Nat) : Int)) := Lib.hid (by rw [vmx_succ n x.f3 k hlt]; omega)
            have hw : wrap64 ((k : Int) + 1) = ((k + 1 : Nat) : Int) := by unfold wrap64; omega
            go_wp2_with (first | (go_at_call 35; refine (IH.out (rd_T34 x.f3 k) _ _ ?hK).mono ?_; (case hK => exact k34.K_below ((Below.refl _ _).alloc (Nat.le_refl _) _) hKx.out); rintro e w2 ⟨rfl, hB2⟩))
            have hB3 := below_box HB.out HB.out.size hB2
            clear hB2
            go_roundw
            case rel =>
              refine ⟨k + 1, by omega, ?_, ?_, hB3⟩
              · go_num
              · rw [hs.out]
            case measure => simp [intOf]; omega
          · obtain rfl : k = x.f3.length := by omega
            have hq := GE.out x.f3.length
            have hw : wrap64 ((vmx n x.f3 x.f3.length : Nat) + 1) = ((vmx n x.f3 x.f3.length + 1 : Nat) : Int) := by unfold wrap64; omega
            go_wp2
            go_ret
            exact ⟨by go_num, HB.out⟩
      · obtain ⟨hb1, hb2⟩ := e6 h6
        clear e5 e6 h6
        go_enter Tryd.func35, Tryd.ntmps35
        go_wp2
        go_loopw [5, 23] (fun vm vi wr => ∃ k : Nat, k ≤ x.f3.length ∧ vi = .int .i64 k ∧ vm = .int .i64 (vmx n x.f3 k : Nat) ∧ Below w.heap.size w wr) (fun _ vi _ => x.f3.length - (intOf vi).toNat)
        case atStart => exact ⟨0, Nat.zero_le _, rfl, rfl, (Below.refl _ _).alloc (Nat.le_refl _) _⟩
        case round =>
          obtain ⟨k, hk, rfl, rfl, hB⟩ := hrel
          have HB := Lib.hid hB
          clear hB
          by_cases hlt : k < x.f3.length
          · obtain ⟨ad, D2, d2, D5, d5, D6, d6, rfl, q0, q1, q2, q3, q4, q5, q6, m2, G2, m5, G5, m6, G6⟩ := at_T34 (Kd.C_below HC.out HB.out) (k : Int) (by omega) (by omega)
            rw [Int.toNat_natCast] at q0 q1 q2 q3 q4 q5 q6
            have hKx := Lib.hid (k34_mk wr (rd_T34 x.f3 k) m2 G2 m5 G5 m6 G6)
            clear m2 G2 m5 G5 m6 G6
            have hs : Hid (max ((vmx n x.f3 k : Nat) : Int) ((vdeep n (rd_T34 x.f3 (k : Int)) : Nat) : Int) = ((vmx n x.f3 (k + 1) : Nat) : Int)) := Lib.hid (by rw [vmx_succ n x.f3 k hlt]; omega)
            have hw : wrap64 ((k : Int) + 1) = ((k + 1 : Nat) : Int) := by unfold wrap64; omega
            go_wp2_with (first | (go_at_call 35; refine (IH.out (rd_T34 x.f3 k) _ _ ?hK).mono ?_; (case hK => exact k34.K_below ((Below.refl _ _).alloc (Nat.le_refl _) _) hKx.out); rintro e w2 ⟨rfl, hB2⟩))
            have hB3 := below_box HB.out HB.out.size hB2
            clear hB2
            go_roundw
            case rel =>
              refine ⟨k + 1, by omega, ?_, ?_, hB3⟩
              · go_num
              · rw [hs.out]
            case measure => simp [intOf]; omega
          · obtain rfl : k = x.f3.length := by omega
            have hq := GE.out x.f3.length
            have hw : wrap64 ((vmx n x.f3 x.f3.length : Nat) + 1) = ((vmx n x.f3 x.f3.length + 1 : Nat) : Int) := by unfold wrap64; omega
            go_wp2
            go_ret
            exact ⟨by go_num, HB.out⟩
    · have hv : vdeep (n + 1) x = 0 := by unfold vdeep; rw [if_neg h56]
      rw [hv]
      have hb1 : (x.f0 != 5) = true := by simp; omega
      have hb2 : (x.f0 != 6) = true := by simp; omega
      clear h56 hv
      go_enter Tryd.func35, Tryd.ntmps35
      go_wp2
      go_ret
      exact ⟨rfl, (Below.refl _ _).alloc (Nat.le_refl _) _⟩
end Go.Proofs.YtdgebcgcabhjoaaDoor.P
/- cmp.Or of errors and of numbers: the first that is not 0. -/
namespace Go.Proofs.YtdgebcgcabhjoaaDoor.P
set_option linter.unusedVariables false
set_option linter.unusedSimpArgs false
open Go.RowKit Go.Proofs.YtdgebcgcabhjoaaDoorW.PrintWords Go.Proofs.YtdgebcgcabhjoaaDoorW.PrintMore Go.Proofs.YtdgebcgcabhjoaaDoorW.PrintLast
/-- The first that is not 0. -/
def orL : List Int → Int
  | [] => 0
  | x :: l => if x = 0 then orL l else x
theorem orL_skip : ∀ (l : List Int) (k : Nat), (∀ i, i < k → rd l (i : Int) = 0) → orL (l.drop k) = orL l
  | _, 0, _ => rfl
  | [], k + 1, _ => by simp
  | x :: l, k + 1, h => by
    have h0 := h 0 (by omega)
    have : x = 0 := by simpa [rd] using h0
    subst this
    rw [List.drop_succ_cons, orL_skip l k fun i hi => by have := h (i + 1) (by omega); simpa [rd] using this]
    simp [orL]
set_option maxHeartbeats 1000000 in
theorem or_err (A : Option Addr) (c : Nat) (l : List Int) (w : World) (hC : Kd.C (Kd.int .i64) w A l.length l) :
    Calls Tryd.prog 45 #[.slice A l.length c] w fun e w' => e = .returned (.int .i64 (orL l)) ∧ w = w' := by
  have HC := Lib.hid hC
  have hlen := hC.2.1
  clear hC
  go_enter Tryd.func45, Tryd.ntmps45
  go_wp2
  go_loopw [8] (fun vi wr => ∃ k : Nat, k ≤ l.length ∧ vi = .int .i64 k ∧ Hid (∀ i, i < k → rd l (i : Int) = 0) ∧ wr = w) (fun vi _ => l.length - (intOf vi).toNat)
  case atStart => exact ⟨0, Nat.zero_le _, rfl, Lib.hid (fun i hi => by omega), rfl⟩
  case round =>
    obtain ⟨k, hk, rfl, hz, hw⟩ := hrel
    obtain rfl := hw.symm
    clear hw
    by_cases hlt : k < l.length
    · obtain ⟨ad, rfl, hx⟩ := Kd.at_int HC.out (k : Int) (by omega) (by omega)
      rw [Int.toNat_natCast] at hx
      have hw : wrap64 ((k : Int) + 1) = ((k + 1 : Nat) : Int) := by unfold wrap64; omega
      by_cases h0 : rd l (k : Int) = 0
      · have hn : (rd l (k : Int) != 0) = false := by simp [h0]
        have H0 := Lib.hid h0
        clear h0
        go_wp2
        go_roundw
        case rel => exact ⟨k + 1, by omega, by go_num, Lib.hid (fun i hi => by rcases Nat.lt_or_ge i k with h | h; exact hz.out i h; rw [show i = k by omega]; exact H0.out), trivial⟩
        case measure => simp [intOf]; omega
      · have hn : (rd l (k : Int) != 0) = true := by simp [h0]
        have hr : Hid (orL l = rd l (k : Int)) := Lib.hid (by
          rw [← orL_skip l k hz.out, List.drop_eq_getElem_cons hlt, orL]
          have e : l[k] = rd l (k : Int) := by simp [rd, hlt]
          rw [e, if_neg h0])
        clear h0
        go_wp2
        go_ret
        exact ⟨by rw [hr.out]; rfl, rfl⟩
    · obtain rfl : k = l.length := by omega
      have hr : Hid (orL l = 0) := Lib.hid (by rw [← orL_skip l _ hz.out, List.drop_length]; rfl)
      go_wp2
      go_ret
      exact ⟨by rw [hr.out]; rfl, rfl⟩
/-- Two numbers in a block of their own. -/
theorem two_C (w : World) (a b : Int) (t : Nat) : Kd.C (Kd.int .i64) (w.alloc (.cells #[.int .i64 a, .int .i64 b] t)) (some ⟨w.heap.size, 0, none⟩) [a, b].length [a, b] :=
  ⟨rfl, by simp, fun _ => ⟨_, rfl, fun j p hj => ⟨[.int .i64 p], rfl, rfl, fun i u hu => by
    cases i with
    | succ i => simp at hu
    | zero =>
      simp at hu
      subst hu
      rcases j with _ | _ | j
      · simp at hj; subst hj; rw [add_plain]; exact (blk_cell (blk_new w _) _).trans rfl
      · simp at hj; subst hj; rw [add_plain]; exact (blk_cell (blk_new w _) _).trans rfl
      · simp at hj⟩⟩⟩
theorem or_err2 (a b : Int) (w : World) (t : Nat) : Calls Tryd.prog 45 #[.slice (some ⟨w.heap.size, 0, none⟩) 2 2] (w.alloc (.cells #[.int .i64 a, .int .i64 b] t)) fun e w' => e = .returned (.int .i64 (orL [a, b])) ∧ w.alloc (.cells #[.int .i64 a, .int .i64 b] t) = w' :=
  or_err _ 2 [a, b] _ (two_C w a b t)
end Go.Proofs.YtdgebcgcabhjoaaDoor.P
/-
  DERIVED: THE SHELF's CONTRACTS AT THIS DUMP, IN PLAIN WORDS (tools/lay-plain.mjs out of 'TrydShelf.lean', which tools/lay-shelf.mjs wrote): THE SAME DECLARATIONS UNDER THE SAME NAMES: 'import', 'namespace', 'open', 'def', 'theorem' AND NOTHING ELSE: no command of the shelf's: FOR A HAND-IN. Each laying: the table of numbers ('.._ren') and one theorem, a field a fact of the dump's own or the kernel's comparison; each contract: ONE APPLICATION.
-/
namespace Go.Proofs
open Go.Shelf
def Tryd.lays260_ren : Go.Shelf.Ren := ⟨fun | 260 => 63 | n => n, fun | 9 => 9 | 21 => 21 | 3 => 3 | 4 => 4 | 5 => 5 | 119 => 118 | 0 => 0 | 46 => 100 | 139 => 121 | 138 => 120 | n => n, fun | 3 => 0 | 4 => 1 | n => n⟩
theorem Tryd.lays260 : Go.Proofs.Lays.n260 Tryd.prog Tryd.lays260_ren := {
  mixed := by kernel_rfl
  f260 := Tryd.func63.trans (congrArg some (by kernel_rfl))
  t0 := Tryd.underlying0
  a0 := Tryd.isAgg0
  z0 := Tryd.sizeOf0
  v0 := Tryd.zeroValue0
  t3 := Tryd.underlying3
  a3 := Tryd.isAgg3
  z3 := Tryd.sizeOf3
  v3 := Tryd.zeroValue3
  t4 := Tryd.underlying4
  a4 := Tryd.isAgg4
  z4 := Tryd.sizeOf4
  v4 := Tryd.zeroValue4
  t5 := Tryd.underlying5
  a5 := Tryd.isAgg5
  z5 := Tryd.sizeOf5
  v5 := Tryd.zeroValue5
  t9 := Tryd.underlying9
  a9 := Tryd.isAgg9
  z9 := Tryd.sizeOf9
  v9 := Tryd.zeroValue9
  t21 := Tryd.underlying21
  a21 := Tryd.isAgg21
  z21 := Tryd.sizeOf21
  v21 := Tryd.zeroValue21
  t46 := Tryd.underlying100
  a46 := Tryd.isAgg100
  z46 := Tryd.sizeOf100
  v46 := Tryd.zeroValue100
  t119 := Tryd.underlying118
  a119 := Tryd.isAgg118
  z119 := Tryd.sizeOf118
  t138 := Tryd.underlying120
  a138 := Tryd.isAgg120
  z138 := Tryd.sizeOf120
  v138 := Tryd.zeroValue120
  t139 := Tryd.underlying121
  a139 := Tryd.isAgg121
  z139 := Tryd.sizeOf121
  v139 := Tryd.zeroValue121
  g3 := by kernel_rfl
  g4 := by kernel_rfl }
open Go.RowKit Go.Lib in
theorem Tryd.utf8_decodeRuneInStringSlow (s : ByteArray) (w : World) (hT : Lib.Utf8Tabs 0 1 w) :
    Calls Tryd.prog 63 #[.string s] w fun e w' => e = .returned (.tuple #[.int .i32 (Lib.decodeGo s).1, .int .i64 (Lib.decodeGo s).2]) ∧ Below w.heap.size w w' := Any.utf8_decodeRuneInStringSlow Tryd.lays260 s w hT
def Tryd.lays197_ren : Go.Shelf.Ren := ⟨fun | 197 => 57 | 260 => 63 | n => n, fun | 9 => 9 | 21 => 21 | 3 => 3 | 4 => 4 | 5 => 5 | 105 => 94 | 119 => 118 | 0 => 0 | 46 => 100 | 139 => 121 | 138 => 120 | n => n, fun | 3 => 0 | 4 => 1 | n => n⟩
theorem Tryd.lays197 : Go.Proofs.Lays.n197 Tryd.prog Tryd.lays197_ren := {
  mixed := by kernel_rfl
  f197 := Tryd.func57.trans (congrArg some (by kernel_rfl))
  f260 := Tryd.func63.trans (congrArg some (by kernel_rfl))
  t0 := Tryd.underlying0
  a0 := Tryd.isAgg0
  z0 := Tryd.sizeOf0
  v0 := Tryd.zeroValue0
  t3 := Tryd.underlying3
  a3 := Tryd.isAgg3
  z3 := Tryd.sizeOf3
  v3 := Tryd.zeroValue3
  t4 := Tryd.underlying4
  a4 := Tryd.isAgg4
  z4 := Tryd.sizeOf4
  v4 := Tryd.zeroValue4
  t5 := Tryd.underlying5
  a5 := Tryd.isAgg5
  z5 := Tryd.sizeOf5
  v5 := Tryd.zeroValue5
  t9 := Tryd.underlying9
  a9 := Tryd.isAgg9
  z9 := Tryd.sizeOf9
  v9 := Tryd.zeroValue9
  t21 := Tryd.underlying21
  a21 := Tryd.isAgg21
  z21 := Tryd.sizeOf21
  v21 := Tryd.zeroValue21
  t46 := Tryd.underlying100
  a46 := Tryd.isAgg100
  z46 := Tryd.sizeOf100
  v46 := Tryd.zeroValue100
  t105 := Tryd.underlying94
  a105 := Tryd.isAgg94
  z105 := Tryd.sizeOf94
  v105 := Tryd.zeroValue94
  t119 := Tryd.underlying118
  a119 := Tryd.isAgg118
  z119 := Tryd.sizeOf118
  t138 := Tryd.underlying120
  a138 := Tryd.isAgg120
  z138 := Tryd.sizeOf120
  v138 := Tryd.zeroValue120
  t139 := Tryd.underlying121
  a139 := Tryd.isAgg121
  z139 := Tryd.sizeOf121
  v139 := Tryd.zeroValue121
  g3 := by kernel_rfl
  g4 := by kernel_rfl }
open Go.RowKit Go.Lib in
/-- **unicode/utf8.DecodeRuneInString AT EVERY STRING.** (LAID: no walk: one application.) -/
theorem Tryd.utf8_DecodeRuneInString (s : ByteArray) (w : World) (hT : Lib.Utf8Tabs 0 1 w) :
    Calls Tryd.prog 57 #[.string s] w fun e w' => e = .returned (.tuple #[.int .i32 (Lib.decodeGo s).1, .int .i64 (Lib.decodeGo s).2]) ∧ Below w.heap.size w w' := Any.utf8_DecodeRuneInString Tryd.lays197 s w hT
end Go.Proofs
/- The characters of a text with their places: plain functions over bytes. -/
namespace Go.Proofs.YtdgebcgcabhjoaaDoor.P
set_option linter.unusedVariables false
set_option linter.unusedSimpArgs false
/-- The character that begins at a place; below 0: none does. -/
def uc (s : ByteArray) (p : Nat) : Int := if (Utf8.decode s p).1 = 65533 ∧ (Utf8.decode s p).2 = 1 then -1 else ((Utf8.decode s p).1 : Int)
/-- How many octets it has. -/
def un (s : ByteArray) (p : Nat) : Nat := (Utf8.decode s p).2
theorem decodeN_pos (n b0 b1 b2 b3 : Nat) : 1 ≤ (Lib.decodeN n b0 b1 b2 b3).2 := by
  unfold Lib.decodeN
  repeat' split
  all_goals simp
theorem un_pos (s : ByteArray) (p : Nat) : 1 ≤ un s p := by
  unfold un
  rw [Lib.decode_at]
  exact decodeN_pos _ _ _ _ _
/-- The places and characters from a place on. -/
def uitems (s : ByteArray) : Nat → Nat → List (Nat × Int)
  | 0, _ => []
  | f + 1, p => if p < s.size then (p, uc s p) :: uitems s f (p + un s p) else []
theorem decodeN_le (n b0 b1 b2 b3 : Nat) (hn : 1 ≤ n) (h0 : b0 < 256) : ((Lib.decodeN n b0 b1 b2 b3).1 ≤ 1114111 ∧ ((Lib.decodeN n b0 b1 b2 b3).1 < 55296 ∨ 57343 < (Lib.decodeN n b0 b1 b2 b3).1)) ∧ (Lib.decodeN n b0 b1 b2 b3).2 ≤ n := by
  unfold Lib.decodeN
  repeat' split
  all_goals (simp; omega)
theorem get_lt (s : ByteArray) (i : Nat) : (s.get! i).toNat < 256 := UInt8.toNat_lt _
theorem uc_bd (s : ByteArray) (p : Nat) (h : p < s.size) : -1 ≤ uc s p ∧ (uc s p ≤ 1114111 ∧ (uc s p < 55296 ∨ 57343 < uc s p)) := by
  unfold uc
  have := decodeN_le (s.size - p) (s.get! p).toNat (s.get! (p + 1)).toNat (s.get! (p + 2)).toNat (s.get! (p + 3)).toNat (by omega) (get_lt _ _)
  rw [← Lib.decode_at] at this
  split <;> omega
theorem un_le (s : ByteArray) (p : Nat) (h : p < s.size) : p + un s p ≤ s.size := by
  have := decodeN_le (s.size - p) (s.get! p).toNat (s.get! (p + 1)).toNat (s.get! (p + 2)).toNat (s.get! (p + 3)).toNat (by omega) (get_lt _ _)
  rw [← Lib.decode_at] at this
  unfold un
  omega
theorem get_extract (s : ByteArray) (p i : Nat) : (s.extract p s.size).get! i = s.get! (p + i) := by
  simp only [ByteArray.get!, ByteArray.data_extract]
  simp only [getElem!_def]
  by_cases h : p + i < s.data.size
  · rw [Array.getElem?_extract_of_lt (by simp only [ByteArray.size_data] at *; omega), Array.getElem?_eq_getElem h]
  · have h1 : ¬ i < (s.data.extract p s.size).size := by simp only [Array.size_extract, ByteArray.size_data] at *; omega
    rw [Array.getElem?_eq_none (by omega), Array.getElem?_eq_none (by omega)]
theorem decodeGo_extract (s : ByteArray) (p : Nat) (h : p < s.size) : Lib.decodeGo (s.extract p s.size) = Utf8.decode s p := by
  have hz : (s.extract p s.size).size = s.size - p := by simp
  unfold Lib.decodeGo
  rw [if_neg (by omega), Lib.decode_at, Lib.decode_at, hz]
  simp only [get_extract, Nat.sub_zero, Nat.add_zero, Nat.zero_add]
/-- A place and a character, as an iterator hands them over. -/
abbrev UItem := { x : Nat × Int // x.1 ≤ 1152921504606846976 ∧ -1 ≤ x.2 ∧ (x.2 ≤ 1114111 ∧ (x.2 < 55296 ∨ 57343 < x.2)) }
/-- The same list, each with its bounds. -/
def usub (s : ByteArray) (hs : s.size ≤ 1152921504606846976) : Nat → Nat → List UItem
  | 0, _ => []
  | f + 1, p => if h : p < s.size then ⟨(p, uc s p), by omega, (uc_bd s p h).1, (uc_bd s p h).2⟩ :: usub s hs f (p + un s p) else []
theorem usub_val (s : ByteArray) (hs : s.size ≤ 1152921504606846976) : ∀ f p, (usub s hs f p).map (·.1) = uitems s f p
  | 0, _ => rfl
  | f + 1, p => by
    unfold usub uitems
    by_cases h : p < s.size
    · rw [dif_pos h, if_pos h]; simp [usub_val s hs f]
    · rw [dif_neg h, if_neg h]; rfl
end Go.Proofs.YtdgebcgcabhjoaaDoor.P
/- The iterator over a text's characters (utf.runes): its contract for every loop body. -/
namespace Go.Proofs.YtdgebcgcabhjoaaDoor.P
set_option linter.unusedVariables false
set_option linter.unusedSimpArgs false
open Go.RowKit Go.Shelf
attribute [local go_sem] Oper.semAt_some
theorem laid_at {n₀ : Nat} {w W : World} (h : LaidW w) (hn : w.heap.size ≤ n₀) (hb : Below n₀ w W) : LaidW W := h.below (hb.mono hn)
theorem grown_of {w w1 : World} (h : Below w.heap.size w w1) : w.grownBy w1 none := ⟨h.os, h.tape, h.output, h.size, fun i hi _ => h.block i hi⟩

/-- The decoder at a place of a text. -/
theorem dec_at (s : ByteArray) (p : Nat) (hp : p < s.size) (w : World) (hL : LaidW w) :
    Calls Tryd.prog 57 #[.string (s.extract p s.size)] w fun e w' => e = .returned (.tuple #[.int .i32 ((Utf8.decode s p).1 : Int), .int .i64 (un s p : Int)]) ∧ Below w.heap.size w w' := by
  have h := Tryd.utf8_DecodeRuneInString (s.extract p s.size) w hL
  rw [decodeGo_extract s p hp] at h
  exact h

theorem usub_step (s : ByteArray) (hs : s.size ≤ 1152921504606846976) (f p : Nat) (hp : p < s.size) (hf : s.size - p ≤ f) : ∃ g, s.size - (p + un s p) ≤ g ∧ usub s hs f p = ⟨(p, uc s p), by omega, (uc_bd s p hp).1, (uc_bd s p hp).2⟩ :: usub s hs g (p + un s p) := by
  obtain ⟨g, rfl⟩ : ∃ g, f = g + 1 := ⟨f - 1, by omega⟩
  have := un_pos s p
  refine ⟨g, by omega, ?_⟩
  rw [usub, dif_pos hp]
theorem usub_end (s : ByteArray) (hs : s.size ≤ 1152921504606846976) (f p : Nat) (hp : ¬ p < s.size) : usub s hs f p = [] := by
  cases f with
  | zero => rfl
  | succ f => rw [usub, dif_neg hp]

/-- What a round keeps: what lay below n₀, and the box that holds the text. -/
def KpS (n₀ Bn : Nat) (W W' : World) : Prop := Below n₀ W W' ∧ W'.cell? ⟨Bn, 0, none⟩ = W.cell? ⟨Bn, 0, none⟩
theorem kpS_t {n₀ Bn : Nat} {A B C : World} (h : KpS n₀ Bn A B) (k : KpS n₀ Bn B C) : KpS n₀ Bn A C := ⟨h.1.trans k.1, k.2.trans h.2⟩
theorem kpS_b {n₀ Bn : Nat} {w : World} (hn : n₀ ≤ w.heap.size) (hB : Bn < w.heap.size) (W : World) (l : Nat) (o o' : Obj) (hl : w.heap.size ≤ l) (h : W.heap[l]? = some o) (h1 : o.isCells = false) (h2 : o.isWalk = false) : KpS n₀ Bn W (W.putObj l o') :=
  ⟨belowK_b hn W l o o' hl h h1 h2, World.cell?_of_block (w := W) (World.putObj_heap_other (by simp; omega))⟩
theorem kpS_refl (n₀ Bn : Nat) (W : World) : KpS n₀ Bn W W := ⟨Below.refl _ _, rfl⟩

set_option maxRecDepth 100000 in
set_option maxHeartbeats 4000000 in
theorem runes1_in (n : Nat) (hn : 2 ≤ n) (l Bn n₀ : Nat) (s : ByteArray) (hs : s.size ≤ 1152921504606846976) (J Jx : List UItem → World → Prop) (hJA : ∀ x A B, J x A → A.grownBy B none → J x B)
    (hY : ∀ pre x W, J pre W → pre.length < (usub s hs s.size 0).length → YieldAt Fence.wide (n - 1) Tryd.prog l #[.int .i64 x.1.1, .int .i32 x.1.2] W fun e W' =>
      (e = .returned (.bool true) ∧ J (pre ++ [x]) W' ∧ KpS n₀ Bn W W') ∨ (e = .returned (.bool false) ∧ Jx (pre ++ [x]) W'))
    (W : World) (hc : W.cell? ⟨Bn, 0, none⟩ = some (.string s)) (w0 : World) (hL : LaidW w0) (hLn : w0.heap.size ≤ n₀) (hLb : Below n₀ w0 W) (hWn : n₀ ≤ W.heap.size) (h0 : J [] W) :
    CallsIn Fence.wide n Tryd.prog 56 #[.func (.yield l) #[] #[], .pointer (some ⟨Bn, 0, none⟩)] W fun e W' => (∃ v, e = .returned v) ∧
      ((∃ ys, ys = usub s hs s.size 0 ∧ J ys W') ∨ (∃ pre, pre <+: usub s hs s.size 0 ∧ Jx pre W')) := by
  have hn1 : 1 ≤ n := by omega
  have hn2 : 1 ≤ n - 1 := by omega
  have HS := Lib.hid hs
  have HLB := Lib.hid hLb
  have HWN := Lib.hid hWn
  have H0 := Lib.hid hc
  clear hLb hc
  refine callsIn_of_wp Tryd.func56 rfl trivial ?_ rfl
  simp only [Tryd.ntmps56, List.size_toArray, List.length_cons, List.length_nil, Nat.reduceAdd, Nat.reduceSub, Array.replicate_succ, Array.replicate_zero, List.push_toArray, List.append_toArray, List.nil_append, List.cons_append]
  gi_wp2
  gi_loopw [3] (fun i wr => ∃ (pre : List UItem) (f p : Nat), p ≤ s.size ∧ i = .int .i64 p ∧ s.size - p ≤ f ∧ Hid (usub s hs s.size 0 = pre ++ usub s hs f p) ∧ Below n₀ W wr ∧ wr.cell? ⟨Bn, 0, none⟩ = some (.string s) ∧ J pre wr) (fun i _ => s.size - (intOf i).toNat)
  case atStart => exact ⟨[], s.size, 0, Nat.zero_le _, rfl, by omega, Lib.hid (by simp), Below.refl _ _, H0.out, h0⟩
  case round =>
    obtain ⟨pre, f, p, hp, rfl, hf, hU, hB, hcell, hJs⟩ := hrel
    have HB := Lib.hid hB
    have HJ := Lib.hid hJs
    have hbn : Bn < wr.heap.size := World.block_lt_of_cell? _ _ hcell
    have hld : LaidW wr := laid_at hL hLn (HLB.out.trans hB)
    have HLD := Lib.hid hld
    clear hB hJs hld
    by_cases hlt : p < s.size
    · obtain ⟨g, hg, hu⟩ := usub_step s hs f p hlt hf
      have HU2 := Lib.hid hu
      clear hu
      have hup := un_pos s p
      have hul := un_le s p hlt
      obtain ⟨K, hK⟩ : ∃ K, K = un s p := ⟨_, rfl⟩
      obtain ⟨R, hR⟩ : ∃ R, R = (Utf8.decode s p).1 := ⟨_, rfl⟩
      have HK := Lib.hid hK
      have HR := Lib.hid hR
      rw [← hK] at hup hul
      clear hK hR
      have hx : uc s p = if R = 65533 ∧ K = 1 then -1 else (R : Int) := by rw [HR.out, HK.out]; rfl
      have HX := Lib.hid hx
      clear hx
      gi_wp2_with fail
      refine ⟨trivial, ?_⟩
      refine (callsIn_wide.2 (dec_at s p hlt _ HLD.out)).mono ?_
      rintro e w2 ⟨rfl, hb2⟩
      rw [← HK.out, ← HR.out]
      have hwr : n₀ ≤ wr.heap.size := Nat.le_trans HWN.out HB.out.size
      have hJ2 : J pre w2 := hJA pre wr w2 HJ.out (grown_of hb2)
      have hB2 : Below n₀ W w2 := HB.out.trans (hb2.mono hwr)
      have hcell2 : w2.cell? ⟨Bn, 0, none⟩ = some (.string s) := (hb2.cell (p := ⟨Bn, 0, none⟩) hbn).trans hcell
      obtain ⟨fn, tmps, assign, body, hy, hRd⟩ := hY pre ⟨(p, uc s p), by omega, (uc_bd s p hlt).1, (uc_bd s p hlt).2⟩ w2 hJ2 (by rw [hU.out, HU2.out]; simp)
      dsimp only at hy
      rw [HX.out] at hy
      have HB2 := Lib.hid hB2
      have HRD := Lib.hid hRd
      clear hB2 hJ2 hb2 hcell hRd
      have c1 : (((R : Int) == 65533) = true ∧ ((K : Int) == 1) = true ∧ (R = 65533 ∧ K = 1)) ∨ (((R : Int) == 65533) = true ∧ ((K : Int) == 1) = false ∧ ¬ (R = 65533 ∧ K = 1)) ∨ (((R : Int) == 65533) = false ∧ ¬ (R = 65533 ∧ K = 1)) := by
        by_cases h1 : R = 65533
        · by_cases h2 : K = 1
          · exact .inl ⟨by simp; omega, by simp; omega, h1, h2⟩
          · exact .inr (.inl ⟨by simp; omega, by simp; omega, fun h => h2 h.2⟩)
        · exact .inr (.inr ⟨by simp; omega, fun h => h1 h.1⟩)
      have Hrel : Hid (∀ W3, J (pre ++ [⟨(p, uc s p), by omega, (uc_bd s p hlt).1, (uc_bd s p hlt).2⟩]) W3 → KpS n₀ Bn w2 W3 → ∃ (pre : List UItem) (f q : Nat), q ≤ s.size ∧ Value.int .i64 ((p : Int) + (K : Int)) = .int .i64 q ∧ s.size - q ≤ f ∧ Hid (usub s hs s.size 0 = pre ++ usub s hs f q) ∧ Below n₀ W W3 ∧ W3.cell? ⟨Bn, 0, none⟩ = some (.string s) ∧ J pre W3) := by
        refine Lib.hid (fun W3 h3 hb3 => ⟨_, g, p + K, hul, by rw [Int.natCast_add], by rw [HK.out]; exact hg, ?_, HB2.out.trans hb3.1, hb3.2.trans hcell2, h3⟩)
        exact Lib.hid (by rw [hU.out, HU2.out, show usub s hs g (p + un s p) = usub s hs g (p + K) from congrArg (fun z => usub s hs g (p + z)) HK.out.symm]; simp)
      rcases c1 with ⟨c1, c2, c3⟩ | ⟨c1, c2, c3⟩ | ⟨c1, c3⟩
      all_goals
        first | rw [if_pos c3] at hy | rw [if_neg c3] at hy
        clear c3
        gi_wp2
        refine HRD.out.mono ?_
        rintro e W3 (⟨rfl, hJ3, hk3⟩ | ⟨rfl, hJx3⟩)
        · have HJ3 := Lib.hid hJ3
          have HK3 := Lib.hid hk3
          clear hJ3 hk3
          gi_wp2
          go_roundw
          case rel => exact Hrel.out _ HJ3.out HK3.out
          case measure => simp [intOf]; omega
        · gi_wp2
          refine bodyPost_ret (results_none rfl _ _ _) rfl ?_
          exact ⟨⟨_, rfl⟩, .inr ⟨_, ⟨usub s hs g (p + un s p), by rw [hU.out, HU2.out]; simp⟩, hJx3⟩⟩
    · have e := usub_end s hs f p hlt
      have HE := Lib.hid e
      clear e
      gi_wp2
      go_end0
      exact ⟨⟨_, rfl⟩, .inl ⟨pre, by rw [hU.out, HE.out]; simp, HJ.out⟩⟩
end Go.Proofs.YtdgebcgcabhjoaaDoor.P
/- utf.runes, utf.Check: contracts. -/
namespace Go.Proofs.YtdgebcgcabhjoaaDoor.P
set_option linter.unusedVariables false
set_option linter.unusedSimpArgs false
open Go.RowKit Go.Shelf
attribute [local go_sem] Oper.semAt_some

theorem runes_in (n : Nat) (s : ByteArray) (w : World) :
    CallsIn Fence.wide n Tryd.prog 52 #[.string s] w fun e w' => e = .returned (.func (.func 56) #[] #[.pointer (some ⟨w.heap.size, 0, none⟩)]) ∧ w' = w.alloc (.cells #[.string s] 9) := by
  refine callsIn_of_wp Tryd.func52 rfl trivial ?_ rfl
  simp only [Tryd.ntmps52, List.size_toArray, List.length_cons, List.length_nil, Nat.reduceAdd, Nat.reduceSub, Array.replicate_succ, Array.replicate_zero, List.push_toArray, List.append_toArray, List.nil_append, List.cons_append]
  gi_wp2
  go_ret
  exact ⟨rfl, rfl⟩

/-- utf.runes' value hands over all characters, or, where a round has said 'no more', a beginning of them. n₀: what lies below it the rounds keep. -/
theorem runes_stops (n : Nat) (hn : 2 ≤ n) (Bn n₀ : Nat) (s : ByteArray) (hs : s.size ≤ 1152921504606846976) (w w0 : World) (hn₀ : n₀ ≤ w.heap.size) (hL : LaidW w0) (hLn : w0.heap.size ≤ n₀) (hLb : Below n₀ w0 w)
    (hc : w.cell? ⟨Bn, 0, none⟩ = some (.string s)) :
    SeqStopsK Fence.wide n Tryd.prog 56 #[.pointer (some ⟨Bn, 0, none⟩)] (fun x : UItem => #[Value.int .i64 x.1.1, .int .i32 x.1.2]) (KpS n₀ Bn) (fun ys => ys = usub s hs s.size 0) (fun pre => pre <+: usub s hs s.size 0) (usub s hs s.size 0).length w := fun l J Jx W hW hJ _ hY h0 =>
  runes1_in n hn l Bn n₀ s hs J Jx (fun a b c e f => hJ a b c none e f (fun r er => by cases er)) hY W ((hW.cell (p := ⟨Bn, 0, none⟩) (World.block_lt_of_cell? _ _ hc)).trans hc) w0 hL hLn (hLb.trans (hW.mono hn₀)) (Nat.le_trans hn₀ hW.size) h0

/-- Where a text is none. -/
def checkL : List (Nat × Int) → Option Nat
  | [] => none
  | (p, c) :: l => if c < 0 then some p else checkL l
def utf_Check.f (s : ByteArray) : Option (Int × Int) :=
  if s.size ≤ 1152921504606846976 then
    match checkL (uitems s s.size 0) with
    | none => some ((s.size : Int), 0)
    | some p => some ((p : Int), 61)
  else none
/-- None of these is below 0. -/
def allGood (l : List UItem) : Prop := ∀ x ∈ l, 0 ≤ x.1.2
theorem checkL_good : ∀ (l : List UItem), allGood l → checkL (l.map (·.1)) = none
  | [], _ => rfl
  | ⟨(p, c), _⟩ :: l, h => by
    have h1 := h _ (List.mem_cons_self)
    simp only [List.map_cons, checkL]
    rw [if_neg (by simpa using h1)]
    exact checkL_good l (fun x hx => h x (List.mem_cons_of_mem _ hx))
theorem checkL_bad : ∀ (l r : List UItem) (x : UItem), allGood l → x.1.2 < 0 → checkL ((l ++ x :: r).map (·.1)) = some x.1.1
  | [], r, ⟨(p, c), _⟩, _, h => by simp only [List.nil_append, List.map_cons, checkL]; rw [if_pos (by simpa using h)]
  | ⟨(p, c), _⟩ :: l, r, x, h, hx => by
    have h1 := h _ (List.mem_cons_self)
    simp only [List.cons_append, List.map_cons, checkL]
    rw [if_neg (by simpa using h1)]
    exact checkL_bad l r x (fun x hx => h x (List.mem_cons_of_mem _ hx)) hx

set_option maxRecDepth 100000 in
set_option maxHeartbeats 4000000 in
theorem check_in (n : Nat) (hn : 4 ≤ n) (s : ByteArray) (hs : s.size ≤ 1152921504606846976) (w : World) (hLD : LaidW w) :
    CallsIn Fence.wide n Tryd.prog 48 #[.string s] w fun e W' => ∃ p c : Int, e = .returned (.tuple #[.int .i64 p, .int .i64 c]) ∧ utf_Check.f s = some (p, c) ∧ Below w.heap.size w W' := by
  have h1 : 1 ≤ n := by omega
  have HS := Lib.hid hs
  refine callsIn_of_wp_marks Tryd.func48 rfl trivial ?_ rfl
  simp only [Tryd.ntmps48, List.size_toArray, List.length_cons, List.length_nil, Nat.reduceAdd, Nat.reduceSub, Array.replicate_succ, Array.replicate_zero, List.push_toArray, List.append_toArray, List.nil_append, List.cons_append]
  gi_wp2_with (refine ⟨trivial, ?_⟩; gi_at_call 52; refine (runes_in (n - 1) _ _).mono ?_; rintro e w' ⟨rfl, rfl⟩)
  have b2 := Boxed.new w 3 (.int .i64 0)
  have b3 := Boxed.new (w.alloc (.cells #[.int .i64 0] 3)) 25 (.int .i64 0)
  have bS := Boxed.new ((w.alloc (.cells #[.int .i64 0] 3)).alloc (.cells #[.int .i64 0] 25)) 9 (.string s)
  have hB0 : Below w.heap.size w (((w.alloc (.cells #[.int .i64 0] 3)).alloc (.cells #[.int .i64 0] 25)).alloc (.cells #[.string s] 9)) := (((Below.refl _ w).alloc (Nat.le_refl _) _).alloc (by simp) _).alloc (by simp; omega) _
  simp only [World.size_alloc] at b3 bS
  have b2' := (b2.alloc (.cells #[.int .i64 0] 25)).alloc (.cells #[.string s] 9)
  have b3' := b3.alloc (.cells #[.string s] 9)
  obtain ⟨W0, hW0⟩ : ∃ W0, W0 = ((w.alloc (.cells #[.int .i64 0] 3)).alloc (.cells #[.int .i64 0] 25)).alloc (.cells #[.string s] 9) := ⟨_, rfl⟩
  have hz : W0.heap.size = w.heap.size + 3 := by rw [hW0]; simp
  rw [← hW0] at hB0 b2' b3' bS ⊢
  have hLD0 : LaidW W0 := hLD.below hB0
  have hZ := Lib.hid hz
  have HB0 := Lib.hid hB0
  have HLD0 := Lib.hid hLD0
  clear b2 b3 hz hB0 hLD0 hW0
  have c2 := b2'.cell
  have c3 := b3'.cell
  have f2 := b2'.frozen
  have f3 := b3'.frozen
  have C2 := Lib.hid c2
  have C3 := Lib.hid c3
  have F2 := Lib.hid f2
  have F3 := Lib.hid f3
  clear c2 c3 f2 f3 b2' b3'
  refine wpIn_rangeFunc_ownF rfl h1 (gf := 56) (lb := #[.pointer (some ⟨w.heap.size + 1 + 1, 0, none⟩)]) rfl trivial (enters_of Tryd.func56 (by kernel_rfl) rfl)
    (runes_stops (n - 1) (by omega) (w.heap.size + 1 + 1) W0.heap.size s HS.out W0 W0 (Nat.le_refl _) HLD0.out (Nat.le_refl _) (Below.refl _ _) bS.cell) kpS_t (kpS_b (Nat.le_refl _) (by have := hZ.out; omega)) (Below.refl _ _) (fun _ => rfl)
    (fun pre W => allGood pre ∧ Below W0.heap.size W0 W)
    (fun c pre W => (c = .ret ∧ (∃ l x, pre = l ++ [x] ∧ allGood l ∧ x.1.2 < 0 ∧ W.cell? ⟨w.heap.size, 0, none⟩ = some (.int .i64 x.1.1)) ∧ W.cell? ⟨w.heap.size + 1, 0, none⟩ = some (.int .i64 61)) ∧ Below w.heap.size w W)
    (OwnFrom.and (fun _ _ _ _ hs _ _ => hs) (ownFrom_below (Nat.le_refl _) (Nat.le_refl _)))
    (fun c => OwnFrom.and (Own.from (fun s A B row hs hg hr => by
      obtain ⟨h0, ⟨l, x, hl, hg0, hx, hc1⟩, hc2⟩ := hs
      exact ⟨h0, ⟨l, x, hl, hg0, hx, cell_kept hc1 hg hr⟩, cell_kept hc2 hg hr⟩) _) (ownFrom_below (Nat.le_refl _) (by have := hZ.out; omega)))
    ⟨(fun _ h => by cases h), Below.refl _ _⟩
    (fun x => { tmps := #[.string s, undef, .pointer (some ⟨w.heap.size, 0, none⟩), .pointer (some ⟨w.heap.size + 1, 0, none⟩), .int .i64 x.1.1, .int .i32 x.1.2, .string s, .func (.func 56) #[] #[.pointer (some ⟨w.heap.size + 1 + 1, 0, none⟩)], .int .i64 x.1.1, .int .i32 x.1.2, undef, undef, undef, undef, undef], defers := [] }) ?assign ?body ?done ?stop
  case assign =>
    intro l x W K hK
    gi_wp2
    exact hK
  case body =>
    rintro l pre x W ⟨hgood, hB⟩ _
    have hb0 := HB0.out.trans (hB.mono HB0.out.size)
    have hb1 : W0.heap.size ≤ W.heap.size := hB.size
    have hc2 : W.cell? ⟨w.heap.size, 0, none⟩ = some (.int .i64 0) := (hB.cell (p := ⟨w.heap.size, 0, none⟩) (by have := hZ.out; simp; omega)).trans C2.out
    have hc3 : W.cell? ⟨w.heap.size + 1, 0, none⟩ = some (.int .i64 0) := (hB.cell (p := ⟨w.heap.size + 1, 0, none⟩) (by have := hZ.out; simp; omega)).trans C3.out
    have hf2 : W.frozen? ⟨w.heap.size, 0, none⟩ = false := (hB.frozen (p := ⟨w.heap.size, 0, none⟩) (by have := hZ.out; simp; omega)).trans F2.out
    have hf3 : W.frozen? ⟨w.heap.size + 1, 0, none⟩ = false := (hB.frozen (p := ⟨w.heap.size + 1, 0, none⟩) (by have := hZ.out; simp; omega)).trans F3.out
    have HGOOD := Lib.hid hgood
    have HB := Lib.hid hB
    have HBB := Lib.hid hb0
    clear hgood hB hb0
    by_cases hx : x.1.2 < 0
    · gi_wp2
      refine ⟨(KeepsOthers.setCell W _ _).trans (KeepsOthers.setCell _ _ _), ⟨rfl, ⟨pre, x, rfl, HGOOD.out, hx, by go_simp⟩, by go_simp⟩, (HBB.out.setCell (p := ⟨w.heap.size, 0, none⟩) (by simp) _).setCell (p := ⟨w.heap.size + 1, 0, none⟩) (by simp) _⟩
    · gi_wp2
      refine ⟨KeepsOthers.refl _, kpS_refl _ _ _, fun y hy => ?_, HB.out⟩
      rcases List.mem_append.1 hy with h | h
      · exact HGOOD.out y h
      · simp at h; subst h; assumption
  case done =>
    rintro D ys W hD rfl ⟨hgood, hB⟩ hK
    have hb0 := HB0.out.trans (hB.mono HB0.out.size)
    have hb1 : W0.heap.size ≤ W.heap.size := hB.size
    have hc2 : W.cell? ⟨w.heap.size, 0, none⟩ = some (.int .i64 0) := (hB.cell (p := ⟨w.heap.size, 0, none⟩) (by have := hZ.out; simp; omega)).trans C2.out
    have hc3 : W.cell? ⟨w.heap.size + 1, 0, none⟩ = some (.int .i64 0) := (hB.cell (p := ⟨w.heap.size + 1, 0, none⟩) (by have := hZ.out; simp; omega)).trans C3.out
    have hf2 : W.frozen? ⟨w.heap.size, 0, none⟩ = false := (hB.frozen (p := ⟨w.heap.size, 0, none⟩) (by have := hZ.out; simp; omega)).trans F2.out
    have hf3 : W.frozen? ⟨w.heap.size + 1, 0, none⟩ = false := (hB.frozen (p := ⟨w.heap.size + 1, 0, none⟩) (by have := hZ.out; simp; omega)).trans F3.out
    have HGOOD := Lib.hid hgood
    have HB := Lib.hid hB
    have HBB := Lib.hid hb0
    have HK := Lib.hid hK
    clear hgood hB hb0 hK
    gi_wp2
    have hK' := (KeepsOthers.setCell (W.setCell ⟨w.heap.size, 0, none⟩ (.int .i64 s.size)) ⟨w.heap.size + 1, 0, none⟩ (.int .i64 0)).same D _ ((KeepsOthers.setCell W ⟨w.heap.size, 0, none⟩ (.int .i64 s.size)).same D _ HK.out rfl) rfl
    refine ⟨by simp, .inl ⟨_, _, rfl, run_takeDeferred hK', ?_⟩⟩
    have e2 : ((W.setCell ⟨w.heap.size, 0, none⟩ (.int .i64 s.size)).setCell ⟨w.heap.size + 1, 0, none⟩ (.int .i64 0)).cell? ⟨w.heap.size, 0, none⟩ = some (.int .i64 s.size) := by go_simp
    have e3 : ((W.setCell ⟨w.heap.size, 0, none⟩ (.int .i64 s.size)).setCell ⟨w.heap.size + 1, 0, none⟩ (.int .i64 0)).cell? ⟨w.heap.size + 1, 0, none⟩ = some (.int .i64 0) := by go_simp
    have k2 := cell_kept e2 (grownBy_putObj' _ D (.deferred none)) (fun r e => by cases e; exact ⟨_, hK', rfl⟩)
    have k3 := cell_kept e3 (grownBy_putObj' _ D (.deferred none)) (fun r e => by cases e; exact ⟨_, hK', rfl⟩)
    refine ⟨.tuple #[.int .i64 s.size, .int .i64 0], ?_, _, _, rfl, ?_, ((HBB.out.setCell (p := ⟨w.heap.size, 0, none⟩) (by simp) _).setCell (p := ⟨w.heap.size + 1, 0, none⟩) (by simp) _).trans (belowK_b (w := w) (Nat.le_refl _) _ D _ _ (by have := hZ.out; omega) hK' rfl rfl)⟩
    · simp [results, Tryd.f48, go_sem, k2, k3]
    · unfold utf_Check.f
      rw [if_pos HS.out, ← usub_val s HS.out, checkL_good _ HGOOD.out]
  case stop =>
    rintro D c pre W hD hpre ⟨⟨rfl, ⟨l, x, rfl, hl, hx, e2⟩, e3⟩, hB⟩ hK
    have HB := Lib.hid hB
    have HK := Lib.hid hK
    have HL := Lib.hid hl
    clear hB hK hl
    gi_wp2
    refine ⟨by simp, .inl ⟨_, _, rfl, run_takeDeferred HK.out, ?_⟩⟩
    have k2 := cell_kept e2 (grownBy_putObj' _ D (.deferred none)) (fun r e => by cases e; exact ⟨_, HK.out, rfl⟩)
    have k3 := cell_kept e3 (grownBy_putObj' _ D (.deferred none)) (fun r e => by cases e; exact ⟨_, HK.out, rfl⟩)
    refine ⟨.tuple #[.int .i64 x.1.1, .int .i64 61], ?_, _, _, rfl, ?_, HB.out.trans (belowK_b (w := w) (Nat.le_refl _) W D _ _ (by have := hZ.out; omega) HK.out rfl rfl)⟩
    · simp [results, Tryd.f48, go_sem, k2, k3]
    · obtain ⟨t, ht⟩ := hpre
      unfold utf_Check.f
      rw [if_pos HS.out, ← usub_val s HS.out, ← ht, List.append_assoc, List.singleton_append, checkL_bad l t x HL.out hx]

theorem utf_Check.calls (a0 : ByteArray) (r1 r2 : Int) (w : World) (hLD : LaidW w) (h : utf_Check.f a0 = some (r1, r2)) :
    Calls Tryd.prog 48 #[.string a0] w fun e w' => e = .returned (.tuple #[.int .i64 r1, .int .i64 r2]) ∧ Below w.heap.size w w' := by
  have hs : a0.size ≤ 1152921504606846976 := by
    by_cases hs : a0.size ≤ 1152921504606846976
    · exact hs
    · unfold utf_Check.f at h; rw [if_neg hs] at h; cases h
  refine (callsIn_wide.1 (check_in 4 (Nat.le_refl _) a0 hs w hLD)).mono ?_
  rintro e w' ⟨p, c, rfl, hf, hb⟩
  rw [h] at hf
  simp only [Option.some.injEq, Prod.mk.injEq] at hf
  obtain ⟨rfl, rfl⟩ := hf
  exact ⟨rfl, hb⟩
end Go.Proofs.YtdgebcgcabhjoaaDoor.P
-- Written by a program for this claim. Not trusted: Lean checks it.
namespace Go.Proofs.YtdgebcgcabhjoaaDoor.P
open Go.RowKit Go.Proofs.YtdgebcgcabhjoaaDoorW.PrintWords Go.Proofs.YtdgebcgcabhjoaaDoorW.PrintLast Go.Proofs.YtdgebcgcabhjoaaDoorW.PrintMore
attribute [local go_sem] max2_int min2_int max_two min_two max_three min_three max_four min_four   -- for this text's walks alone
set_option linter.unusedVariables false
set_option linter.unusedSimpArgs false

/-! ### value_letters: function 44 -/
def value_letters.f (a0 : ByteArray) : Option (Int) := (utf_Check.f a0).bind fun bt118 => (if bt118.2 = 0 then (if (a0.size : Int) > 16384 then (some 5) else (some 0)) else (some bt118.2))
set_option maxHeartbeats 8000000 in
set_option maxRecDepth 100000 in
theorem value_letters.calls (a0 : ByteArray) (r : Int) (w : World) (hLD : LaidW w) (h : value_letters.f a0 = some r) :
    Calls Tryd.prog 44 #[.string a0] w fun e w' => e = .returned (.int .i64 r) ∧ Below w.heap.size w w' := by
  have HLD := Aside0.mk hLD
  clear hLD
  have HB := Aside0.mk (Below.refl w.heap.size w)
  have H : ((utf_Check.f a0).bind fun bt118 => (if bt118.2 = 0 then (if (a0.size : Int) > 16384 then (some 5) else (some 0)) else (some bt118.2))) = some r := h
  clear h
  replace H := Option.bind_eq_some_iff.mp H
  obtain ⟨⟨t118, t119⟩, A20, H⟩ := H
  replace H : (if t119 = 0 then (if (a0.size : Int) > 16384 then (some 5) else (some 0)) else (some t119)) = some r := H
  have A2 := Aside0.mk A20
  clear A20
  by_cases c3 : t119 = 0
  · rw [if_pos c3] at H
    have c3b0 : (t119 == 0) = true := beq_iff_eq.mpr c3
    have c3b1 : (t119 != 0) = false := bne_eq_false_iff_eq.mpr c3
    clear c3
    by_cases c4 : (a0.size : Int) > 16384
    · rw [if_pos c4] at H
      have c4b0 : decide (16384 < (a0.size : Int)) = true := decide_eq_true c4
      have c4b1 : decide (16384 < a0.size) = true := decide_eq_true (by omega)
      clear c4
      obtain rfl := Option.some.inj H
      go_enter Tryd.func44, Tryd.ntmps44
      go_wp2_with (first | ((with_reducible refine gate_callee (f := 48) rfl ?_); refine goesL_ (some 7) rfl rfl Tryd.func48 (by kernel_rfl) rfl #[.string a0] rfl (by (try simp only [List.map_toArray, List.map_cons, List.map_nil]); first | done | rfl | (simp only [List.length_drop, List.length_take]; rfl)) ?_; (with_reducible refine (utf_Check.calls a0 t118 t119 _ ?side1 A2.out).mono ?_); (case side1 => exact LaidW.below HLD.out (by repeat (first | (with_reducible first | exact HB.out | apply below_alloc | apply pw_below_drewN | apply below_drew1) | exact HB.out))); rintro e w5 ⟨rfl, hb⟩; refine ⟨_, rfl, ?_⟩; have n0_ := Aside0.mk (below_step (by repeat (first | (with_reducible first | exact HB.out | apply below_alloc | apply pw_below_drewN | apply below_drew1) | exact HB.out)) hb); clear HB; have HB := n0_; clear n0_; (try clear hb); (try clear hb2); (try clear hk); (try clear hi)))
      go_ret
      exact ⟨by first | rfl | (simp [errW_none, errW_some] <;> rfl) | (simp [*, errW_none, errW_some] <;> rfl), by repeat (first | (with_reducible first | exact HB.out | apply below_alloc | apply pw_below_drewN | apply below_drew1) | exact HB.out)⟩
    · rw [if_neg c4] at H
      have c4b0 : decide (16384 < (a0.size : Int)) = false := decide_eq_false c4
      have c4b1 : decide (16384 < a0.size) = false := decide_eq_false (by omega)
      clear c4
      obtain rfl := Option.some.inj H
      go_enter Tryd.func44, Tryd.ntmps44
      go_wp2_with (first | ((with_reducible refine gate_callee (f := 48) rfl ?_); refine goesL_ (some 7) rfl rfl Tryd.func48 (by kernel_rfl) rfl #[.string a0] rfl (by (try simp only [List.map_toArray, List.map_cons, List.map_nil]); first | done | rfl | (simp only [List.length_drop, List.length_take]; rfl)) ?_; (with_reducible refine (utf_Check.calls a0 t118 t119 _ ?side1 A2.out).mono ?_); (case side1 => exact LaidW.below HLD.out (by repeat (first | (with_reducible first | exact HB.out | apply below_alloc | apply pw_below_drewN | apply below_drew1) | exact HB.out))); rintro e w6 ⟨rfl, hb⟩; refine ⟨_, rfl, ?_⟩; have n0_ := Aside0.mk (below_step (by repeat (first | (with_reducible first | exact HB.out | apply below_alloc | apply pw_below_drewN | apply below_drew1) | exact HB.out)) hb); clear HB; have HB := n0_; clear n0_; (try clear hb); (try clear hb2); (try clear hk); (try clear hi)))
      go_ret
      exact ⟨by first | rfl | (simp [errW_none, errW_some] <;> rfl) | (simp [*, errW_none, errW_some] <;> rfl), by repeat (first | (with_reducible first | exact HB.out | apply below_alloc | apply pw_below_drewN | apply below_drew1) | exact HB.out)⟩
  · rw [if_neg c3] at H
    have c3b0 : (t119 == 0) = false := beq_eq_false_iff_ne.mpr c3
    have c3b1 : (t119 != 0) = true := bne_iff_ne.mpr c3
    obtain rfl := Option.some.inj H
    go_enter Tryd.func44, Tryd.ntmps44
    go_wp2_with (first | ((with_reducible refine gate_callee (f := 48) rfl ?_); refine goesL_ (some 7) rfl rfl Tryd.func48 (by kernel_rfl) rfl #[.string a0] rfl (by (try simp only [List.map_toArray, List.map_cons, List.map_nil]); first | done | rfl | (simp only [List.length_drop, List.length_take]; rfl)) ?_; (with_reducible refine (utf_Check.calls a0 t118 t119 _ ?side1 A2.out).mono ?_); (case side1 => exact LaidW.below HLD.out (by repeat (first | (with_reducible first | exact HB.out | apply below_alloc | apply pw_below_drewN | apply below_drew1) | exact HB.out))); rintro e w7 ⟨rfl, hb⟩; refine ⟨_, rfl, ?_⟩; have n0_ := Aside0.mk (below_step (by repeat (first | (with_reducible first | exact HB.out | apply below_alloc | apply pw_below_drewN | apply below_drew1) | exact HB.out)) hb); clear HB; have HB := n0_; clear n0_; (try clear hb); (try clear hb2); (try clear hk); (try clear hi)))
    go_ret
    exact ⟨by first | rfl | (simp [errW_none, errW_some] <;> rfl) | (simp [*, errW_none, errW_some] <;> rfl), by repeat (first | (with_reducible first | exact HB.out | apply below_alloc | apply pw_below_drewN | apply below_drew1) | exact HB.out)⟩

/-! ### api_Errno: function 45 -/
def api_Errno.l0 : Nat → Int → List Int → Int → Int → Option (Int)
  | 0, _, _, _, _ => none
  | k + 1, x3, x6, x7, x8 => if x8 < x7 then (if 0 ≤ x8 then (if x8 < (x6.length : Int) then (if (rd x6 x8) = x3 then (api_Errno.l0 k x3 x6 x7 (wrap64 (x8 + 1))) else (some (rd x6 x8))) else (none)) else (none)) else (some x3)
def api_Errno.f (k : Nat) (l0 : List Int) : Option (Int) := api_Errno.l0 k 0 l0 (l0.length : Int) 0
theorem api_Errno.mono_l : ∀ k, (∀ y0 y1 y2 y3, LeO (api_Errno.l0 k y0 y1 y2 y3) (api_Errno.l0 (k + 1) y0 y1 y2 y3))
  | 0 => fun _ _ _ _ r h => by simp [api_Errno.l0] at h
  | k + 1 => by
    have ih0 := api_Errno.mono_l k
    · intro y0 y1 y2 y3
      unfold api_Errno.l0
      repeat' first
      | (with_reducible exact ih0 _ _ _ _)
      | (with_reducible exact LeO.refl _)
      | (with_reducible exact LeO.none _)
      | (with_reducible refine LeO.ite ?_ ?_)
      | (with_reducible refine LeO.bind ?_ (fun _ => ?_))
      | exact ih0 _ _ _ _
      | exact LeO.none _
      | refine LeO.ite ?_ ?_
      | refine LeO.bind ?_ (fun _ => ?_)
theorem api_Errno.mono : ∀ a0 k, LeO (api_Errno.f k a0) (api_Errno.f (k + 1) a0) := by
  intro a0 k
  have ih0 := api_Errno.mono_l k
  unfold api_Errno.f
  repeat' first
      | (with_reducible exact ih0 _ _ _ _)
      | (with_reducible exact LeO.refl _)
      | (with_reducible exact LeO.none _)
      | (with_reducible refine LeO.ite ?_ ?_)
      | (with_reducible refine LeO.bind ?_ (fun _ => ?_))
      | exact ih0 _ _ _ _
      | exact LeO.none _
      | refine LeO.ite ?_ ?_
      | refine LeO.bind ?_ (fun _ => ?_)
set_option maxHeartbeats 8000000 in
set_option maxRecDepth 100000 in
theorem api_Errno.calls (k : Nat) (A0 : Option Addr) (c0 : Nat) (l0 : List Int) (r : Int) (w : World) (hr0 : Kd.C (Kd.int .i64) w A0 l0.length l0) (hc0 : l0.length ≤ c0) (h : api_Errno.f k l0 = some r) :
    Calls Tryd.prog 45 #[.slice A0 l0.length c0] w fun e w' => e = .returned (.int .i64 r) ∧ Drawn0 w w' := by
  have HR0 := Aside0.mk hr0
  have HC0 := Aside0.mk hc0
  clear hr0 hc0
  have H : (api_Errno.l0 k 0 l0 (l0.length : Int) 0) = some r := h
  clear h
  have H' := Aside0.mk H
  clear H
  go_enter Tryd.func45, Tryd.ntmps45
  go_wp2
  go_loopg [8] k (fun kq v8 w' => ∃ (x8_1 : Int), v8 = .int .i64 x8_1 ∧ Aside0 (api_Errno.l0 kq 0 l0 (l0.length : Int) x8_1 = some r) ∧ Aside0 (kq ≤ k) ∧ Drawn0 w w')
  case atStart => exact ⟨(0), (by first | rfl | (simp; done) | (simp [*]; done)), H', ⟨Nat.le_refl _⟩, by repeat (first | exact Drawn0.refl _ | apply Drawn0.step)⟩
  case round =>
    clear H'
    obtain ⟨x8_1, rfl, HA, HK1, ⟨m1, rfl⟩⟩ := hrel
    cases gk with
    | zero => exact absurd HA.out (by simp [api_Errno.l0])
    | succ k1 =>
      have H := HA.out
      clear HA
      simp only [api_Errno.l0] at H
      by_cases c2 : x8_1 < (l0.length : Int)
      · rw [if_pos c2] at H
        have c2b0 : decide (x8_1 < (l0.length : Int)) = true := decide_eq_true c2
        clear c2
        by_cases c3 : 0 ≤ x8_1
        · rw [if_pos c3] at H
          have c3b0 : decide (0 ≤ x8_1) = true := decide_eq_true c3
          clear c3
          by_cases c4 : x8_1 < (l0.length : Int)
          · rw [if_pos c4] at H
            have c4b0 : decide (x8_1 < (l0.length : Int)) = true := decide_eq_true c4
            clear c4
            by_cases c5 : (rd l0 x8_1) = 0
            · rw [if_pos c5] at H
              have c5b0 : ((rd l0 x8_1) == 0) = true := beq_iff_eq.mpr c5
              have c5b1 : ((rd l0 x8_1) != 0) = false := bne_eq_false_iff_eq.mpr c5
              clear c5
              have H' := Aside0.mk H
              clear H
              have p120 : 0 ≤ (x8_1 : Int) := of_decide_eq_true (by first | (with_reducible assumption) | assumption)
              have q120 : x8_1 < (l0.length : Int) := of_decide_eq_true (by first | (with_reducible assumption) | assumption)
              obtain ⟨ad120, e120, hx120_0⟩ := Kd.at_int HR0.out x8_1 p120 q120
              cases e120
              replace p120 := eq_true p120
              replace q120 := eq_true q120
              go_wp2
              go_roundg k1
              case measure => have := HK1.out; omega
              case rel => exact ⟨(wrap64 (x8_1 + 1)), (by first | rfl | (simp; done) | (simp [*]; done)), H', ⟨by have := HK1.out; omega⟩, by repeat (first | exact Drawn0.refl _ | apply Drawn0.step)⟩
            · rw [if_neg c5] at H
              have c5b0 : ((rd l0 x8_1) == 0) = false := beq_eq_false_iff_ne.mpr c5
              have c5b1 : ((rd l0 x8_1) != 0) = true := bne_iff_ne.mpr c5
              obtain rfl := Option.some.inj H
              have p120 : 0 ≤ (x8_1 : Int) := of_decide_eq_true (by first | (with_reducible assumption) | assumption)
              have q120 : x8_1 < (l0.length : Int) := of_decide_eq_true (by first | (with_reducible assumption) | assumption)
              obtain ⟨ad120, e120, hx120_0⟩ := Kd.at_int HR0.out x8_1 p120 q120
              cases e120
              replace p120 := eq_true p120
              replace q120 := eq_true q120
              go_wp2
              go_ret
              exact ⟨by first | rfl | (simp; done) | (simp [*]; done), by repeat (first | exact Drawn0.refl _ | apply Drawn0.step)⟩
          · rw [if_neg c4] at H
            exact absurd H (by simp)
        · rw [if_neg c3] at H
          exact absurd H (by simp)
      · rw [if_neg c2] at H
        have c2b0 : decide (x8_1 < (l0.length : Int)) = false := decide_eq_false c2
        clear c2
        obtain rfl := Option.some.inj H
        go_wp2
        go_ret
        exact ⟨by first | rfl | (simp; done) | (simp [*]; done), by repeat (first | exact Drawn0.refl _ | apply Drawn0.step)⟩

end Go.Proofs.YtdgebcgcabhjoaaDoor.P
/- nat's add: contract. -/
namespace Go.Proofs.YtdgebcgcabhjoaaDoor.P
set_option linter.unusedVariables false
set_option linter.unusedSimpArgs false
open Go.RowKit Go.Proofs.YtdgebcgcabhjoaaDoorW.PrintWords Go.Proofs.YtdgebcgcabhjoaaDoorW.PrintMore Go.Proofs.YtdgebcgcabhjoaaDoorW.PrintLast
/-- The carry into place i, and the sum's first limbs. -/
def cyAt (a b : List Int) : Nat → Int
  | 0 => 0
  | i + 1 => (a.getD i 0 + b.getD i 0 + cyAt a b i) / 4294967296
def adAt (a b : List Int) : Nat → List Int
  | 0 => []
  | i + 1 => adAt a b i ++ [(a.getD i 0 + b.getD i 0 + cyAt a b i) % 4294967296]
theorem cyAt_bd {a b : List Int} (ha : okL a) (hb : okL b) : ∀ i, 0 ≤ cyAt a b i ∧ cyAt a b i ≤ 1
  | 0 => by simp [cyAt]
  | i + 1 => by
    have h0 := cyAt_bd ha hb i
    have h1 := okL_getD ha i
    have h2 := okL_getD hb i
    unfold cyAt
    omega
theorem adAt_len (a b : List Int) : ∀ i, (adAt a b i).length = i
  | 0 => rfl
  | i + 1 => by rw [adAt, List.length_append, adAt_len a b i]; rfl
theorem adAt_ok (a b : List Int) : ∀ i, okL (adAt a b i)
  | 0 => okL_nil
  | i + 1 => by
    rw [adAt, okL_app]
    exact ⟨adAt_ok a b i, okL_cons.2 ⟨by omega, okL_nil⟩⟩
theorem adAt_val {a b : List Int} (ha : okL a) (hb : okL b) : ∀ i, val (adAt a b i) + 4294967296 ^ i * (cyAt a b i).toNat = val (a.take i) + val (b.take i)
  | 0 => by simp [adAt, cyAt, val]
  | i + 1 => by
    have ih := adAt_val ha hb i
    have h0 := cyAt_bd ha hb i
    have h1 := okL_getD ha i
    have h2 := okL_getD hb i
    rw [val_take_step a i, val_take_step b i, adAt, val_app, adAt_len, cyAt, Nat.pow_succ]
    have e : ((a.getD i 0 + b.getD i 0 + cyAt a b i) % 4294967296).toNat + 4294967296 * ((a.getD i 0 + b.getD i 0 + cyAt a b i) / 4294967296).toNat = (a.getD i 0).toNat + (b.getD i 0).toNat + (cyAt a b i).toNat := by omega
    have e2 : val [(a.getD i 0 + b.getD i 0 + cyAt a b i) % 4294967296] = ((a.getD i 0 + b.getD i 0 + cyAt a b i) % 4294967296).toNat := by simp [val]
    rw [e2, Nat.mul_assoc]
    have e3 := congrArg (4294967296 ^ i * ·) e
    simp only [Nat.mul_add] at e3
    omega
/-- The sum, with its last carry. -/
theorem add_val {a b : List Int} (ha : okL a) (hb : okL b) (h : b.length ≤ a.length) : val (adAt a b a.length ++ [cyAt a b a.length]) = val a + val b := by
  rw [val_app, adAt_len]
  have := adAt_val ha hb a.length
  rw [List.take_of_length_le (Nat.le_refl _), List.take_of_length_le h] at this
  rw [← this]
  simp [val]
theorem add_ok {a b : List Int} (ha : okL a) (hb : okL b) (i : Nat) : okL (adAt a b i ++ [cyAt a b i]) := by
  rw [okL_app]
  have := cyAt_bd ha hb i
  exact ⟨adAt_ok a b i, okL_cons.2 ⟨by omega, okL_nil⟩⟩
def nat_num_add.f (l0 l1 : List Int) : Option (List Int) := if (okL l0 ∧ okL l1) ∧ l0.length ≤ 1073741824 ∧ l1.length ≤ 1073741824 then some (limbs (val l0 + val l1)) else none

end Go.Proofs.YtdgebcgcabhjoaaDoor.P
namespace Go.Proofs.YtdgebcgcabhjoaaDoor.P
set_option linter.unusedVariables false
set_option linter.unusedSimpArgs false
open Go.RowKit Go.Proofs.YtdgebcgcabhjoaaDoorW.PrintWords Go.Proofs.YtdgebcgcabhjoaaDoorW.PrintMore Go.Proofs.YtdgebcgcabhjoaaDoorW.PrintLast
/-- The borrow into place i, and the difference's first limbs. -/
def bwAt (a b : List Int) : Nat → Int
  | 0 => 0
  | i + 1 => if a.getD i 0 < b.getD i 0 + bwAt a b i then 1 else 0
def sbAt (a b : List Int) : Nat → List Int
  | 0 => []
  | i + 1 => sbAt a b i ++ [(a.getD i 0 - b.getD i 0 - bwAt a b i) % 4294967296]
theorem bwAt_bd (a b : List Int) : ∀ i, 0 ≤ bwAt a b i ∧ bwAt a b i ≤ 1
  | 0 => by simp [bwAt]
  | i + 1 => by
    unfold bwAt
    split <;> omega
theorem sbAt_len (a b : List Int) : ∀ i, (sbAt a b i).length = i
  | 0 => rfl
  | i + 1 => by rw [sbAt, List.length_append, sbAt_len a b i]; rfl
theorem sbAt_ok (a b : List Int) : ∀ i, okL (sbAt a b i)
  | 0 => okL_nil
  | i + 1 => by
    rw [sbAt, okL_app]
    exact ⟨sbAt_ok a b i, okL_cons.2 ⟨by omega, okL_nil⟩⟩
theorem sbAt_val {a b : List Int} (ha : okL a) (hb : okL b) : ∀ i, val (sbAt a b i) + val (b.take i) = val (a.take i) + 4294967296 ^ i * (bwAt a b i).toNat
  | 0 => by simp [sbAt, bwAt, val]
  | i + 1 => by
    have ih := sbAt_val ha hb i
    have h0 := bwAt_bd a b i
    have h1 := okL_getD ha i
    have h2 := okL_getD hb i
    rw [val_take_step a i, val_take_step b i, sbAt, val_app, sbAt_len, Nat.pow_succ]
    have e : ((a.getD i 0 - b.getD i 0 - bwAt a b i) % 4294967296).toNat + (b.getD i 0).toNat + (bwAt a b i).toNat = (a.getD i 0).toNat + 4294967296 * (bwAt a b (i + 1)).toNat := by
      rw [bwAt]
      split <;> omega
    have e2 : val [(a.getD i 0 - b.getD i 0 - bwAt a b i) % 4294967296] = ((a.getD i 0 - b.getD i 0 - bwAt a b i) % 4294967296).toNat := by simp [val]
    rw [e2, Nat.mul_assoc]
    have e3 := congrArg (4294967296 ^ i * ·) e
    simp only [Nat.mul_add] at e3
    omega
theorem sub_val {a b : List Int} (ha : okL a) (hb : okL b) (h : b.length ≤ a.length) (hv : val b ≤ val a) : val (sbAt a b a.length) = val a - val b := by
  have := sbAt_val ha hb a.length
  rw [List.take_of_length_le (Nat.le_refl _), List.take_of_length_le h] at this
  have hlt := val_lt (sbAt_ok a b a.length)
  rw [sbAt_len] at hlt
  have h0 := bwAt_bd a b a.length
  have h1 : (bwAt a b a.length).toNat = 0 ∨ (bwAt a b a.length).toNat = 1 := by omega
  rcases h1 with h1 | h1 <;> rw [h1] at this <;> omega
def nat_num_sub.f (l0 l1 : List Int) : Option (List Int) := if (okL l0 ∧ okL l1) ∧ l0.length ≤ 1073741824 ∧ l1.length ≤ l0.length ∧ val l1 ≤ val l0 then some (limbs (val l0 - val l1)) else none

end Go.Proofs.YtdgebcgcabhjoaaDoor.P
namespace Go.Proofs.YtdgebcgcabhjoaaDoor.P
set_option linter.unusedVariables false
set_option linter.unusedSimpArgs false
open Go.RowKit Go.Proofs.YtdgebcgcabhjoaaDoorW.PrintWords Go.Proofs.YtdgebcgcabhjoaaDoorW.PrintMore Go.Proofs.YtdgebcgcabhjoaaDoorW.PrintLast
/-- What comes up from below place i, and the first limbs. -/
def moAt (a : List Int) (n : Nat) : Nat → Int
  | 0 => 0
  | i + 1 => a.getD i 0 / 2 ^ (32 - n)
def shAt (a : List Int) (n : Nat) : Nat → List Int
  | 0 => []
  | i + 1 => shAt a n i ++ [a.getD i 0 * 2 ^ n % 4294967296 + moAt a n i]
def nat_num_left.f (l0 : List Int) (a1 : Int) : Option (List Int) := if okL l0 ∧ l0.length ≤ 1073741824 ∧ 0 ≤ a1 ∧ a1 < 32 then some (shAt l0 a1.toNat l0.length ++ [moAt l0 a1.toNat l0.length]) else none
theorem moAt_bd {a : List Int} (ha : okL a) {n : Nat} (hn : n < 32) : ∀ i, 0 ≤ moAt a n i ∧ moAt a n i < 2 ^ n
  | 0 => by
    have : (0 : Int) < 2 ^ n := Int.pow_pos (by omega)
    exact ⟨Int.le_refl _, this⟩
  | i + 1 => by
    have h1 := okL_getD ha i
    unfold moAt
    have hp : (0 : Int) < 2 ^ (32 - n) := Int.pow_pos (by omega)
    refine ⟨Int.ediv_nonneg h1.1 (by omega), Int.ediv_lt_of_lt_mul hp ?_⟩
    have : (2 : Int) ^ n * 2 ^ (32 - n) = 4294967296 := by rw [← Int.pow_add, show n + (32 - n) = 32 by omega]; rfl
    omega
theorem shAt_len (a : List Int) (n : Nat) : ∀ i, (shAt a n i).length = i
  | 0 => rfl
  | i + 1 => by rw [shAt, List.length_append, shAt_len a n i]; rfl

theorem wrap_u64 (n : Int) : IntKind.u64.wrap n = n % 18446744073709551616 := by simp [IntKind.wrap, IntKind.bits, IntKind.signed]
theorem or_join (x : Int) (y : Int) (n : Nat) (hx : 0 ≤ x) (hn : n < 32) (h0 : 0 ≤ y) (h1 : y < 2 ^ n) : bits .or .u32 (x * 2 ^ n % 4294967296) y = x * 2 ^ n % 4294967296 + y := by
  have hp : (2 : Int) ^ n ≤ 2 ^ 31 := by
    have := Nat.pow_le_pow_right (show 0 < 2 by omega) (show n ≤ 31 by omega)
    have e : ∀ k : Nat, (2 : Int) ^ k = ((2 ^ k : Nat) : Int) := fun k => by rw [Int.natCast_pow]; rfl
    rw [e, e]; omega
  have hp2 : (2 : Int) ^ 31 = 2147483648 := rfl
  obtain ⟨xn, rfl⟩ : ∃ k : Nat, x = k := ⟨x.toNat, by omega⟩
  obtain ⟨yn, rfl⟩ : ∃ k : Nat, y = k := ⟨y.toNat, by omega⟩
  have e : ((xn : Int) * 2 ^ n % 4294967296) = ((xn * 2 ^ n % 4294967296 : Nat) : Int) := by
    rw [Int.natCast_emod, Int.natCast_mul, Int.natCast_pow]; rfl
  have h2 : yn < 2 ^ n := by
    have e2 : (2 : Int) ^ n = ((2 ^ n : Nat) : Int) := by rw [Int.natCast_pow]; rfl
    rw [e2] at h1; omega
  rw [e, u32_or_nat _ _ (by omega) (by omega), nat_join n _ _ ?_ h2]
  · rw [Int.natCast_add]
  · have hd : 2 ^ n ∣ 4294967296 := ⟨2 ^ (32 - n), by rw [← Nat.pow_add, show n + (32 - n) = 32 by omega]⟩
    rw [Nat.mod_mod_of_dvd _ hd]
    exact Nat.mul_mod_left _ _
set_option maxHeartbeats 8000000 in
set_option maxRecDepth 100000 in
theorem left_at (A : Option Addr) (ca : Nat) (a : List Int) (n : Nat) (w : World) (hCa : Kd.C (Kd.int .u32) w A a.length a) (hca : a.length ≤ ca) (hab : okL a) (hz : a.length ≤ 1073741824) (hn : n < 32) :
    Calls Tryd.prog 67 #[.slice A a.length ca, .int .i64 n] w fun e w' => ∃ v0_ : Value, e = .returned (v0_) ∧ Kd.R (Kd.int .u32) 63 w' w.heap.size (fun _ => True) v0_ (shAt a n a.length ++ [moAt a n a.length]) ∧ Below w.heap.size w w' := by
  obtain ⟨i0, hi, hz0, hz1, hz2⟩ := info_parts infoU
  have HCa := Lib.hid hCa
  have HAB := Lib.hid hab
  clear hCa hab
  go_enter Tryd.func67, Tryd.ntmps67
  have hw1 : IntKind.i64.wrap ((a.length : Int) + 1) = ((a.length + 1 : Nat) : Int) := by rw [wrap_in _ (by omega)]; omega
  go_wp2_with (first | (at_make; refine wpList_make_own _ rfl _ _ 97 rfl w.heap.size 63 i0 (.int .u32 0) 1 Tryd.underlying97 hi hz0 hz1 _ _ _ (a.length + 1) rfl rfl (by omega) ?bytes ?maxLen ?base ?_))
  case bytes => rw [hz2]; omega
  case maxLen => unfold maxLen; omega
  case base => exact Nat.le_refl _
  intro w1 hown hg1
  have hB1 : Below w.heap.size w w1 := (Below.refl _ w).grown hg1 (Nat.le_refl _) (fun k e => by cases e)
  go_wp2
  go_loopw [5, 6, 15] (fun vo vc vi wr => ∃ i : Nat, i ≤ a.length ∧ vi = .int .i64 i ∧ vc = .int .u32 (moAt a n i) ∧ wr.ownsRow w.heap.size 63 1 vo i ((shAt a n i).map (Value.int .u32)) ∧ Below w.heap.size w wr) (fun _ _ vi _ => a.length - (intOf vi).toNat)
  case atStart => exact ⟨0, Nat.zero_le _, rfl, rfl, hown, hB1⟩
  case round =>
    clear hown hg1 hB1
    obtain ⟨i, hi', rfl, rfl, hrow, hB⟩ := hrel
    have HROW := Lib.hid hrow
    have HB := Lib.hid hB
    clear hrow hB
    by_cases hlt : i < a.length
    · obtain ⟨ada, rfl, hxa⟩ := Kd.at_int (Kd.C_below HCa.out HB.out) (i : Int) (by omega) (by omega)
      rw [Int.toNat_natCast, rd_nat] at hxa
      have hw2 : IntKind.i64.wrap ((i : Int) + 1) = ((i + 1 : Nat) : Int) := by rw [wrap_in _ (by omega)]; omega
      have bxa := okL_getD HAB.out i
      have bc := moAt_bd HAB.out hn i
      have hor : Hid (bits .or .u32 (a.getD i 0 * 2 ^ n % 4294967296) (moAt a n i) = a.getD i 0 * 2 ^ n % 4294967296 + moAt a n i) := Lib.hid (or_join _ _ n bxa.1 hn bc.1 bc.2)
      have hs1 : Hid (moAt a n (i + 1) = a.getD i 0 / 2 ^ (32 - n)) := Lib.hid rfl
      have hs2 : Hid ((shAt a n (i + 1)).map (Value.int .u32) = (shAt a n i).map (Value.int .u32) ++ [.int .u32 (a.getD i 0 * 2 ^ n % 4294967296 + moAt a n i)]) := Lib.hid (by rw [shAt, List.map_append]; rfl)
      have bm := moAt_bd HAB.out hn (i + 1)
      have hv : Hid (IntKind.u64.wrap (a.getD i 0) / 2 ^ (32 - n) % 4294967296 = moAt a n (i + 1)) := Lib.hid (by
        have e : IntKind.u64.wrap (a.getD i 0) = a.getD i 0 := by rw [wrap_u64]; omega
        have hp : (2 : Int) ^ n ≤ 4294967296 := by
          have := Nat.pow_le_pow_right (show 0 < 2 by omega) (show n ≤ 32 by omega)
          have e : ∀ k : Nat, (2 : Int) ^ k = ((2 ^ k : Nat) : Int) := fun k => by rw [Int.natCast_pow]; rfl
          rw [e]; omega
        rw [e, ← hs1.out]; omega)
      clear bm
      clear bxa bc
      generalize a.getD i 0 = xa at *
      generalize moAt a n i = cy at *
      have hw3 : IntKind.i64.wrap (32 - (n : Int)) = ((32 - n : Nat) : Int) := by rw [wrap_in _ (by omega)]; omega
      go_wp2_with (first | (at_builtin; refine wpList_append_own _ rfl _ _ 97 rfl w.heap.size 63 i0 (.int .u32 0) 1 4 Tryd.underlying97 hi hz0 hz1 hz2 rfl (by decide) _ _ _ rfl (HROW.out.alloc _) ⟨_, 0, none⟩ 1 1 [_] rfl rfl (cell_one_new _ _ _) (by simp [Value.oneCell']) (by unfold maxLen; omega) (by omega) (by have := HB.out.size; simp; omega) ?_; intro v2 w2 hown2 hgrow2 _))
      have hB2 : Below w.heap.size w w2 := (HB.out.alloc HB.out.size _).grown hgrow2 (by have := HB.out.size; simp; omega) (own_base HROW.out)
      refine ⟨⟨i + 1, by omega, by rw [Int.natCast_add]; rfl, by rw [hv.out], by rw [hs2.out, ← hor.out]; exact hown2, hB2⟩, by simp [intOf]; omega⟩
    · obtain rfl : i = a.length := by omega
      have hs2 : Hid ((shAt a n a.length ++ [moAt a n a.length]).map (Value.int .u32) = (shAt a n a.length).map (Value.int .u32) ++ [.int .u32 (moAt a n a.length)]) := Lib.hid (by rw [List.map_append]; rfl)
      have HLN : Hid ((shAt a n a.length ++ [moAt a n a.length]).length = a.length + 1) := Lib.hid (by rw [List.length_append, shAt_len]; rfl)
      generalize hcy : moAt a n a.length = cy at *
      have HCY := Lib.hid hcy
      clear hcy
      go_wp2_with (first | (at_builtin; refine wpList_append_own _ rfl _ _ 97 rfl w.heap.size 63 i0 (.int .u32 0) 1 4 Tryd.underlying97 hi hz0 hz1 hz2 rfl (by decide) _ _ _ rfl (HROW.out.alloc _) ⟨_, 0, none⟩ 1 1 [_] rfl rfl (cell_one_new _ _ _) (by simp [Value.oneCell']) (by unfold maxLen; omega) (by omega) (by have := HB.out.size; simp; omega) ?_; intro v2 w2 hown2 hgrow2 _))
      have hB2 : Below w.heap.size w w2 := (HB.out.alloc HB.out.size _).grown hgrow2 (by have := HB.out.size; simp; omega) (own_base HROW.out)
      go_ret
      refine ⟨v2, rfl, ?_, hB2⟩
      rw [HCY.out]
      exact Kd.R_of_own (enc := Value.int .u32) (by rw [HLN.out]; rw [← hs2.out] at hown2; exact hown2) (fun _ _ => trivial)
theorem nat_num_left.calls (A0 : Option Addr) (c0 : Nat) (l0 : List Int) (a1 : Int) (r : List Int) (w : World) (hr0 : Kd.C (Kd.int .u32) w A0 l0.length l0) (hc0 : l0.length ≤ c0) (h : nat_num_left.f l0 a1 = some r) :
    Calls Tryd.prog 67 #[.slice A0 l0.length c0, .int .i64 a1] w fun e w' => ∃ v0_ : Value, e = .returned (v0_) ∧ Kd.R (Kd.int .u32) 63 w' w.heap.size (fun _ => True) v0_ r ∧ Below w.heap.size w w' := by
  unfold nat_num_left.f at h
  by_cases hc : okL l0 ∧ l0.length ≤ 1073741824 ∧ 0 ≤ a1 ∧ a1 < 32
  case neg => rw [if_neg hc] at h; cases h
  rw [if_pos hc] at h
  obtain rfl := Option.some.inj h
  obtain ⟨h1, h2, h3, h4⟩ := hc
  have := left_at A0 c0 l0 a1.toNat w hr0 hc0 h1 h2 (by omega)
  rw [show ((a1.toNat : Nat) : Int) = a1 by omega] at this
  exact this
end Go.Proofs.YtdgebcgcabhjoaaDoor.P
namespace Go.Proofs.YtdgebcgcabhjoaaDoor.P
set_option linter.unusedVariables false
set_option linter.unusedSimpArgs false
open Go.RowKit Go.Proofs.YtdgebcgcabhjoaaDoorW.PrintWords Go.Proofs.YtdgebcgcabhjoaaDoorW.PrintMore Go.Proofs.YtdgebcgcabhjoaaDoorW.PrintLast
def slices_Clone_num_uint32.f (l0 : List Int) : Option (List Int) := if l0.length ≤ 1073741824 then some l0 else none
theorem own_empty (w : World) (e : TypeId) : (w.alloc (.cells #[] e)).ownsRow w.heap.size e 1 (.slice (some ⟨w.heap.size, 0, none⟩) 0 0) 0 [] :=
  ⟨rfl, .inr ⟨w.heap.size, 0, #[], rfl, Nat.le_refl _, heap_alloc_new _ _,  Nat.le_refl _, by simp [maxLen], rfl, rfl⟩⟩
set_option maxHeartbeats 8000000 in
set_option maxRecDepth 100000 in
theorem slices_Clone_num_uint32.calls (A0 : Option Addr) (c0 : Nat) (l0 : List Int) (r : List Int) (w : World) (hr0 : Kd.C (Kd.int .u32) w A0 l0.length l0) (hc0 : l0.length ≤ c0) (h : slices_Clone_num_uint32.f l0 = some r) :
    Calls Tryd.prog 65 #[.slice A0 l0.length c0] w fun e w' => ∃ v0_ : Value, e = .returned (v0_) ∧ Kd.R (Kd.int .u32) 63 w' w.heap.size (fun _ => True) v0_ r ∧ Below w.heap.size w w' := by
  obtain ⟨i0, hi, hz0, hz1, hz2⟩ := info_parts infoU
  unfold slices_Clone_num_uint32.f at h
  by_cases hc : l0.length ≤ 1073741824
  case neg => rw [if_neg hc] at h; cases h
  rw [if_pos hc] at h
  obtain rfl := Option.some.inj h
  have hn := Kd.reads_of_C (enc := Value.int .u32) (d := (0 : Int)) (h1 := fun _ => rfl) hr0
  clear h hr0
  cases A0 with
  | none =>
    have hl : l0 = [] := by
      rcases Nat.eq_zero_or_pos l0.length with h | h
      · exact List.eq_nil_of_length_eq_zero h
      · obtain ⟨ad, e, _⟩ := hn.2.2 h; cases e
    subst hl
    have hq := _root_.Go.run_eql_slice_nil (P := Tryd.prog) (w := w) (t := 97) (e := 63) (a := none) (l := ([] : List Int).length) (c := c0) (h := Tryd.underlying97)
    simp only [List.length_nil, Option.isNone_none] at hq ⊢
    go_enter Tryd.func65, Tryd.ntmps65
    go_wp2
    go_ret
    exact ⟨_, rfl, Kd.R_nil _ _ _ _ _, Below.refl _ _⟩
  | some ad =>
    have hcells : Hid (∀ j u, (l0.map (Value.int .u32))[j]? = some u → w.cell? (ad.add j) = some u) := Lib.hid (fun j u hj => by
      rw [List.getElem?_map] at hj
      have hjl : j < l0.length := by
        rcases Nat.lt_or_ge j l0.length with h | h
        · exact h
        · rw [List.getElem?_eq_none h] at hj; cases hj
      obtain ⟨ad', e, hx⟩ := hn.2.2 (by omega)
      cases e
      rw [hx j hjl, List.getD_eq_getElem?_getD]
      rw [List.getElem?_eq_getElem hjl] at hj ⊢
      simpa using hj)
    have hcells2 : Hid (∀ j u, (l0.map (Value.int .u32))[j]? = some u → (w.alloc (.cells #[] 63)).cell? (ad.add j) = some u) := Lib.hid (fun j u hj => pw_cell_below (below_alloc (Below.refl _ _) _) (hcells.out j u hj))
    have h1c : Hid (∀ u ∈ l0.map (Value.int .u32), u.oneCell' = true) := Lib.hid (fun u hu => by obtain ⟨x, _, rfl⟩ := List.mem_map.1 hu; rfl)
    clear hn
    have hq := _root_.Go.run_eql_slice_nil (P := Tryd.prog) (w := w) (t := 97) (e := 63) (a := (some ad)) (l := l0.length) (c := c0) (h := Tryd.underlying97)
    simp only [Option.isNone_some, Option.isNone_none] at hq
    go_enter Tryd.func65, Tryd.ntmps65
    go_wp2_with (first | (at_builtin; refine wpList_append_own _ rfl _ _ 97 rfl w.heap.size 63 i0 (.int .u32 0) 1 4 Tryd.underlying97 hi hz0 hz1 hz2 rfl (by decide) _ _ _ rfl (own_empty w _) ad l0.length c0 (l0.map (Value.int .u32)) rfl (by simp) hcells2.out h1c.out (by unfold maxLen; omega) (by omega) (by simp) ?_; intro v2 w2 hown2 hgrow2 _))
    have hB2 : Below w.heap.size w w2 := ((Below.refl _ w).alloc (Nat.le_refl _) _).grown hgrow2 (by simp) (own_base (own_empty w 63))
    go_ret
    exact ⟨v2, rfl, Kd.R_of_own (enc := Value.int .u32) (by simpa [encs] using hown2) (fun _ _ => trivial), hB2⟩
end Go.Proofs.YtdgebcgcabhjoaaDoor.P
namespace Go.Proofs.YtdgebcgcabhjoaaDoor.P
set_option linter.unusedVariables false
set_option linter.unusedSimpArgs false
open Go.RowKit Go.Proofs.YtdgebcgcabhjoaaDoorW.PrintWords Go.Proofs.YtdgebcgcabhjoaaDoorW.PrintMore
theorem w64 (n : Int) (h : -9223372036854775808 ≤ n ∧ n ≤ 9223372036854775807) : wrap64 n = n := by unfold wrap64; omega
theorem val_set : ∀ (l : List Int) (j : Nat) (v : Int), j < l.length → val (l.set j v) + 4294967296 ^ j * (l.getD j 0).toNat = val l + 4294967296 ^ j * v.toNat
  | [], j, v, h => by simp at h
  | x :: l, 0, v, h => by simp [val]; omega
  | x :: l, j + 1, v, h => by
    have ih := val_set l j v (by simpa using h)
    simp only [List.set_cons_succ, val, List.getD_cons_succ, Nat.pow_succ]
    have e : ∀ z : Nat, 4294967296 ^ j * 4294967296 * z = 4294967296 * (4294967296 ^ j * z) := fun z => by rw [Nat.mul_comm (4294967296 ^ j) 4294967296, Nat.mul_assoc]
    rw [e, e]
    omega
theorem u64w {x : Int} (h0 : 0 ≤ x) (h1 : x < 18446744073709551616) : IntKind.u64.wrap x = x := by
  have : IntKind.u64.wrap x = x % 18446744073709551616 := by simp [IntKind.wrap, IntKind.bits, IntKind.signed]
  rw [this]; omega
theorem rdn (l : List Int) (j : Nat) : rd l (j : Int) = l.getD j 0 := rd_nat l j
theorem okL_set {l : List Int} (h : okL l) (j : Nat) {v : Int} (h0 : 0 ≤ v) (h1 : v < 4294967296) : okL (l.set j v) := fun z hz => by
  rcases List.mem_or_eq_of_mem_set hz with hz | rfl
  · exact h z hz
  · exact ⟨h0, h1⟩
theorem drop_getD {l : List Int} {n : Nat} (h : n < l.length) : l.drop n = l.getD n 0 :: l.drop (n + 1) := by
  rw [List.drop_eq_getElem_cons h, List.getD_eq_getElem?_getD, List.getElem?_eq_getElem h]
  rfl
theorem getD_set (l : List Int) (i j : Nat) (v : Int) : (l.set i v).getD j 0 = if i = j ∧ j < l.length then v else l.getD j 0 := by
  rw [List.getD_eq_getElem?_getD, List.getD_eq_getElem?_getD, List.getElem?_set]
  by_cases h : i = j
  · subst h
    by_cases h2 : i < l.length
    · simp [h2]
    · simp [h2]
  · simp [h]
/-- A product's step of one limb: x * y + o + c. -/
theorem mul_step {x y o c : Int} (hx : 0 ≤ x ∧ x < 4294967296) (hy : 0 ≤ y ∧ y < 4294967296) (ho : 0 ≤ o ∧ o < 4294967296) (hc : 0 ≤ c ∧ c < 4294967296) :
    0 ≤ x * y ∧ x * y ≤ 18446744065119617025 ∧ (x * y + o + c) / 4294967296 < 4294967296 := by
  have h1 : x * y ≤ 4294967295 * 4294967295 := Int.mul_le_mul (by omega) (by omega) hy.1 (by omega)
  have h0 : 0 ≤ x * y := Int.mul_nonneg hx.1 hy.1
  refine ⟨h0, by omega, by omega⟩
end Go.Proofs.YtdgebcgcabhjoaaDoor.P
/- slices.Backward of limbs: the iterator's contract for every loop body. -/
namespace Go.Proofs.YtdgebcgcabhjoaaDoor.P
set_option linter.unusedVariables false
set_option linter.unusedSimpArgs false
open Go.RowKit Go.Proofs.YtdgebcgcabhjoaaDoorW.PrintWords Go.Proofs.YtdgebcgcabhjoaaDoorW.PrintMore Go.Proofs.YtdgebcgcabhjoaaDoorW.PrintLast
attribute [local go_sem] Oper.semAt_some
/-- The places from the last one down. -/
def down : Nat → List Nat
  | 0 => []
  | n + 1 => n :: down n
theorem down_len : ∀ n, (down n).length = n
  | 0 => rfl
  | n + 1 => by rw [down, List.length_cons, down_len n]
abbrev BIt (n : Nat) := { x : Nat × Int // x.1 < n }
def plc {n : Nat} (l : List (BIt n)) : List Nat := l.map fun x => x.1.1
theorem plc_snoc {n : Nat} (l : List (BIt n)) (x : BIt n) : plc (l ++ [x]) = plc l ++ [x.1.1] := by simp [plc]
theorem plc_len {n : Nat} (l : List (BIt n)) : (plc l).length = l.length := by simp [plc]
/-- Each place of a row of limbs is read. -/
def Readable (A : Option Addr) (n : Nat) (W : World) : Prop := ∀ ad, A = some ad → ∀ j, j < n → ∃ v, W.cell? (ad.add j) = some (.int .u32 v)
/-- What a round keeps. -/
def KpB (n₀ Bn : Nat) (A : Option Addr) (n : Nat) (W W' : World) : Prop := Below n₀ W W' ∧ W'.cell? ⟨Bn, 0, none⟩ = W.cell? ⟨Bn, 0, none⟩ ∧ (Readable A n W → Readable A n W')
theorem kpB_t {n₀ Bn : Nat} {A : Option Addr} {n : Nat} {X Y Z : World} (h : KpB n₀ Bn A n X Y) (k : KpB n₀ Bn A n Y Z) : KpB n₀ Bn A n X Z := ⟨h.1.trans k.1, k.2.1.trans h.2.1, fun r => k.2.2 (h.2.2 r)⟩
theorem kpB_b {n₀ Bn : Nat} {A : Option Addr} {n : Nat} {w : World} (hn : n₀ ≤ w.heap.size) (hB : Bn < w.heap.size) (hr : Readable A n w) (W : World) (l : Nat) (o o' : Obj) (hl : w.heap.size ≤ l) (h : W.heap[l]? = some o) (h1 : o.isCells = false) (h2 : o.isWalk = false) : KpB n₀ Bn A n W (W.putObj l o') := by
  refine ⟨belowK_b hn W l o o' hl h h1 h2, World.cell?_of_block (w := W) (World.putObj_heap_other (by simp; omega)), fun hrd ad e j hj => ?_⟩
  obtain ⟨v, hv⟩ := hrd ad e j hj
  exact ⟨v, (World.cell?_of_block (w := W) (World.putObj_heap_other (by
    intro el
    obtain ⟨v0, hv0⟩ := hr ad e j hj
    have := World.block_lt_of_cell? _ _ hv0
    omega))).trans hv⟩
theorem kpB_refl (n₀ Bn : Nat) (A : Option Addr) (n : Nat) (W : World) : KpB n₀ Bn A n W W := ⟨Below.refl _ _, rfl, id⟩

theorem backward_in (n : Nat) (A : Option Addr) (len c : Nat) (w : World) :
    CallsIn Fence.wide n Tryd.prog 68 #[.slice A len c] w fun e w' => e = .returned (.func (.func 77) #[] #[.pointer (some ⟨w.heap.size, 0, none⟩)]) ∧ w' = w.alloc (.cells #[.slice A len c] 97) := by
  refine callsIn_of_wp Tryd.func68 rfl trivial ?_ rfl
  simp only [Tryd.ntmps68, List.size_toArray, List.length_cons, List.length_nil, Nat.reduceAdd, Nat.reduceSub, Array.replicate_succ, Array.replicate_zero, List.push_toArray, List.append_toArray, List.nil_append, List.cons_append]
  gi_wp2
  go_ret
  exact ⟨rfl, rfl⟩

set_option maxRecDepth 100000 in
set_option maxHeartbeats 4000000 in
theorem backward1_in (n : Nat) (hn : 2 ≤ n) (l Bn n₀ : Nat) (A : Option Addr) (len c : Nat) (hl : len ≤ 1152921504606846976) (J Jx : List (BIt len) → World → Prop)
    (hY : ∀ pre x W, J pre W → pre.length < len → YieldAt Fence.wide (n - 1) Tryd.prog l #[.int .i64 x.1.1, .int .u32 x.1.2] W fun e W' =>
      (e = .returned (.bool true) ∧ J (pre ++ [x]) W' ∧ KpB n₀ Bn A len W W') ∨ (e = .returned (.bool false) ∧ Jx (pre ++ [x]) W'))
    (W : World) (hc : W.cell? ⟨Bn, 0, none⟩ = some (.slice A len c)) (hA : 0 < len → ∃ ad, A = some ad) (hr : Readable A len W) (h0 : J [] W) :
    CallsIn Fence.wide n Tryd.prog 77 #[.func (.yield l) #[] #[], .pointer (some ⟨Bn, 0, none⟩)] W fun e W' => (∃ v, e = .returned v) ∧
      ((∃ ys : List (BIt len), plc ys = down len ∧ J ys W') ∨ (∃ pre : List (BIt len), plc pre <+: down len ∧ Jx pre W')) := by
  have hn1 : 1 ≤ n := by omega
  have hn2 : 1 ≤ n - 1 := by omega
  have H0 := Lib.hid hc
  clear hc
  refine callsIn_of_wp Tryd.func77 rfl trivial ?_ rfl
  simp only [Tryd.ntmps77, List.size_toArray, List.length_cons, List.length_nil, Nat.reduceAdd, Nat.reduceSub, Array.replicate_succ, Array.replicate_zero, List.push_toArray, List.append_toArray, List.nil_append, List.cons_append]
  have hcell := H0.out
  have hw1 : IntKind.i64.wrap ((len : Int) - 1) = (len : Int) - 1 := wrap_in _ (by omega)
  gi_wp2
  gi_loopw [3] (fun i wr => ∃ (pre : List (BIt len)) (m : Nat), m ≤ len ∧ i = .int .i64 ((m : Int) - 1) ∧ Hid (plc pre ++ down m = down len) ∧ wr.cell? ⟨Bn, 0, none⟩ = some (.slice A len c) ∧ Hid (Readable A len wr) ∧ Hid (J pre wr)) (fun i _ => (intOf i + 1).toNat)
  case atStart => exact ⟨[], len, Nat.le_refl _, rfl, Lib.hid rfl, H0.out, Lib.hid hr, Lib.hid h0⟩
  case round =>
    clear hcell
    obtain ⟨pre, m, hm, rfl, hU, hcell, hR, hJ⟩ := hrel
    rcases m with _ | j
    · gi_wp2
      go_end0
      exact ⟨⟨_, rfl⟩, .inl ⟨pre, by simpa [down] using hU.out, hJ.out⟩⟩
    · obtain ⟨ad, rfl⟩ := hA (by omega)
      obtain ⟨v, hv⟩ := hR.out ad rfl j (by omega)
      have hpl : pre.length < len := by
        have := congrArg List.length hU.out
        rw [List.length_append, plc_len, down_len, down_len] at this
        omega
      have ej : (((j + 1 : Nat) : Int) - 1) = (j : Int) := by omega
      have hw2 : IntKind.i64.wrap ((j : Int) - 1) = (j : Int) - 1 := wrap_in _ (by omega)
      obtain ⟨fn, tmps, assign, body, hy, hRd⟩ := hY pre ⟨(j, v), by omega⟩ wr hJ.out hpl
      dsimp only at hy
      have HRD := Lib.hid hRd
      have hU2 : Hid (plc (pre ++ [(⟨(j, v), by omega⟩ : BIt len)]) ++ down j = down len) := Lib.hid (by have := hU.out; rw [down] at this; rw [plc_snoc]; simpa using this)
      clear hRd hpl
      simp only [ej]
      gi_wp2
      refine HRD.out.mono ?_
      rintro e W3 (⟨rfl, hJ3, hk3⟩ | ⟨rfl, hJx3⟩)
      · have HJ3 := Lib.hid hJ3
        have hcell3 : Hid (W3.cell? ⟨Bn, 0, none⟩ = some (.slice (some ad) len c)) := Lib.hid (hk3.2.1.trans hcell)
        have hR3 : Hid (Readable (some ad) len W3) := Lib.hid (hk3.2.2 hR.out)
        clear hJ3 hk3
        gi_wp2
        go_roundw
        case rel => exact ⟨_, j, by omega, rfl, hU2, hcell3.out, hR3, HJ3⟩
        case measure => simp [intOf]
      · gi_wp2
        refine bodyPost_ret (results_none rfl _ _ _) rfl ?_
        exact ⟨⟨_, rfl⟩, .inr ⟨_, ⟨down j, hU2.out⟩, hJx3⟩⟩
/-- slices.Backward's value hands over all places, the last one first, or, where a round has said 'no more', a beginning of them. -/
theorem backward_stops (n : Nat) (hn : 2 ≤ n) (Bn n₀ : Nat) (A : Option Addr) (len c : Nat) (hl : len ≤ 1152921504606846976) (w : World)
    (hc : w.cell? ⟨Bn, 0, none⟩ = some (.slice A len c)) (hA : 0 < len → ∃ ad, A = some ad) (hr : Readable A len w) :
    SeqStopsK Fence.wide n Tryd.prog 77 #[.pointer (some ⟨Bn, 0, none⟩)] (fun x : BIt len => #[Value.int .i64 x.1.1, .int .u32 x.1.2]) (KpB n₀ Bn A len) (fun ys => plc ys = down len) (fun pre => plc pre <+: down len) len w := fun l J Jx W hW hJ _ hY h0 =>
  backward1_in n hn l Bn n₀ A len c hl J Jx hY W ((hW.cell (p := ⟨Bn, 0, none⟩) (World.block_lt_of_cell? _ _ hc)).trans hc) hA (fun ad e j hj => by
    obtain ⟨v, hv⟩ := hr ad e j hj
    exact ⟨v, pw_cell_below hW hv⟩) h0
end Go.Proofs.YtdgebcgcabhjoaaDoor.P
namespace Go.Proofs.YtdgebcgcabhjoaaDoor.P
set_option linter.unusedVariables false
set_option linter.unusedSimpArgs false
open Go.RowKit Go
def noDeferB (l : List Oper) : Bool := l.all fun o => match o.op with | .defer _ => false | _ => true
theorem noDefer_spec {l : List Oper} (h : noDeferB l = true) : ∀ o ∈ l, ∀ c, o.op ≠ .defer c := by
  intro o ho c e
  have := List.all_eq_true.1 h o ho
  rw [e] at this
  cases this
section
variable {F : Fence} {n : Nat} {P : Program} {ops : Array Oper} {C : World → Prop} {md : Region.Mode}
theorem oper_of_quiet {o : Oper} {a : Act} {K : Act → Prop} {K' : Act → World → Prop} {Q' : Exit → Act → World → Prop} {w : World} (hd : ∀ c, o.op ≠ .defer c) (hw : C w) (h : ∀ a w', C w' → K a → K' a w')
    (ha : o.askedIn F P a C) (hh : o.quietIn F n P a C K) : o.wpIn F n P a w K' Q' := by
  obtain ⟨v, h1, h2⟩ := hh
  have h3 := h1 w hw
  unfold Oper.quietAtIn at h3
  unfold Oper.wpIn
  refine ⟨ha w hw, ?_⟩
  have e : Oper.semAt F.round a.eval o = execOp a.eval o := by
    cases hr : F.round with
    | none => exact Oper.semAt_none _ _
    | some l => exact Oper.semAt_some l _ _ hd
  rw [e]
  generalize (execOp a.eval o).run P w = r at *
  cases r with
  | ok x w' =>
    cases x <;> simp only [Oper.quietUponIn] at h3 <;> simp only [Oper.uponIn]
    case value u =>
      obtain ⟨e1, e2⟩ := h3
      rw [e1, e2]
      exact h _ _ hw h2
    case skip =>
      obtain ⟨e1, e2⟩ := h3
      rw [e1, ← e2]
      exact h _ _ hw h2
    case enter f args =>
      obtain ⟨e1, hd, hc⟩ := h3
      rw [e1]
      exact ⟨hd, hc.mono fun e w'' ⟨he, hw''⟩ => by subst he; exact h _ _ hw'' h2⟩
  | halt x w' => simp only [Oper.quietUponIn] at h3
theorem op_of_quiet {i : Nat} {a : Act} {K : Act → Prop} {K' : Act → World → Prop} {Q' : Exit → Act → World → Prop} {w : World} (hd : ∀ (i : Nat) o, ops[i]? = some o → ∀ c, o.op ≠ .defer c) (hC : C w) (h : ∀ a w', C w' → K a → K' a w')
    (hh : qOpIn F n P ops C i K a) : wpOpIn F n P ops Q' i K' a w := by
  unfold qOpIn at hh
  unfold wpOpIn
  split
  · rename_i ho; simp only [ho] at hh; exact h _ _ hC hh
  · rename_i o ho
    simp only [ho] at hh
    obtain ⟨ha, hh⟩ := hh
    split
    · rename_i hw; simp only [hw, if_true] at hh; exact oper_of_quiet (hd i o ho) hC h ha hh
    · rename_i hw; simp only [hw] at hh; exact ⟨ha w hC, h _ _ hC hh⟩
theorem any_of_quiet {Q : Act → Prop} {Q' : Exit → Act → World → Prop} (hd : ∀ (i : Nat) o, ops[i]? = some o → ∀ c, o.op ≠ .defer c) (hQ : ∀ a w, C w → Q a → Q' .normal a w) : ∀ (fuel : Nat) (listed : Array Bool) (a : Act) (w : World), C w →
    wpAnyQIn F n P md ops C Q fuel listed a → wpAnyIn F n P md ops Q' fuel listed a w
  | 0, _, _, _, hw, h => ⟨h.1, hQ _ _ hw h.2⟩
  | fuel + 1, _, _, _, hw, h => ⟨fun h0 => hQ _ _ hw (h.1 h0), fun i hi => op_of_quiet hd hw (fun a' w' hw' => any_of_quiet hd hQ fuel _ a' w' hw') (h.2 i hi)⟩
theorem region_quiet_round {id : Nat} {Q : Exit → Act → World → Prop} {a : Act} {w : World} {l : List Oper} (hd : noDeferB l = true) (hm : P.follows .mixedOrders = true) (hB : Region.lexB .any l.toArray = true)
    (h : wpQuietIn F n P l.toArray (fun w' => ∃ n, w' = w.drewN n) (fun a' => ∀ w', (∃ n, w' = w.drewN n) → Q .normal a' w') l a) : (Code.region id l.toArray true).wpIn F n P Q a w := by
  have hd' : ∀ (i : Nat) o, l.toArray[i]? = some o → ∀ c, o.op ≠ .defer c := by
    intro i o ho
    have : l[i]? = some o := by simpa using ho
    exact noDefer_spec hd o (List.mem_of_getElem? this)
  simp only [Region.lexB, Bool.and_eq_true] at hB
  refine wpIn_region_any hm (any_of_quiet (C := fun w' => ∃ n, w' = w.drewN n) (Q := fun a' => ∀ w', (∃ n, w' = w.drewN n) → Q .normal a' w') hd' (fun _ w' hw' h => h w' hw') _ _ _ _ ⟨1, rfl⟩ ?_)
  have := wpAnyQIn_lex (F := F) (n := n) (C := fun w' => ∃ n, w' = w.drewN n) (md := .any) hB.1 l.toArray.toList 0 (Array.replicate l.toArray.size false) a (by simp) (by simpa using hB.2) (by simpa using h)
  simpa using this
end
end Go.Proofs.YtdgebcgcabhjoaaDoor.P
namespace Go.Proofs.YtdgebcgcabhjoaaDoor.P
set_option linter.unusedVariables false
set_option linter.unusedSimpArgs false
open Go.RowKit Go
section
variable {F : Fence} {n : Nat} {P : Program} {ops : Array Oper} {C : World → Prop} {md : Region.Mode}
/-- Whatever order is picked, till the first m are listed (and the one behind them, or not). -/
def wpTwo (F : Fence) (n : Nat) (P : Program) (md : Region.Mode) (ops : Array Oper) (C : World → Prop) (m : Nat) (M1 M2 : Array Bool) (E1 E2 : Act → Prop) : Nat → Array Bool → Act → Prop
  | 0, listed, a => listed = M2 ∧ E2 a
  | fuel + 1, listed, a => (listed = M1 → fuel = 0 ∧ E1 a ∧ qOpIn F n P ops C m E2 a) ∧ (listed ≠ M1 → Region.ready md ops listed ≠ [] ∧ ∀ i ∈ Region.ready md ops listed, qOpIn F n P ops C i (wpTwo F n P md ops C m M1 M2 E1 E2 fuel (listed.setIfInBounds i true)) a)
theorem any_of_two {m : Nat} {M1 M2 : Array Bool} {E1 E2 : Act → Prop} {k : Nat} {Q' : Exit → Act → World → Prop} (hd : ∀ (i : Nat) o, ops[i]? = some o → ∀ c, o.op ≠ .defer c) (hE1 : ∀ a w, C w → E1 a → wpAnyIn F n P md ops Q' (k + 1) M1 a w) (hE2 : ∀ a w, C w → E2 a → wpAnyIn F n P md ops Q' k M2 a w) :
    ∀ (fuel : Nat) (listed : Array Bool) (a : Act) (w : World), C w → wpTwo F n P md ops C m M1 M2 E1 E2 fuel listed a → wpAnyIn F n P md ops Q' (fuel + k) listed a w
  | 0, _, _, _, hw, h => by rw [Nat.zero_add, h.1]; exact hE2 _ _ hw h.2
  | fuel + 1, listed, a, w, hw, h => by
    by_cases hl : listed = M1
    · obtain ⟨rfl, h1, _⟩ := h.1 hl
      rw [hl, show 0 + 1 + k = k + 1 by omega]
      exact hE1 _ _ hw h1
    · obtain ⟨h0, h1⟩ := h.2 hl
      rw [show fuel + 1 + k = (fuel + k) + 1 by omega]
      exact ⟨fun h2 => absurd h2 h0, fun i hi => op_of_quiet hd hw (fun a' w' hw' => any_of_two hd hE1 hE2 fuel _ a' w' hw') (h1 i hi)⟩
/-- Each operation behind number m waits for each one ahead of m. -/
def waitsB (md : Region.Mode) (ops : Array Oper) (m : Nat) : Bool := (List.range ops.size).all fun j => decide (j ≤ m) || match ops[j]? with
  | none => true
  | some o => (List.range m).all fun i => o.after.any fun e => Region.binds md e && e.on == i
theorem waits_spec {m : Nat} (h : waitsB md ops m = true) {j : Nat} {o : Oper} (ho : ops[j]? = some o) (hj : m < j) {i : Nat} (hi : i < m) : ∃ e ∈ o.after, Region.binds md e = true ∧ e.on = i := by
  unfold waitsB at h
  have h1 := List.all_eq_true.1 h j (List.mem_range.2 (Array.getElem?_eq_some_iff.1 ho).1)
  simp only [ho, Bool.or_eq_true, decide_eq_true_eq] at h1
  rcases h1 with h1 | h1
  · omega
  · have h2 := List.all_eq_true.1 h1 i (List.mem_range.2 hi)
    rw [Array.any_eq_true'] at h2
    obtain ⟨e, he, h3⟩ := h2
    simp only [Bool.and_eq_true, beq_iff_eq] at h3
    exact ⟨e, he, h3.1, h3.2⟩
theorem not_behind {m i j : Nat} {listed : Array Bool} (hwt : waitsB md ops m = true) (him : i < m) (hr : i ∈ Region.ready md ops listed) (hj : j ∈ Region.ready md ops listed) : j ≤ m := by
  obtain ⟨hjun, oj, hoj, hall⟩ := mem_ready.1 hj
  have hnl := (mem_ready.1 hr).1
  rcases Nat.lt_or_ge m j with h | h
  · exfalso
    obtain ⟨e, he, hb, hon⟩ := waits_spec hwt hoj h him
    have h1 := hall e he hb
    rw [hon] at h1
    rcases Nat.lt_or_ge i listed.size with h' | h'
    · simp [h'] at hnl h1; rw [hnl] at h1; cases h1
    · simp [Array.getElem?_eq_none h'] at h1
  · exact h
theorem listed_not {j : Nat} {listed M : Array Bool} (h : listed = M) (hj : j < M.size) (hun : listed.getD j false = false) (hM : M.getD j true = true) : False := by
  subst h
  simp [hj] at hun hM
  rw [hun] at hM
  cases hM
theorem two_first {m : Nat} {M1 M2 : Array Bool} {E1 E2 : Act → Prop} (hM1 : ∀ j, j < m → M1.getD j true = true) (hs1 : m < M1.size) (hM2 : M2 = M1.setIfInBounds m true) (hwt : waitsB md ops m = true) {i : Nat} {oi : Oper} {v : Value} (him : i < m) (hi : ops[i]? = some oi) (hsel : ∀ (j : Nat) (o : Oper) cs b, ops[j]? = some o → o.op ≠ .select cs b) :
    ∀ (fuel : Nat) (listed : Array Bool) (a : Act),
      (∀ j oj, ops[j]? = some oj → j ≠ i → listed.getD j true = false → (∀ e ∈ oj.after, Region.binds md e = true → e.on ≠ i) → oi.apart ops oj = true) →
      i ∈ Region.ready md ops listed → YieldsQuiet F n P ops C oi v a →
      wpTwo F n P md ops C m M1 M2 E1 E2 fuel (listed.setIfInBounds i true) (a.put oi.dst v) → wpTwo F n P md ops C m M1 M2 E1 E2 (fuel + 1) listed a := by
  have hM2s : M2.size = M1.size := by rw [hM2]; simp
  have hM2l : ∀ j, j ≤ m → M2.getD j true = true := by
    intro j hj
    rw [hM2]
    by_cases h : j = m
    · subst h; simp [hs1]
    · rw [getD_set_ne true (Ne.symm h)]; exact hM1 j (by omega)
  have un : ∀ (listed : Array Bool) (j : Nat), j ∈ Region.ready md ops listed → listed.getD j false = false := fun listed j hj => by
    have := (mem_ready.1 hj).1
    rcases Nat.lt_or_ge j listed.size with h' | h'
    · simp [h'] at this ⊢; exact this
    · simp [Array.getElem?_eq_none h']
  have unset : ∀ (listed : Array Bool) (j : Nat), j ≠ i → j ∈ Region.ready md ops listed → (listed.setIfInBounds i true).getD j false = false := fun listed j hj h => by
    rw [getD_set_ne false (Ne.symm hj)]; exact un listed j h
  intro fuel
  induction fuel with
  | zero =>
    intro listed a _ hr hy H
    refine ⟨fun h => (listed_not h (by omega) (un _ _ hr) (hM1 i him)).elim, fun _ => ⟨fun h => (by rw [h] at hr; cases hr), fun j hj => ?_⟩⟩
    by_cases hji : j = i
    · subst hji; exact hy.qOpIn hi H
    · have hjm := not_behind hwt him hr hj
      exact (listed_not H.1 (by omega) (unset _ _ hji hj) (hM2l j hjm)).elim
  | succ fuel ih =>
    intro listed a hfree hr hy H
    refine ⟨fun h => (listed_not h (by omega) (un _ _ hr) (hM1 i him)).elim, fun _ => ⟨fun h => (by rw [h] at hr; cases hr), fun j hj => ?_⟩⟩
    by_cases hji : j = i
    · subst hji; exact hy.qOpIn hi H
    · obtain ⟨hjun, oj, hoj, hall⟩ := mem_ready.1 hj
      have hnot : ∀ e ∈ oj.after, Region.binds md e = true → e.on ≠ i := fun e he hb heq => by
        have h1 := hall e he hb
        have h0 := (mem_ready.1 hr).1
        rw [heq] at h1
        rcases Nat.lt_or_ge i listed.size with h' | h'
        · simp [h'] at h0 h1; rw [h0] at h1; cases h1
        · simp [Array.getElem?_eq_none h'] at h1
      have hap := hfree j oj hoj hji hjun hnot
      have hfree' : ∀ k ok, ops[k]? = some ok → k ≠ i → (listed.setIfInBounds j true).getD k true = false →
          (∀ e ∈ ok.after, Region.binds md e = true → e.on ≠ i) → oi.apart ops ok = true := fun k ok hk hki hun hno => by
        refine hfree k ok hk hki ?_ hno
        by_cases hjk : j = k
        · subst hjk; exact hjun
        · rw [getD_set_ne true hjk] at hun; exact hun
      by_cases hl : listed.setIfInBounds i true = M1
      · obtain ⟨rfl, _, hq⟩ := H.1 hl
        have hjm := not_behind hwt him hr hj
        have hjm2 : j = m := by
          rcases Nat.lt_or_ge j m with h | h
          · exact (listed_not hl (by omega) (unset _ _ hji hj) (hM1 j h)).elim
          · omega
        subst hjm2
        have h2 := qOpIn_put hoj hap (fun cs b => hsel i oi cs b hi) (fun cs b => hsel j oj cs b hoj) hy hq
        refine qOpIn_mono (fun a' h3 => ih (listed.setIfInBounds j true) a' hfree' (ready_mono hr (Ne.symm hji)) h3.1 ?_) h2
        refine ⟨?_, h3.2⟩
        rw [Array.setIfInBounds_comm _ _ hji, hl, hM2]
      · have h1 := (H.2 hl).2 j (ready_mono hj hji)
        have h2 := qOpIn_put hoj hap (fun cs b => hsel i oi cs b hi) (fun cs b => hsel j oj cs b hoj) hy h1
        refine qOpIn_mono (fun a' h3 => ih (listed.setIfInBounds j true) a' hfree' (ready_mono hr (Ne.symm hji)) h3.1 ?_) h2
        rw [Array.setIfInBounds_comm _ _ hji]
        exact h3.2
theorem qop_want {i : Nat} {o : Oper} {a : Act} {K : Act → Prop} (ho : ops[i]? = some o) (ha : o.askedIn F P a C) (hw : Region.wanted o (yielded ops a.tmps) = true) (h : ∀ K' : Act → Prop, (∀ a, K a → K' a) → o.quietIn F n P a C K') : qOpIn F n P ops C i K a := by
  unfold qOpIn
  simp only [ho, hw, if_true]
  exact ⟨ha, h K fun _ h => h⟩
def lexTwo (md : Region.Mode) (ops : Array Oper) (M1 : Array Bool) : Nat → Nat → Array Bool → Bool
  | 0, _, listed => listed == M1
  | l + 1, k, listed => (Region.ready md ops listed).contains k && Region.free md ops listed k && !(listed == M1) && lexTwo md ops M1 l (k + 1) (listed.setIfInBounds k true)
theorem two_lex {m : Nat} {M1 M2 : Array Bool} {E1 E2 : Act → Prop} (hM1 : ∀ j, j < m → M1.getD j true = true) (hs1 : m < M1.size) (hM2 : M2 = M1.setIfInBounds m true) (hwt : waitsB md ops m = true) (hs : Region.noSelect ops = true) : ∀ (l : List Oper) (k : Nat) (listed : Array Bool) (a : Act), k + l.length ≤ m → (∀ j, j < l.length → l[j]? = ops[k + j]?) →
    lexTwo md ops M1 l.length k listed = true → wpQuietIn F n P ops C (fun a => E1 a ∧ qOpIn F n P ops C m E2 a) l a → wpTwo F n P md ops C m M1 M2 E1 E2 (l.length + 1) listed a
  | [], k, listed, a, _, hl, hB, h => ⟨fun _ => ⟨rfl, h⟩, fun hne => absurd (by simpa [lexTwo] using hB) hne⟩
  | o :: l, k, listed, a, hk, hl, hB, h => by
    have h0 : ops[k]? = some o := by simpa using (hl 0 (by simp)).symm
    simp only [List.length_cons, lexTwo, Bool.and_eq_true] at hB
    obtain ⟨⟨⟨hr, hf⟩, _⟩, hB'⟩ := hB
    have hst : qOpIn F n P ops C k (wpQuietIn F n P ops C (fun a => E1 a ∧ qOpIn F n P ops C m E2 a) l) a := by unfold qOpIn; simp only [h0]; exact h
    obtain ⟨v, hy, hK⟩ := yieldsQuiet_of_qOpIn h0 hst
    exact two_first hM1 hs1 hM2 hwt (by simp at hk; omega) h0 (Region.noSelect_spec hs) (l.length + 1) listed a (Region.free_spec h0 hf) (by simpa using hr) hy
      (two_lex hM1 hs1 hM2 hwt hs l (k + 1) _ _ (by simp at hk; omega) (fun j hj => by have := hl (j + 1) (by simp; omega); simpa [Nat.add_assoc, Nat.add_comm 1 j] using this) hB' hK)
def mask1 (m k : Nat) : Array Bool := Array.replicate m true ++ Array.replicate k false
def twoB (ops : Array Oper) (m : Nat) : Bool := lexTwo .any ops (mask1 m (ops.size - m)) m 0 (Array.replicate ops.size false) && waitsB .any ops m && Region.noSelect ops && decide (m < ops.size) && noDeferB ops.toList
theorem region_two_round {id : Nat} {Q : Exit → Act → World → Prop} {a : Act} {w : World} (m : Nat) (hm : P.follows .mixedOrders = true) (hB : twoB ops m = true)
    (h : wpQuietIn F n P ops (fun w' => ∃ n, w' = w.drewN n) (fun a' => (∀ w', (∃ n, w' = w.drewN n) → wpAnyIn F n P .any ops Q (ops.size - m) (mask1 m (ops.size - m)) a' w') ∧
      qOpIn F n P ops (fun w' => ∃ n, w' = w.drewN n) m (fun a' => ∀ w', (∃ n, w' = w.drewN n) → wpAnyIn F n P .any ops Q (ops.size - m - 1) ((mask1 m (ops.size - m)).setIfInBounds m true) a' w') a') (ops.toList.take m) a) : (Code.region id ops true).wpIn F n P Q a w := by
  unfold twoB at hB
  simp only [Bool.and_eq_true, decide_eq_true_eq] at hB
  obtain ⟨⟨⟨⟨h1, h2⟩, h3⟩, h4⟩, h5⟩ := hB
  have hd' : ∀ (i : Nat) o, ops[i]? = some o → ∀ c, o.op ≠ .defer c := by
    intro i o ho
    have : ops.toList[i]? = some o := by simpa using ho
    exact noDefer_spec h5 o (List.mem_of_getElem? this)
  have hl : (ops.toList.take m).length = m := by rw [List.length_take]; simp; omega
  have hM : ∀ j, j < m → (mask1 m (ops.size - m)).getD j true = true := by
    intro j hj
    unfold mask1
    rw [Array.getD_eq_getD_getElem?, Array.getElem?_append_left (by simpa using hj)]
    simp [hj]
  have hM' : m < (mask1 m (ops.size - m)).size := by
    unfold mask1
    simp
    omega
  have hp := two_lex (F := F) (n := n) (P := P) (C := fun w' => ∃ n, w' = w.drewN n) hM hM' rfl h2 h3 (ops.toList.take m) 0 (Array.replicate ops.size false) a (by rw [hl]; omega) (fun j hj => by
    rw [hl] at hj
    rw [List.getElem?_take_of_lt hj]
    simp) (by rw [hl]; exact h1) h
  rw [hl] at hp
  refine wpIn_region_any hm ?_
  have := any_of_two (F := F) (n := n) (P := P) (md := .any) (ops := ops) (C := fun w' => ∃ n, w' = w.drewN n) (Q' := Q) (k := ops.size - m - 1) hd' (fun a' w' hw' he => by rw [show ops.size - m - 1 + 1 = ops.size - m by omega]; exact he w' hw') (fun a' w' hw' he => he w' hw') (m + 1) _ a { w with drawn := w.drawn + 1 } ⟨1, rfl⟩ hp
  rw [show m + 1 + (ops.size - m - 1) = ops.size by omega] at this
  exact this
end
end Go.Proofs.YtdgebcgcabhjoaaDoor.P
/- nat's compare: contract. -/
namespace Go.Proofs.YtdgebcgcabhjoaaDoor.P
set_option linter.unusedVariables false
set_option linter.unusedSimpArgs false
open Go.RowKit Go.Shelf Go.Proofs.YtdgebcgcabhjoaaDoorW.PrintWords Go.Proofs.YtdgebcgcabhjoaaDoorW.PrintMore Go.Proofs.YtdgebcgcabhjoaaDoorW.PrintLast
attribute [local go_sem] Oper.semAt_some
def nat_num_compare.f (l0 l1 : List Int) : Option Int := if (canon l0 ∧ canon l1) ∧ l0.length ≤ 1073741824 ∧ l1.length ≤ 1073741824 then some (cmpI (val l0) (val l1)) else none
theorem readable_of_C {A : Option Addr} {l : List Int} {w : World} (h : Kd.C (Kd.int .u32) w A l.length l) : Readable A l.length w := by
  intro ad e j hj
  subst e
  obtain ⟨ad', e', hx⟩ := Kd.at_int h (j : Int) (by omega) (by omega)
  cases e'
  rw [Int.toNat_natCast] at hx
  exact ⟨_, hx⟩
theorem addr_of_C {A : Option Addr} {l : List Int} {w : World} (h : Kd.C (Kd.int .u32) w A l.length l) : 0 < l.length → ∃ ad, A = some ad := by
  intro hp
  obtain ⟨ad', e', hx⟩ := Kd.at_int h (0 : Int) (by omega) (by omega)
  exact ⟨ad', e'⟩
theorem readable_below {A : Option Addr} {l : List Int} {w W W' : World} {n₀ : Nat} (hC : Kd.C (Kd.int .u32) w A l.length l) (hb : Below w.heap.size w W) (hb' : Below w.heap.size W W') : Readable A l.length W' :=
  readable_of_C (Kd.C_below hC (hb.trans hb'))
/-- Two numbers of like length: they agree from the last place down to place x; there they differ. -/
theorem val_differ {a b : List Int} (ha : okL a) (hb : okL b) (hl : a.length = b.length) {x : Nat} (hx : x < a.length) (he : ∀ j, x < j → j < a.length → a.getD j 0 = b.getD j 0) (hd : a.getD x 0 < b.getD x 0) : val a < val b := by
  have key : ∀ k, x + 1 + k ≤ a.length → val (a.take (x + 1 + k)) < val (b.take (x + 1 + k)) := by
    intro k
    induction k with
    | zero =>
      intro _
      rw [Nat.add_zero, val_take_step a x, val_take_step b x]
      have h1 := okL_getD ha x
      have h2 := okL_getD hb x
      have h3 := val_lt (okL_take ha x)
      rw [List.length_take, Nat.min_eq_left (by omega)] at h3
      have h4 : (a.getD x 0).toNat + 1 ≤ (b.getD x 0).toNat := by omega
      have h5 := Nat.mul_le_mul_left (4294967296 ^ x) h4
      rw [Nat.mul_add] at h5
      omega
    | succ k ih =>
      intro hk
      have := ih (by omega)
      rw [show x + 1 + (k + 1) = (x + 1 + k) + 1 by omega, val_take_step a, val_take_step b, he (x + 1 + k) (by omega) (by omega)]
      omega
  have := key (a.length - (x + 1)) (by omega)
  rw [show x + 1 + (a.length - (x + 1)) = a.length by omega, List.take_of_length_le (Nat.le_refl _), List.take_of_length_le (by omega)] at this
  exact this
theorem down_mem : ∀ (n j : Nat), j ∈ down n ↔ j < n
  | 0, j => by simp [down]
  | n + 1, j => by rw [down, List.mem_cons, down_mem n]; omega
theorem down_split : ∀ (n : Nat) (l : List Nat) (x : Nat), l ++ [x] <+: down n → x < n ∧ (∀ j, j ∈ l ↔ x < j ∧ j < n)
  | 0, l, x, h => by
    obtain ⟨t, ht⟩ := h
    simp [down] at ht
  | n + 1, [], x, h => by
    obtain ⟨t, ht⟩ := h
    rw [down] at ht
    simp at ht
    obtain ⟨rfl, _⟩ := ht
    exact ⟨by omega, fun j => by simp; omega⟩
  | n + 1, y :: l, x, h => by
    obtain ⟨t, ht⟩ := h
    rw [down] at ht
    simp only [List.cons_append, List.cons.injEq] at ht
    obtain ⟨rfl, ht⟩ := ht
    obtain ⟨h1, h2⟩ := down_split y l x ⟨t, ht⟩
    refine ⟨by omega, fun j => ?_⟩
    rw [List.mem_cons, h2]
    omega
def sameAt (a b : List Int) (l : List Nat) : Prop := ∀ j ∈ l, a.getD j 0 = b.getD j 0
theorem cmpI_lt {x y : Int} (h : x < y) : cmpI x y = -1 := by unfold cmpI; rw [if_pos h]
theorem cmpI_gt {x y : Int} (h : y < x) : cmpI x y = 1 := by unfold cmpI; rw [if_neg (by omega), if_pos h]
theorem cmpI_eq (x : Int) : cmpI x x = 0 := by unfold cmpI; rw [if_neg (by omega), if_neg (by omega)]
theorem cmpI_zero {x y : Int} (h : cmpI x y = 0) : x = y := by
  unfold cmpI at h
  split at h
  · omega
  · split at h <;> omega
theorem cmp_len {a b : List Int} (ha : canon a) (hb : canon b) (hl : cmpI a.length b.length ≠ 0) : cmpI a.length b.length = cmpI (val a) (val b) := by
  have lt : ∀ {a b : List Int}, canon a → canon b → a.length < b.length → val a < val b := by
    intro a b ha hb h
    have h1 := val_lt (canon_okL ha)
    have h2 := canon_ge hb (by intro e; subst e; simp at h)
    have h3 : 4294967296 ^ a.length ≤ 4294967296 ^ (b.length - 1) := Nat.pow_le_pow_right (by omega) (by omega)
    omega
  rcases Nat.lt_trichotomy a.length b.length with h | h | h
  · have := lt ha hb h
    rw [cmpI_lt (by omega), cmpI_lt (by omega)]
  · rw [h, cmpI_eq] at hl; exact absurd rfl hl
  · have := lt hb ha h
    rw [cmpI_gt (by omega), cmpI_gt (by omega)]
theorem cmp_stop {a b : List Int} (ha : okL a) (hb : okL b) (hl : a.length = b.length) {l : List Nat} {x : Nat} (h : l ++ [x] <+: down a.length) (hs : sameAt a b l) (hd : cmpI (a.getD x 0) (b.getD x 0) ≠ 0) : cmpI (a.getD x 0) (b.getD x 0) = cmpI (val a) (val b) := by
  obtain ⟨h1, h2⟩ := down_split _ _ _ h
  have he : ∀ j, x < j → j < a.length → a.getD j 0 = b.getD j 0 := fun j hj hk => hs j ((h2 j).2 ⟨hj, hk⟩)
  rcases Int.lt_trichotomy (a.getD x 0) (b.getD x 0) with h | h | h
  · have := val_differ ha hb hl h1 he h
    rw [cmpI_lt h, cmpI_lt (by omega)]
  · rw [h, cmpI_eq] at hd; exact absurd rfl hd
  · have := val_differ hb ha hl.symm (by omega) (fun j hj hk => (he j hj (by omega)).symm) h
    rw [cmpI_gt h, cmpI_gt (by omega)]
theorem cmp_done {a b : List Int} (hl : a.length = b.length) {l : List Nat} (h : l = down a.length) (hs : sameAt a b l) : cmpI (val a) (val b) = 0 := by
  have e : a = b := by
    apply List.ext_getElem hl
    intro j h1 h2
    have := hs j (by rw [h]; exact (down_mem _ _).2 h1)
    rw [List.getD_eq_getElem?_getD, List.getD_eq_getElem?_getD, List.getElem?_eq_getElem h1, List.getElem?_eq_getElem h2] at this
    exact this
  rw [e, cmpI_eq]
set_option maxRecDepth 100000 in
set_option maxHeartbeats 4000000 in
theorem compare_ne (A B : Option Addr) (ca cb : Nat) (a b : List Int) (w : World) (hl : ¬ cmpI a.length b.length = 0) :
    Calls Tryd.prog 64 #[.slice A a.length ca, .slice B b.length cb] w fun e W' => e = .returned (.int .i64 (cmpI a.length b.length)) ∧ Below w.heap.size w W' := by
  go_enter Tryd.func64, Tryd.ntmps64
  go_wp2_with fail
  refine (cmp_int a.length b.length _).mono ?_
  rintro e w' ⟨rfl, rfl⟩
  go_wp2
  refine bodyPost_ret (v := .int .i64 (cmpI a.length b.length)) (by simp [results, Tryd.f64, go_sem]) rfl ?_
  exact ⟨rfl, (((Below.refl _ w).alloc (Nat.le_refl _) _).alloc (by simp) _).alloc (by simp; omega) _⟩
set_option maxRecDepth 100000 in
set_option maxHeartbeats 4000000 in
theorem compare_in (n : Nat) (hn : 4 ≤ n) (A B : Option Addr) (ca cb : Nat) (a b : List Int) (w : World) (hCa : Kd.C (Kd.int .u32) w A a.length a) (hca : a.length ≤ ca) (hCb : Kd.C (Kd.int .u32) w B b.length b) (hcb : b.length ≤ cb) (hab : canon a ∧ canon b) (hz : a.length ≤ 1073741824) (hz' : b.length ≤ 1073741824) (hl : cmpI a.length b.length = 0) :
    CallsIn Fence.wide n Tryd.prog 64 #[.slice A a.length ca, .slice B b.length cb] w fun e W' => e = .returned (.int .i64 (cmpI (val a) (val b))) ∧ Below w.heap.size w W' := by
  have h1 : 1 ≤ n := by omega
  have HCa := Lib.hid hCa
  have HCb := Lib.hid hCb
  have HAB := Lib.hid hab
  clear hCa hCb hab
  refine callsIn_of_wp_marks Tryd.func64 rfl trivial ?_ rfl
  simp only [Tryd.ntmps64, List.size_toArray, List.length_cons, List.length_nil, Nat.reduceAdd, Nat.reduceSub, Array.replicate_succ, Array.replicate_zero, List.push_toArray, List.append_toArray, List.nil_append, List.cons_append]
  gi_wp2_with fail
  refine ⟨trivial, (callsIn_wide.2 (cmp_int a.length b.length _)).mono ?_⟩
  rintro e w' ⟨rfl, rfl⟩
  have hlen : a.length = b.length := by
    rcases Nat.lt_trichotomy a.length b.length with h | h | h
    · rw [cmpI_lt (by omega)] at hl; omega
    · exact h
    · rw [cmpI_gt (by omega)] at hl; omega
  have HLEN := Lib.hid hlen
  clear hlen
  have hA := addr_of_C HCa.out
  gi_wp2_with (refine ⟨trivial, ?_⟩; gi_at_call 68; refine (backward_in (n - 1) _ _ _ _).mono ?_; rintro e w' ⟨rfl, rfl⟩)
  have b1 := Boxed.new w 97 (.slice A a.length ca)
  have b2 := Boxed.new (w.alloc (.cells #[.slice A a.length ca] 97)) 97 (.slice B b.length cb)
  have b3 := Boxed.new ((w.alloc (.cells #[.slice A a.length ca] 97)).alloc (.cells #[.slice B b.length cb] 97)) 3 (.int .i64 0)
  have bS := Boxed.new (((w.alloc (.cells #[.slice A a.length ca] 97)).alloc (.cells #[.slice B b.length cb] 97)).alloc (.cells #[.int .i64 0] 3)) 97 (.slice A a.length ca)
  have hB0 : Below w.heap.size w ((((w.alloc (.cells #[.slice A a.length ca] 97)).alloc (.cells #[.slice B b.length cb] 97)).alloc (.cells #[.int .i64 0] 3)).alloc (.cells #[.slice A a.length ca] 97)) := ((((Below.refl _ w).alloc (Nat.le_refl _) _).alloc (by simp) _).alloc (by simp; omega) _).alloc (by simp; omega) _
  simp only [World.size_alloc] at b2 b3 bS
  have b1' := ((b1.alloc (.cells #[.slice B b.length cb] 97)).alloc (.cells #[.int .i64 0] 3)).alloc (.cells #[.slice A a.length ca] 97)
  have b2' := (b2.alloc (.cells #[.int .i64 0] 3)).alloc (.cells #[.slice A a.length ca] 97)
  have b3' := b3.alloc (.cells #[.slice A a.length ca] 97)
  obtain ⟨W0, hW0⟩ : ∃ W0, W0 = (((w.alloc (.cells #[.slice A a.length ca] 97)).alloc (.cells #[.slice B b.length cb] 97)).alloc (.cells #[.int .i64 0] 3)).alloc (.cells #[.slice A a.length ca] 97) := ⟨_, rfl⟩
  have hz0 : W0.heap.size = w.heap.size + 4 := by rw [hW0]; simp
  rw [← hW0] at hB0 b1' b2' b3' bS ⊢
  have hr : Readable A a.length W0 := readable_of_C (Kd.C_below HCa.out hB0)
  have HZ := Lib.hid hz0
  have HB0 := Lib.hid hB0
  have C1 := Lib.hid b1'.cell
  have C2 := Lib.hid b2'.cell
  have C3 := Lib.hid b3'.cell
  have F3 := Lib.hid b3'.frozen
  clear b1 b2 b3 hz0 hB0 hW0 b1' b2' b3'
  refine wpIn_rangeFunc_ownF rfl h1 (gf := 77) (lb := #[.pointer (some ⟨w.heap.size + 1 + 1 + 1, 0, none⟩)]) rfl trivial (enters_of Tryd.func77 (by kernel_rfl) rfl)
    (backward_stops (n - 1) (by omega) (w.heap.size + 1 + 1 + 1) W0.heap.size A a.length ca (by omega) W0 bS.cell hA hr) kpB_t (kpB_b (Nat.le_refl _) (by have := HZ.out; omega) hr) (Below.refl _ _) (fun _ => rfl)
    (fun (pre : List (BIt a.length)) W => sameAt a b (plc pre) ∧ Below W0.heap.size W0 W)
    (fun c (pre : List (BIt a.length)) W => (c = .ret ∧ (∃ (l : List (BIt a.length)) (x : BIt a.length), pre = l ++ [x] ∧ sameAt a b (plc l) ∧ cmpI (a.getD x.1.1 0) (b.getD x.1.1 0) ≠ 0 ∧ W.cell? ⟨w.heap.size + 1 + 1, 0, none⟩ = some (.int .i64 (cmpI (a.getD x.1.1 0) (b.getD x.1.1 0))))) ∧ Below w.heap.size w W)
    (OwnFrom.and (fun _ _ _ _ hs _ _ => hs) (ownFrom_below (Nat.le_refl _) (Nat.le_refl _)))
    (fun c => OwnFrom.and (Own.from (fun s X Y row hs hg hr => by
      obtain ⟨h0, l, x, hl, hg0, hx, hc1⟩ := hs
      exact ⟨h0, l, x, hl, hg0, hx, cell_kept hc1 hg hr⟩) _) (ownFrom_below (Nat.le_refl _) (by have := HZ.out; omega)))
    ⟨(fun _ h => by cases h), Below.refl _ _⟩
    (fun x => { tmps := #[.slice A a.length ca, .slice B b.length cb, .pointer (some ⟨w.heap.size, 0, none⟩), .pointer (some ⟨w.heap.size + 1, 0, none⟩), .pointer (some ⟨w.heap.size + 1 + 1, 0, none⟩), .int .i64 0, .int .i64 x.1.1, undef, .slice A a.length ca, .int .i64 a.length, .slice B b.length cb, .int .i64 b.length, .int .i64 0, .int .i64 0, .bool false, undef, .slice A a.length ca, .func (.func 77) #[] #[.pointer (some ⟨w.heap.size + 1 + 1 + 1, 0, none⟩)], .int .i64 x.1.1, .int .u32 x.1.2, undef, undef, undef, undef, undef, undef, undef, undef, undef, undef, undef, undef], defers := [] }) ?assign ?body ?done ?stop
  case assign =>
    intro l x W K hK
    gi_wp2
    exact hK
  case body =>
    rintro l pre x W ⟨hsame, hB⟩ _
    have hb0 := HB0.out.trans (hB.mono HB0.out.size)
    have hb1 : W0.heap.size ≤ W.heap.size := hB.size
    have hxl := x.2
    have hc1 : W.cell? ⟨w.heap.size, 0, none⟩ = some (.slice A a.length ca) := (hB.cell (p := ⟨w.heap.size, 0, none⟩) (by have := HZ.out; simp; omega)).trans C1.out
    have hc2 : W.cell? ⟨w.heap.size + 1, 0, none⟩ = some (.slice B b.length cb) := (hB.cell (p := ⟨w.heap.size + 1, 0, none⟩) (by have := HZ.out; simp; omega)).trans C2.out
    have hc3 : W.cell? ⟨w.heap.size + 1 + 1, 0, none⟩ = some (.int .i64 0) := (hB.cell (p := ⟨w.heap.size + 1 + 1, 0, none⟩) (by have := HZ.out; simp; omega)).trans C3.out
    have hf3 : W.frozen? ⟨w.heap.size + 1 + 1, 0, none⟩ = false := (hB.frozen (p := ⟨w.heap.size + 1 + 1, 0, none⟩) (by have := HZ.out; simp; omega)).trans F3.out
    obtain ⟨ada, rfl, hxa⟩ := Kd.at_int (Kd.C_below HCa.out hb0) (x.1.1 : Int) (by omega) (by omega)
    obtain ⟨adb, rfl, hxb⟩ := Kd.at_int (Kd.C_below HCb.out hb0) (x.1.1 : Int) (by omega) (by have := HLEN.out; omega)
    rw [Int.toNat_natCast, rd_nat] at hxa hxb
    have hlb : x.1.1 < b.length := by have := HLEN.out; omega
    have HSAME := Lib.hid hsame
    have HB := Lib.hid hB
    have HBB := Lib.hid hb0
    have hd : 1 ≤ n - 1 - 1 := by omega
    have hmx : Tryd.prog.follows .mixedOrders = true := by kernel_rfl
    clear hsame hB hb0
    obtain ⟨xa, hxa'⟩ : ∃ v, a.getD x.1.1 0 = v := ⟨_, rfl⟩
    obtain ⟨xb, hxb'⟩ : ∃ v, b.getD x.1.1 0 = v := ⟨_, rfl⟩
    rw [hxa'] at hxa
    rw [hxb'] at hxb
    have HXA := Lib.hid hxa'
    have HXB := Lib.hid hxb'
    clear hxa' hxb'
    have hcm : cmpI xa xb = 0 ∨ ¬ cmpI xa xb = 0 := by omega
    gi_wp2
    rcases hcm with hcm | hcm
    · refine region_quiet_round (by kernel_rfl) (by assumption) (by kernel_rfl) ?_
      repeat (gi_big_quiet_step (fail))
      refine BigFrame.wpQuietIn_want (fun _ _ _ _ => trivial) rfl ?_
      intro K hK
      gi_big_quiet_op
      gi_big_quiet_call (first | (gi_at_call 75; refine CallsIn.quiet_of_same (CallsIn.inRound l (callsIn_wide.2 (cmp_u32 _ _ _)))))
      repeat (gi_big_quiet_step (fail))
      refine wpQuietIn_nil ?_
      intro _ hw'
      obtain ⟨nq, hw2⟩ := hw'
      subst hw2
      gi_wp2
      refine ⟨⟨Nat.le_refl _, fun _ _ h _ => h⟩, ⟨pw_below_drewN (Below.refl _ _) nq, rfl, id⟩, ?_, pw_below_drewN HB.out nq⟩
      intro j hj
      rw [plc_snoc] at hj
      rcases List.mem_append.1 hj with hj | hj
      · exact HSAME.out j hj
      · simp at hj
        subst hj
        rw [HXA.out, HXB.out]
        exact cmpI_zero hcm
    · refine region_quiet_round (by kernel_rfl) (by assumption) (by kernel_rfl) ?_
      repeat (gi_big_quiet_step (fail))
      refine BigFrame.wpQuietIn_want (fun _ _ _ _ => trivial) rfl ?_
      intro K hK
      gi_big_quiet_op
      gi_big_quiet_call (first | (gi_at_call 75; refine CallsIn.quiet_of_same (CallsIn.inRound l (callsIn_wide.2 (cmp_u32 _ _ _)))))
      repeat (gi_big_quiet_step (fail))
      refine wpQuietIn_nil ?_
      intro _ hw'
      obtain ⟨nq, hw2⟩ := hw'
      subst hw2
      gi_wp2
      refine ⟨(show KeepsOthers W (W.drewN nq) from ⟨Nat.le_refl _, fun _ _ h _ => h⟩).trans (KeepsOthers.setCell _ _ _), ⟨rfl, pre, x, rfl, HSAME.out, by rw [HXA.out, HXB.out]; exact hcm, by rw [HXA.out, HXB.out]; go_simp⟩, (pw_below_drewN HBB.out nq).setCell (p := ⟨w.heap.size + 1 + 1, 0, none⟩) (by simp; omega) _⟩
  case done =>
    rintro D ys W hD hys ⟨hsame, hB⟩ hK
    have hb0 := HB0.out.trans (hB.mono HB0.out.size)
    have hb1 : W0.heap.size ≤ W.heap.size := hB.size
    have hc3 : W.cell? ⟨w.heap.size + 1 + 1, 0, none⟩ = some (.int .i64 0) := (hB.cell (p := ⟨w.heap.size + 1 + 1, 0, none⟩) (by have := HZ.out; simp; omega)).trans C3.out
    have hf3 : W.frozen? ⟨w.heap.size + 1 + 1, 0, none⟩ = false := (hB.frozen (p := ⟨w.heap.size + 1 + 1, 0, none⟩) (by have := HZ.out; simp; omega)).trans F3.out
    have HV := Lib.hid (cmp_done HLEN.out hys hsame)
    have HBB := Lib.hid hb0
    have HK := Lib.hid hK
    clear hsame hB hb0 hK
    gi_wp2
    have hK' := (KeepsOthers.setCell W ⟨w.heap.size + 1 + 1, 0, none⟩ (.int .i64 0)).same D _ HK.out rfl
    refine ⟨by simp, .inl ⟨_, _, rfl, run_takeDeferred hK', ?_⟩⟩
    have e3 : (W.setCell ⟨w.heap.size + 1 + 1, 0, none⟩ (.int .i64 0)).cell? ⟨w.heap.size + 1 + 1, 0, none⟩ = some (.int .i64 0) := by go_simp
    have k3 := cell_kept e3 (grownBy_putObj' _ D (.deferred none)) (fun r e => by cases e; exact ⟨_, hK', rfl⟩)
    refine ⟨.int .i64 0, ?_, ?_, (HBB.out.setCell (p := ⟨w.heap.size + 1 + 1, 0, none⟩) (by simp; omega) _).trans (belowK_b (w := w) (Nat.le_refl _) _ D _ _ (by have := HZ.out; omega) hK' rfl rfl)⟩
    · simp [results, Tryd.f64, go_sem, k3]
    · rw [HV.out]
  case stop =>
    rintro D c pre W hD hpre ⟨⟨rfl, l, x, rfl, hl2, hx, e2⟩, hB⟩ hK
    rw [plc_snoc] at hpre
    have HV := Lib.hid (cmp_stop (canon_okL HAB.out.1) (canon_okL HAB.out.2) HLEN.out hpre hl2 hx)
    have HB := Lib.hid hB
    have HK := Lib.hid hK
    clear hB hK hl2
    gi_wp2
    refine ⟨by simp, .inl ⟨_, _, rfl, run_takeDeferred HK.out, ?_⟩⟩
    have k2 := cell_kept e2 (grownBy_putObj' _ D (.deferred none)) (fun r e => by cases e; exact ⟨_, HK.out, rfl⟩)
    refine ⟨.int .i64 (cmpI (a.getD x.1.1 0) (b.getD x.1.1 0)), ?_, ?_, HB.out.trans (belowK_b (w := w) (Nat.le_refl _) W D _ _ (by have := HZ.out; omega) HK.out rfl rfl)⟩
    · simp [results, Tryd.f64, go_sem, k2]
    · rw [HV.out]
theorem nat_num_compare.calls (A0 : Option Addr) (c0 : Nat) (l0 : List Int) (A1 : Option Addr) (c1 : Nat) (l1 : List Int) (r : Int) (w : World) (hr0 : Kd.C (Kd.int .u32) w A0 l0.length l0) (hc0 : l0.length ≤ c0) (hr1 : Kd.C (Kd.int .u32) w A1 l1.length l1) (hc1 : l1.length ≤ c1) (h : nat_num_compare.f l0 l1 = some r) :
    Calls Tryd.prog 64 #[.slice A0 l0.length c0, .slice A1 l1.length c1] w fun e w' => e = .returned (.int .i64 r) ∧ Below w.heap.size w w' := by
  unfold nat_num_compare.f at h
  by_cases hc : (canon l0 ∧ canon l1) ∧ l0.length ≤ 1073741824 ∧ l1.length ≤ 1073741824
  case neg => rw [if_neg hc] at h; cases h
  rw [if_pos hc] at h
  obtain rfl := Option.some.inj h
  obtain ⟨h1, h2, h3⟩ := hc
  by_cases hl : cmpI l0.length l1.length = 0
  · exact callsIn_wide.1 (compare_in 4 (Nat.le_refl _) A0 A1 c0 c1 l0 l1 w hr0 hc0 hr1 hc1 h1 h2 h3 hl)
  · rw [← cmp_len h1.1 h1.2 hl]
    exact compare_ne A0 A1 c0 c1 l0 l1 w hl
end Go.Proofs.YtdgebcgcabhjoaaDoor.P

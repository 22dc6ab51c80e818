-- Written by a program for this claim. Not trusted: Lean checks it.
import Derived.Test.YtdbnpaloalhciaaProg
import Derived.Below
import Derived.Deep.Draws
import Derived.Deep.AppendLies
import Derived.Maps.AppendAt
import Derived.OwnWalk
import Derived.Laws.BytesArg
import Derived.Laws.MakeOwn
import Derived.Laws.OwnMore
import Derived.Deep.OwnRows
import Derived.Tactics
import Derived.Lib.ConvBytes
import Derived.Laws.Slices
import Derived.WalkKit
import Derived.KernelRfl
import Derived.RowKit3
import Derived.Deep.LoopGhost
import Derived.Deep.QuietTactic
import Derived.BigQuiet
import Derived.WideLaws
import Derived.Deep.DeepCutAuto
import Derived.Deep.CutBlock
import Derived.Deep.RegionHeld3
import Derived.Laws.Rows
import Derived.Lib.AppendStr
import Derived.ArgAppend
import Derived.Laws.IdiomCopy
import Derived.OrdersHeld
import Derived.Laws.BitsLemmas
import Derived.RowKit
import Derived.Test.YtdbnpaloalhciaaWWords
import Derived.Test.YtdbnpaloalhciaaWLast
import Derived.Test.YtdbnpaloalhciaaWTab
import Derived.Test.YtdbnpaloalhciaaWFour
import Derived.Test.YtdbnpaloalhciaaWQPut
import Derived.Test.YtdbnpaloalhciaaWApart
import Derived.Test.YtdbnpaloalhciaaWArr
import Derived.Test.YtdbnpaloalhciaaWZeros
import Derived.Test.YtdbnpaloalhciaaWFoot
import Derived.Test.YtdbnpaloalhciaaWKept
import Derived.Test.YtdbnpaloalhciaaWShare
import Derived.Test.YtdbnpaloalhciaaWN
import Derived.Test.YtdbnpaloalhciaaWFootNe
import Derived.Test.YtdbnpaloalhciaaWAt
import Derived.Test.YtdbnpaloalhciaaWEqStruct
import Derived.Test.YtdbnpaloalhciaaWRepsOne
import Derived.Test.YtdbnpaloalhciaaWInv
import Derived.Test.YtdbnpaloalhciaaWInvWords
import Derived.Test.YtdbnpaloalhciaaWGuard
import Derived.Test.YtdbnpaloalhciaaWNEv
import Derived.Test.YtdbnpaloalhciaaWMore
namespace Go.Proofs.Ytdbnpaloalhciaa.P
open Go.RowKit Go.Proofs.YtdbnpaloalhciaaW.PrintWords Go.Proofs.YtdbnpaloalhciaaW.PrintLast Go.Proofs.YtdbnpaloalhciaaW.PrintMore
attribute [local go_sem] max2_int min2_int max_two min_two max_three min_three max_four min_four   -- for this text's walks alone
set_option linter.unusedVariables false
set_option linter.unusedSimpArgs false



def errW : Option Int → Value
  | none => .nilIface
  | some c => .iface 0 (.int .i64 c)
theorem errW_none : errW none = .nilIface := rfl
theorem errW_some (c : Int) : errW (some c) = .iface 0 (.int .i64 c) := rfl

theorem info3 : (Try.prog.info? 3).map (fun i => (i.zero, i.size, i.bytes)) = some (some (.int .i64 0), 1, 8) := by kernel_rfl
theorem info5 : (Try.prog.info? 5).map (fun i => (i.zero, i.size, i.bytes)) = some (some (.int .u8 0), 1, 1) := by kernel_rfl
theorem info59 : (Try.prog.info? 59).map (fun i => (i.zero, i.size, i.bytes)) = some (some (.int .u32 0), 1, 4) := by kernel_rfl
-- the values' own types
def rd_L1 (xs : List (List Int)) (i : Int) : (List Int) := xs.getD i.toNat ([] : List Int)
end Go.Proofs.Ytdbnpaloalhciaa.P

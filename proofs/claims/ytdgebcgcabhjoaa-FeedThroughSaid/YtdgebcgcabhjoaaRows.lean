/-
  No cell of these rows narrows 'for every input' (looked for: loops, veiled, ifaces, maps, wideKeys, modest, calm, conditions, laid).
  DERIVED. THE GIVEN ROWS OF THIS SEAT. 4 by the template 'for every input the law returns true; each argument reads behind the call as it read before'; 0 by the template 'total and deterministic' (their statements: YtdgebcgcabhjoaaTotals.lean).
  GIVEN WITH THE SEED: the statements are not yours to turn. If you find one false, say at which input.
  Laid BY PROGRAM, IN A SANDBOX (cutbox-rows.mjs): the forced cells as the released guide's own fill.sh prints them over the translation 12a576542d874b12… (all of the seat's roots in one cut). By AI agents, Wed Nov 11 2026. No macro, syntax, notation, axiom, sorry.
-/
import Derived.Test.YtdgebcgcabhjoaaChecked
import GoSem.Claim
import GoSem.ClaimJoined
import GoSem.ClaimMapViews
import Derived.JoinedTies
import Derived.KernelRfl
namespace Go.Proofs.Ytdgebcgcabhjoaa
/- THE CELL 'sum', in the pinned program and in every row, IS THE sha256 OF THE DUMP (.gsa) THAT YtdgebcgcabhjoaaProg.lean LOADS. Nothing in Lean hashes anything: it is a label: what it is worth is what the hold of that sum in a sandbox is worth. -/
noncomputable def Try.pinned : Pinned := { name := "ytdgebcgcabhjoaa", sum := "12a576542d874b125d35b4edca2f3b377bc3a28bb4aaf1a0654ac4ca826d178c", checked := Try.checked }
namespace Rows
def none {H : Type} : Left H := { results := [], args := [] }

/-- 'bolterlaw34.FeedOrder': WHATEVER THE INPUT: true; the input reads as it did. -/
def feedOrderSpec : ChangeSpec := { name := "feedOrder", fn := fun _ => fun
  | [d1, d2] => { results := [.lit (.bool true)], args := [d1, d2] }
  | _ => none }
def feedOrderRow : OpenClaim := { program := "ytdgebcgcabhjoaa", sum := "12a576542d874b125d35b4edca2f3b377bc3a28bb4aaf1a0654ac4ca826d178c", func := "bolter/bolterlaw34.FeedOrder", spec := "feedOrder", apart := false }
def FeedOrderSaid : Prop := feedOrderRow.holds Try.pinned (OpenSpec.ofChange feedOrderSpec)

/-- ITS FALSE NEIGHBOUR: 'it returns false'. Refute it at one input. -/
def feedOrderWrong : ChangeSpec := { name := "feedOrder", fn := fun _ => fun
  | [d1, d2] => { results := [.lit (.bool false)], args := [d1, d2] }
  | _ => none }
def FeedOrderWrongFalsely : Prop := feedOrderRow.holds Try.pinned (OpenSpec.ofChange feedOrderWrong)

/-- 'bolterlaw34.FeedCloses': WHATEVER THE INPUT: true; the input reads as it did. -/
def feedClosesSpec : ChangeSpec := { name := "feedCloses", fn := fun _ => fun
  | [d1, d2, d3] => { results := [.lit (.bool true)], args := [d1, d2, d3] }
  | _ => none }
def feedClosesRow : OpenClaim := { program := "ytdgebcgcabhjoaa", sum := "12a576542d874b125d35b4edca2f3b377bc3a28bb4aaf1a0654ac4ca826d178c", func := "bolter/bolterlaw34.FeedCloses", spec := "feedCloses", apart := false }
def FeedClosesSaid : Prop := feedClosesRow.holds Try.pinned (OpenSpec.ofChange feedClosesSpec)

/-- ITS FALSE NEIGHBOUR: 'it returns false'. Refute it at one input. -/
def feedClosesWrong : ChangeSpec := { name := "feedCloses", fn := fun _ => fun
  | [d1, d2, d3] => { results := [.lit (.bool false)], args := [d1, d2, d3] }
  | _ => none }
def FeedClosesWrongFalsely : Prop := feedClosesRow.holds Try.pinned (OpenSpec.ofChange feedClosesWrong)

/-- 'bolterlaw34.FeedNone': WHATEVER THE INPUT: true; the input reads as it did. -/
def feedNoneSpec : ChangeSpec := { name := "feedNone", fn := fun _ => fun
  | [d1, d2] => { results := [.lit (.bool true)], args := [d1, d2] }
  | _ => none }
def feedNoneRow : OpenClaim := { program := "ytdgebcgcabhjoaa", sum := "12a576542d874b125d35b4edca2f3b377bc3a28bb4aaf1a0654ac4ca826d178c", func := "bolter/bolterlaw34.FeedNone", spec := "feedNone", apart := false }
def FeedNoneSaid : Prop := feedNoneRow.holds Try.pinned (OpenSpec.ofChange feedNoneSpec)

/-- ITS FALSE NEIGHBOUR: 'it returns false'. Refute it at one input. -/
def feedNoneWrong : ChangeSpec := { name := "feedNone", fn := fun _ => fun
  | [d1, d2] => { results := [.lit (.bool false)], args := [d1, d2] }
  | _ => none }
def FeedNoneWrongFalsely : Prop := feedNoneRow.holds Try.pinned (OpenSpec.ofChange feedNoneWrong)

/-- 'bolterlaw34.FeedThrough': WHATEVER THE INPUT: true; the input reads as it did. -/
def feedThroughSpec : ChangeSpec := { name := "feedThrough", fn := fun _ => fun
  | [d1, d2, d3] => { results := [.lit (.bool true)], args := [d1, d2, d3] }
  | _ => none }
def feedThroughRow : OpenClaim := { program := "ytdgebcgcabhjoaa", sum := "12a576542d874b125d35b4edca2f3b377bc3a28bb4aaf1a0654ac4ca826d178c", func := "bolter/bolterlaw34.FeedThrough", spec := "feedThrough", unfollowed := true, recurses := true, apart := false }
def FeedThroughSaid : Prop := feedThroughRow.holds Try.pinned (OpenSpec.ofChange feedThroughSpec)

/-- ITS FALSE NEIGHBOUR: 'it returns false'. Refute it at one input. -/
def feedThroughWrong : ChangeSpec := { name := "feedThrough", fn := fun _ => fun
  | [d1, d2, d3] => { results := [.lit (.bool false)], args := [d1, d2, d3] }
  | _ => none }
def FeedThroughWrongFalsely : Prop := feedThroughRow.holds Try.pinned (OpenSpec.ofChange feedThroughWrong)

/- THE SECOND FORM. 'bulk': how many values and letters a reading holds, each counted each time it is reached (what is shared counts as often as it is met; a slice's spare places count too). A statement '..UptoSaid' is the law's where the arguments, and the package variables that the reading takes, are together of bulk at most 1048576: NARROWER than '..Said'. Prove '..Said' where nothing that the law and all that it calls make is longer than what came in: it says more and counts as full. Else prove '..UptoSaid'. A law counts once. -/
mutual
def uptoBulk {H : Type} : DataW H → Nat
  | .lit (.string bytes) => bytes.length + 1
  | .lit _ => 1
  | .nil => 1
  | .ptr d => uptoBulk d + 1
  | .slice elems spare => uptoBulkAll elems + uptoBulkAll spare + 1
  | .agg parts => uptoBulkAll parts + 1
  | .iface _ d => uptoBulk d + 1
  | .map entries => uptoBulkEntries entries + 1
  | .held _ => 1
def uptoBulkAll {H : Type} : List (DataW H) → Nat
  | [] => 0
  | d :: r => uptoBulk d + uptoBulkAll r
def uptoBulkEntries {H : Type} : List (Lit × DataW H) → Nat
  | [] => 0
  | x :: r => uptoBulkEntry x + uptoBulkEntries r
def uptoBulkEntry {H : Type} : Lit × DataW H → Nat
  | (.string bytes, d) => bytes.length + uptoBulk d + 1
  | (_, d) => uptoBulk d + 1
 end
def uptoSmall : (H : Type) → List (DataW H) → Bool := fun _ ds => decide (uptoBulkAll ds ≤ 1048576)
def OpenSpec.upto (s : _root_.Go.ChangeSpec) : _root_.Go.OpenSpec := { _root_.Go.OpenSpec.ofChange s with cond := some uptoSmall }

/-- 'bolterlaw34.FeedOrder', WHERE WHAT IT READS IS OF BULK AT MOST 1048576: true; the input reads as it did. -/
def feedOrderUptoRow : OpenClaim := { program := "ytdgebcgcabhjoaa", sum := "12a576542d874b125d35b4edca2f3b377bc3a28bb4aaf1a0654ac4ca826d178c", func := "bolter/bolterlaw34.FeedOrder", spec := "feedOrder", apart := false, narrowed := true }
def FeedOrderUptoSaid : Prop := feedOrderUptoRow.holds Try.pinned (OpenSpec.upto feedOrderSpec)

/-- 'bolterlaw34.FeedCloses', WHERE WHAT IT READS IS OF BULK AT MOST 1048576: true; the input reads as it did. -/
def feedClosesUptoRow : OpenClaim := { program := "ytdgebcgcabhjoaa", sum := "12a576542d874b125d35b4edca2f3b377bc3a28bb4aaf1a0654ac4ca826d178c", func := "bolter/bolterlaw34.FeedCloses", spec := "feedCloses", apart := false, narrowed := true }
def FeedClosesUptoSaid : Prop := feedClosesUptoRow.holds Try.pinned (OpenSpec.upto feedClosesSpec)

/-- 'bolterlaw34.FeedNone', WHERE WHAT IT READS IS OF BULK AT MOST 1048576: true; the input reads as it did. -/
def feedNoneUptoRow : OpenClaim := { program := "ytdgebcgcabhjoaa", sum := "12a576542d874b125d35b4edca2f3b377bc3a28bb4aaf1a0654ac4ca826d178c", func := "bolter/bolterlaw34.FeedNone", spec := "feedNone", apart := false, narrowed := true }
def FeedNoneUptoSaid : Prop := feedNoneUptoRow.holds Try.pinned (OpenSpec.upto feedNoneSpec)

/-- 'bolterlaw34.FeedThrough', WHERE WHAT IT READS IS OF BULK AT MOST 1048576: true; the input reads as it did. -/
def feedThroughUptoRow : OpenClaim := { program := "ytdgebcgcabhjoaa", sum := "12a576542d874b125d35b4edca2f3b377bc3a28bb4aaf1a0654ac4ca826d178c", func := "bolter/bolterlaw34.FeedThrough", spec := "feedThrough", unfollowed := true, recurses := true, apart := false, narrowed := true }
def FeedThroughUptoSaid : Prop := feedThroughUptoRow.holds Try.pinned (OpenSpec.upto feedThroughSpec)

end Rows
end Go.Proofs.Ytdgebcgcabhjoaa

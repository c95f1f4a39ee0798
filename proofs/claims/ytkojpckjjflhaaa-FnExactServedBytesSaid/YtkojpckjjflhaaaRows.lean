/-
  No cell of these rows narrows 'for every input' (looked for: loops, veiled, ifaces, maps, wideKeys, modest, calm, conditions, laid).
  DERIVED. THE GIVEN ROWS OF THIS SEAT. 8 by the template 'for every input the law returns true; each argument reads behind the call as it read before'; 0 by the template 'total and deterministic' (their statements: YtkojpckjjflhaaaTotals.lean).
  GIVEN WITH THE SEED: the statements are not yours to turn. If you find one false, say at which input.
  Laid BY PROGRAM, IN A SANDBOX (cutbox-rows.mjs): the forced cells as the released guide's own fill.sh prints them over the translation 007834ef9dd791d6… (all of the seat's roots in one cut). By AI agents, Wed Nov 11 2026. No macro, syntax, notation, axiom, sorry.
-/
import Derived.Test.YtkojpckjjflhaaaChecked
import GoSem.Claim
import GoSem.ClaimJoined
import GoSem.ClaimMapViews
import Derived.JoinedTies
import Derived.KernelRfl
namespace Go.Proofs.Ytkojpckjjflhaaa
/- THE CELL 'sum', in the pinned program and in every row, IS THE sha256 OF THE DUMP (.gsa) THAT YtkojpckjjflhaaaProg.lean LOADS. Nothing in Lean hashes anything: it is a label: what it is worth is what the hold of that sum in a sandbox is worth. -/
noncomputable def Try.pinned : Pinned := { name := "ytkojpckjjflhaaa", sum := "007834ef9dd791d63bed1db2e6521a91b1771181ac7c3d9390edd4d872cc83d6", checked := Try.checked }
namespace Rows
def none {H : Type} : Left H := { results := [], args := [] }

/-- 'laws.FnExactHeadroom': WHATEVER THE INPUT: true; the input reads as it did. -/
def fnExactHeadroomSpec : ChangeSpec := { name := "fnExactHeadroom", fn := fun _ => fun
  | [d1, d2] => { results := [.lit (.bool true)], args := [d1, d2] }
  | _ => none }
def fnExactHeadroomRow : OpenClaim := { program := "ytkojpckjjflhaaa", sum := "007834ef9dd791d63bed1db2e6521a91b1771181ac7c3d9390edd4d872cc83d6", func := "loop.example/g03312/laws.FnExactHeadroom", spec := "fnExactHeadroom", apart := false }
def FnExactHeadroomSaid : Prop := fnExactHeadroomRow.holds Try.pinned (OpenSpec.ofChange fnExactHeadroomSpec)

/-- ITS FALSE NEIGHBOUR: 'it returns false'. Refute it at one input. -/
def fnExactHeadroomWrong : ChangeSpec := { name := "fnExactHeadroom", fn := fun _ => fun
  | [d1, d2] => { results := [.lit (.bool false)], args := [d1, d2] }
  | _ => none }
def FnExactHeadroomWrongFalsely : Prop := fnExactHeadroomRow.holds Try.pinned (OpenSpec.ofChange fnExactHeadroomWrong)

/-- 'laws.FnExactBucketOk': WHATEVER THE INPUT: true; the input reads as it did. -/
def fnExactBucketOkSpec : ChangeSpec := { name := "fnExactBucketOk", fn := fun _ => fun
  | [d] => { results := [.lit (.bool true)], args := [d] }
  | _ => none }
def fnExactBucketOkRow : OpenClaim := { program := "ytkojpckjjflhaaa", sum := "007834ef9dd791d63bed1db2e6521a91b1771181ac7c3d9390edd4d872cc83d6", func := "loop.example/g03312/laws.FnExactBucketOk", spec := "fnExactBucketOk", apart := false }
def FnExactBucketOkSaid : Prop := fnExactBucketOkRow.holds Try.pinned (OpenSpec.ofChange fnExactBucketOkSpec)

/-- ITS FALSE NEIGHBOUR: 'it returns false'. Refute it at one input. -/
def fnExactBucketOkWrong : ChangeSpec := { name := "fnExactBucketOk", fn := fun _ => fun
  | [d] => { results := [.lit (.bool false)], args := [d] }
  | _ => none }
def FnExactBucketOkWrongFalsely : Prop := fnExactBucketOkRow.holds Try.pinned (OpenSpec.ofChange fnExactBucketOkWrong)

/-- 'laws.FnExactCompletionOk': WHATEVER THE INPUT: true; the input reads as it did. -/
def fnExactCompletionOkSpec : ChangeSpec := { name := "fnExactCompletionOk", fn := fun _ => fun
  | [d] => { results := [.lit (.bool true)], args := [d] }
  | _ => none }
def fnExactCompletionOkRow : OpenClaim := { program := "ytkojpckjjflhaaa", sum := "007834ef9dd791d63bed1db2e6521a91b1771181ac7c3d9390edd4d872cc83d6", func := "loop.example/g03312/laws.FnExactCompletionOk", spec := "fnExactCompletionOk", apart := false }
def FnExactCompletionOkSaid : Prop := fnExactCompletionOkRow.holds Try.pinned (OpenSpec.ofChange fnExactCompletionOkSpec)

/-- ITS FALSE NEIGHBOUR: 'it returns false'. Refute it at one input. -/
def fnExactCompletionOkWrong : ChangeSpec := { name := "fnExactCompletionOk", fn := fun _ => fun
  | [d] => { results := [.lit (.bool false)], args := [d] }
  | _ => none }
def FnExactCompletionOkWrongFalsely : Prop := fnExactCompletionOkRow.holds Try.pinned (OpenSpec.ofChange fnExactCompletionOkWrong)

/-- 'laws.FnExactQueueOk': WHATEVER THE INPUT: true; the input reads as it did. -/
def fnExactQueueOkSpec : ChangeSpec := { name := "fnExactQueueOk", fn := fun _ => fun
  | [d] => { results := [.lit (.bool true)], args := [d] }
  | _ => none }
def fnExactQueueOkRow : OpenClaim := { program := "ytkojpckjjflhaaa", sum := "007834ef9dd791d63bed1db2e6521a91b1771181ac7c3d9390edd4d872cc83d6", func := "loop.example/g03312/laws.FnExactQueueOk", spec := "fnExactQueueOk", apart := false }
def FnExactQueueOkSaid : Prop := fnExactQueueOkRow.holds Try.pinned (OpenSpec.ofChange fnExactQueueOkSpec)

/-- ITS FALSE NEIGHBOUR: 'it returns false'. Refute it at one input. -/
def fnExactQueueOkWrong : ChangeSpec := { name := "fnExactQueueOk", fn := fun _ => fun
  | [d] => { results := [.lit (.bool false)], args := [d] }
  | _ => none }
def FnExactQueueOkWrongFalsely : Prop := fnExactQueueOkRow.holds Try.pinned (OpenSpec.ofChange fnExactQueueOkWrong)

/-- 'laws.FnExactVectorOk': WHATEVER THE INPUT: true; the input reads as it did. -/
def fnExactVectorOkSpec : ChangeSpec := { name := "fnExactVectorOk", fn := fun _ => fun
  | [d] => { results := [.lit (.bool true)], args := [d] }
  | _ => none }
def fnExactVectorOkRow : OpenClaim := { program := "ytkojpckjjflhaaa", sum := "007834ef9dd791d63bed1db2e6521a91b1771181ac7c3d9390edd4d872cc83d6", func := "loop.example/g03312/laws.FnExactVectorOk", spec := "fnExactVectorOk", apart := false }
def FnExactVectorOkSaid : Prop := fnExactVectorOkRow.holds Try.pinned (OpenSpec.ofChange fnExactVectorOkSpec)

/-- ITS FALSE NEIGHBOUR: 'it returns false'. Refute it at one input. -/
def fnExactVectorOkWrong : ChangeSpec := { name := "fnExactVectorOk", fn := fun _ => fun
  | [d] => { results := [.lit (.bool false)], args := [d] }
  | _ => none }
def FnExactVectorOkWrongFalsely : Prop := fnExactVectorOkRow.holds Try.pinned (OpenSpec.ofChange fnExactVectorOkWrong)

/-- 'laws.FnExactServedBytes': WHATEVER THE INPUT: true; the input reads as it did. -/
def fnExactServedBytesSpec : ChangeSpec := { name := "fnExactServedBytes", fn := fun _ => fun
  | [d1, d2, d3] => { results := [.lit (.bool true)], args := [d1, d2, d3] }
  | _ => none }
def fnExactServedBytesRow : OpenClaim := { program := "ytkojpckjjflhaaa", sum := "007834ef9dd791d63bed1db2e6521a91b1771181ac7c3d9390edd4d872cc83d6", func := "loop.example/g03312/laws.FnExactServedBytes", spec := "fnExactServedBytes", apart := false }
def FnExactServedBytesSaid : Prop := fnExactServedBytesRow.holds Try.pinned (OpenSpec.ofChange fnExactServedBytesSpec)

/-- ITS FALSE NEIGHBOUR: 'it returns false'. Refute it at one input. -/
def fnExactServedBytesWrong : ChangeSpec := { name := "fnExactServedBytes", fn := fun _ => fun
  | [d1, d2, d3] => { results := [.lit (.bool false)], args := [d1, d2, d3] }
  | _ => none }
def FnExactServedBytesWrongFalsely : Prop := fnExactServedBytesRow.holds Try.pinned (OpenSpec.ofChange fnExactServedBytesWrong)

/-- 'laws.FnPauseHolds': WHATEVER THE INPUT: true; the input reads as it did. -/
def fnPauseHoldsSpec : ChangeSpec := { name := "fnPauseHolds", fn := fun _ => fun
  | [d] => { results := [.lit (.bool true)], args := [d] }
  | _ => none }
def fnPauseHoldsRow : OpenClaim := { program := "ytkojpckjjflhaaa", sum := "007834ef9dd791d63bed1db2e6521a91b1771181ac7c3d9390edd4d872cc83d6", func := "loop.example/g03312/laws.FnPauseHolds", spec := "fnPauseHolds", apart := false }
def FnPauseHoldsSaid : Prop := fnPauseHoldsRow.holds Try.pinned (OpenSpec.ofChange fnPauseHoldsSpec)

/-- ITS FALSE NEIGHBOUR: 'it returns false'. Refute it at one input. -/
def fnPauseHoldsWrong : ChangeSpec := { name := "fnPauseHolds", fn := fun _ => fun
  | [d] => { results := [.lit (.bool false)], args := [d] }
  | _ => none }
def FnPauseHoldsWrongFalsely : Prop := fnPauseHoldsRow.holds Try.pinned (OpenSpec.ofChange fnPauseHoldsWrong)

/-- 'laws.FnExactWaitTicks': WHATEVER THE INPUT: true; the input reads as it did. -/
def fnExactWaitTicksSpec : ChangeSpec := { name := "fnExactWaitTicks", fn := fun _ => fun
  | [d1, d2] => { results := [.lit (.bool true)], args := [d1, d2] }
  | _ => none }
def fnExactWaitTicksRow : OpenClaim := { program := "ytkojpckjjflhaaa", sum := "007834ef9dd791d63bed1db2e6521a91b1771181ac7c3d9390edd4d872cc83d6", func := "loop.example/g03312/laws.FnExactWaitTicks", spec := "fnExactWaitTicks", apart := false }
def FnExactWaitTicksSaid : Prop := fnExactWaitTicksRow.holds Try.pinned (OpenSpec.ofChange fnExactWaitTicksSpec)

/-- ITS FALSE NEIGHBOUR: 'it returns false'. Refute it at one input. -/
def fnExactWaitTicksWrong : ChangeSpec := { name := "fnExactWaitTicks", fn := fun _ => fun
  | [d1, d2] => { results := [.lit (.bool false)], args := [d1, d2] }
  | _ => none }
def FnExactWaitTicksWrongFalsely : Prop := fnExactWaitTicksRow.holds Try.pinned (OpenSpec.ofChange fnExactWaitTicksWrong)

/- THE SECOND FORM. 'bulk': how many values and letters a reading holds, each counted each time it is reached (what is shared counts as often as it is met; a slice's spare places count too). A statement '..UptoSaid' is the law's where the arguments, and the package variables that the reading takes, are together of bulk at most 1048576: NARROWER than '..Said'. Prove '..Said' where nothing that the law and all that it calls make is longer than what came in: it says more and counts as full. Else prove '..UptoSaid'. A law counts once. -/
mutual
def uptoBulk {H : Type} : DataW H → Nat
  | .lit (.string bytes) => bytes.length + 1
  | .lit _ => 1
  | .nil => 1
  | .ptr d => uptoBulk d + 1
  | .slice elems spare => uptoBulkAll elems + uptoBulkAll spare + 1
  | .agg parts => uptoBulkAll parts + 1
  | .iface _ d => uptoBulk d + 1
  | .map entries => uptoBulkEntries entries + 1
  | .held _ => 1
def uptoBulkAll {H : Type} : List (DataW H) → Nat
  | [] => 0
  | d :: r => uptoBulk d + uptoBulkAll r
def uptoBulkEntries {H : Type} : List (Lit × DataW H) → Nat
  | [] => 0
  | x :: r => uptoBulkEntry x + uptoBulkEntries r
def uptoBulkEntry {H : Type} : Lit × DataW H → Nat
  | (.string bytes, d) => bytes.length + uptoBulk d + 1
  | (_, d) => uptoBulk d + 1
 end
def uptoSmall : (H : Type) → List (DataW H) → Bool := fun _ ds => decide (uptoBulkAll ds ≤ 1048576)
def OpenSpec.upto (s : _root_.Go.ChangeSpec) : _root_.Go.OpenSpec := { _root_.Go.OpenSpec.ofChange s with cond := some uptoSmall }

/-- 'laws.FnExactHeadroom', WHERE WHAT IT READS IS OF BULK AT MOST 1048576: true; the input reads as it did. -/
def fnExactHeadroomUptoRow : OpenClaim := { program := "ytkojpckjjflhaaa", sum := "007834ef9dd791d63bed1db2e6521a91b1771181ac7c3d9390edd4d872cc83d6", func := "loop.example/g03312/laws.FnExactHeadroom", spec := "fnExactHeadroom", apart := false, narrowed := true }
def FnExactHeadroomUptoSaid : Prop := fnExactHeadroomUptoRow.holds Try.pinned (OpenSpec.upto fnExactHeadroomSpec)

/-- 'laws.FnExactBucketOk', WHERE WHAT IT READS IS OF BULK AT MOST 1048576: true; the input reads as it did. -/
def fnExactBucketOkUptoRow : OpenClaim := { program := "ytkojpckjjflhaaa", sum := "007834ef9dd791d63bed1db2e6521a91b1771181ac7c3d9390edd4d872cc83d6", func := "loop.example/g03312/laws.FnExactBucketOk", spec := "fnExactBucketOk", apart := false, narrowed := true }
def FnExactBucketOkUptoSaid : Prop := fnExactBucketOkUptoRow.holds Try.pinned (OpenSpec.upto fnExactBucketOkSpec)

/-- 'laws.FnExactCompletionOk', WHERE WHAT IT READS IS OF BULK AT MOST 1048576: true; the input reads as it did. -/
def fnExactCompletionOkUptoRow : OpenClaim := { program := "ytkojpckjjflhaaa", sum := "007834ef9dd791d63bed1db2e6521a91b1771181ac7c3d9390edd4d872cc83d6", func := "loop.example/g03312/laws.FnExactCompletionOk", spec := "fnExactCompletionOk", apart := false, narrowed := true }
def FnExactCompletionOkUptoSaid : Prop := fnExactCompletionOkUptoRow.holds Try.pinned (OpenSpec.upto fnExactCompletionOkSpec)

/-- 'laws.FnExactQueueOk', WHERE WHAT IT READS IS OF BULK AT MOST 1048576: true; the input reads as it did. -/
def fnExactQueueOkUptoRow : OpenClaim := { program := "ytkojpckjjflhaaa", sum := "007834ef9dd791d63bed1db2e6521a91b1771181ac7c3d9390edd4d872cc83d6", func := "loop.example/g03312/laws.FnExactQueueOk", spec := "fnExactQueueOk", apart := false, narrowed := true }
def FnExactQueueOkUptoSaid : Prop := fnExactQueueOkUptoRow.holds Try.pinned (OpenSpec.upto fnExactQueueOkSpec)

/-- 'laws.FnExactVectorOk', WHERE WHAT IT READS IS OF BULK AT MOST 1048576: true; the input reads as it did. -/
def fnExactVectorOkUptoRow : OpenClaim := { program := "ytkojpckjjflhaaa", sum := "007834ef9dd791d63bed1db2e6521a91b1771181ac7c3d9390edd4d872cc83d6", func := "loop.example/g03312/laws.FnExactVectorOk", spec := "fnExactVectorOk", apart := false, narrowed := true }
def FnExactVectorOkUptoSaid : Prop := fnExactVectorOkUptoRow.holds Try.pinned (OpenSpec.upto fnExactVectorOkSpec)

/-- 'laws.FnExactServedBytes', WHERE WHAT IT READS IS OF BULK AT MOST 1048576: true; the input reads as it did. -/
def fnExactServedBytesUptoRow : OpenClaim := { program := "ytkojpckjjflhaaa", sum := "007834ef9dd791d63bed1db2e6521a91b1771181ac7c3d9390edd4d872cc83d6", func := "loop.example/g03312/laws.FnExactServedBytes", spec := "fnExactServedBytes", apart := false, narrowed := true }
def FnExactServedBytesUptoSaid : Prop := fnExactServedBytesUptoRow.holds Try.pinned (OpenSpec.upto fnExactServedBytesSpec)

/-- 'laws.FnPauseHolds', WHERE WHAT IT READS IS OF BULK AT MOST 1048576: true; the input reads as it did. -/
def fnPauseHoldsUptoRow : OpenClaim := { program := "ytkojpckjjflhaaa", sum := "007834ef9dd791d63bed1db2e6521a91b1771181ac7c3d9390edd4d872cc83d6", func := "loop.example/g03312/laws.FnPauseHolds", spec := "fnPauseHolds", apart := false, narrowed := true }
def FnPauseHoldsUptoSaid : Prop := fnPauseHoldsUptoRow.holds Try.pinned (OpenSpec.upto fnPauseHoldsSpec)

/-- 'laws.FnExactWaitTicks', WHERE WHAT IT READS IS OF BULK AT MOST 1048576: true; the input reads as it did. -/
def fnExactWaitTicksUptoRow : OpenClaim := { program := "ytkojpckjjflhaaa", sum := "007834ef9dd791d63bed1db2e6521a91b1771181ac7c3d9390edd4d872cc83d6", func := "loop.example/g03312/laws.FnExactWaitTicks", spec := "fnExactWaitTicks", apart := false, narrowed := true }
def FnExactWaitTicksUptoSaid : Prop := fnExactWaitTicksUptoRow.holds Try.pinned (OpenSpec.upto fnExactWaitTicksSpec)

end Rows
end Go.Proofs.Ytkojpckjjflhaaa

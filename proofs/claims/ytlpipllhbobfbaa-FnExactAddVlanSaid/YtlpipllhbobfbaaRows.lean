/-
  No cell of these rows narrows 'for every input' (looked for: loops, veiled, ifaces, maps, wideKeys, modest, calm, conditions, laid).
  DERIVED. THE GIVEN ROWS OF THIS SEAT. 12 by the template 'for every input the law returns true; each argument reads behind the call as it read before'; 0 by the template 'total and deterministic' (their statements: YtlpipllhbobfbaaTotals.lean).
  GIVEN WITH THE SEED: the statements are not yours to turn. If you find one false, say at which input.
  Laid BY PROGRAM, IN A SANDBOX (cutbox-rows.mjs): the forced cells as the released guide's own fill.sh prints them over the translation d0cac4e8809c9772… (all of the seat's roots in one cut). By AI agents, Wed Nov 11 2026. No macro, syntax, notation, axiom, sorry.
-/
import Derived.Test.YtlpipllhbobfbaaChecked
import GoSem.Claim
import GoSem.ClaimJoined
import GoSem.ClaimMapViews
import Derived.JoinedTies
import Derived.KernelRfl
namespace Go.Proofs.Ytlpipllhbobfbaa
/- THE CELL 'sum', in the pinned program and in every row, IS THE sha256 OF THE DUMP (.gsa) THAT YtlpipllhbobfbaaProg.lean LOADS. Nothing in Lean hashes anything: it is a label: what it is worth is what the hold of that sum in a sandbox is worth. -/
noncomputable def Try.pinned : Pinned := { name := "ytlpipllhbobfbaa", sum := "d0cac4e8809c9772f60101e6afee9ca2902b11c7d7279e4cb5cebad9b800a3eb", checked := Try.checked }
namespace Rows
def none {H : Type} : Left H := { results := [], args := [] }

/-- 'laws.FnExactTickVector': WHATEVER THE INPUT: true; the input reads as it did. -/
def fnExactTickVectorSpec : ChangeSpec := { name := "fnExactTickVector", fn := fun _ => fun
  | [d] => { results := [.lit (.bool true)], args := [d] }
  | _ => none }
def fnExactTickVectorRow : OpenClaim := { program := "ytlpipllhbobfbaa", sum := "d0cac4e8809c9772f60101e6afee9ca2902b11c7d7279e4cb5cebad9b800a3eb", func := "loop.example/g03312/laws.FnExactTickVector", spec := "fnExactTickVector", apart := false }
def FnExactTickVectorSaid : Prop := fnExactTickVectorRow.holds Try.pinned (OpenSpec.ofChange fnExactTickVectorSpec)

/-- ITS FALSE NEIGHBOUR: 'it returns false'. Refute it at one input. -/
def fnExactTickVectorWrong : ChangeSpec := { name := "fnExactTickVector", fn := fun _ => fun
  | [d] => { results := [.lit (.bool false)], args := [d] }
  | _ => none }
def FnExactTickVectorWrongFalsely : Prop := fnExactTickVectorRow.holds Try.pinned (OpenSpec.ofChange fnExactTickVectorWrong)

/-- 'laws.FnRateBound': WHATEVER THE INPUT: true; the input reads as it did. -/
def fnRateBoundSpec : ChangeSpec := { name := "fnRateBound", fn := fun _ => fun
  | [d] => { results := [.lit (.bool true)], args := [d] }
  | _ => none }
def fnRateBoundRow : OpenClaim := { program := "ytlpipllhbobfbaa", sum := "d0cac4e8809c9772f60101e6afee9ca2902b11c7d7279e4cb5cebad9b800a3eb", func := "loop.example/g03312/laws.FnRateBound", spec := "fnRateBound", apart := false }
def FnRateBoundSaid : Prop := fnRateBoundRow.holds Try.pinned (OpenSpec.ofChange fnRateBoundSpec)

/-- ITS FALSE NEIGHBOUR: 'it returns false'. Refute it at one input. -/
def fnRateBoundWrong : ChangeSpec := { name := "fnRateBound", fn := fun _ => fun
  | [d] => { results := [.lit (.bool false)], args := [d] }
  | _ => none }
def FnRateBoundWrongFalsely : Prop := fnRateBoundRow.holds Try.pinned (OpenSpec.ofChange fnRateBoundWrong)

/-- 'laws.FnWaiting': WHATEVER THE INPUT: true; the input reads as it did. -/
def fnWaitingSpec : ChangeSpec := { name := "fnWaiting", fn := fun _ => fun
  | [d] => { results := [.lit (.bool true)], args := [d] }
  | _ => none }
def fnWaitingRow : OpenClaim := { program := "ytlpipllhbobfbaa", sum := "d0cac4e8809c9772f60101e6afee9ca2902b11c7d7279e4cb5cebad9b800a3eb", func := "loop.example/g03312/laws.FnWaiting", spec := "fnWaiting", apart := false }
def FnWaitingSaid : Prop := fnWaitingRow.holds Try.pinned (OpenSpec.ofChange fnWaitingSpec)

/-- ITS FALSE NEIGHBOUR: 'it returns false'. Refute it at one input. -/
def fnWaitingWrong : ChangeSpec := { name := "fnWaiting", fn := fun _ => fun
  | [d] => { results := [.lit (.bool false)], args := [d] }
  | _ => none }
def FnWaitingWrongFalsely : Prop := fnWaitingRow.holds Try.pinned (OpenSpec.ofChange fnWaitingWrong)

/-- 'laws.FnExactPaceLengths': WHATEVER THE INPUT: true; the input reads as it did. -/
def fnExactPaceLengthsSpec : ChangeSpec := { name := "fnExactPaceLengths", fn := fun _ => fun
  | [d1, d2, d3] => { results := [.lit (.bool true)], args := [d1, d2, d3] }
  | _ => none }
def fnExactPaceLengthsRow : OpenClaim := { program := "ytlpipllhbobfbaa", sum := "d0cac4e8809c9772f60101e6afee9ca2902b11c7d7279e4cb5cebad9b800a3eb", func := "loop.example/g03312/laws.FnExactPaceLengths", spec := "fnExactPaceLengths", apart := false }
def FnExactPaceLengthsSaid : Prop := fnExactPaceLengthsRow.holds Try.pinned (OpenSpec.ofChange fnExactPaceLengthsSpec)

/-- ITS FALSE NEIGHBOUR: 'it returns false'. Refute it at one input. -/
def fnExactPaceLengthsWrong : ChangeSpec := { name := "fnExactPaceLengths", fn := fun _ => fun
  | [d1, d2, d3] => { results := [.lit (.bool false)], args := [d1, d2, d3] }
  | _ => none }
def FnExactPaceLengthsWrongFalsely : Prop := fnExactPaceLengthsRow.holds Try.pinned (OpenSpec.ofChange fnExactPaceLengthsWrong)

/-- 'laws.FnExactAccepts': WHATEVER THE INPUT: true; the input reads as it did. -/
def fnExactAcceptsSpec : ChangeSpec := { name := "fnExactAccepts", fn := fun _ => fun
  | [d1, d2] => { results := [.lit (.bool true)], args := [d1, d2] }
  | _ => none }
def fnExactAcceptsRow : OpenClaim := { program := "ytlpipllhbobfbaa", sum := "d0cac4e8809c9772f60101e6afee9ca2902b11c7d7279e4cb5cebad9b800a3eb", func := "loop.example/g03312/laws.FnExactAccepts", spec := "fnExactAccepts", apart := false }
def FnExactAcceptsSaid : Prop := fnExactAcceptsRow.holds Try.pinned (OpenSpec.ofChange fnExactAcceptsSpec)

/-- ITS FALSE NEIGHBOUR: 'it returns false'. Refute it at one input. -/
def fnExactAcceptsWrong : ChangeSpec := { name := "fnExactAccepts", fn := fun _ => fun
  | [d1, d2] => { results := [.lit (.bool false)], args := [d1, d2] }
  | _ => none }
def FnExactAcceptsWrongFalsely : Prop := fnExactAcceptsRow.holds Try.pinned (OpenSpec.ofChange fnExactAcceptsWrong)

/-- 'laws.FnExactFairOk': WHATEVER THE INPUT: true; the input reads as it did. -/
def fnExactFairOkSpec : ChangeSpec := { name := "fnExactFairOk", fn := fun _ => fun
  | [d] => { results := [.lit (.bool true)], args := [d] }
  | _ => none }
def fnExactFairOkRow : OpenClaim := { program := "ytlpipllhbobfbaa", sum := "d0cac4e8809c9772f60101e6afee9ca2902b11c7d7279e4cb5cebad9b800a3eb", func := "loop.example/g03312/laws.FnExactFairOk", spec := "fnExactFairOk", apart := false }
def FnExactFairOkSaid : Prop := fnExactFairOkRow.holds Try.pinned (OpenSpec.ofChange fnExactFairOkSpec)

/-- ITS FALSE NEIGHBOUR: 'it returns false'. Refute it at one input. -/
def fnExactFairOkWrong : ChangeSpec := { name := "fnExactFairOk", fn := fun _ => fun
  | [d] => { results := [.lit (.bool false)], args := [d] }
  | _ => none }
def FnExactFairOkWrongFalsely : Prop := fnExactFairOkRow.holds Try.pinned (OpenSpec.ofChange fnExactFairOkWrong)

/-- 'laws.FnExactDropVlan': WHATEVER THE INPUT: true; the input reads as it did. -/
def fnExactDropVlanSpec : ChangeSpec := { name := "fnExactDropVlan", fn := fun _ => fun
  | [d1, d2] => { results := [.lit (.bool true)], args := [d1, d2] }
  | _ => none }
def fnExactDropVlanRow : OpenClaim := { program := "ytlpipllhbobfbaa", sum := "d0cac4e8809c9772f60101e6afee9ca2902b11c7d7279e4cb5cebad9b800a3eb", func := "loop.example/g03312/laws.FnExactDropVlan", spec := "fnExactDropVlan", apart := false }
def FnExactDropVlanSaid : Prop := fnExactDropVlanRow.holds Try.pinned (OpenSpec.ofChange fnExactDropVlanSpec)

/-- ITS FALSE NEIGHBOUR: 'it returns false'. Refute it at one input. -/
def fnExactDropVlanWrong : ChangeSpec := { name := "fnExactDropVlan", fn := fun _ => fun
  | [d1, d2] => { results := [.lit (.bool false)], args := [d1, d2] }
  | _ => none }
def FnExactDropVlanWrongFalsely : Prop := fnExactDropVlanRow.holds Try.pinned (OpenSpec.ofChange fnExactDropVlanWrong)

/-- 'laws.FnExactNewFair': WHATEVER THE INPUT: true; the input reads as it did. -/
def fnExactNewFairSpec : ChangeSpec := { name := "fnExactNewFair", fn := fun _ => fun
  | [d1, d2] => { results := [.lit (.bool true)], args := [d1, d2] }
  | _ => none }
def fnExactNewFairRow : OpenClaim := { program := "ytlpipllhbobfbaa", sum := "d0cac4e8809c9772f60101e6afee9ca2902b11c7d7279e4cb5cebad9b800a3eb", func := "loop.example/g03312/laws.FnExactNewFair", spec := "fnExactNewFair", apart := false }
def FnExactNewFairSaid : Prop := fnExactNewFairRow.holds Try.pinned (OpenSpec.ofChange fnExactNewFairSpec)

/-- ITS FALSE NEIGHBOUR: 'it returns false'. Refute it at one input. -/
def fnExactNewFairWrong : ChangeSpec := { name := "fnExactNewFair", fn := fun _ => fun
  | [d1, d2] => { results := [.lit (.bool false)], args := [d1, d2] }
  | _ => none }
def FnExactNewFairWrongFalsely : Prop := fnExactNewFairRow.holds Try.pinned (OpenSpec.ofChange fnExactNewFairWrong)

/-- 'laws.FnExactAddVlan': WHATEVER THE INPUT: true; the input reads as it did. -/
def fnExactAddVlanSpec : ChangeSpec := { name := "fnExactAddVlan", fn := fun _ => fun
  | [d1, d2] => { results := [.lit (.bool true)], args := [d1, d2] }
  | _ => none }
def fnExactAddVlanRow : OpenClaim := { program := "ytlpipllhbobfbaa", sum := "d0cac4e8809c9772f60101e6afee9ca2902b11c7d7279e4cb5cebad9b800a3eb", func := "loop.example/g03312/laws.FnExactAddVlan", spec := "fnExactAddVlan", apart := false }
def FnExactAddVlanSaid : Prop := fnExactAddVlanRow.holds Try.pinned (OpenSpec.ofChange fnExactAddVlanSpec)

/-- ITS FALSE NEIGHBOUR: 'it returns false'. Refute it at one input. -/
def fnExactAddVlanWrong : ChangeSpec := { name := "fnExactAddVlan", fn := fun _ => fun
  | [d1, d2] => { results := [.lit (.bool false)], args := [d1, d2] }
  | _ => none }
def FnExactAddVlanWrongFalsely : Prop := fnExactAddVlanRow.holds Try.pinned (OpenSpec.ofChange fnExactAddVlanWrong)

/-- 'laws.FnInterruptComes': WHATEVER THE INPUT: true; the input reads as it did. -/
def fnInterruptComesSpec : ChangeSpec := { name := "fnInterruptComes", fn := fun _ => fun
  | [d] => { results := [.lit (.bool true)], args := [d] }
  | _ => none }
def fnInterruptComesRow : OpenClaim := { program := "ytlpipllhbobfbaa", sum := "d0cac4e8809c9772f60101e6afee9ca2902b11c7d7279e4cb5cebad9b800a3eb", func := "loop.example/g03312/laws.FnInterruptComes", spec := "fnInterruptComes", apart := false }
def FnInterruptComesSaid : Prop := fnInterruptComesRow.holds Try.pinned (OpenSpec.ofChange fnInterruptComesSpec)

/-- ITS FALSE NEIGHBOUR: 'it returns false'. Refute it at one input. -/
def fnInterruptComesWrong : ChangeSpec := { name := "fnInterruptComes", fn := fun _ => fun
  | [d] => { results := [.lit (.bool false)], args := [d] }
  | _ => none }
def FnInterruptComesWrongFalsely : Prop := fnInterruptComesRow.holds Try.pinned (OpenSpec.ofChange fnInterruptComesWrong)

/-- 'laws.FnInterruptsFew': WHATEVER THE INPUT: true; the input reads as it did. -/
def fnInterruptsFewSpec : ChangeSpec := { name := "fnInterruptsFew", fn := fun _ => fun
  | [d] => { results := [.lit (.bool true)], args := [d] }
  | _ => none }
def fnInterruptsFewRow : OpenClaim := { program := "ytlpipllhbobfbaa", sum := "d0cac4e8809c9772f60101e6afee9ca2902b11c7d7279e4cb5cebad9b800a3eb", func := "loop.example/g03312/laws.FnInterruptsFew", spec := "fnInterruptsFew", apart := false }
def FnInterruptsFewSaid : Prop := fnInterruptsFewRow.holds Try.pinned (OpenSpec.ofChange fnInterruptsFewSpec)

/-- ITS FALSE NEIGHBOUR: 'it returns false'. Refute it at one input. -/
def fnInterruptsFewWrong : ChangeSpec := { name := "fnInterruptsFew", fn := fun _ => fun
  | [d] => { results := [.lit (.bool false)], args := [d] }
  | _ => none }
def FnInterruptsFewWrongFalsely : Prop := fnInterruptsFewRow.holds Try.pinned (OpenSpec.ofChange fnInterruptsFewWrong)

/-- 'laws.FnExactRxOk': WHATEVER THE INPUT: true; the input reads as it did. -/
def fnExactRxOkSpec : ChangeSpec := { name := "fnExactRxOk", fn := fun _ => fun
  | [d] => { results := [.lit (.bool true)], args := [d] }
  | _ => none }
def fnExactRxOkRow : OpenClaim := { program := "ytlpipllhbobfbaa", sum := "d0cac4e8809c9772f60101e6afee9ca2902b11c7d7279e4cb5cebad9b800a3eb", func := "loop.example/g03312/laws.FnExactRxOk", spec := "fnExactRxOk", apart := false }
def FnExactRxOkSaid : Prop := fnExactRxOkRow.holds Try.pinned (OpenSpec.ofChange fnExactRxOkSpec)

/-- ITS FALSE NEIGHBOUR: 'it returns false'. Refute it at one input. -/
def fnExactRxOkWrong : ChangeSpec := { name := "fnExactRxOk", fn := fun _ => fun
  | [d] => { results := [.lit (.bool false)], args := [d] }
  | _ => none }
def FnExactRxOkWrongFalsely : Prop := fnExactRxOkRow.holds Try.pinned (OpenSpec.ofChange fnExactRxOkWrong)

/- THE SECOND FORM. 'bulk': how many values and letters a reading holds, each counted each time it is reached (what is shared counts as often as it is met; a slice's spare places count too). A statement '..UptoSaid' is the law's where the arguments, and the package variables that the reading takes, are together of bulk at most 1048576: NARROWER than '..Said'. Prove '..Said' where nothing that the law and all that it calls make is longer than what came in: it says more and counts as full. Else prove '..UptoSaid'. A law counts once. -/
mutual
def uptoBulk {H : Type} : DataW H → Nat
  | .lit (.string bytes) => bytes.length + 1
  | .lit _ => 1
  | .nil => 1
  | .ptr d => uptoBulk d + 1
  | .slice elems spare => uptoBulkAll elems + uptoBulkAll spare + 1
  | .agg parts => uptoBulkAll parts + 1
  | .iface _ d => uptoBulk d + 1
  | .map entries => uptoBulkEntries entries + 1
  | .held _ => 1
def uptoBulkAll {H : Type} : List (DataW H) → Nat
  | [] => 0
  | d :: r => uptoBulk d + uptoBulkAll r
def uptoBulkEntries {H : Type} : List (Lit × DataW H) → Nat
  | [] => 0
  | x :: r => uptoBulkEntry x + uptoBulkEntries r
def uptoBulkEntry {H : Type} : Lit × DataW H → Nat
  | (.string bytes, d) => bytes.length + uptoBulk d + 1
  | (_, d) => uptoBulk d + 1
 end
def uptoSmall : (H : Type) → List (DataW H) → Bool := fun _ ds => decide (uptoBulkAll ds ≤ 1048576)
def OpenSpec.upto (s : _root_.Go.ChangeSpec) : _root_.Go.OpenSpec := { _root_.Go.OpenSpec.ofChange s with cond := some uptoSmall }

/-- 'laws.FnExactTickVector', WHERE WHAT IT READS IS OF BULK AT MOST 1048576: true; the input reads as it did. -/
def fnExactTickVectorUptoRow : OpenClaim := { program := "ytlpipllhbobfbaa", sum := "d0cac4e8809c9772f60101e6afee9ca2902b11c7d7279e4cb5cebad9b800a3eb", func := "loop.example/g03312/laws.FnExactTickVector", spec := "fnExactTickVector", apart := false, narrowed := true }
def FnExactTickVectorUptoSaid : Prop := fnExactTickVectorUptoRow.holds Try.pinned (OpenSpec.upto fnExactTickVectorSpec)

/-- 'laws.FnRateBound', WHERE WHAT IT READS IS OF BULK AT MOST 1048576: true; the input reads as it did. -/
def fnRateBoundUptoRow : OpenClaim := { program := "ytlpipllhbobfbaa", sum := "d0cac4e8809c9772f60101e6afee9ca2902b11c7d7279e4cb5cebad9b800a3eb", func := "loop.example/g03312/laws.FnRateBound", spec := "fnRateBound", apart := false, narrowed := true }
def FnRateBoundUptoSaid : Prop := fnRateBoundUptoRow.holds Try.pinned (OpenSpec.upto fnRateBoundSpec)

/-- 'laws.FnWaiting', WHERE WHAT IT READS IS OF BULK AT MOST 1048576: true; the input reads as it did. -/
def fnWaitingUptoRow : OpenClaim := { program := "ytlpipllhbobfbaa", sum := "d0cac4e8809c9772f60101e6afee9ca2902b11c7d7279e4cb5cebad9b800a3eb", func := "loop.example/g03312/laws.FnWaiting", spec := "fnWaiting", apart := false, narrowed := true }
def FnWaitingUptoSaid : Prop := fnWaitingUptoRow.holds Try.pinned (OpenSpec.upto fnWaitingSpec)

/-- 'laws.FnExactPaceLengths', WHERE WHAT IT READS IS OF BULK AT MOST 1048576: true; the input reads as it did. -/
def fnExactPaceLengthsUptoRow : OpenClaim := { program := "ytlpipllhbobfbaa", sum := "d0cac4e8809c9772f60101e6afee9ca2902b11c7d7279e4cb5cebad9b800a3eb", func := "loop.example/g03312/laws.FnExactPaceLengths", spec := "fnExactPaceLengths", apart := false, narrowed := true }
def FnExactPaceLengthsUptoSaid : Prop := fnExactPaceLengthsUptoRow.holds Try.pinned (OpenSpec.upto fnExactPaceLengthsSpec)

/-- 'laws.FnExactAccepts', WHERE WHAT IT READS IS OF BULK AT MOST 1048576: true; the input reads as it did. -/
def fnExactAcceptsUptoRow : OpenClaim := { program := "ytlpipllhbobfbaa", sum := "d0cac4e8809c9772f60101e6afee9ca2902b11c7d7279e4cb5cebad9b800a3eb", func := "loop.example/g03312/laws.FnExactAccepts", spec := "fnExactAccepts", apart := false, narrowed := true }
def FnExactAcceptsUptoSaid : Prop := fnExactAcceptsUptoRow.holds Try.pinned (OpenSpec.upto fnExactAcceptsSpec)

/-- 'laws.FnExactFairOk', WHERE WHAT IT READS IS OF BULK AT MOST 1048576: true; the input reads as it did. -/
def fnExactFairOkUptoRow : OpenClaim := { program := "ytlpipllhbobfbaa", sum := "d0cac4e8809c9772f60101e6afee9ca2902b11c7d7279e4cb5cebad9b800a3eb", func := "loop.example/g03312/laws.FnExactFairOk", spec := "fnExactFairOk", apart := false, narrowed := true }
def FnExactFairOkUptoSaid : Prop := fnExactFairOkUptoRow.holds Try.pinned (OpenSpec.upto fnExactFairOkSpec)

/-- 'laws.FnExactDropVlan', WHERE WHAT IT READS IS OF BULK AT MOST 1048576: true; the input reads as it did. -/
def fnExactDropVlanUptoRow : OpenClaim := { program := "ytlpipllhbobfbaa", sum := "d0cac4e8809c9772f60101e6afee9ca2902b11c7d7279e4cb5cebad9b800a3eb", func := "loop.example/g03312/laws.FnExactDropVlan", spec := "fnExactDropVlan", apart := false, narrowed := true }
def FnExactDropVlanUptoSaid : Prop := fnExactDropVlanUptoRow.holds Try.pinned (OpenSpec.upto fnExactDropVlanSpec)

/-- 'laws.FnExactNewFair', WHERE WHAT IT READS IS OF BULK AT MOST 1048576: true; the input reads as it did. -/
def fnExactNewFairUptoRow : OpenClaim := { program := "ytlpipllhbobfbaa", sum := "d0cac4e8809c9772f60101e6afee9ca2902b11c7d7279e4cb5cebad9b800a3eb", func := "loop.example/g03312/laws.FnExactNewFair", spec := "fnExactNewFair", apart := false, narrowed := true }
def FnExactNewFairUptoSaid : Prop := fnExactNewFairUptoRow.holds Try.pinned (OpenSpec.upto fnExactNewFairSpec)

/-- 'laws.FnExactAddVlan', WHERE WHAT IT READS IS OF BULK AT MOST 1048576: true; the input reads as it did. -/
def fnExactAddVlanUptoRow : OpenClaim := { program := "ytlpipllhbobfbaa", sum := "d0cac4e8809c9772f60101e6afee9ca2902b11c7d7279e4cb5cebad9b800a3eb", func := "loop.example/g03312/laws.FnExactAddVlan", spec := "fnExactAddVlan", apart := false, narrowed := true }
def FnExactAddVlanUptoSaid : Prop := fnExactAddVlanUptoRow.holds Try.pinned (OpenSpec.upto fnExactAddVlanSpec)

/-- 'laws.FnInterruptComes', WHERE WHAT IT READS IS OF BULK AT MOST 1048576: true; the input reads as it did. -/
def fnInterruptComesUptoRow : OpenClaim := { program := "ytlpipllhbobfbaa", sum := "d0cac4e8809c9772f60101e6afee9ca2902b11c7d7279e4cb5cebad9b800a3eb", func := "loop.example/g03312/laws.FnInterruptComes", spec := "fnInterruptComes", apart := false, narrowed := true }
def FnInterruptComesUptoSaid : Prop := fnInterruptComesUptoRow.holds Try.pinned (OpenSpec.upto fnInterruptComesSpec)

/-- 'laws.FnInterruptsFew', WHERE WHAT IT READS IS OF BULK AT MOST 1048576: true; the input reads as it did. -/
def fnInterruptsFewUptoRow : OpenClaim := { program := "ytlpipllhbobfbaa", sum := "d0cac4e8809c9772f60101e6afee9ca2902b11c7d7279e4cb5cebad9b800a3eb", func := "loop.example/g03312/laws.FnInterruptsFew", spec := "fnInterruptsFew", apart := false, narrowed := true }
def FnInterruptsFewUptoSaid : Prop := fnInterruptsFewUptoRow.holds Try.pinned (OpenSpec.upto fnInterruptsFewSpec)

/-- 'laws.FnExactRxOk', WHERE WHAT IT READS IS OF BULK AT MOST 1048576: true; the input reads as it did. -/
def fnExactRxOkUptoRow : OpenClaim := { program := "ytlpipllhbobfbaa", sum := "d0cac4e8809c9772f60101e6afee9ca2902b11c7d7279e4cb5cebad9b800a3eb", func := "loop.example/g03312/laws.FnExactRxOk", spec := "fnExactRxOk", apart := false, narrowed := true }
def FnExactRxOkUptoSaid : Prop := fnExactRxOkUptoRow.holds Try.pinned (OpenSpec.upto fnExactRxOkSpec)

end Rows
end Go.Proofs.Ytlpipllhbobfbaa

/-
  No cell of these rows narrows 'for every input' (looked for: loops, veiled, ifaces, maps, wideKeys, modest, calm, conditions, laid).
  DERIVED. THE GIVEN ROWS OF THIS SEAT. 3 by the template 'for every input the law returns true; each argument reads behind the call as it read before'; 0 by the template 'total and deterministic' (their statements: YtgbjkojgjhcabaaGreatTotals.lean).
  GIVEN WITH THE SEED: the statements are not yours to turn. If you find one false, say at which input.
  Laid BY PROGRAM, IN A SANDBOX (cutbox-rows.mjs): the forced cells as the released guide's own fill.sh prints them over the translation 4fafdf2193e5ffb7… (all of the seat's roots in one cut). By AI agents, Wed Nov 11 2026. No macro, syntax, notation, axiom, sorry.
-/
import Derived.Test.YtgbjkojgjhcabaaGreatChecked
import GoSem.Claim
import GoSem.ClaimJoined
import GoSem.ClaimMapViews
import Derived.JoinedTies
import Derived.KernelRfl
namespace Go.Proofs.YtgbjkojgjhcabaaGreat
/- THE CELL 'sum', in the pinned program and in every row, IS THE sha256 OF THE DUMP (.gsa) THAT YtgbjkojgjhcabaaGreatProg.lean LOADS. Nothing in Lean hashes anything: it is a label: what it is worth is what the hold of that sum in a sandbox is worth. -/
noncomputable def Tryz.pinned : Pinned := { name := "ytgbjkojgjhcabaagreat", sum := "4fafdf2193e5ffb7545968cfc04286fa7b6232cd090c9e374dff2f5295f25179", checked := Tryz.checked }
namespace Rows
def none {H : Type} : Left H := { results := [], args := [] }

/-- 'laws.FnExactTransmitNext': WHATEVER THE INPUT: true; the input reads as it did. -/
def fnExactTransmitNextSpec : ChangeSpec := { name := "fnExactTransmitNext", fn := fun _ => fun
  | [d1, d2, d3, d4] => { results := [.lit (.bool true)], args := [d1, d2, d3, d4] }
  | _ => none }
def fnExactTransmitNextRow : OpenClaim := { program := "ytgbjkojgjhcabaagreat", sum := "4fafdf2193e5ffb7545968cfc04286fa7b6232cd090c9e374dff2f5295f25179", func := "loop.example/g03312/laws.FnExactTransmitNext", spec := "fnExactTransmitNext", apart := false }
def FnExactTransmitNextSaid : Prop := fnExactTransmitNextRow.holds Tryz.pinned (OpenSpec.ofChange fnExactTransmitNextSpec)

/-- ITS FALSE NEIGHBOUR: 'it returns false'. Refute it at one input. -/
def fnExactTransmitNextWrong : ChangeSpec := { name := "fnExactTransmitNext", fn := fun _ => fun
  | [d1, d2, d3, d4] => { results := [.lit (.bool false)], args := [d1, d2, d3, d4] }
  | _ => none }
def FnExactTransmitNextWrongFalsely : Prop := fnExactTransmitNextRow.holds Tryz.pinned (OpenSpec.ofChange fnExactTransmitNextWrong)

/-- 'laws.FnExactTransmitAll': WHATEVER THE INPUT: true; the input reads as it did. -/
def fnExactTransmitAllSpec : ChangeSpec := { name := "fnExactTransmitAll", fn := fun _ => fun
  | [d1, d2, d3, d4] => { results := [.lit (.bool true)], args := [d1, d2, d3, d4] }
  | _ => none }
def fnExactTransmitAllRow : OpenClaim := { program := "ytgbjkojgjhcabaagreat", sum := "4fafdf2193e5ffb7545968cfc04286fa7b6232cd090c9e374dff2f5295f25179", func := "loop.example/g03312/laws.FnExactTransmitAll", spec := "fnExactTransmitAll", apart := false }
def FnExactTransmitAllSaid : Prop := fnExactTransmitAllRow.holds Tryz.pinned (OpenSpec.ofChange fnExactTransmitAllSpec)

/-- ITS FALSE NEIGHBOUR: 'it returns false'. Refute it at one input. -/
def fnExactTransmitAllWrong : ChangeSpec := { name := "fnExactTransmitAll", fn := fun _ => fun
  | [d1, d2, d3, d4] => { results := [.lit (.bool false)], args := [d1, d2, d3, d4] }
  | _ => none }
def FnExactTransmitAllWrongFalsely : Prop := fnExactTransmitAllRow.holds Tryz.pinned (OpenSpec.ofChange fnExactTransmitAllWrong)

/-- 'laws.FnExactPollQueue': WHATEVER THE INPUT: true; the input reads as it did. -/
def fnExactPollQueueSpec : ChangeSpec := { name := "fnExactPollQueue", fn := fun _ => fun
  | [d1, d2, d3, d4, d5, d6, d7] => { results := [.lit (.bool true)], args := [d1, d2, d3, d4, d5, d6, d7] }
  | _ => none }
def fnExactPollQueueRow : OpenClaim := { program := "ytgbjkojgjhcabaagreat", sum := "4fafdf2193e5ffb7545968cfc04286fa7b6232cd090c9e374dff2f5295f25179", func := "loop.example/g03312/laws.FnExactPollQueue", spec := "fnExactPollQueue", apart := false }
def FnExactPollQueueSaid : Prop := fnExactPollQueueRow.holds Tryz.pinned (OpenSpec.ofChange fnExactPollQueueSpec)

/-- ITS FALSE NEIGHBOUR: 'it returns false'. Refute it at one input. -/
def fnExactPollQueueWrong : ChangeSpec := { name := "fnExactPollQueue", fn := fun _ => fun
  | [d1, d2, d3, d4, d5, d6, d7] => { results := [.lit (.bool false)], args := [d1, d2, d3, d4, d5, d6, d7] }
  | _ => none }
def FnExactPollQueueWrongFalsely : Prop := fnExactPollQueueRow.holds Tryz.pinned (OpenSpec.ofChange fnExactPollQueueWrong)

/- THE SECOND FORM. 'bulk': how many values and letters a reading holds, each counted each time it is reached (what is shared counts as often as it is met; a slice's spare places count too). A statement '..UptoSaid' is the law's where the arguments, and the package variables that the reading takes, are together of bulk at most 1048576: NARROWER than '..Said'. Prove '..Said' where nothing that the law and all that it calls make is longer than what came in: it says more and counts as full. Else prove '..UptoSaid'. A law counts once. -/
mutual
def uptoBulk {H : Type} : DataW H → Nat
  | .lit (.string bytes) => bytes.length + 1
  | .lit _ => 1
  | .nil => 1
  | .ptr d => uptoBulk d + 1
  | .slice elems spare => uptoBulkAll elems + uptoBulkAll spare + 1
  | .agg parts => uptoBulkAll parts + 1
  | .iface _ d => uptoBulk d + 1
  | .map entries => uptoBulkEntries entries + 1
  | .held _ => 1
def uptoBulkAll {H : Type} : List (DataW H) → Nat
  | [] => 0
  | d :: r => uptoBulk d + uptoBulkAll r
def uptoBulkEntries {H : Type} : List (Lit × DataW H) → Nat
  | [] => 0
  | x :: r => uptoBulkEntry x + uptoBulkEntries r
def uptoBulkEntry {H : Type} : Lit × DataW H → Nat
  | (.string bytes, d) => bytes.length + uptoBulk d + 1
  | (_, d) => uptoBulk d + 1
 end
def uptoSmall : (H : Type) → List (DataW H) → Bool := fun _ ds => decide (uptoBulkAll ds ≤ 1048576)
def OpenSpec.upto (s : _root_.Go.ChangeSpec) : _root_.Go.OpenSpec := { _root_.Go.OpenSpec.ofChange s with cond := some uptoSmall }

/-- 'laws.FnExactTransmitNext', WHERE WHAT IT READS IS OF BULK AT MOST 1048576: true; the input reads as it did. -/
def fnExactTransmitNextUptoRow : OpenClaim := { program := "ytgbjkojgjhcabaagreat", sum := "4fafdf2193e5ffb7545968cfc04286fa7b6232cd090c9e374dff2f5295f25179", func := "loop.example/g03312/laws.FnExactTransmitNext", spec := "fnExactTransmitNext", apart := false, narrowed := true }
def FnExactTransmitNextUptoSaid : Prop := fnExactTransmitNextUptoRow.holds Tryz.pinned (OpenSpec.upto fnExactTransmitNextSpec)

/-- 'laws.FnExactTransmitAll', WHERE WHAT IT READS IS OF BULK AT MOST 1048576: true; the input reads as it did. -/
def fnExactTransmitAllUptoRow : OpenClaim := { program := "ytgbjkojgjhcabaagreat", sum := "4fafdf2193e5ffb7545968cfc04286fa7b6232cd090c9e374dff2f5295f25179", func := "loop.example/g03312/laws.FnExactTransmitAll", spec := "fnExactTransmitAll", apart := false, narrowed := true }
def FnExactTransmitAllUptoSaid : Prop := fnExactTransmitAllUptoRow.holds Tryz.pinned (OpenSpec.upto fnExactTransmitAllSpec)

/-- 'laws.FnExactPollQueue', WHERE WHAT IT READS IS OF BULK AT MOST 1048576: true; the input reads as it did. -/
def fnExactPollQueueUptoRow : OpenClaim := { program := "ytgbjkojgjhcabaagreat", sum := "4fafdf2193e5ffb7545968cfc04286fa7b6232cd090c9e374dff2f5295f25179", func := "loop.example/g03312/laws.FnExactPollQueue", spec := "fnExactPollQueue", apart := false, narrowed := true }
def FnExactPollQueueUptoSaid : Prop := fnExactPollQueueUptoRow.holds Tryz.pinned (OpenSpec.upto fnExactPollQueueSpec)

end Rows
end Go.Proofs.YtgbjkojgjhcabaaGreat

/-
  No cell of these rows narrows 'for every input' (looked for: loops, veiled, ifaces, maps, wideKeys, modest, calm, conditions, laid).
  DERIVED. THE GIVEN ROWS OF THIS SEAT. 6 by the template 'for every input the law returns true; each argument reads behind the call as it read before'; 0 by the template 'total and deterministic' (their statements: YtelkplponnfkpaaTotals.lean).
  GIVEN WITH THE SEED: the statements are not yours to turn. If you find one false, say at which input.
  Laid BY PROGRAM, IN A SANDBOX (cutbox-rows.mjs): the forced cells as the released guide's own fill.sh prints them over the translation 2ea5510b194491e9… (all of the seat's roots in one cut). By AI agents, Wed Nov 11 2026. No macro, syntax, notation, axiom, sorry.
-/
import Derived.Test.YtelkplponnfkpaaChecked
import GoSem.Claim
import GoSem.ClaimJoined
import GoSem.ClaimMapViews
import Derived.JoinedTies
import Derived.KernelRfl
namespace Go.Proofs.Ytelkplponnfkpaa
/- THE CELL 'sum', in the pinned program and in every row, IS THE sha256 OF THE DUMP (.gsa) THAT YtelkplponnfkpaaProg.lean LOADS. Nothing in Lean hashes anything: it is a label: what it is worth is what the hold of that sum in a sandbox is worth. -/
noncomputable def Try.pinned : Pinned := { name := "ytelkplponnfkpaa", sum := "2ea5510b194491e95a9d4e3371c0a35ae6f903740c1fdb238025c63b6205d7de", checked := Try.checked }
namespace Rows
def none {H : Type} : Left H := { results := [], args := [] }

/-- 'laws.FnCompletions': WHATEVER THE INPUT: true; the input reads as it did. -/
def fnCompletionsSpec : ChangeSpec := { name := "fnCompletions", fn := fun _ => fun
  | [d] => { results := [.lit (.bool true)], args := [d] }
  | _ => none }
def fnCompletionsRow : OpenClaim := { program := "ytelkplponnfkpaa", sum := "2ea5510b194491e95a9d4e3371c0a35ae6f903740c1fdb238025c63b6205d7de", func := "loop.example/g03312/laws.FnCompletions", spec := "fnCompletions", apart := false }
def FnCompletionsSaid : Prop := fnCompletionsRow.holds Try.pinned (OpenSpec.ofChange fnCompletionsSpec)

/-- ITS FALSE NEIGHBOUR: 'it returns false'. Refute it at one input. -/
def fnCompletionsWrong : ChangeSpec := { name := "fnCompletions", fn := fun _ => fun
  | [d] => { results := [.lit (.bool false)], args := [d] }
  | _ => none }
def FnCompletionsWrongFalsely : Prop := fnCompletionsRow.holds Try.pinned (OpenSpec.ofChange fnCompletionsWrong)

/-- 'laws.FnExactNextCompletion': WHATEVER THE INPUT: true; the input reads as it did. -/
def fnExactNextCompletionSpec : ChangeSpec := { name := "fnExactNextCompletion", fn := fun _ => fun
  | [d1, d2, d3, d4] => { results := [.lit (.bool true)], args := [d1, d2, d3, d4] }
  | _ => none }
def fnExactNextCompletionRow : OpenClaim := { program := "ytelkplponnfkpaa", sum := "2ea5510b194491e95a9d4e3371c0a35ae6f903740c1fdb238025c63b6205d7de", func := "loop.example/g03312/laws.FnExactNextCompletion", spec := "fnExactNextCompletion", apart := false }
def FnExactNextCompletionSaid : Prop := fnExactNextCompletionRow.holds Try.pinned (OpenSpec.ofChange fnExactNextCompletionSpec)

/-- ITS FALSE NEIGHBOUR: 'it returns false'. Refute it at one input. -/
def fnExactNextCompletionWrong : ChangeSpec := { name := "fnExactNextCompletion", fn := fun _ => fun
  | [d1, d2, d3, d4] => { results := [.lit (.bool false)], args := [d1, d2, d3, d4] }
  | _ => none }
def FnExactNextCompletionWrongFalsely : Prop := fnExactNextCompletionRow.holds Try.pinned (OpenSpec.ofChange fnExactNextCompletionWrong)

/-- 'laws.FnExactPutCompletion': WHATEVER THE INPUT: true; the input reads as it did. -/
def fnExactPutCompletionSpec : ChangeSpec := { name := "fnExactPutCompletion", fn := fun _ => fun
  | [d1, d2, d3, d4, d5] => { results := [.lit (.bool true)], args := [d1, d2, d3, d4, d5] }
  | _ => none }
def fnExactPutCompletionRow : OpenClaim := { program := "ytelkplponnfkpaa", sum := "2ea5510b194491e95a9d4e3371c0a35ae6f903740c1fdb238025c63b6205d7de", func := "loop.example/g03312/laws.FnExactPutCompletion", spec := "fnExactPutCompletion", apart := false }
def FnExactPutCompletionSaid : Prop := fnExactPutCompletionRow.holds Try.pinned (OpenSpec.ofChange fnExactPutCompletionSpec)

/-- ITS FALSE NEIGHBOUR: 'it returns false'. Refute it at one input. -/
def fnExactPutCompletionWrong : ChangeSpec := { name := "fnExactPutCompletion", fn := fun _ => fun
  | [d1, d2, d3, d4, d5] => { results := [.lit (.bool false)], args := [d1, d2, d3, d4, d5] }
  | _ => none }
def FnExactPutCompletionWrongFalsely : Prop := fnExactPutCompletionRow.holds Try.pinned (OpenSpec.ofChange fnExactPutCompletionWrong)

/-- 'laws.FnExactHasCompletion': WHATEVER THE INPUT: true; the input reads as it did. -/
def fnExactHasCompletionSpec : ChangeSpec := { name := "fnExactHasCompletion", fn := fun _ => fun
  | [d1, d2, d3, d4] => { results := [.lit (.bool true)], args := [d1, d2, d3, d4] }
  | _ => none }
def fnExactHasCompletionRow : OpenClaim := { program := "ytelkplponnfkpaa", sum := "2ea5510b194491e95a9d4e3371c0a35ae6f903740c1fdb238025c63b6205d7de", func := "loop.example/g03312/laws.FnExactHasCompletion", spec := "fnExactHasCompletion", apart := false }
def FnExactHasCompletionSaid : Prop := fnExactHasCompletionRow.holds Try.pinned (OpenSpec.ofChange fnExactHasCompletionSpec)

/-- ITS FALSE NEIGHBOUR: 'it returns false'. Refute it at one input. -/
def fnExactHasCompletionWrong : ChangeSpec := { name := "fnExactHasCompletion", fn := fun _ => fun
  | [d1, d2, d3, d4] => { results := [.lit (.bool false)], args := [d1, d2, d3, d4] }
  | _ => none }
def FnExactHasCompletionWrongFalsely : Prop := fnExactHasCompletionRow.holds Try.pinned (OpenSpec.ofChange fnExactHasCompletionWrong)

/-- 'laws.FnExactTakeChain': WHATEVER THE INPUT: true; the input reads as it did. -/
def fnExactTakeChainSpec : ChangeSpec := { name := "fnExactTakeChain", fn := fun _ => fun
  | [d1, d2, d3, d4] => { results := [.lit (.bool true)], args := [d1, d2, d3, d4] }
  | _ => none }
def fnExactTakeChainRow : OpenClaim := { program := "ytelkplponnfkpaa", sum := "2ea5510b194491e95a9d4e3371c0a35ae6f903740c1fdb238025c63b6205d7de", func := "loop.example/g03312/laws.FnExactTakeChain", spec := "fnExactTakeChain", apart := false }
def FnExactTakeChainSaid : Prop := fnExactTakeChainRow.holds Try.pinned (OpenSpec.ofChange fnExactTakeChainSpec)

/-- ITS FALSE NEIGHBOUR: 'it returns false'. Refute it at one input. -/
def fnExactTakeChainWrong : ChangeSpec := { name := "fnExactTakeChain", fn := fun _ => fun
  | [d1, d2, d3, d4] => { results := [.lit (.bool false)], args := [d1, d2, d3, d4] }
  | _ => none }
def FnExactTakeChainWrongFalsely : Prop := fnExactTakeChainRow.holds Try.pinned (OpenSpec.ofChange fnExactTakeChainWrong)

/-- 'laws.FnExactFillRing': WHATEVER THE INPUT: true; the input reads as it did. -/
def fnExactFillRingSpec : ChangeSpec := { name := "fnExactFillRing", fn := fun _ => fun
  | [d1, d2, d3, d4, d5] => { results := [.lit (.bool true)], args := [d1, d2, d3, d4, d5] }
  | _ => none }
def fnExactFillRingRow : OpenClaim := { program := "ytelkplponnfkpaa", sum := "2ea5510b194491e95a9d4e3371c0a35ae6f903740c1fdb238025c63b6205d7de", func := "loop.example/g03312/laws.FnExactFillRing", spec := "fnExactFillRing", apart := false }
def FnExactFillRingSaid : Prop := fnExactFillRingRow.holds Try.pinned (OpenSpec.ofChange fnExactFillRingSpec)

/-- ITS FALSE NEIGHBOUR: 'it returns false'. Refute it at one input. -/
def fnExactFillRingWrong : ChangeSpec := { name := "fnExactFillRing", fn := fun _ => fun
  | [d1, d2, d3, d4, d5] => { results := [.lit (.bool false)], args := [d1, d2, d3, d4, d5] }
  | _ => none }
def FnExactFillRingWrongFalsely : Prop := fnExactFillRingRow.holds Try.pinned (OpenSpec.ofChange fnExactFillRingWrong)

/- THE SECOND FORM. 'bulk': how many values and letters a reading holds, each counted each time it is reached (what is shared counts as often as it is met; a slice's spare places count too). A statement '..UptoSaid' is the law's where the arguments, and the package variables that the reading takes, are together of bulk at most 1048576: NARROWER than '..Said'. Prove '..Said' where nothing that the law and all that it calls make is longer than what came in: it says more and counts as full. Else prove '..UptoSaid'. A law counts once. -/
mutual
def uptoBulk {H : Type} : DataW H → Nat
  | .lit (.string bytes) => bytes.length + 1
  | .lit _ => 1
  | .nil => 1
  | .ptr d => uptoBulk d + 1
  | .slice elems spare => uptoBulkAll elems + uptoBulkAll spare + 1
  | .agg parts => uptoBulkAll parts + 1
  | .iface _ d => uptoBulk d + 1
  | .map entries => uptoBulkEntries entries + 1
  | .held _ => 1
def uptoBulkAll {H : Type} : List (DataW H) → Nat
  | [] => 0
  | d :: r => uptoBulk d + uptoBulkAll r
def uptoBulkEntries {H : Type} : List (Lit × DataW H) → Nat
  | [] => 0
  | x :: r => uptoBulkEntry x + uptoBulkEntries r
def uptoBulkEntry {H : Type} : Lit × DataW H → Nat
  | (.string bytes, d) => bytes.length + uptoBulk d + 1
  | (_, d) => uptoBulk d + 1
 end
def uptoSmall : (H : Type) → List (DataW H) → Bool := fun _ ds => decide (uptoBulkAll ds ≤ 1048576)
def OpenSpec.upto (s : _root_.Go.ChangeSpec) : _root_.Go.OpenSpec := { _root_.Go.OpenSpec.ofChange s with cond := some uptoSmall }

/-- 'laws.FnCompletions', WHERE WHAT IT READS IS OF BULK AT MOST 1048576: true; the input reads as it did. -/
def fnCompletionsUptoRow : OpenClaim := { program := "ytelkplponnfkpaa", sum := "2ea5510b194491e95a9d4e3371c0a35ae6f903740c1fdb238025c63b6205d7de", func := "loop.example/g03312/laws.FnCompletions", spec := "fnCompletions", apart := false, narrowed := true }
def FnCompletionsUptoSaid : Prop := fnCompletionsUptoRow.holds Try.pinned (OpenSpec.upto fnCompletionsSpec)

/-- 'laws.FnExactNextCompletion', WHERE WHAT IT READS IS OF BULK AT MOST 1048576: true; the input reads as it did. -/
def fnExactNextCompletionUptoRow : OpenClaim := { program := "ytelkplponnfkpaa", sum := "2ea5510b194491e95a9d4e3371c0a35ae6f903740c1fdb238025c63b6205d7de", func := "loop.example/g03312/laws.FnExactNextCompletion", spec := "fnExactNextCompletion", apart := false, narrowed := true }
def FnExactNextCompletionUptoSaid : Prop := fnExactNextCompletionUptoRow.holds Try.pinned (OpenSpec.upto fnExactNextCompletionSpec)

/-- 'laws.FnExactPutCompletion', WHERE WHAT IT READS IS OF BULK AT MOST 1048576: true; the input reads as it did. -/
def fnExactPutCompletionUptoRow : OpenClaim := { program := "ytelkplponnfkpaa", sum := "2ea5510b194491e95a9d4e3371c0a35ae6f903740c1fdb238025c63b6205d7de", func := "loop.example/g03312/laws.FnExactPutCompletion", spec := "fnExactPutCompletion", apart := false, narrowed := true }
def FnExactPutCompletionUptoSaid : Prop := fnExactPutCompletionUptoRow.holds Try.pinned (OpenSpec.upto fnExactPutCompletionSpec)

/-- 'laws.FnExactHasCompletion', WHERE WHAT IT READS IS OF BULK AT MOST 1048576: true; the input reads as it did. -/
def fnExactHasCompletionUptoRow : OpenClaim := { program := "ytelkplponnfkpaa", sum := "2ea5510b194491e95a9d4e3371c0a35ae6f903740c1fdb238025c63b6205d7de", func := "loop.example/g03312/laws.FnExactHasCompletion", spec := "fnExactHasCompletion", apart := false, narrowed := true }
def FnExactHasCompletionUptoSaid : Prop := fnExactHasCompletionUptoRow.holds Try.pinned (OpenSpec.upto fnExactHasCompletionSpec)

/-- 'laws.FnExactTakeChain', WHERE WHAT IT READS IS OF BULK AT MOST 1048576: true; the input reads as it did. -/
def fnExactTakeChainUptoRow : OpenClaim := { program := "ytelkplponnfkpaa", sum := "2ea5510b194491e95a9d4e3371c0a35ae6f903740c1fdb238025c63b6205d7de", func := "loop.example/g03312/laws.FnExactTakeChain", spec := "fnExactTakeChain", apart := false, narrowed := true }
def FnExactTakeChainUptoSaid : Prop := fnExactTakeChainUptoRow.holds Try.pinned (OpenSpec.upto fnExactTakeChainSpec)

/-- 'laws.FnExactFillRing', WHERE WHAT IT READS IS OF BULK AT MOST 1048576: true; the input reads as it did. -/
def fnExactFillRingUptoRow : OpenClaim := { program := "ytelkplponnfkpaa", sum := "2ea5510b194491e95a9d4e3371c0a35ae6f903740c1fdb238025c63b6205d7de", func := "loop.example/g03312/laws.FnExactFillRing", spec := "fnExactFillRing", apart := false, narrowed := true }
def FnExactFillRingUptoSaid : Prop := fnExactFillRingUptoRow.holds Try.pinned (OpenSpec.upto fnExactFillRingSpec)

end Rows
end Go.Proofs.Ytelkplponnfkpaa

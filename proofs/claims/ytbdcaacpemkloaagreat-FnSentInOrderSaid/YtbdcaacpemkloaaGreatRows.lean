/-
  No cell of these rows narrows 'for every input' (looked for: loops, veiled, ifaces, maps, wideKeys, modest, calm, conditions, laid).
  DERIVED. THE GIVEN ROWS OF THIS SEAT. 5 by the template 'for every input the law returns true; each argument reads behind the call as it read before'; 0 by the template 'total and deterministic' (their statements: YtbdcaacpemkloaaGreatTotals.lean).
  GIVEN WITH THE SEED: the statements are not yours to turn. If you find one false, say at which input.
  Laid BY PROGRAM, IN A SANDBOX (cutbox-rows.mjs): the forced cells as the released guide's own fill.sh prints them over the translation 0cff823906ec2c37… (all of the seat's roots in one cut). By AI agents, Wed Nov 11 2026. No macro, syntax, notation, axiom, sorry.
-/
import Derived.Test.YtbdcaacpemkloaaGreatChecked
import GoSem.Claim
import GoSem.ClaimJoined
import GoSem.ClaimMapViews
import Derived.JoinedTies
import Derived.KernelRfl
namespace Go.Proofs.YtbdcaacpemkloaaGreat
/- THE CELL 'sum', in the pinned program and in every row, IS THE sha256 OF THE DUMP (.gsa) THAT YtbdcaacpemkloaaGreatProg.lean LOADS. Nothing in Lean hashes anything: it is a label: what it is worth is what the hold of that sum in a sandbox is worth. -/
noncomputable def Tryz.pinned : Pinned := { name := "ytbdcaacpemkloaagreat", sum := "0cff823906ec2c3779d6509d687db03c339df23a7dffe7204bd91b824bc71854", checked := Tryz.checked }
namespace Rows
def none {H : Type} : Left H := { results := [], args := [] }

/-- 'laws.FnSentAsSoftware': WHATEVER THE INPUT: true; the input reads as it did. -/
def fnSentAsSoftwareSpec : ChangeSpec := { name := "fnSentAsSoftware", fn := fun _ => fun
  | [d] => { results := [.lit (.bool true)], args := [d] }
  | _ => none }
def fnSentAsSoftwareRow : OpenClaim := { program := "ytbdcaacpemkloaagreat", sum := "0cff823906ec2c3779d6509d687db03c339df23a7dffe7204bd91b824bc71854", func := "loop.example/g03312/laws.FnSentAsSoftware", spec := "fnSentAsSoftware", apart := false }
def FnSentAsSoftwareSaid : Prop := fnSentAsSoftwareRow.holds Tryz.pinned (OpenSpec.ofChange fnSentAsSoftwareSpec)

/-- ITS FALSE NEIGHBOUR: 'it returns false'. Refute it at one input. -/
def fnSentAsSoftwareWrong : ChangeSpec := { name := "fnSentAsSoftware", fn := fun _ => fun
  | [d] => { results := [.lit (.bool false)], args := [d] }
  | _ => none }
def FnSentAsSoftwareWrongFalsely : Prop := fnSentAsSoftwareRow.holds Tryz.pinned (OpenSpec.ofChange fnSentAsSoftwareWrong)

/-- 'laws.FnOwnBytes': WHATEVER THE INPUT: true; the input reads as it did. -/
def fnOwnBytesSpec : ChangeSpec := { name := "fnOwnBytes", fn := fun _ => fun
  | [d] => { results := [.lit (.bool true)], args := [d] }
  | _ => none }
def fnOwnBytesRow : OpenClaim := { program := "ytbdcaacpemkloaagreat", sum := "0cff823906ec2c3779d6509d687db03c339df23a7dffe7204bd91b824bc71854", func := "loop.example/g03312/laws.FnOwnBytes", spec := "fnOwnBytes", apart := false }
def FnOwnBytesSaid : Prop := fnOwnBytesRow.holds Tryz.pinned (OpenSpec.ofChange fnOwnBytesSpec)

/-- ITS FALSE NEIGHBOUR: 'it returns false'. Refute it at one input. -/
def fnOwnBytesWrong : ChangeSpec := { name := "fnOwnBytes", fn := fun _ => fun
  | [d] => { results := [.lit (.bool false)], args := [d] }
  | _ => none }
def FnOwnBytesWrongFalsely : Prop := fnOwnBytesRow.holds Tryz.pinned (OpenSpec.ofChange fnOwnBytesWrong)

/-- 'laws.FnExactSendPacket': WHATEVER THE INPUT: true; the input reads as it did. -/
def fnExactSendPacketSpec : ChangeSpec := { name := "fnExactSendPacket", fn := fun _ => fun
  | [d1, d2, d3, d4, d5, d6, d7] => { results := [.lit (.bool true)], args := [d1, d2, d3, d4, d5, d6, d7] }
  | _ => none }
def fnExactSendPacketRow : OpenClaim := { program := "ytbdcaacpemkloaagreat", sum := "0cff823906ec2c3779d6509d687db03c339df23a7dffe7204bd91b824bc71854", func := "loop.example/g03312/laws.FnExactSendPacket", spec := "fnExactSendPacket", apart := false }
def FnExactSendPacketSaid : Prop := fnExactSendPacketRow.holds Tryz.pinned (OpenSpec.ofChange fnExactSendPacketSpec)

/-- ITS FALSE NEIGHBOUR: 'it returns false'. Refute it at one input. -/
def fnExactSendPacketWrong : ChangeSpec := { name := "fnExactSendPacket", fn := fun _ => fun
  | [d1, d2, d3, d4, d5, d6, d7] => { results := [.lit (.bool false)], args := [d1, d2, d3, d4, d5, d6, d7] }
  | _ => none }
def FnExactSendPacketWrongFalsely : Prop := fnExactSendPacketRow.holds Tryz.pinned (OpenSpec.ofChange fnExactSendPacketWrong)

/-- 'laws.FnSentInOrder': WHATEVER THE INPUT: true; the input reads as it did. -/
def fnSentInOrderSpec : ChangeSpec := { name := "fnSentInOrder", fn := fun _ => fun
  | [d] => { results := [.lit (.bool true)], args := [d] }
  | _ => none }
def fnSentInOrderRow : OpenClaim := { program := "ytbdcaacpemkloaagreat", sum := "0cff823906ec2c3779d6509d687db03c339df23a7dffe7204bd91b824bc71854", func := "loop.example/g03312/laws.FnSentInOrder", spec := "fnSentInOrder", apart := false }
def FnSentInOrderSaid : Prop := fnSentInOrderRow.holds Tryz.pinned (OpenSpec.ofChange fnSentInOrderSpec)

/-- ITS FALSE NEIGHBOUR: 'it returns false'. Refute it at one input. -/
def fnSentInOrderWrong : ChangeSpec := { name := "fnSentInOrder", fn := fun _ => fun
  | [d] => { results := [.lit (.bool false)], args := [d] }
  | _ => none }
def FnSentInOrderWrongFalsely : Prop := fnSentInOrderRow.holds Tryz.pinned (OpenSpec.ofChange fnSentInOrderWrong)

/-- 'laws.FnExactPollQueue': WHATEVER THE INPUT: true; the input reads as it did. -/
def fnExactPollQueueSpec : ChangeSpec := { name := "fnExactPollQueue", fn := fun _ => fun
  | [d1, d2, d3, d4, d5, d6, d7] => { results := [.lit (.bool true)], args := [d1, d2, d3, d4, d5, d6, d7] }
  | _ => none }
def fnExactPollQueueRow : OpenClaim := { program := "ytbdcaacpemkloaagreat", sum := "0cff823906ec2c3779d6509d687db03c339df23a7dffe7204bd91b824bc71854", func := "loop.example/g03312/laws.FnExactPollQueue", spec := "fnExactPollQueue", apart := false }
def FnExactPollQueueSaid : Prop := fnExactPollQueueRow.holds Tryz.pinned (OpenSpec.ofChange fnExactPollQueueSpec)

/-- ITS FALSE NEIGHBOUR: 'it returns false'. Refute it at one input. -/
def fnExactPollQueueWrong : ChangeSpec := { name := "fnExactPollQueue", fn := fun _ => fun
  | [d1, d2, d3, d4, d5, d6, d7] => { results := [.lit (.bool false)], args := [d1, d2, d3, d4, d5, d6, d7] }
  | _ => none }
def FnExactPollQueueWrongFalsely : Prop := fnExactPollQueueRow.holds Tryz.pinned (OpenSpec.ofChange fnExactPollQueueWrong)

/- THE SECOND FORM. 'bulk': how many values and letters a reading holds, each counted each time it is reached (what is shared counts as often as it is met; a slice's spare places count too). A statement '..UptoSaid' is the law's where the arguments, and the package variables that the reading takes, are together of bulk at most 1048576: NARROWER than '..Said'. Prove '..Said' where nothing that the law and all that it calls make is longer than what came in: it says more and counts as full. Else prove '..UptoSaid'. A law counts once. -/
mutual
def uptoBulk {H : Type} : DataW H → Nat
  | .lit (.string bytes) => bytes.length + 1
  | .lit _ => 1
  | .nil => 1
  | .ptr d => uptoBulk d + 1
  | .slice elems spare => uptoBulkAll elems + uptoBulkAll spare + 1
  | .agg parts => uptoBulkAll parts + 1
  | .iface _ d => uptoBulk d + 1
  | .map entries => uptoBulkEntries entries + 1
  | .held _ => 1
def uptoBulkAll {H : Type} : List (DataW H) → Nat
  | [] => 0
  | d :: r => uptoBulk d + uptoBulkAll r
def uptoBulkEntries {H : Type} : List (Lit × DataW H) → Nat
  | [] => 0
  | x :: r => uptoBulkEntry x + uptoBulkEntries r
def uptoBulkEntry {H : Type} : Lit × DataW H → Nat
  | (.string bytes, d) => bytes.length + uptoBulk d + 1
  | (_, d) => uptoBulk d + 1
 end
def uptoSmall : (H : Type) → List (DataW H) → Bool := fun _ ds => decide (uptoBulkAll ds ≤ 1048576)
def OpenSpec.upto (s : _root_.Go.ChangeSpec) : _root_.Go.OpenSpec := { _root_.Go.OpenSpec.ofChange s with cond := some uptoSmall }

/-- 'laws.FnSentAsSoftware', WHERE WHAT IT READS IS OF BULK AT MOST 1048576: true; the input reads as it did. -/
def fnSentAsSoftwareUptoRow : OpenClaim := { program := "ytbdcaacpemkloaagreat", sum := "0cff823906ec2c3779d6509d687db03c339df23a7dffe7204bd91b824bc71854", func := "loop.example/g03312/laws.FnSentAsSoftware", spec := "fnSentAsSoftware", apart := false, narrowed := true }
def FnSentAsSoftwareUptoSaid : Prop := fnSentAsSoftwareUptoRow.holds Tryz.pinned (OpenSpec.upto fnSentAsSoftwareSpec)

/-- 'laws.FnOwnBytes', WHERE WHAT IT READS IS OF BULK AT MOST 1048576: true; the input reads as it did. -/
def fnOwnBytesUptoRow : OpenClaim := { program := "ytbdcaacpemkloaagreat", sum := "0cff823906ec2c3779d6509d687db03c339df23a7dffe7204bd91b824bc71854", func := "loop.example/g03312/laws.FnOwnBytes", spec := "fnOwnBytes", apart := false, narrowed := true }
def FnOwnBytesUptoSaid : Prop := fnOwnBytesUptoRow.holds Tryz.pinned (OpenSpec.upto fnOwnBytesSpec)

/-- 'laws.FnExactSendPacket', WHERE WHAT IT READS IS OF BULK AT MOST 1048576: true; the input reads as it did. -/
def fnExactSendPacketUptoRow : OpenClaim := { program := "ytbdcaacpemkloaagreat", sum := "0cff823906ec2c3779d6509d687db03c339df23a7dffe7204bd91b824bc71854", func := "loop.example/g03312/laws.FnExactSendPacket", spec := "fnExactSendPacket", apart := false, narrowed := true }
def FnExactSendPacketUptoSaid : Prop := fnExactSendPacketUptoRow.holds Tryz.pinned (OpenSpec.upto fnExactSendPacketSpec)

/-- 'laws.FnSentInOrder', WHERE WHAT IT READS IS OF BULK AT MOST 1048576: true; the input reads as it did. -/
def fnSentInOrderUptoRow : OpenClaim := { program := "ytbdcaacpemkloaagreat", sum := "0cff823906ec2c3779d6509d687db03c339df23a7dffe7204bd91b824bc71854", func := "loop.example/g03312/laws.FnSentInOrder", spec := "fnSentInOrder", apart := false, narrowed := true }
def FnSentInOrderUptoSaid : Prop := fnSentInOrderUptoRow.holds Tryz.pinned (OpenSpec.upto fnSentInOrderSpec)

/-- 'laws.FnExactPollQueue', WHERE WHAT IT READS IS OF BULK AT MOST 1048576: true; the input reads as it did. -/
def fnExactPollQueueUptoRow : OpenClaim := { program := "ytbdcaacpemkloaagreat", sum := "0cff823906ec2c3779d6509d687db03c339df23a7dffe7204bd91b824bc71854", func := "loop.example/g03312/laws.FnExactPollQueue", spec := "fnExactPollQueue", apart := false, narrowed := true }
def FnExactPollQueueUptoSaid : Prop := fnExactPollQueueUptoRow.holds Tryz.pinned (OpenSpec.upto fnExactPollQueueSpec)

end Rows
end Go.Proofs.YtbdcaacpemkloaaGreat

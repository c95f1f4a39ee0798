/- A super-packet against the empty one. -/
import Derived.Test.YtelkplponnfkpaaRows
import Derived.Test.YtelkplponnfkpaaRx2
import Derived.Laws.StructEq
namespace Go.Proofs.Ytelkplponnfkpaa
open Go.RowKit
set_option linter.unusedVariables false
set_option linter.unusedSimpArgs false

def zeroB (dm sm vl tos id ttl si di kind sp dp seq ack fl win : Int) (bd : ByteArray) (hz hc : Int) : Bool := dm == 0 && (sm == 0 && (vl == 0 && (tos == 0 && (id == 0 && (ttl == 0 && (si == 0 && (di == 0 && (kind == 0 && (sp == 0 && (dp == 0 && (seq == 0 && (ack == 0 && (fl == 0 && (win == 0 && (bd.toList == [] && (hz == 0 && hc == 0))))))))))))))))

theorem ite_ok {w : World} (p : Prop) [Decidable p] (b : Bool) : (if p then (Result.ok b w : Result Bool) else .ok false w) = .ok (decide p && b) w := by by_cases h : p <;> simp [h]
set_option maxRecDepth 100000 in
set_option maxHeartbeats 4000000 in
theorem eq_held {dm sm vl tos id ttl si di kind sp dp seq ack fl win : Int} {bd : ByteArray} {hz hc : Int} {q : Bool} (hq : zeroB dm sm vl tos id ttl si di kind sp dp seq ack fl win bd hz hc = q) (w : World) :
    (Op.equalIn 10000 78 (.agg #[.int .i64 dm, .int .i64 sm, .int .i64 vl, .int .i64 tos, .int .i64 id, .int .i64 ttl, .int .i64 si, .int .i64 di, .int .i64 kind, .int .i64 sp, .int .i64 dp, .int .i64 seq, .int .i64 ack, .int .i64 fl, .int .i64 win, .string bd, .int .i64 hz, .int .i64 hc]) (.agg #[.int .i64 0, .int .i64 0, .int .i64 0, .int .i64 0, .int .i64 0, .int .i64 0, .int .i64 0, .int .i64 0, .int .i64 0, .int .i64 0, .int .i64 0, .int .i64 0, .int .i64 0, .int .i64 0, .int .i64 0, .string ⟨#[]⟩, .int .i64 0, .int .i64 0])).run Try.prog w = .ok q w := by
  subst hq
  go_simp
  simp only [ite_ok]
  congr 1
  unfold zeroB
  rw [Bool.eq_iff_iff]
  simp

def rxOkB (b s h t db dz dc eb ez ec dm sm vl tos id ttl si di kind sp dp seq ack fl win : Int) (bd : ByteArray) (hz hc : Int) (hold : Bool) (drop : Int) : Bool := ringOkB b s h t && (queueOkB db dz dc && (queueOkB eb ez ec && (db == eb && (dz == ez && (inB drop 0 1000000000000 && ((!hold && zeroB dm sm vl tos id ttl si di kind sp dp seq ack fl win bd hz hc) || (hold && (superOkB dm sm vl tos id ttl si di kind sp dp seq ack fl win bd.size && (inB hz 0 320 && inB hc 1 320)))))))))

theorem queueOk_v {b s c : Int} {q : Bool} (hq : queueOkB b s c = q) (w : World) :
    Calls Try.prog 15 #[.agg #[.int .i64 b, .int .i64 s, .int .i64 c]] w fun e w' => e = .returned (.bool q) ∧ Ex w w' := hq ▸ queueOk_any b s c w

theorem queueOkS_v {b s c : Int} {q : Bool} (hq : queueOkB b s c = q) (w : World) :
    Calls Try.prog 65 #[.agg #[.int .i64 b, .int .i64 s, .int .i64 c]] w fun e w' => e = .returned (.bool q) ∧ Ex w w' := hq ▸ queueOkS_any b s c w

end Go.Proofs.Ytelkplponnfkpaa

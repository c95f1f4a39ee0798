/- Closed facts on the elements of slices. -/
import Derived.Test.YtihgekgkonacfaaRows
import Derived.Test.YtihgekgkonacfaaSep2
namespace Go.Proofs.Ytihgekgkonacfaa
open Go.RowKit
set_option linter.unusedVariables false
set_option linter.unusedSimpArgs false

theorem in_int : infoT Try.prog 3 (.int .i64 0) 1 8 := ⟨by kernel_rfl, rfl⟩
theorem in_bool : infoT Try.prog 4 (.bool false) 1 1 := ⟨by kernel_rfl, rfl⟩
theorem in_string : infoT Try.prog 9 (.string ⟨#[]⟩) 1 16 := ⟨by kernel_rfl, rfl⟩
theorem in_uint8 : infoT Try.prog 5 (.int .u8 0) 1 1 := ⟨by kernel_rfl, rfl⟩
theorem in_Sint : infoT Try.prog 28 (.slice none 0 0) 1 24 := ⟨by kernel_rfl, rfl⟩
theorem in_Suint8 : infoT Try.prog 22 (.slice none 0 0) 1 24 := ⟨by kernel_rfl, rfl⟩
theorem in_impl_Filter : infoT Try.prog 38 (.agg #[.int .i64 0, .bool false, .slice none 0 0]) 3 40 := ⟨by kernel_rfl, rfl⟩
theorem in_impl_Flow : infoT Try.prog 91 (.agg #[.int .i64 0, .int .i64 0, .int .i64 0, .int .i64 0, .int .i64 0]) 5 40 := ⟨by kernel_rfl, rfl⟩
theorem in_impl_FlowTable : infoT Try.prog 27 (.agg #[.slice none 0 0]) 1 24 := ⟨by kernel_rfl, rfl⟩
theorem in_impl_Packet : infoT Try.prog 45 (.agg #[.int .i64 0, .int .i64 0, .int .i64 0, .int .i64 0, .int .i64 0, .int .i64 0, .int .i64 0, .int .i64 0, .int .i64 0, .int .i64 0, .int .i64 0, .int .i64 0, .int .i64 0, .int .i64 0, .int .i64 0, .string ⟨#[]⟩]) 16 136 := ⟨by kernel_rfl, rfl⟩
theorem in_impl_Rule : infoT Try.prog 86 (.agg #[.int .i64 0, .int .i64 0, .int .i64 0, .int .i64 0, .int .i64 0, .int .i64 0, .int .i64 0, .int .i64 0, .int .i64 0]) 9 72 := ⟨by kernel_rfl, rfl⟩
theorem in_impl_Segment : infoT Try.prog 43 (.agg #[.int .i64 0, .int .i64 0, .int .i64 0, .int .i64 0, .int .i64 0, .int .i64 0, .int .i64 0, .string ⟨#[]⟩]) 8 72 := ⟨by kernel_rfl, rfl⟩
theorem in_impl_Slot : infoT Try.prog 107 (.agg #[.int .i64 0, .int .i64 0, .int .i64 0, .int .i64 0, .int .i64 0, .int .i64 0, .int .i64 0]) 7 56 := ⟨by kernel_rfl, rfl⟩
theorem in_impl_Spread : infoT Try.prog 30 (.agg #[.string ⟨#[]⟩, .slice none 0 0]) 2 40 := ⟨by kernel_rfl, rfl⟩
theorem in_impl_Steering : infoT Try.prog 32 (.agg #[.slice none 0 0, .slice none 0 0, .string ⟨#[]⟩, .slice none 0 0]) 4 88 := ⟨by kernel_rfl, rfl⟩
theorem in_laws_Filter : infoT Try.prog 48 (.agg #[.int .i64 0, .bool false, .slice none 0 0]) 3 40 := ⟨by kernel_rfl, rfl⟩
theorem in_laws_Packet : infoT Try.prog 72 (.agg #[.int .i64 0, .int .i64 0, .int .i64 0, .int .i64 0, .int .i64 0, .int .i64 0, .int .i64 0, .int .i64 0, .int .i64 0, .int .i64 0, .int .i64 0, .int .i64 0, .int .i64 0, .int .i64 0, .int .i64 0, .string ⟨#[]⟩]) 16 136 := ⟨by kernel_rfl, rfl⟩
theorem in_laws_Segment : infoT Try.prog 70 (.agg #[.int .i64 0, .int .i64 0, .int .i64 0, .int .i64 0, .int .i64 0, .int .i64 0, .int .i64 0, .string ⟨#[]⟩]) 8 72 := ⟨by kernel_rfl, rfl⟩
theorem in_spec_l01Cur : infoT Try.prog 79 (.agg #[.slice none 0 0, .int .i64 0, .int .i64 0]) 3 40 := ⟨by kernel_rfl, rfl⟩

end Go.Proofs.Ytihgekgkonacfaa

/- Closed facts on the elements of slices. -/
import Derived.Test.YtlpipllhbobfbaaRows
import Derived.Test.YtlpipllhbobfbaaSep2
namespace Go.Proofs.Ytlpipllhbobfbaa
open Go.RowKit
set_option linter.unusedVariables false
set_option linter.unusedSimpArgs false

theorem in_int : infoT Try.prog 3 (.int .i64 0) 1 8 := ⟨by kernel_rfl, rfl⟩
theorem in_bool : infoT Try.prog 4 (.bool false) 1 1 := ⟨by kernel_rfl, rfl⟩
theorem in_string : infoT Try.prog 9 (.string ⟨#[]⟩) 1 16 := ⟨by kernel_rfl, rfl⟩
theorem in_uint8 : infoT Try.prog 5 (.int .u8 0) 1 1 := ⟨by kernel_rfl, rfl⟩
theorem in_Sint : infoT Try.prog 33 (.slice none 0 0) 1 24 := ⟨by kernel_rfl, rfl⟩
theorem in_SSint : infoT Try.prog 66 (.slice none 0 0) 1 24 := ⟨by kernel_rfl, rfl⟩
theorem in_Suint8 : infoT Try.prog 29 (.slice none 0 0) 1 24 := ⟨by kernel_rfl, rfl⟩
theorem in_impl_Bucket : infoT Try.prog 32 (.agg #[.int .i64 0, .int .i64 0, .int .i64 0]) 3 24 := ⟨by kernel_rfl, rfl⟩
theorem in_impl_CompletionQueue : infoT Try.prog 99 (.agg #[.int .i64 0, .int .i64 0, .int .i64 0]) 3 24 := ⟨by kernel_rfl, rfl⟩
theorem in_impl_Fair : infoT Try.prog 71 (.agg #[.slice none 0 0, .slice none 0 0, .int .i64 0, .int .i64 0, .bool false]) 5 72 := ⟨by kernel_rfl, rfl⟩
theorem in_impl_Filter : infoT Try.prog 58 (.agg #[.int .i64 0, .bool false, .slice none 0 0]) 3 40 := ⟨by kernel_rfl, rfl⟩
theorem in_impl_Packet : infoT Try.prog 62 (.agg #[.int .i64 0, .int .i64 0, .int .i64 0, .int .i64 0, .int .i64 0, .int .i64 0, .int .i64 0, .int .i64 0, .int .i64 0, .int .i64 0, .int .i64 0, .int .i64 0, .int .i64 0, .int .i64 0, .int .i64 0, .string ⟨#[]⟩]) 16 136 := ⟨by kernel_rfl, rfl⟩
theorem in_impl_Ring : infoT Try.prog 98 (.agg #[.int .i64 0, .int .i64 0, .int .i64 0, .int .i64 0]) 4 32 := ⟨by kernel_rfl, rfl⟩
theorem in_impl_RxQueue : infoT Try.prog 103 (.agg #[.int .i64 0, .int .i64 0, .int .i64 0, .int .i64 0, .int .i64 0, .int .i64 0, .int .i64 0, .int .i64 0, .int .i64 0, .int .i64 0, .int .i64 0, .int .i64 0, .int .i64 0, .int .i64 0, .int .i64 0, .int .i64 0, .int .i64 0, .int .i64 0, .int .i64 0, .int .i64 0, .int .i64 0, .int .i64 0, .int .i64 0, .int .i64 0, .int .i64 0, .string ⟨#[]⟩, .int .i64 0, .int .i64 0, .bool false, .int .i64 0]) 30 248 := ⟨by kernel_rfl, rfl⟩
theorem in_impl_Segment : infoT Try.prog 60 (.agg #[.int .i64 0, .int .i64 0, .int .i64 0, .int .i64 0, .int .i64 0, .int .i64 0, .int .i64 0, .string ⟨#[]⟩]) 8 72 := ⟨by kernel_rfl, rfl⟩
theorem in_impl_Super : infoT Try.prog 101 (.agg #[.int .i64 0, .int .i64 0, .int .i64 0, .int .i64 0, .int .i64 0, .int .i64 0, .int .i64 0, .int .i64 0, .int .i64 0, .int .i64 0, .int .i64 0, .int .i64 0, .int .i64 0, .int .i64 0, .int .i64 0, .string ⟨#[]⟩, .int .i64 0, .int .i64 0]) 18 152 := ⟨by kernel_rfl, rfl⟩
theorem in_impl_Vector : infoT Try.prog 24 (.agg #[.int .i64 0, .int .i64 0, .int .i64 0, .int .i64 0, .bool false, .bool false]) 6 40 := ⟨by kernel_rfl, rfl⟩
theorem in_laws_Bucket : infoT Try.prog 43 (.agg #[.int .i64 0, .int .i64 0, .int .i64 0]) 3 24 := ⟨by kernel_rfl, rfl⟩
theorem in_laws_CompletionQueue : infoT Try.prog 91 (.agg #[.int .i64 0, .int .i64 0, .int .i64 0]) 3 24 := ⟨by kernel_rfl, rfl⟩
theorem in_laws_Fair : infoT Try.prog 68 (.agg #[.slice none 0 0, .slice none 0 0, .int .i64 0, .int .i64 0, .bool false]) 5 72 := ⟨by kernel_rfl, rfl⟩
theorem in_laws_Filter : infoT Try.prog 50 (.agg #[.int .i64 0, .bool false, .slice none 0 0]) 3 40 := ⟨by kernel_rfl, rfl⟩
theorem in_laws_Packet : infoT Try.prog 54 (.agg #[.int .i64 0, .int .i64 0, .int .i64 0, .int .i64 0, .int .i64 0, .int .i64 0, .int .i64 0, .int .i64 0, .int .i64 0, .int .i64 0, .int .i64 0, .int .i64 0, .int .i64 0, .int .i64 0, .int .i64 0, .string ⟨#[]⟩]) 16 136 := ⟨by kernel_rfl, rfl⟩
theorem in_laws_Ring : infoT Try.prog 89 (.agg #[.int .i64 0, .int .i64 0, .int .i64 0, .int .i64 0]) 4 32 := ⟨by kernel_rfl, rfl⟩
theorem in_laws_RxQueue : infoT Try.prog 95 (.agg #[.int .i64 0, .int .i64 0, .int .i64 0, .int .i64 0, .int .i64 0, .int .i64 0, .int .i64 0, .int .i64 0, .int .i64 0, .int .i64 0, .int .i64 0, .int .i64 0, .int .i64 0, .int .i64 0, .int .i64 0, .int .i64 0, .int .i64 0, .int .i64 0, .int .i64 0, .int .i64 0, .int .i64 0, .int .i64 0, .int .i64 0, .int .i64 0, .int .i64 0, .string ⟨#[]⟩, .int .i64 0, .int .i64 0, .bool false, .int .i64 0]) 30 248 := ⟨by kernel_rfl, rfl⟩
theorem in_laws_Segment : infoT Try.prog 52 (.agg #[.int .i64 0, .int .i64 0, .int .i64 0, .int .i64 0, .int .i64 0, .int .i64 0, .int .i64 0, .string ⟨#[]⟩]) 8 72 := ⟨by kernel_rfl, rfl⟩
theorem in_laws_Super : infoT Try.prog 93 (.agg #[.int .i64 0, .int .i64 0, .int .i64 0, .int .i64 0, .int .i64 0, .int .i64 0, .int .i64 0, .int .i64 0, .int .i64 0, .int .i64 0, .int .i64 0, .int .i64 0, .int .i64 0, .int .i64 0, .int .i64 0, .string ⟨#[]⟩, .int .i64 0, .int .i64 0]) 18 152 := ⟨by kernel_rfl, rfl⟩
theorem in_laws_Vector : infoT Try.prog 23 (.agg #[.int .i64 0, .int .i64 0, .int .i64 0, .int .i64 0, .bool false, .bool false]) 6 40 := ⟨by kernel_rfl, rfl⟩
theorem in_spec_l01Cur : infoT Try.prog 129 (.agg #[.slice none 0 0, .int .i64 0, .int .i64 0]) 3 40 := ⟨by kernel_rfl, rfl⟩

end Go.Proofs.Ytlpipllhbobfbaa

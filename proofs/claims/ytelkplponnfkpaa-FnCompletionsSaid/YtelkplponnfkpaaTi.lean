/- Closed facts on the elements of slices. -/
import Derived.Test.YtelkplponnfkpaaRows
import Derived.Test.YtelkplponnfkpaaSep2
namespace Go.Proofs.Ytelkplponnfkpaa
open Go.RowKit
set_option linter.unusedVariables false
set_option linter.unusedSimpArgs false

theorem in_int : infoT Try.prog 3 (.int .i64 0) 1 8 := ⟨by kernel_rfl, rfl⟩
theorem in_bool : infoT Try.prog 4 (.bool false) 1 1 := ⟨by kernel_rfl, rfl⟩
theorem in_string : infoT Try.prog 9 (.string ⟨#[]⟩) 1 16 := ⟨by kernel_rfl, rfl⟩
theorem in_uint8 : infoT Try.prog 5 (.int .u8 0) 1 1 := ⟨by kernel_rfl, rfl⟩
theorem in_Sint : infoT Try.prog 91 (.slice none 0 0) 1 24 := ⟨by kernel_rfl, rfl⟩
theorem in_Sstring : infoT Try.prog 25 (.slice none 0 0) 1 24 := ⟨by kernel_rfl, rfl⟩
theorem in_Suint8 : infoT Try.prog 22 (.slice none 0 0) 1 24 := ⟨by kernel_rfl, rfl⟩
theorem in_Sbool : infoT Try.prog 172 (.slice none 0 0) 1 24 := ⟨by kernel_rfl, rfl⟩
theorem in_impl_Completion : infoT Try.prog 41 (.agg #[.int .i64 0, .int .i64 0, .int .i64 0, .int .i64 0, .int .i64 0]) 5 40 := ⟨by kernel_rfl, rfl⟩
theorem in_impl_CompletionQueue : infoT Try.prog 36 (.agg #[.int .i64 0, .int .i64 0, .int .i64 0]) 3 24 := ⟨by kernel_rfl, rfl⟩
theorem in_impl_Desc : infoT Try.prog 135 (.agg #[.int .i64 0, .int .i64 0, .int .i64 0, .int .i64 0, .int .i64 0, .int .i64 0]) 6 48 := ⟨by kernel_rfl, rfl⟩
theorem in_impl_Mapping : infoT Try.prog 33 (.agg #[.int .i64 0, .int .i64 0, .int .i64 0, .bool false]) 4 32 := ⟨by kernel_rfl, rfl⟩
theorem in_impl_Memory : infoT Try.prog 27 (.agg #[.slice none 0 0]) 1 24 := ⟨by kernel_rfl, rfl⟩
theorem in_impl_Packet : infoT Try.prog 76 (.agg #[.int .i64 0, .int .i64 0, .int .i64 0, .int .i64 0, .int .i64 0, .int .i64 0, .int .i64 0, .int .i64 0, .int .i64 0, .int .i64 0, .int .i64 0, .int .i64 0, .int .i64 0, .int .i64 0, .int .i64 0, .string ⟨#[]⟩]) 16 136 := ⟨by kernel_rfl, rfl⟩
theorem in_impl_Pool : infoT Try.prog 95 (.agg #[.int .i64 0, .int .i64 0, .int .i64 0, .slice none 0 0]) 4 48 := ⟨by kernel_rfl, rfl⟩
theorem in_impl_Ring : infoT Try.prog 29 (.agg #[.int .i64 0, .int .i64 0, .int .i64 0, .int .i64 0]) 4 32 := ⟨by kernel_rfl, rfl⟩
theorem in_impl_RxQueue : infoT Try.prog 80 (.agg #[.int .i64 0, .int .i64 0, .int .i64 0, .int .i64 0, .int .i64 0, .int .i64 0, .int .i64 0, .int .i64 0, .int .i64 0, .int .i64 0, .int .i64 0, .int .i64 0, .int .i64 0, .int .i64 0, .int .i64 0, .int .i64 0, .int .i64 0, .int .i64 0, .int .i64 0, .int .i64 0, .int .i64 0, .int .i64 0, .int .i64 0, .int .i64 0, .int .i64 0, .string ⟨#[]⟩, .int .i64 0, .int .i64 0, .bool false, .int .i64 0]) 30 248 := ⟨by kernel_rfl, rfl⟩
theorem in_impl_Segment : infoT Try.prog 74 (.agg #[.int .i64 0, .int .i64 0, .int .i64 0, .int .i64 0, .int .i64 0, .int .i64 0, .int .i64 0, .string ⟨#[]⟩]) 8 72 := ⟨by kernel_rfl, rfl⟩
theorem in_impl_Super : infoT Try.prog 78 (.agg #[.int .i64 0, .int .i64 0, .int .i64 0, .int .i64 0, .int .i64 0, .int .i64 0, .int .i64 0, .int .i64 0, .int .i64 0, .int .i64 0, .int .i64 0, .int .i64 0, .int .i64 0, .int .i64 0, .int .i64 0, .string ⟨#[]⟩, .int .i64 0, .int .i64 0]) 18 152 := ⟨by kernel_rfl, rfl⟩
theorem in_impl_run : infoT Try.prog 162 (.agg #[.int .i64 0, .int .i64 0]) 2 16 := ⟨by kernel_rfl, rfl⟩
theorem in_laws_Completion : infoT Try.prog 58 (.agg #[.int .i64 0, .int .i64 0, .int .i64 0, .int .i64 0, .int .i64 0]) 5 40 := ⟨by kernel_rfl, rfl⟩
theorem in_laws_CompletionQueue : infoT Try.prog 47 (.agg #[.int .i64 0, .int .i64 0, .int .i64 0]) 3 24 := ⟨by kernel_rfl, rfl⟩
theorem in_laws_Mapping : infoT Try.prog 123 (.agg #[.int .i64 0, .int .i64 0, .int .i64 0, .bool false]) 4 32 := ⟨by kernel_rfl, rfl⟩
theorem in_laws_Memory : infoT Try.prog 46 (.agg #[.slice none 0 0]) 1 24 := ⟨by kernel_rfl, rfl⟩
theorem in_laws_Packet : infoT Try.prog 67 (.agg #[.int .i64 0, .int .i64 0, .int .i64 0, .int .i64 0, .int .i64 0, .int .i64 0, .int .i64 0, .int .i64 0, .int .i64 0, .int .i64 0, .int .i64 0, .int .i64 0, .int .i64 0, .int .i64 0, .int .i64 0, .string ⟨#[]⟩]) 16 136 := ⟨by kernel_rfl, rfl⟩
theorem in_laws_Pool : infoT Try.prog 93 (.agg #[.int .i64 0, .int .i64 0, .int .i64 0, .slice none 0 0]) 4 48 := ⟨by kernel_rfl, rfl⟩
theorem in_laws_Ring : infoT Try.prog 63 (.agg #[.int .i64 0, .int .i64 0, .int .i64 0, .int .i64 0]) 4 32 := ⟨by kernel_rfl, rfl⟩
theorem in_laws_RxQueue : infoT Try.prog 71 (.agg #[.int .i64 0, .int .i64 0, .int .i64 0, .int .i64 0, .int .i64 0, .int .i64 0, .int .i64 0, .int .i64 0, .int .i64 0, .int .i64 0, .int .i64 0, .int .i64 0, .int .i64 0, .int .i64 0, .int .i64 0, .int .i64 0, .int .i64 0, .int .i64 0, .int .i64 0, .int .i64 0, .int .i64 0, .int .i64 0, .int .i64 0, .int .i64 0, .int .i64 0, .string ⟨#[]⟩, .int .i64 0, .int .i64 0, .bool false, .int .i64 0]) 30 248 := ⟨by kernel_rfl, rfl⟩
theorem in_laws_Segment : infoT Try.prog 65 (.agg #[.int .i64 0, .int .i64 0, .int .i64 0, .int .i64 0, .int .i64 0, .int .i64 0, .int .i64 0, .string ⟨#[]⟩]) 8 72 := ⟨by kernel_rfl, rfl⟩
theorem in_laws_Super : infoT Try.prog 69 (.agg #[.int .i64 0, .int .i64 0, .int .i64 0, .int .i64 0, .int .i64 0, .int .i64 0, .int .i64 0, .int .i64 0, .int .i64 0, .int .i64 0, .int .i64 0, .int .i64 0, .int .i64 0, .int .i64 0, .int .i64 0, .string ⟨#[]⟩, .int .i64 0, .int .i64 0]) 18 152 := ⟨by kernel_rfl, rfl⟩
theorem in_spec_l01Cur : infoT Try.prog 148 (.agg #[.slice none 0 0, .int .i64 0, .int .i64 0]) 3 40 := ⟨by kernel_rfl, rfl⟩

end Go.Proofs.Ytelkplponnfkpaa

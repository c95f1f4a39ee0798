/- Closed facts on the elements of slices. -/
import Derived.Test.YtpnhoallpaanoaaRows
import Derived.Test.YtpnhoallpaanoaaSep2
namespace Go.Proofs.Ytpnhoallpaanoaa
open Go.RowKit
set_option linter.unusedVariables false
set_option linter.unusedSimpArgs false

theorem in_int : infoT Try.prog 3 (.int .i64 0) 1 8 := ⟨by kernel_rfl, rfl⟩
theorem in_bool : infoT Try.prog 4 (.bool false) 1 1 := ⟨by kernel_rfl, rfl⟩
theorem in_string : infoT Try.prog 9 (.string ⟨#[]⟩) 1 16 := ⟨by kernel_rfl, rfl⟩
theorem in_uint8 : infoT Try.prog 5 (.int .u8 0) 1 1 := ⟨by kernel_rfl, rfl⟩
theorem in_Sint : infoT Try.prog 24 (.slice none 0 0) 1 24 := ⟨by kernel_rfl, rfl⟩
theorem in_SSint : infoT Try.prog 36 (.slice none 0 0) 1 24 := ⟨by kernel_rfl, rfl⟩
theorem in_Suint8 : infoT Try.prog 22 (.slice none 0 0) 1 24 := ⟨by kernel_rfl, rfl⟩
theorem in_Sbool : infoT Try.prog 27 (.slice none 0 0) 1 24 := ⟨by kernel_rfl, rfl⟩
theorem in_impl_Fair : infoT Try.prog 38 (.agg #[.slice none 0 0, .slice none 0 0, .int .i64 0, .int .i64 0, .bool false]) 5 72 := ⟨by kernel_rfl, rfl⟩
theorem in_impl_Filter : infoT Try.prog 67 (.agg #[.int .i64 0, .bool false, .slice none 0 0]) 3 40 := ⟨by kernel_rfl, rfl⟩
theorem in_impl_Flow : infoT Try.prog 136 (.agg #[.int .i64 0, .int .i64 0, .int .i64 0, .int .i64 0, .int .i64 0]) 5 40 := ⟨by kernel_rfl, rfl⟩
theorem in_impl_FlowTable : infoT Try.prog 57 (.agg #[.slice none 0 0]) 1 24 := ⟨by kernel_rfl, rfl⟩
theorem in_impl_Packet : infoT Try.prog 74 (.agg #[.int .i64 0, .int .i64 0, .int .i64 0, .int .i64 0, .int .i64 0, .int .i64 0, .int .i64 0, .int .i64 0, .int .i64 0, .int .i64 0, .int .i64 0, .int .i64 0, .int .i64 0, .int .i64 0, .int .i64 0, .string ⟨#[]⟩]) 16 136 := ⟨by kernel_rfl, rfl⟩
theorem in_impl_PauseLink : infoT Try.prog 29 (.agg #[.int .i64 0, .int .i64 0, .int .i64 0, .int .i64 0, .int .i64 0, .bool false, .slice none 0 0, .slice none 0 0, .bool false, .int .i64 0]) 10 112 := ⟨by kernel_rfl, rfl⟩
theorem in_impl_Rule : infoT Try.prog 132 (.agg #[.int .i64 0, .int .i64 0, .int .i64 0, .int .i64 0, .int .i64 0, .int .i64 0, .int .i64 0, .int .i64 0, .int .i64 0]) 9 72 := ⟨by kernel_rfl, rfl⟩
theorem in_impl_Segment : infoT Try.prog 72 (.agg #[.int .i64 0, .int .i64 0, .int .i64 0, .int .i64 0, .int .i64 0, .int .i64 0, .int .i64 0, .string ⟨#[]⟩]) 8 72 := ⟨by kernel_rfl, rfl⟩
theorem in_impl_Slot : infoT Try.prog 151 (.agg #[.int .i64 0, .int .i64 0, .int .i64 0, .int .i64 0, .int .i64 0, .int .i64 0, .int .i64 0]) 7 56 := ⟨by kernel_rfl, rfl⟩
theorem in_impl_Spread : infoT Try.prog 59 (.agg #[.string ⟨#[]⟩, .slice none 0 0]) 2 40 := ⟨by kernel_rfl, rfl⟩
theorem in_impl_Steering : infoT Try.prog 61 (.agg #[.slice none 0 0, .slice none 0 0, .string ⟨#[]⟩, .slice none 0 0]) 4 88 := ⟨by kernel_rfl, rfl⟩
theorem in_laws_Fair : infoT Try.prog 46 (.agg #[.slice none 0 0, .slice none 0 0, .int .i64 0, .int .i64 0, .bool false]) 5 72 := ⟨by kernel_rfl, rfl⟩
theorem in_laws_Filter : infoT Try.prog 79 (.agg #[.int .i64 0, .bool false, .slice none 0 0]) 3 40 := ⟨by kernel_rfl, rfl⟩
theorem in_laws_Packet : infoT Try.prog 119 (.agg #[.int .i64 0, .int .i64 0, .int .i64 0, .int .i64 0, .int .i64 0, .int .i64 0, .int .i64 0, .int .i64 0, .int .i64 0, .int .i64 0, .int .i64 0, .int .i64 0, .int .i64 0, .int .i64 0, .int .i64 0, .string ⟨#[]⟩]) 16 136 := ⟨by kernel_rfl, rfl⟩
theorem in_laws_Segment : infoT Try.prog 117 (.agg #[.int .i64 0, .int .i64 0, .int .i64 0, .int .i64 0, .int .i64 0, .int .i64 0, .int .i64 0, .string ⟨#[]⟩]) 8 72 := ⟨by kernel_rfl, rfl⟩
theorem in_spec_l01Cur : infoT Try.prog 124 (.agg #[.slice none 0 0, .int .i64 0, .int .i64 0]) 3 40 := ⟨by kernel_rfl, rfl⟩

end Go.Proofs.Ytpnhoallpaanoaa

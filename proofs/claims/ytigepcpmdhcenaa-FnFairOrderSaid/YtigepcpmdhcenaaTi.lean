/- Closed facts on the elements of slices. -/
import Derived.Test.YtigepcpmdhcenaaRows
import Derived.Test.YtigepcpmdhcenaaSep2
namespace Go.Proofs.Ytigepcpmdhcenaa
open Go.RowKit
set_option linter.unusedVariables false
set_option linter.unusedSimpArgs false

theorem in_int : infoT Try.prog 3 (.int .i64 0) 1 8 := ⟨by kernel_rfl, rfl⟩
theorem in_bool : infoT Try.prog 4 (.bool false) 1 1 := ⟨by kernel_rfl, rfl⟩
theorem in_string : infoT Try.prog 9 (.string ⟨#[]⟩) 1 16 := ⟨by kernel_rfl, rfl⟩
theorem in_uint8 : infoT Try.prog 5 (.int .u8 0) 1 1 := ⟨by kernel_rfl, rfl⟩
theorem in_Sint : infoT Try.prog 25 (.slice none 0 0) 1 24 := ⟨by kernel_rfl, rfl⟩
theorem in_SSint : infoT Try.prog 24 (.slice none 0 0) 1 24 := ⟨by kernel_rfl, rfl⟩
theorem in_Suint8 : infoT Try.prog 22 (.slice none 0 0) 1 24 := ⟨by kernel_rfl, rfl⟩
theorem in_impl_Fair : infoT Try.prog 27 (.agg #[.slice none 0 0, .slice none 0 0, .int .i64 0, .int .i64 0, .bool false]) 5 72 := ⟨by kernel_rfl, rfl⟩
theorem in_spec_l01Cur : infoT Try.prog 47 (.agg #[.slice none 0 0, .int .i64 0, .int .i64 0]) 3 40 := ⟨by kernel_rfl, rfl⟩

end Go.Proofs.Ytigepcpmdhcenaa

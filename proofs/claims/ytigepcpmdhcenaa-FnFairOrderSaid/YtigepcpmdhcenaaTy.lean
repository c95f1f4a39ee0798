/- Closed facts on the types. -/
import Derived.Test.YtigepcpmdhcenaaRows
import Derived.Test.YtigepcpmdhcenaaSep
namespace Go.Proofs.Ytigepcpmdhcenaa
open Go.RowKit
set_option linter.unusedVariables false
set_option linter.unusedSimpArgs false

theorem sc_int : scalarT Try.prog 3 := ⟨_, Try.underlying3, rfl⟩
theorem zc_int : zeroCells' Try.prog 3 = some [.int .i64 0] := by kernel_rfl
theorem sz_int : (Try.prog.info? 3).map (·.size) = some 1 := by kernel_rfl
theorem sc_bool : scalarT Try.prog 4 := ⟨_, Try.underlying4, rfl⟩
theorem zc_bool : zeroCells' Try.prog 4 = some [.bool false] := by kernel_rfl
theorem sz_bool : (Try.prog.info? 4).map (·.size) = some 1 := by kernel_rfl
theorem sc_string : scalarT Try.prog 9 := ⟨_, Try.underlying9, rfl⟩
theorem zc_string : zeroCells' Try.prog 9 = some [.string ⟨#[]⟩] := by kernel_rfl
theorem sz_string : (Try.prog.info? 9).map (·.size) = some 1 := by kernel_rfl
theorem sc_uint8 : scalarT Try.prog 5 := ⟨_, Try.underlying5, rfl⟩
theorem zc_uint8 : zeroCells' Try.prog 5 = some [.int .u8 0] := by kernel_rfl
theorem sz_uint8 : (Try.prog.info? 5).map (·.size) = some 1 := by kernel_rfl
theorem sc_Sint : scalarT Try.prog 25 := ⟨_, Try.underlying25, rfl⟩
theorem zc_Sint : zeroCells' Try.prog 25 = some [.slice none 0 0] := by kernel_rfl
theorem sz_Sint : (Try.prog.info? 25).map (·.size) = some 1 := by kernel_rfl
theorem sc_SSint : scalarT Try.prog 24 := ⟨_, Try.underlying24, rfl⟩
theorem zc_SSint : zeroCells' Try.prog 24 = some [.slice none 0 0] := by kernel_rfl
theorem sz_SSint : (Try.prog.info? 24).map (·.size) = some 1 := by kernel_rfl
theorem sc_Suint8 : scalarT Try.prog 22 := ⟨_, Try.underlying22, rfl⟩
theorem zc_Suint8 : zeroCells' Try.prog 22 = some [.slice none 0 0] := by kernel_rfl
theorem sz_Suint8 : (Try.prog.info? 22).map (·.size) = some 1 := by kernel_rfl
theorem ag_impl_Fair : aggT Try.prog 27 5 := ⟨⟨_, Try.underlying27, rfl⟩, by kernel_rfl⟩
theorem zc_impl_Fair : zeroCells' Try.prog 27 = some [.slice none 0 0, .slice none 0 0, .int .i64 0, .int .i64 0, .bool false] := by kernel_rfl
theorem sz_impl_Fair : (Try.prog.info? 27).map (·.size) = some 5 := by kernel_rfl
theorem ag_spec_l01Cur : aggT Try.prog 47 3 := ⟨⟨_, Try.underlying47, rfl⟩, by kernel_rfl⟩
theorem zc_spec_l01Cur : zeroCells' Try.prog 47 = some [.slice none 0 0, .int .i64 0, .int .i64 0] := by kernel_rfl
theorem sz_spec_l01Cur : (Try.prog.info? 47).map (·.size) = some 3 := by kernel_rfl

end Go.Proofs.Ytigepcpmdhcenaa

/- Closed facts on the types. -/
import Derived.Test.YtpnhoallpaanoaaRows
import Derived.Test.YtpnhoallpaanoaaSep
namespace Go.Proofs.Ytpnhoallpaanoaa
open Go.RowKit
set_option linter.unusedVariables false
set_option linter.unusedSimpArgs false

theorem sc_int : scalarT Try.prog 3 := ⟨_, Try.underlying3, rfl⟩
theorem zc_int : zeroCells' Try.prog 3 = some [.int .i64 0] := by kernel_rfl
theorem sz_int : (Try.prog.info? 3).map (·.size) = some 1 := by kernel_rfl
theorem sc_bool : scalarT Try.prog 4 := ⟨_, Try.underlying4, rfl⟩
theorem zc_bool : zeroCells' Try.prog 4 = some [.bool false] := by kernel_rfl
theorem sz_bool : (Try.prog.info? 4).map (·.size) = some 1 := by kernel_rfl
theorem sc_string : scalarT Try.prog 9 := ⟨_, Try.underlying9, rfl⟩
theorem zc_string : zeroCells' Try.prog 9 = some [.string ⟨#[]⟩] := by kernel_rfl
theorem sz_string : (Try.prog.info? 9).map (·.size) = some 1 := by kernel_rfl
theorem sc_uint8 : scalarT Try.prog 5 := ⟨_, Try.underlying5, rfl⟩
theorem zc_uint8 : zeroCells' Try.prog 5 = some [.int .u8 0] := by kernel_rfl
theorem sz_uint8 : (Try.prog.info? 5).map (·.size) = some 1 := by kernel_rfl
theorem sc_Sint : scalarT Try.prog 24 := ⟨_, Try.underlying24, rfl⟩
theorem zc_Sint : zeroCells' Try.prog 24 = some [.slice none 0 0] := by kernel_rfl
theorem sz_Sint : (Try.prog.info? 24).map (·.size) = some 1 := by kernel_rfl
theorem sc_SSint : scalarT Try.prog 36 := ⟨_, Try.underlying36, rfl⟩
theorem zc_SSint : zeroCells' Try.prog 36 = some [.slice none 0 0] := by kernel_rfl
theorem sz_SSint : (Try.prog.info? 36).map (·.size) = some 1 := by kernel_rfl
theorem sc_Suint8 : scalarT Try.prog 22 := ⟨_, Try.underlying22, rfl⟩
theorem zc_Suint8 : zeroCells' Try.prog 22 = some [.slice none 0 0] := by kernel_rfl
theorem sz_Suint8 : (Try.prog.info? 22).map (·.size) = some 1 := by kernel_rfl
theorem sc_Sbool : scalarT Try.prog 27 := ⟨_, Try.underlying27, rfl⟩
theorem zc_Sbool : zeroCells' Try.prog 27 = some [.slice none 0 0] := by kernel_rfl
theorem sz_Sbool : (Try.prog.info? 27).map (·.size) = some 1 := by kernel_rfl
theorem ag_impl_Fair : aggT Try.prog 38 5 := ⟨⟨_, Try.underlying38, rfl⟩, by kernel_rfl⟩
theorem zc_impl_Fair : zeroCells' Try.prog 38 = some [.slice none 0 0, .slice none 0 0, .int .i64 0, .int .i64 0, .bool false] := by kernel_rfl
theorem sz_impl_Fair : (Try.prog.info? 38).map (·.size) = some 5 := by kernel_rfl
theorem ag_impl_Filter : aggT Try.prog 67 3 := ⟨⟨_, Try.underlying67, rfl⟩, by kernel_rfl⟩
theorem zc_impl_Filter : zeroCells' Try.prog 67 = some [.int .i64 0, .bool false, .slice none 0 0] := by kernel_rfl
theorem sz_impl_Filter : (Try.prog.info? 67).map (·.size) = some 3 := by kernel_rfl
theorem ag_impl_Flow : aggT Try.prog 136 5 := ⟨⟨_, Try.underlying136, rfl⟩, by kernel_rfl⟩
theorem zc_impl_Flow : zeroCells' Try.prog 136 = some [.int .i64 0, .int .i64 0, .int .i64 0, .int .i64 0, .int .i64 0] := by kernel_rfl
theorem sz_impl_Flow : (Try.prog.info? 136).map (·.size) = some 5 := by kernel_rfl
theorem ag_impl_FlowTable : aggT Try.prog 57 1 := ⟨⟨_, Try.underlying57, rfl⟩, by kernel_rfl⟩
theorem zc_impl_FlowTable : zeroCells' Try.prog 57 = some [.slice none 0 0] := by kernel_rfl
theorem sz_impl_FlowTable : (Try.prog.info? 57).map (·.size) = some 1 := by kernel_rfl
theorem ag_impl_Packet : aggT Try.prog 74 16 := ⟨⟨_, Try.underlying74, rfl⟩, by kernel_rfl⟩
theorem zc_impl_Packet : zeroCells' Try.prog 74 = some [.int .i64 0, .int .i64 0, .int .i64 0, .int .i64 0, .int .i64 0, .int .i64 0, .int .i64 0, .int .i64 0, .int .i64 0, .int .i64 0, .int .i64 0, .int .i64 0, .int .i64 0, .int .i64 0, .int .i64 0, .string ⟨#[]⟩] := by kernel_rfl
theorem sz_impl_Packet : (Try.prog.info? 74).map (·.size) = some 16 := by kernel_rfl
theorem ag_impl_PauseLink : aggT Try.prog 29 10 := ⟨⟨_, Try.underlying29, rfl⟩, by kernel_rfl⟩
theorem zc_impl_PauseLink : zeroCells' Try.prog 29 = some [.int .i64 0, .int .i64 0, .int .i64 0, .int .i64 0, .int .i64 0, .bool false, .slice none 0 0, .slice none 0 0, .bool false, .int .i64 0] := by kernel_rfl
theorem sz_impl_PauseLink : (Try.prog.info? 29).map (·.size) = some 10 := by kernel_rfl
theorem ag_impl_Rule : aggT Try.prog 132 9 := ⟨⟨_, Try.underlying132, rfl⟩, by kernel_rfl⟩
theorem zc_impl_Rule : zeroCells' Try.prog 132 = some [.int .i64 0, .int .i64 0, .int .i64 0, .int .i64 0, .int .i64 0, .int .i64 0, .int .i64 0, .int .i64 0, .int .i64 0] := by kernel_rfl
theorem sz_impl_Rule : (Try.prog.info? 132).map (·.size) = some 9 := by kernel_rfl
theorem ag_impl_Segment : aggT Try.prog 72 8 := ⟨⟨_, Try.underlying72, rfl⟩, by kernel_rfl⟩
theorem zc_impl_Segment : zeroCells' Try.prog 72 = some [.int .i64 0, .int .i64 0, .int .i64 0, .int .i64 0, .int .i64 0, .int .i64 0, .int .i64 0, .string ⟨#[]⟩] := by kernel_rfl
theorem sz_impl_Segment : (Try.prog.info? 72).map (·.size) = some 8 := by kernel_rfl
theorem ag_impl_Slot : aggT Try.prog 151 7 := ⟨⟨_, Try.underlying151, rfl⟩, by kernel_rfl⟩
theorem zc_impl_Slot : zeroCells' Try.prog 151 = some [.int .i64 0, .int .i64 0, .int .i64 0, .int .i64 0, .int .i64 0, .int .i64 0, .int .i64 0] := by kernel_rfl
theorem sz_impl_Slot : (Try.prog.info? 151).map (·.size) = some 7 := by kernel_rfl
theorem ag_impl_Spread : aggT Try.prog 59 2 := ⟨⟨_, Try.underlying59, rfl⟩, by kernel_rfl⟩
theorem zc_impl_Spread : zeroCells' Try.prog 59 = some [.string ⟨#[]⟩, .slice none 0 0] := by kernel_rfl
theorem sz_impl_Spread : (Try.prog.info? 59).map (·.size) = some 2 := by kernel_rfl
theorem ag_impl_Steering : aggT Try.prog 61 4 := ⟨⟨_, Try.underlying61, rfl⟩, by kernel_rfl⟩
theorem zc_impl_Steering : zeroCells' Try.prog 61 = some [.slice none 0 0, .slice none 0 0, .string ⟨#[]⟩, .slice none 0 0] := by kernel_rfl
theorem sz_impl_Steering : (Try.prog.info? 61).map (·.size) = some 4 := by kernel_rfl
theorem ag_laws_Fair : aggT Try.prog 46 5 := ⟨⟨_, Try.underlying46, rfl⟩, by kernel_rfl⟩
theorem zc_laws_Fair : zeroCells' Try.prog 46 = some [.slice none 0 0, .slice none 0 0, .int .i64 0, .int .i64 0, .bool false] := by kernel_rfl
theorem sz_laws_Fair : (Try.prog.info? 46).map (·.size) = some 5 := by kernel_rfl
theorem ag_laws_Filter : aggT Try.prog 79 3 := ⟨⟨_, Try.underlying79, rfl⟩, by kernel_rfl⟩
theorem zc_laws_Filter : zeroCells' Try.prog 79 = some [.int .i64 0, .bool false, .slice none 0 0] := by kernel_rfl
theorem sz_laws_Filter : (Try.prog.info? 79).map (·.size) = some 3 := by kernel_rfl
theorem ag_laws_Packet : aggT Try.prog 119 16 := ⟨⟨_, Try.underlying119, rfl⟩, by kernel_rfl⟩
theorem zc_laws_Packet : zeroCells' Try.prog 119 = some [.int .i64 0, .int .i64 0, .int .i64 0, .int .i64 0, .int .i64 0, .int .i64 0, .int .i64 0, .int .i64 0, .int .i64 0, .int .i64 0, .int .i64 0, .int .i64 0, .int .i64 0, .int .i64 0, .int .i64 0, .string ⟨#[]⟩] := by kernel_rfl
theorem sz_laws_Packet : (Try.prog.info? 119).map (·.size) = some 16 := by kernel_rfl
theorem ag_laws_Segment : aggT Try.prog 117 8 := ⟨⟨_, Try.underlying117, rfl⟩, by kernel_rfl⟩
theorem zc_laws_Segment : zeroCells' Try.prog 117 = some [.int .i64 0, .int .i64 0, .int .i64 0, .int .i64 0, .int .i64 0, .int .i64 0, .int .i64 0, .string ⟨#[]⟩] := by kernel_rfl
theorem sz_laws_Segment : (Try.prog.info? 117).map (·.size) = some 8 := by kernel_rfl
theorem ag_spec_l01Cur : aggT Try.prog 124 3 := ⟨⟨_, Try.underlying124, rfl⟩, by kernel_rfl⟩
theorem zc_spec_l01Cur : zeroCells' Try.prog 124 = some [.slice none 0 0, .int .i64 0, .int .i64 0] := by kernel_rfl
theorem sz_spec_l01Cur : (Try.prog.info? 124).map (·.size) = some 3 := by kernel_rfl

end Go.Proofs.Ytpnhoallpaanoaa

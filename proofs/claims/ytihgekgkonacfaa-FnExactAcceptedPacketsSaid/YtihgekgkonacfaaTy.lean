/- Closed facts on the types. -/
import Derived.Test.YtihgekgkonacfaaRows
import Derived.Test.YtihgekgkonacfaaSep
namespace Go.Proofs.Ytihgekgkonacfaa
open Go.RowKit
set_option linter.unusedVariables false
set_option linter.unusedSimpArgs false

theorem sc_int : scalarT Try.prog 3 := ⟨_, Try.underlying3, rfl⟩
theorem zc_int : zeroCells' Try.prog 3 = some [.int .i64 0] := by kernel_rfl
theorem sz_int : (Try.prog.info? 3).map (·.size) = some 1 := by kernel_rfl
theorem sc_bool : scalarT Try.prog 4 := ⟨_, Try.underlying4, rfl⟩
theorem zc_bool : zeroCells' Try.prog 4 = some [.bool false] := by kernel_rfl
theorem sz_bool : (Try.prog.info? 4).map (·.size) = some 1 := by kernel_rfl
theorem sc_string : scalarT Try.prog 9 := ⟨_, Try.underlying9, rfl⟩
theorem zc_string : zeroCells' Try.prog 9 = some [.string ⟨#[]⟩] := by kernel_rfl
theorem sz_string : (Try.prog.info? 9).map (·.size) = some 1 := by kernel_rfl
theorem sc_uint8 : scalarT Try.prog 5 := ⟨_, Try.underlying5, rfl⟩
theorem zc_uint8 : zeroCells' Try.prog 5 = some [.int .u8 0] := by kernel_rfl
theorem sz_uint8 : (Try.prog.info? 5).map (·.size) = some 1 := by kernel_rfl
theorem sc_Sint : scalarT Try.prog 28 := ⟨_, Try.underlying28, rfl⟩
theorem zc_Sint : zeroCells' Try.prog 28 = some [.slice none 0 0] := by kernel_rfl
theorem sz_Sint : (Try.prog.info? 28).map (·.size) = some 1 := by kernel_rfl
theorem sc_Suint8 : scalarT Try.prog 22 := ⟨_, Try.underlying22, rfl⟩
theorem zc_Suint8 : zeroCells' Try.prog 22 = some [.slice none 0 0] := by kernel_rfl
theorem sz_Suint8 : (Try.prog.info? 22).map (·.size) = some 1 := by kernel_rfl
theorem ag_impl_Filter : aggT Try.prog 38 3 := ⟨⟨_, Try.underlying38, rfl⟩, by kernel_rfl⟩
theorem zc_impl_Filter : zeroCells' Try.prog 38 = some [.int .i64 0, .bool false, .slice none 0 0] := by kernel_rfl
theorem sz_impl_Filter : (Try.prog.info? 38).map (·.size) = some 3 := by kernel_rfl
theorem ag_impl_Flow : aggT Try.prog 91 5 := ⟨⟨_, Try.underlying91, rfl⟩, by kernel_rfl⟩
theorem zc_impl_Flow : zeroCells' Try.prog 91 = some [.int .i64 0, .int .i64 0, .int .i64 0, .int .i64 0, .int .i64 0] := by kernel_rfl
theorem sz_impl_Flow : (Try.prog.info? 91).map (·.size) = some 5 := by kernel_rfl
theorem ag_impl_FlowTable : aggT Try.prog 27 1 := ⟨⟨_, Try.underlying27, rfl⟩, by kernel_rfl⟩
theorem zc_impl_FlowTable : zeroCells' Try.prog 27 = some [.slice none 0 0] := by kernel_rfl
theorem sz_impl_FlowTable : (Try.prog.info? 27).map (·.size) = some 1 := by kernel_rfl
theorem ag_impl_Packet : aggT Try.prog 45 16 := ⟨⟨_, Try.underlying45, rfl⟩, by kernel_rfl⟩
theorem zc_impl_Packet : zeroCells' Try.prog 45 = some [.int .i64 0, .int .i64 0, .int .i64 0, .int .i64 0, .int .i64 0, .int .i64 0, .int .i64 0, .int .i64 0, .int .i64 0, .int .i64 0, .int .i64 0, .int .i64 0, .int .i64 0, .int .i64 0, .int .i64 0, .string ⟨#[]⟩] := by kernel_rfl
theorem sz_impl_Packet : (Try.prog.info? 45).map (·.size) = some 16 := by kernel_rfl
theorem ag_impl_Rule : aggT Try.prog 86 9 := ⟨⟨_, Try.underlying86, rfl⟩, by kernel_rfl⟩
theorem zc_impl_Rule : zeroCells' Try.prog 86 = some [.int .i64 0, .int .i64 0, .int .i64 0, .int .i64 0, .int .i64 0, .int .i64 0, .int .i64 0, .int .i64 0, .int .i64 0] := by kernel_rfl
theorem sz_impl_Rule : (Try.prog.info? 86).map (·.size) = some 9 := by kernel_rfl
theorem ag_impl_Segment : aggT Try.prog 43 8 := ⟨⟨_, Try.underlying43, rfl⟩, by kernel_rfl⟩
theorem zc_impl_Segment : zeroCells' Try.prog 43 = some [.int .i64 0, .int .i64 0, .int .i64 0, .int .i64 0, .int .i64 0, .int .i64 0, .int .i64 0, .string ⟨#[]⟩] := by kernel_rfl
theorem sz_impl_Segment : (Try.prog.info? 43).map (·.size) = some 8 := by kernel_rfl
theorem ag_impl_Slot : aggT Try.prog 107 7 := ⟨⟨_, Try.underlying107, rfl⟩, by kernel_rfl⟩
theorem zc_impl_Slot : zeroCells' Try.prog 107 = some [.int .i64 0, .int .i64 0, .int .i64 0, .int .i64 0, .int .i64 0, .int .i64 0, .int .i64 0] := by kernel_rfl
theorem sz_impl_Slot : (Try.prog.info? 107).map (·.size) = some 7 := by kernel_rfl
theorem ag_impl_Spread : aggT Try.prog 30 2 := ⟨⟨_, Try.underlying30, rfl⟩, by kernel_rfl⟩
theorem zc_impl_Spread : zeroCells' Try.prog 30 = some [.string ⟨#[]⟩, .slice none 0 0] := by kernel_rfl
theorem sz_impl_Spread : (Try.prog.info? 30).map (·.size) = some 2 := by kernel_rfl
theorem ag_impl_Steering : aggT Try.prog 32 4 := ⟨⟨_, Try.underlying32, rfl⟩, by kernel_rfl⟩
theorem zc_impl_Steering : zeroCells' Try.prog 32 = some [.slice none 0 0, .slice none 0 0, .string ⟨#[]⟩, .slice none 0 0] := by kernel_rfl
theorem sz_impl_Steering : (Try.prog.info? 32).map (·.size) = some 4 := by kernel_rfl
theorem ag_laws_Filter : aggT Try.prog 48 3 := ⟨⟨_, Try.underlying48, rfl⟩, by kernel_rfl⟩
theorem zc_laws_Filter : zeroCells' Try.prog 48 = some [.int .i64 0, .bool false, .slice none 0 0] := by kernel_rfl
theorem sz_laws_Filter : (Try.prog.info? 48).map (·.size) = some 3 := by kernel_rfl
theorem ag_laws_Packet : aggT Try.prog 72 16 := ⟨⟨_, Try.underlying72, rfl⟩, by kernel_rfl⟩
theorem zc_laws_Packet : zeroCells' Try.prog 72 = some [.int .i64 0, .int .i64 0, .int .i64 0, .int .i64 0, .int .i64 0, .int .i64 0, .int .i64 0, .int .i64 0, .int .i64 0, .int .i64 0, .int .i64 0, .int .i64 0, .int .i64 0, .int .i64 0, .int .i64 0, .string ⟨#[]⟩] := by kernel_rfl
theorem sz_laws_Packet : (Try.prog.info? 72).map (·.size) = some 16 := by kernel_rfl
theorem ag_laws_Segment : aggT Try.prog 70 8 := ⟨⟨_, Try.underlying70, rfl⟩, by kernel_rfl⟩
theorem zc_laws_Segment : zeroCells' Try.prog 70 = some [.int .i64 0, .int .i64 0, .int .i64 0, .int .i64 0, .int .i64 0, .int .i64 0, .int .i64 0, .string ⟨#[]⟩] := by kernel_rfl
theorem sz_laws_Segment : (Try.prog.info? 70).map (·.size) = some 8 := by kernel_rfl
theorem ag_spec_l01Cur : aggT Try.prog 79 3 := ⟨⟨_, Try.underlying79, rfl⟩, by kernel_rfl⟩
theorem zc_spec_l01Cur : zeroCells' Try.prog 79 = some [.slice none 0 0, .int .i64 0, .int .i64 0] := by kernel_rfl
theorem sz_spec_l01Cur : (Try.prog.info? 79).map (·.size) = some 3 := by kernel_rfl

end Go.Proofs.Ytihgekgkonacfaa

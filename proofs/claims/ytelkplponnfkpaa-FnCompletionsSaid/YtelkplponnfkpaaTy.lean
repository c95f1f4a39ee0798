/- Closed facts on the types. -/
import Derived.Test.YtelkplponnfkpaaRows
import Derived.Test.YtelkplponnfkpaaSep
namespace Go.Proofs.Ytelkplponnfkpaa
open Go.RowKit
set_option linter.unusedVariables false
set_option linter.unusedSimpArgs false

theorem sc_int : scalarT Try.prog 3 := ⟨_, Try.underlying3, rfl⟩
theorem zc_int : zeroCells' Try.prog 3 = some [.int .i64 0] := by kernel_rfl
theorem sz_int : (Try.prog.info? 3).map (·.size) = some 1 := by kernel_rfl
theorem sc_bool : scalarT Try.prog 4 := ⟨_, Try.underlying4, rfl⟩
theorem zc_bool : zeroCells' Try.prog 4 = some [.bool false] := by kernel_rfl
theorem sz_bool : (Try.prog.info? 4).map (·.size) = some 1 := by kernel_rfl
theorem sc_string : scalarT Try.prog 9 := ⟨_, Try.underlying9, rfl⟩
theorem zc_string : zeroCells' Try.prog 9 = some [.string ⟨#[]⟩] := by kernel_rfl
theorem sz_string : (Try.prog.info? 9).map (·.size) = some 1 := by kernel_rfl
theorem sc_uint8 : scalarT Try.prog 5 := ⟨_, Try.underlying5, rfl⟩
theorem zc_uint8 : zeroCells' Try.prog 5 = some [.int .u8 0] := by kernel_rfl
theorem sz_uint8 : (Try.prog.info? 5).map (·.size) = some 1 := by kernel_rfl
theorem sc_Sint : scalarT Try.prog 91 := ⟨_, Try.underlying91, rfl⟩
theorem zc_Sint : zeroCells' Try.prog 91 = some [.slice none 0 0] := by kernel_rfl
theorem sz_Sint : (Try.prog.info? 91).map (·.size) = some 1 := by kernel_rfl
theorem sc_Sstring : scalarT Try.prog 25 := ⟨_, Try.underlying25, rfl⟩
theorem zc_Sstring : zeroCells' Try.prog 25 = some [.slice none 0 0] := by kernel_rfl
theorem sz_Sstring : (Try.prog.info? 25).map (·.size) = some 1 := by kernel_rfl
theorem sc_Suint8 : scalarT Try.prog 22 := ⟨_, Try.underlying22, rfl⟩
theorem zc_Suint8 : zeroCells' Try.prog 22 = some [.slice none 0 0] := by kernel_rfl
theorem sz_Suint8 : (Try.prog.info? 22).map (·.size) = some 1 := by kernel_rfl
theorem sc_Sbool : scalarT Try.prog 172 := ⟨_, Try.underlying172, rfl⟩
theorem zc_Sbool : zeroCells' Try.prog 172 = some [.slice none 0 0] := by kernel_rfl
theorem sz_Sbool : (Try.prog.info? 172).map (·.size) = some 1 := by kernel_rfl
theorem ag_impl_Completion : aggT Try.prog 41 5 := ⟨⟨_, Try.underlying41, rfl⟩, by kernel_rfl⟩
theorem zc_impl_Completion : zeroCells' Try.prog 41 = some [.int .i64 0, .int .i64 0, .int .i64 0, .int .i64 0, .int .i64 0] := by kernel_rfl
theorem sz_impl_Completion : (Try.prog.info? 41).map (·.size) = some 5 := by kernel_rfl
theorem ag_impl_CompletionQueue : aggT Try.prog 36 3 := ⟨⟨_, Try.underlying36, rfl⟩, by kernel_rfl⟩
theorem zc_impl_CompletionQueue : zeroCells' Try.prog 36 = some [.int .i64 0, .int .i64 0, .int .i64 0] := by kernel_rfl
theorem sz_impl_CompletionQueue : (Try.prog.info? 36).map (·.size) = some 3 := by kernel_rfl
theorem ag_impl_Desc : aggT Try.prog 135 6 := ⟨⟨_, Try.underlying135, rfl⟩, by kernel_rfl⟩
theorem zc_impl_Desc : zeroCells' Try.prog 135 = some [.int .i64 0, .int .i64 0, .int .i64 0, .int .i64 0, .int .i64 0, .int .i64 0] := by kernel_rfl
theorem sz_impl_Desc : (Try.prog.info? 135).map (·.size) = some 6 := by kernel_rfl
theorem ag_impl_Mapping : aggT Try.prog 33 4 := ⟨⟨_, Try.underlying33, rfl⟩, by kernel_rfl⟩
theorem zc_impl_Mapping : zeroCells' Try.prog 33 = some [.int .i64 0, .int .i64 0, .int .i64 0, .bool false] := by kernel_rfl
theorem sz_impl_Mapping : (Try.prog.info? 33).map (·.size) = some 4 := by kernel_rfl
theorem ag_impl_Memory : aggT Try.prog 27 1 := ⟨⟨_, Try.underlying27, rfl⟩, by kernel_rfl⟩
theorem zc_impl_Memory : zeroCells' Try.prog 27 = some [.slice none 0 0] := by kernel_rfl
theorem sz_impl_Memory : (Try.prog.info? 27).map (·.size) = some 1 := by kernel_rfl
theorem ag_impl_Packet : aggT Try.prog 76 16 := ⟨⟨_, Try.underlying76, rfl⟩, by kernel_rfl⟩
theorem zc_impl_Packet : zeroCells' Try.prog 76 = some [.int .i64 0, .int .i64 0, .int .i64 0, .int .i64 0, .int .i64 0, .int .i64 0, .int .i64 0, .int .i64 0, .int .i64 0, .int .i64 0, .int .i64 0, .int .i64 0, .int .i64 0, .int .i64 0, .int .i64 0, .string ⟨#[]⟩] := by kernel_rfl
theorem sz_impl_Packet : (Try.prog.info? 76).map (·.size) = some 16 := by kernel_rfl
theorem ag_impl_Pool : aggT Try.prog 95 4 := ⟨⟨_, Try.underlying95, rfl⟩, by kernel_rfl⟩
theorem zc_impl_Pool : zeroCells' Try.prog 95 = some [.int .i64 0, .int .i64 0, .int .i64 0, .slice none 0 0] := by kernel_rfl
theorem sz_impl_Pool : (Try.prog.info? 95).map (·.size) = some 4 := by kernel_rfl
theorem ag_impl_Ring : aggT Try.prog 29 4 := ⟨⟨_, Try.underlying29, rfl⟩, by kernel_rfl⟩
theorem zc_impl_Ring : zeroCells' Try.prog 29 = some [.int .i64 0, .int .i64 0, .int .i64 0, .int .i64 0] := by kernel_rfl
theorem sz_impl_Ring : (Try.prog.info? 29).map (·.size) = some 4 := by kernel_rfl
theorem ag_impl_RxQueue : aggT Try.prog 80 30 := ⟨⟨_, Try.underlying80, rfl⟩, by kernel_rfl⟩
theorem zc_impl_RxQueue : zeroCells' Try.prog 80 = some [.int .i64 0, .int .i64 0, .int .i64 0, .int .i64 0, .int .i64 0, .int .i64 0, .int .i64 0, .int .i64 0, .int .i64 0, .int .i64 0, .int .i64 0, .int .i64 0, .int .i64 0, .int .i64 0, .int .i64 0, .int .i64 0, .int .i64 0, .int .i64 0, .int .i64 0, .int .i64 0, .int .i64 0, .int .i64 0, .int .i64 0, .int .i64 0, .int .i64 0, .string ⟨#[]⟩, .int .i64 0, .int .i64 0, .bool false, .int .i64 0] := by kernel_rfl
theorem sz_impl_RxQueue : (Try.prog.info? 80).map (·.size) = some 30 := by kernel_rfl
theorem ag_impl_Segment : aggT Try.prog 74 8 := ⟨⟨_, Try.underlying74, rfl⟩, by kernel_rfl⟩
theorem zc_impl_Segment : zeroCells' Try.prog 74 = some [.int .i64 0, .int .i64 0, .int .i64 0, .int .i64 0, .int .i64 0, .int .i64 0, .int .i64 0, .string ⟨#[]⟩] := by kernel_rfl
theorem sz_impl_Segment : (Try.prog.info? 74).map (·.size) = some 8 := by kernel_rfl
theorem ag_impl_Super : aggT Try.prog 78 18 := ⟨⟨_, Try.underlying78, rfl⟩, by kernel_rfl⟩
theorem zc_impl_Super : zeroCells' Try.prog 78 = some [.int .i64 0, .int .i64 0, .int .i64 0, .int .i64 0, .int .i64 0, .int .i64 0, .int .i64 0, .int .i64 0, .int .i64 0, .int .i64 0, .int .i64 0, .int .i64 0, .int .i64 0, .int .i64 0, .int .i64 0, .string ⟨#[]⟩, .int .i64 0, .int .i64 0] := by kernel_rfl
theorem sz_impl_Super : (Try.prog.info? 78).map (·.size) = some 18 := by kernel_rfl
theorem ag_impl_run : aggT Try.prog 162 2 := ⟨⟨_, Try.underlying162, rfl⟩, by kernel_rfl⟩
theorem zc_impl_run : zeroCells' Try.prog 162 = some [.int .i64 0, .int .i64 0] := by kernel_rfl
theorem sz_impl_run : (Try.prog.info? 162).map (·.size) = some 2 := by kernel_rfl
theorem ag_laws_Completion : aggT Try.prog 58 5 := ⟨⟨_, Try.underlying58, rfl⟩, by kernel_rfl⟩
theorem zc_laws_Completion : zeroCells' Try.prog 58 = some [.int .i64 0, .int .i64 0, .int .i64 0, .int .i64 0, .int .i64 0] := by kernel_rfl
theorem sz_laws_Completion : (Try.prog.info? 58).map (·.size) = some 5 := by kernel_rfl
theorem ag_laws_CompletionQueue : aggT Try.prog 47 3 := ⟨⟨_, Try.underlying47, rfl⟩, by kernel_rfl⟩
theorem zc_laws_CompletionQueue : zeroCells' Try.prog 47 = some [.int .i64 0, .int .i64 0, .int .i64 0] := by kernel_rfl
theorem sz_laws_CompletionQueue : (Try.prog.info? 47).map (·.size) = some 3 := by kernel_rfl
theorem ag_laws_Mapping : aggT Try.prog 123 4 := ⟨⟨_, Try.underlying123, rfl⟩, by kernel_rfl⟩
theorem zc_laws_Mapping : zeroCells' Try.prog 123 = some [.int .i64 0, .int .i64 0, .int .i64 0, .bool false] := by kernel_rfl
theorem sz_laws_Mapping : (Try.prog.info? 123).map (·.size) = some 4 := by kernel_rfl
theorem ag_laws_Memory : aggT Try.prog 46 1 := ⟨⟨_, Try.underlying46, rfl⟩, by kernel_rfl⟩
theorem zc_laws_Memory : zeroCells' Try.prog 46 = some [.slice none 0 0] := by kernel_rfl
theorem sz_laws_Memory : (Try.prog.info? 46).map (·.size) = some 1 := by kernel_rfl
theorem ag_laws_Packet : aggT Try.prog 67 16 := ⟨⟨_, Try.underlying67, rfl⟩, by kernel_rfl⟩
theorem zc_laws_Packet : zeroCells' Try.prog 67 = some [.int .i64 0, .int .i64 0, .int .i64 0, .int .i64 0, .int .i64 0, .int .i64 0, .int .i64 0, .int .i64 0, .int .i64 0, .int .i64 0, .int .i64 0, .int .i64 0, .int .i64 0, .int .i64 0, .int .i64 0, .string ⟨#[]⟩] := by kernel_rfl
theorem sz_laws_Packet : (Try.prog.info? 67).map (·.size) = some 16 := by kernel_rfl
theorem ag_laws_Pool : aggT Try.prog 93 4 := ⟨⟨_, Try.underlying93, rfl⟩, by kernel_rfl⟩
theorem zc_laws_Pool : zeroCells' Try.prog 93 = some [.int .i64 0, .int .i64 0, .int .i64 0, .slice none 0 0] := by kernel_rfl
theorem sz_laws_Pool : (Try.prog.info? 93).map (·.size) = some 4 := by kernel_rfl
theorem ag_laws_Ring : aggT Try.prog 63 4 := ⟨⟨_, Try.underlying63, rfl⟩, by kernel_rfl⟩
theorem zc_laws_Ring : zeroCells' Try.prog 63 = some [.int .i64 0, .int .i64 0, .int .i64 0, .int .i64 0] := by kernel_rfl
theorem sz_laws_Ring : (Try.prog.info? 63).map (·.size) = some 4 := by kernel_rfl
theorem ag_laws_RxQueue : aggT Try.prog 71 30 := ⟨⟨_, Try.underlying71, rfl⟩, by kernel_rfl⟩
theorem zc_laws_RxQueue : zeroCells' Try.prog 71 = some [.int .i64 0, .int .i64 0, .int .i64 0, .int .i64 0, .int .i64 0, .int .i64 0, .int .i64 0, .int .i64 0, .int .i64 0, .int .i64 0, .int .i64 0, .int .i64 0, .int .i64 0, .int .i64 0, .int .i64 0, .int .i64 0, .int .i64 0, .int .i64 0, .int .i64 0, .int .i64 0, .int .i64 0, .int .i64 0, .int .i64 0, .int .i64 0, .int .i64 0, .string ⟨#[]⟩, .int .i64 0, .int .i64 0, .bool false, .int .i64 0] := by kernel_rfl
theorem sz_laws_RxQueue : (Try.prog.info? 71).map (·.size) = some 30 := by kernel_rfl
theorem ag_laws_Segment : aggT Try.prog 65 8 := ⟨⟨_, Try.underlying65, rfl⟩, by kernel_rfl⟩
theorem zc_laws_Segment : zeroCells' Try.prog 65 = some [.int .i64 0, .int .i64 0, .int .i64 0, .int .i64 0, .int .i64 0, .int .i64 0, .int .i64 0, .string ⟨#[]⟩] := by kernel_rfl
theorem sz_laws_Segment : (Try.prog.info? 65).map (·.size) = some 8 := by kernel_rfl
theorem ag_laws_Super : aggT Try.prog 69 18 := ⟨⟨_, Try.underlying69, rfl⟩, by kernel_rfl⟩
theorem zc_laws_Super : zeroCells' Try.prog 69 = some [.int .i64 0, .int .i64 0, .int .i64 0, .int .i64 0, .int .i64 0, .int .i64 0, .int .i64 0, .int .i64 0, .int .i64 0, .int .i64 0, .int .i64 0, .int .i64 0, .int .i64 0, .int .i64 0, .int .i64 0, .string ⟨#[]⟩, .int .i64 0, .int .i64 0] := by kernel_rfl
theorem sz_laws_Super : (Try.prog.info? 69).map (·.size) = some 18 := by kernel_rfl
theorem ag_spec_l01Cur : aggT Try.prog 148 3 := ⟨⟨_, Try.underlying148, rfl⟩, by kernel_rfl⟩
theorem zc_spec_l01Cur : zeroCells' Try.prog 148 = some [.slice none 0 0, .int .i64 0, .int .i64 0] := by kernel_rfl
theorem sz_spec_l01Cur : (Try.prog.info? 148).map (·.size) = some 3 := by kernel_rfl

end Go.Proofs.Ytelkplponnfkpaa

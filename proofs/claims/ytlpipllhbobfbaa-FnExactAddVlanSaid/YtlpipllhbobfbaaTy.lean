/- Closed facts on the types. -/
import Derived.Test.YtlpipllhbobfbaaRows
import Derived.Test.YtlpipllhbobfbaaSep
namespace Go.Proofs.Ytlpipllhbobfbaa
open Go.RowKit
set_option linter.unusedVariables false
set_option linter.unusedSimpArgs false

theorem sc_int : scalarT Try.prog 3 := ⟨_, Try.underlying3, rfl⟩
theorem zc_int : zeroCells' Try.prog 3 = some [.int .i64 0] := by kernel_rfl
theorem sz_int : (Try.prog.info? 3).map (·.size) = some 1 := by kernel_rfl
theorem sc_bool : scalarT Try.prog 4 := ⟨_, Try.underlying4, rfl⟩
theorem zc_bool : zeroCells' Try.prog 4 = some [.bool false] := by kernel_rfl
theorem sz_bool : (Try.prog.info? 4).map (·.size) = some 1 := by kernel_rfl
theorem sc_string : scalarT Try.prog 9 := ⟨_, Try.underlying9, rfl⟩
theorem zc_string : zeroCells' Try.prog 9 = some [.string ⟨#[]⟩] := by kernel_rfl
theorem sz_string : (Try.prog.info? 9).map (·.size) = some 1 := by kernel_rfl
theorem sc_uint8 : scalarT Try.prog 5 := ⟨_, Try.underlying5, rfl⟩
theorem zc_uint8 : zeroCells' Try.prog 5 = some [.int .u8 0] := by kernel_rfl
theorem sz_uint8 : (Try.prog.info? 5).map (·.size) = some 1 := by kernel_rfl
theorem sc_Sint : scalarT Try.prog 33 := ⟨_, Try.underlying33, rfl⟩
theorem zc_Sint : zeroCells' Try.prog 33 = some [.slice none 0 0] := by kernel_rfl
theorem sz_Sint : (Try.prog.info? 33).map (·.size) = some 1 := by kernel_rfl
theorem sc_SSint : scalarT Try.prog 66 := ⟨_, Try.underlying66, rfl⟩
theorem zc_SSint : zeroCells' Try.prog 66 = some [.slice none 0 0] := by kernel_rfl
theorem sz_SSint : (Try.prog.info? 66).map (·.size) = some 1 := by kernel_rfl
theorem sc_Suint8 : scalarT Try.prog 29 := ⟨_, Try.underlying29, rfl⟩
theorem zc_Suint8 : zeroCells' Try.prog 29 = some [.slice none 0 0] := by kernel_rfl
theorem sz_Suint8 : (Try.prog.info? 29).map (·.size) = some 1 := by kernel_rfl
theorem ag_impl_Bucket : aggT Try.prog 32 3 := ⟨⟨_, Try.underlying32, rfl⟩, by kernel_rfl⟩
theorem zc_impl_Bucket : zeroCells' Try.prog 32 = some [.int .i64 0, .int .i64 0, .int .i64 0] := by kernel_rfl
theorem sz_impl_Bucket : (Try.prog.info? 32).map (·.size) = some 3 := by kernel_rfl
theorem ag_impl_CompletionQueue : aggT Try.prog 99 3 := ⟨⟨_, Try.underlying99, rfl⟩, by kernel_rfl⟩
theorem zc_impl_CompletionQueue : zeroCells' Try.prog 99 = some [.int .i64 0, .int .i64 0, .int .i64 0] := by kernel_rfl
theorem sz_impl_CompletionQueue : (Try.prog.info? 99).map (·.size) = some 3 := by kernel_rfl
theorem ag_impl_Fair : aggT Try.prog 71 5 := ⟨⟨_, Try.underlying71, rfl⟩, by kernel_rfl⟩
theorem zc_impl_Fair : zeroCells' Try.prog 71 = some [.slice none 0 0, .slice none 0 0, .int .i64 0, .int .i64 0, .bool false] := by kernel_rfl
theorem sz_impl_Fair : (Try.prog.info? 71).map (·.size) = some 5 := by kernel_rfl
theorem ag_impl_Filter : aggT Try.prog 58 3 := ⟨⟨_, Try.underlying58, rfl⟩, by kernel_rfl⟩
theorem zc_impl_Filter : zeroCells' Try.prog 58 = some [.int .i64 0, .bool false, .slice none 0 0] := by kernel_rfl
theorem sz_impl_Filter : (Try.prog.info? 58).map (·.size) = some 3 := by kernel_rfl
theorem ag_impl_Packet : aggT Try.prog 62 16 := ⟨⟨_, Try.underlying62, rfl⟩, by kernel_rfl⟩
theorem zc_impl_Packet : zeroCells' Try.prog 62 = some [.int .i64 0, .int .i64 0, .int .i64 0, .int .i64 0, .int .i64 0, .int .i64 0, .int .i64 0, .int .i64 0, .int .i64 0, .int .i64 0, .int .i64 0, .int .i64 0, .int .i64 0, .int .i64 0, .int .i64 0, .string ⟨#[]⟩] := by kernel_rfl
theorem sz_impl_Packet : (Try.prog.info? 62).map (·.size) = some 16 := by kernel_rfl
theorem ag_impl_Ring : aggT Try.prog 98 4 := ⟨⟨_, Try.underlying98, rfl⟩, by kernel_rfl⟩
theorem zc_impl_Ring : zeroCells' Try.prog 98 = some [.int .i64 0, .int .i64 0, .int .i64 0, .int .i64 0] := by kernel_rfl
theorem sz_impl_Ring : (Try.prog.info? 98).map (·.size) = some 4 := by kernel_rfl
theorem ag_impl_RxQueue : aggT Try.prog 103 30 := ⟨⟨_, Try.underlying103, rfl⟩, by kernel_rfl⟩
theorem zc_impl_RxQueue : zeroCells' Try.prog 103 = some [.int .i64 0, .int .i64 0, .int .i64 0, .int .i64 0, .int .i64 0, .int .i64 0, .int .i64 0, .int .i64 0, .int .i64 0, .int .i64 0, .int .i64 0, .int .i64 0, .int .i64 0, .int .i64 0, .int .i64 0, .int .i64 0, .int .i64 0, .int .i64 0, .int .i64 0, .int .i64 0, .int .i64 0, .int .i64 0, .int .i64 0, .int .i64 0, .int .i64 0, .string ⟨#[]⟩, .int .i64 0, .int .i64 0, .bool false, .int .i64 0] := by kernel_rfl
theorem sz_impl_RxQueue : (Try.prog.info? 103).map (·.size) = some 30 := by kernel_rfl
theorem ag_impl_Segment : aggT Try.prog 60 8 := ⟨⟨_, Try.underlying60, rfl⟩, by kernel_rfl⟩
theorem zc_impl_Segment : zeroCells' Try.prog 60 = some [.int .i64 0, .int .i64 0, .int .i64 0, .int .i64 0, .int .i64 0, .int .i64 0, .int .i64 0, .string ⟨#[]⟩] := by kernel_rfl
theorem sz_impl_Segment : (Try.prog.info? 60).map (·.size) = some 8 := by kernel_rfl
theorem ag_impl_Super : aggT Try.prog 101 18 := ⟨⟨_, Try.underlying101, rfl⟩, by kernel_rfl⟩
theorem zc_impl_Super : zeroCells' Try.prog 101 = some [.int .i64 0, .int .i64 0, .int .i64 0, .int .i64 0, .int .i64 0, .int .i64 0, .int .i64 0, .int .i64 0, .int .i64 0, .int .i64 0, .int .i64 0, .int .i64 0, .int .i64 0, .int .i64 0, .int .i64 0, .string ⟨#[]⟩, .int .i64 0, .int .i64 0] := by kernel_rfl
theorem sz_impl_Super : (Try.prog.info? 101).map (·.size) = some 18 := by kernel_rfl
theorem ag_impl_Vector : aggT Try.prog 24 6 := ⟨⟨_, Try.underlying24, rfl⟩, by kernel_rfl⟩
theorem zc_impl_Vector : zeroCells' Try.prog 24 = some [.int .i64 0, .int .i64 0, .int .i64 0, .int .i64 0, .bool false, .bool false] := by kernel_rfl
theorem sz_impl_Vector : (Try.prog.info? 24).map (·.size) = some 6 := by kernel_rfl
theorem ag_laws_Bucket : aggT Try.prog 43 3 := ⟨⟨_, Try.underlying43, rfl⟩, by kernel_rfl⟩
theorem zc_laws_Bucket : zeroCells' Try.prog 43 = some [.int .i64 0, .int .i64 0, .int .i64 0] := by kernel_rfl
theorem sz_laws_Bucket : (Try.prog.info? 43).map (·.size) = some 3 := by kernel_rfl
theorem ag_laws_CompletionQueue : aggT Try.prog 91 3 := ⟨⟨_, Try.underlying91, rfl⟩, by kernel_rfl⟩
theorem zc_laws_CompletionQueue : zeroCells' Try.prog 91 = some [.int .i64 0, .int .i64 0, .int .i64 0] := by kernel_rfl
theorem sz_laws_CompletionQueue : (Try.prog.info? 91).map (·.size) = some 3 := by kernel_rfl
theorem ag_laws_Fair : aggT Try.prog 68 5 := ⟨⟨_, Try.underlying68, rfl⟩, by kernel_rfl⟩
theorem zc_laws_Fair : zeroCells' Try.prog 68 = some [.slice none 0 0, .slice none 0 0, .int .i64 0, .int .i64 0, .bool false] := by kernel_rfl
theorem sz_laws_Fair : (Try.prog.info? 68).map (·.size) = some 5 := by kernel_rfl
theorem ag_laws_Filter : aggT Try.prog 50 3 := ⟨⟨_, Try.underlying50, rfl⟩, by kernel_rfl⟩
theorem zc_laws_Filter : zeroCells' Try.prog 50 = some [.int .i64 0, .bool false, .slice none 0 0] := by kernel_rfl
theorem sz_laws_Filter : (Try.prog.info? 50).map (·.size) = some 3 := by kernel_rfl
theorem ag_laws_Packet : aggT Try.prog 54 16 := ⟨⟨_, Try.underlying54, rfl⟩, by kernel_rfl⟩
theorem zc_laws_Packet : zeroCells' Try.prog 54 = some [.int .i64 0, .int .i64 0, .int .i64 0, .int .i64 0, .int .i64 0, .int .i64 0, .int .i64 0, .int .i64 0, .int .i64 0, .int .i64 0, .int .i64 0, .int .i64 0, .int .i64 0, .int .i64 0, .int .i64 0, .string ⟨#[]⟩] := by kernel_rfl
theorem sz_laws_Packet : (Try.prog.info? 54).map (·.size) = some 16 := by kernel_rfl
theorem ag_laws_Ring : aggT Try.prog 89 4 := ⟨⟨_, Try.underlying89, rfl⟩, by kernel_rfl⟩
theorem zc_laws_Ring : zeroCells' Try.prog 89 = some [.int .i64 0, .int .i64 0, .int .i64 0, .int .i64 0] := by kernel_rfl
theorem sz_laws_Ring : (Try.prog.info? 89).map (·.size) = some 4 := by kernel_rfl
theorem ag_laws_RxQueue : aggT Try.prog 95 30 := ⟨⟨_, Try.underlying95, rfl⟩, by kernel_rfl⟩
theorem zc_laws_RxQueue : zeroCells' Try.prog 95 = some [.int .i64 0, .int .i64 0, .int .i64 0, .int .i64 0, .int .i64 0, .int .i64 0, .int .i64 0, .int .i64 0, .int .i64 0, .int .i64 0, .int .i64 0, .int .i64 0, .int .i64 0, .int .i64 0, .int .i64 0, .int .i64 0, .int .i64 0, .int .i64 0, .int .i64 0, .int .i64 0, .int .i64 0, .int .i64 0, .int .i64 0, .int .i64 0, .int .i64 0, .string ⟨#[]⟩, .int .i64 0, .int .i64 0, .bool false, .int .i64 0] := by kernel_rfl
theorem sz_laws_RxQueue : (Try.prog.info? 95).map (·.size) = some 30 := by kernel_rfl
theorem ag_laws_Segment : aggT Try.prog 52 8 := ⟨⟨_, Try.underlying52, rfl⟩, by kernel_rfl⟩
theorem zc_laws_Segment : zeroCells' Try.prog 52 = some [.int .i64 0, .int .i64 0, .int .i64 0, .int .i64 0, .int .i64 0, .int .i64 0, .int .i64 0, .string ⟨#[]⟩] := by kernel_rfl
theorem sz_laws_Segment : (Try.prog.info? 52).map (·.size) = some 8 := by kernel_rfl
theorem ag_laws_Super : aggT Try.prog 93 18 := ⟨⟨_, Try.underlying93, rfl⟩, by kernel_rfl⟩
theorem zc_laws_Super : zeroCells' Try.prog 93 = some [.int .i64 0, .int .i64 0, .int .i64 0, .int .i64 0, .int .i64 0, .int .i64 0, .int .i64 0, .int .i64 0, .int .i64 0, .int .i64 0, .int .i64 0, .int .i64 0, .int .i64 0, .int .i64 0, .int .i64 0, .string ⟨#[]⟩, .int .i64 0, .int .i64 0] := by kernel_rfl
theorem sz_laws_Super : (Try.prog.info? 93).map (·.size) = some 18 := by kernel_rfl
theorem ag_laws_Vector : aggT Try.prog 23 6 := ⟨⟨_, Try.underlying23, rfl⟩, by kernel_rfl⟩
theorem zc_laws_Vector : zeroCells' Try.prog 23 = some [.int .i64 0, .int .i64 0, .int .i64 0, .int .i64 0, .bool false, .bool false] := by kernel_rfl
theorem sz_laws_Vector : (Try.prog.info? 23).map (·.size) = some 6 := by kernel_rfl
theorem ag_spec_l01Cur : aggT Try.prog 129 3 := ⟨⟨_, Try.underlying129, rfl⟩, by kernel_rfl⟩
theorem zc_spec_l01Cur : zeroCells' Try.prog 129 = some [.slice none 0 0, .int .i64 0, .int .i64 0] := by kernel_rfl
theorem sz_spec_l01Cur : (Try.prog.info? 129).map (·.size) = some 3 := by kernel_rfl

end Go.Proofs.Ytlpipllhbobfbaa

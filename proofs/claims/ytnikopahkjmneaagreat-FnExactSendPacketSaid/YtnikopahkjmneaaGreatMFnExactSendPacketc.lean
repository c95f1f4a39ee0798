/- Part 3 of what the proof of FnExactSendPacket rests on: an idealised machine, contracts of functions, and the walk of the law. No condition. -/
import Derived.Test.YtnikopahkjmneaaGreatMFnExactSendPacketb
section
namespace Go.Proofs.YtnikopahkjmneaaGreat
open Go Go.RowKit Go.Vc
set_option linter.unusedVariables false
abbrev ti_int : TyI := ⟨.int .i64, 1, 8, [.v (.int .i64 0)]⟩
abbrev ti_bool : TyI := ⟨.bool, 1, 1, [.v (.bool false)]⟩
abbrev ti_string : TyI := ⟨.str, 1, 16, [.v (.string ⟨#[]⟩)]⟩
abbrev ti_uint8 : TyI := ⟨.int .u8, 1, 1, [.v (.int .u8 0)]⟩
abbrev ti_Slaws_Mapping : TyI := ⟨.slice 97, 1, 24, [.nil]⟩
abbrev ti_Sstring : TyI := ⟨.slice 9, 1, 24, [.nil]⟩
abbrev ti_laws_Memory : TyI := ⟨.struct [(0, 1)], 1, 24, [.nil]⟩
abbrev ti_laws_Ring : TyI := ⟨.struct [(0, 1), (1, 1), (2, 1), (3, 1)], 4, 32, [.v (.int .i64 0), .v (.int .i64 0), .v (.int .i64 0), .v (.int .i64 0)]⟩
abbrev ti_Sint : TyI := ⟨.slice 3, 1, 24, [.nil]⟩
abbrev ti_laws_Pool : TyI := ⟨.struct [(0, 1), (1, 1), (2, 1), (3, 1)], 4, 48, [.v (.int .i64 0), .v (.int .i64 0), .v (.int .i64 0), .nil]⟩
abbrev ti_Slaws_Sent : TyI := ⟨.slice 114, 1, 24, [.nil]⟩
abbrev ti_laws_TxQueue : TyI := ⟨.struct [(0, 4), (4, 4), (8, 1), (9, 1)], 10, 112, [.v (.int .i64 0), .v (.int .i64 0), .v (.int .i64 0), .v (.int .i64 0), .v (.int .i64 0), .v (.int .i64 0), .v (.int .i64 0), .nil, .nil, .v (.int .i64 0)]⟩
abbrev ti_laws_Segment : TyI := ⟨.struct [(0, 1), (1, 1), (2, 1), (3, 1), (4, 1), (5, 1), (6, 1), (7, 1)], 8, 72, [.v (.int .i64 0), .v (.int .i64 0), .v (.int .i64 0), .v (.int .i64 0), .v (.int .i64 0), .v (.int .i64 0), .v (.int .i64 0), .v (.string ⟨#[]⟩)]⟩
abbrev ti_laws_Packet : TyI := ⟨.struct [(0, 1), (1, 1), (2, 1), (3, 1), (4, 1), (5, 1), (6, 1), (7, 1), (8, 8)], 16, 136, [.v (.int .i64 0), .v (.int .i64 0), .v (.int .i64 0), .v (.int .i64 0), .v (.int .i64 0), .v (.int .i64 0), .v (.int .i64 0), .v (.int .i64 0), .v (.int .i64 0), .v (.int .i64 0), .v (.int .i64 0), .v (.int .i64 0), .v (.int .i64 0), .v (.int .i64 0), .v (.int .i64 0), .v (.string ⟨#[]⟩)]⟩
abbrev ti_impl_Memory : TyI := ⟨.struct [(0, 1)], 1, 24, [.nil]⟩
abbrev ti_impl_Ring : TyI := ⟨.struct [(0, 1), (1, 1), (2, 1), (3, 1)], 4, 32, [.v (.int .i64 0), .v (.int .i64 0), .v (.int .i64 0), .v (.int .i64 0)]⟩
abbrev ti_impl_Pool : TyI := ⟨.struct [(0, 1), (1, 1), (2, 1), (3, 1)], 4, 48, [.v (.int .i64 0), .v (.int .i64 0), .v (.int .i64 0), .nil]⟩
abbrev ti_Simpl_Sent : TyI := ⟨.slice 93, 1, 24, [.nil]⟩
abbrev ti_impl_TxQueue : TyI := ⟨.struct [(0, 4), (4, 4), (8, 1), (9, 1)], 10, 112, [.v (.int .i64 0), .v (.int .i64 0), .v (.int .i64 0), .v (.int .i64 0), .v (.int .i64 0), .v (.int .i64 0), .v (.int .i64 0), .nil, .nil, .v (.int .i64 0)]⟩
abbrev ti_Simpl_Mapping : TyI := ⟨.slice 95, 1, 24, [.nil]⟩
abbrev ti_impl_Segment : TyI := ⟨.struct [(0, 1), (1, 1), (2, 1), (3, 1), (4, 1), (5, 1), (6, 1), (7, 1)], 8, 72, [.v (.int .i64 0), .v (.int .i64 0), .v (.int .i64 0), .v (.int .i64 0), .v (.int .i64 0), .v (.int .i64 0), .v (.int .i64 0), .v (.string ⟨#[]⟩)]⟩
abbrev ti_impl_Packet : TyI := ⟨.struct [(0, 1), (1, 1), (2, 1), (3, 1), (4, 1), (5, 1), (6, 1), (7, 1), (8, 8)], 16, 136, [.v (.int .i64 0), .v (.int .i64 0), .v (.int .i64 0), .v (.int .i64 0), .v (.int .i64 0), .v (.int .i64 0), .v (.int .i64 0), .v (.int .i64 0), .v (.int .i64 0), .v (.int .i64 0), .v (.int .i64 0), .v (.int .i64 0), .v (.int .i64 0), .v (.int .i64 0), .v (.int .i64 0), .v (.string ⟨#[]⟩)]⟩
abbrev ti_Simpl_Piece : TyI := ⟨.slice 84, 1, 24, [.nil]⟩
abbrev ti_impl_Piece : TyI := ⟨.struct [(0, 1), (1, 1)], 2, 16, [.v (.int .i64 0), .v (.int .i64 0)]⟩
abbrev ti_Simpl_Desc : TyI := ⟨.slice 89, 1, 24, [.nil]⟩
abbrev ti_impl_Desc : TyI := ⟨.struct [(0, 1), (1, 1), (2, 1), (3, 1), (4, 1), (5, 1)], 6, 48, [.v (.int .i64 0), .v (.int .i64 0), .v (.int .i64 0), .v (.int .i64 0), .v (.int .i64 0), .v (.int .i64 0)]⟩
abbrev ti_impl_Sent : TyI := ⟨.struct [(0, 1), (1, 1), (2, 1)], 3, 40, [.v (.int .i64 0), .v (.int .i64 0), .nil]⟩
abbrev ti_impl_Mapping : TyI := ⟨.struct [(0, 1), (1, 1), (2, 1), (3, 1)], 4, 32, [.v (.int .i64 0), .v (.int .i64 0), .v (.int .i64 0), .v (.bool false)]⟩
abbrev ti_laws_Mapping : TyI := ⟨.struct [(0, 1), (1, 1), (2, 1), (3, 1)], 4, 32, [.v (.int .i64 0), .v (.int .i64 0), .v (.int .i64 0), .v (.bool false)]⟩
abbrev ti_laws_Sent : TyI := ⟨.struct [(0, 1), (1, 1), (2, 1)], 3, 40, [.v (.int .i64 0), .v (.int .i64 0), .nil]⟩
abbrev ti_Suint8 : TyI := ⟨.slice 5, 1, 24, [.nil]⟩
abbrev ti_impl_Ip : TyI := ⟨.struct [(0, 1), (1, 1), (2, 1), (3, 1), (4, 1), (5, 1), (6, 1)], 7, 64, [.v (.int .i64 0), .v (.int .i64 0), .v (.int .i64 0), .v (.int .i64 0), .v (.int .i64 0), .v (.int .i64 0), .v (.string ⟨#[]⟩)]⟩
abbrev ti_impl_Eth : TyI := ⟨.struct [(0, 1), (1, 1), (2, 1), (3, 1), (4, 1)], 5, 48, [.v (.int .i64 0), .v (.int .i64 0), .v (.int .i64 0), .v (.int .i64 0), .v (.string ⟨#[]⟩)]⟩
abbrev ti_Sbool : TyI := ⟨.slice 4, 1, 24, [.nil]⟩
abbrev ti_Simpl_run : TyI := ⟨.slice 168, 1, 24, [.nil]⟩
abbrev ti_impl_run : TyI := ⟨.struct [(0, 1), (1, 1)], 2, 16, [.v (.int .i64 0), .v (.int .i64 0)]⟩
abbrev ti_uint32 : TyI := ⟨.int .u32, 1, 4, [.v (.int .u32 0)]⟩
theorem tyOk_of {P : Program} {T : TypeId} {i : TyI} (z : Value) (h : (P.info? T).map (fun x => (x.zero, x.size, x.bytes)) = some (some z, i.size, i.bytes)) (h1 : z.cells.toList = i.zero.map pvv) (h2 : i.zero.length = i.size) (h3 : i.zero.all pvz = true) (h4 : 0 < i.size) (h5 : i.size ≤ 1000) (hk : Go.Vc.kindOk P T i.k) (h6 : i.k.row = false → i.size = 1) : Go.Vc.tyOk P T i := ⟨⟨z, h, h1, h2, h3⟩, h4, h5, hk, h6⟩
theorem tok_int : tyOk Tryz.prog 3 ti_int := tyOk_of (.int .i64 0) (by kernel_rfl) rfl rfl rfl (by decide) (by decide) Tryz.underlying3 (fun _ => rfl)
theorem tok_bool : tyOk Tryz.prog 4 ti_bool := tyOk_of (.bool false) (by kernel_rfl) rfl rfl rfl (by decide) (by decide) Tryz.underlying4 (fun _ => rfl)
theorem tok_string : tyOk Tryz.prog 9 ti_string := tyOk_of (.string ⟨#[]⟩) (by kernel_rfl) rfl rfl rfl (by decide) (by decide) Tryz.underlying9 (fun _ => rfl)
theorem tok_uint8 : tyOk Tryz.prog 5 ti_uint8 := tyOk_of (.int .u8 0) (by kernel_rfl) rfl rfl rfl (by decide) (by decide) Tryz.underlying5 (fun _ => rfl)
theorem tok_Slaws_Mapping : tyOk Tryz.prog 22 ti_Slaws_Mapping := tyOk_of (.slice none 0 0) (by kernel_rfl) rfl rfl rfl (by decide) (by decide) Tryz.underlying22 (fun _ => rfl)
theorem tok_Sstring : tyOk Tryz.prog 23 ti_Sstring := tyOk_of (.slice none 0 0) (by kernel_rfl) rfl rfl rfl (by decide) (by decide) Tryz.underlying23 (fun _ => rfl)
theorem tok_laws_Memory : tyOk Tryz.prog 25 ti_laws_Memory := tyOk_of (.agg #[.slice none 0 0]) (by kernel_rfl) rfl rfl rfl (by decide) (by decide) ⟨by rw [Tryz.underlying25]; kernel_rfl, by kernel_rfl, by kernel_rfl⟩ (fun h => by cases h)
theorem tok_laws_Ring : tyOk Tryz.prog 27 ti_laws_Ring := tyOk_of (.agg #[.int .i64 0, .int .i64 0, .int .i64 0, .int .i64 0]) (by kernel_rfl) rfl rfl rfl (by decide) (by decide) ⟨by rw [Tryz.underlying27]; kernel_rfl, by kernel_rfl, by kernel_rfl⟩ (fun h => by cases h)
theorem tok_Sint : tyOk Tryz.prog 28 ti_Sint := tyOk_of (.slice none 0 0) (by kernel_rfl) rfl rfl rfl (by decide) (by decide) Tryz.underlying28 (fun _ => rfl)
theorem tok_laws_Pool : tyOk Tryz.prog 30 ti_laws_Pool := tyOk_of (.agg #[.int .i64 0, .int .i64 0, .int .i64 0, .slice none 0 0]) (by kernel_rfl) rfl rfl rfl (by decide) (by decide) ⟨by rw [Tryz.underlying30]; kernel_rfl, by kernel_rfl, by kernel_rfl⟩ (fun h => by cases h)
theorem tok_Slaws_Sent : tyOk Tryz.prog 31 ti_Slaws_Sent := tyOk_of (.slice none 0 0) (by kernel_rfl) rfl rfl rfl (by decide) (by decide) Tryz.underlying31 (fun _ => rfl)
theorem tok_laws_TxQueue : tyOk Tryz.prog 33 ti_laws_TxQueue := tyOk_of (.agg #[.int .i64 0, .int .i64 0, .int .i64 0, .int .i64 0, .int .i64 0, .int .i64 0, .int .i64 0, .slice none 0 0, .slice none 0 0, .int .i64 0]) (by kernel_rfl) rfl rfl rfl (by decide) (by decide) ⟨by rw [Tryz.underlying33]; kernel_rfl, by kernel_rfl, by kernel_rfl⟩ (fun h => by cases h)
theorem tok_laws_Segment : tyOk Tryz.prog 35 ti_laws_Segment := tyOk_of (.agg #[.int .i64 0, .int .i64 0, .int .i64 0, .int .i64 0, .int .i64 0, .int .i64 0, .int .i64 0, .string ⟨#[]⟩]) (by kernel_rfl) rfl rfl rfl (by decide) (by decide) ⟨by rw [Tryz.underlying35]; kernel_rfl, by kernel_rfl, by kernel_rfl⟩ (fun h => by cases h)
theorem tok_laws_Packet : tyOk Tryz.prog 37 ti_laws_Packet := tyOk_of (.agg #[.int .i64 0, .int .i64 0, .int .i64 0, .int .i64 0, .int .i64 0, .int .i64 0, .int .i64 0, .int .i64 0, .int .i64 0, .int .i64 0, .int .i64 0, .int .i64 0, .int .i64 0, .int .i64 0, .int .i64 0, .string ⟨#[]⟩]) (by kernel_rfl) rfl rfl rfl (by decide) (by decide) ⟨by rw [Tryz.underlying37]; kernel_rfl, by kernel_rfl, by kernel_rfl⟩ (fun h => by cases h)
theorem tok_impl_Memory : tyOk Tryz.prog 42 ti_impl_Memory := tyOk_of (.agg #[.slice none 0 0]) (by kernel_rfl) rfl rfl rfl (by decide) (by decide) ⟨by rw [Tryz.underlying42]; kernel_rfl, by kernel_rfl, by kernel_rfl⟩ (fun h => by cases h)
theorem tok_impl_Ring : tyOk Tryz.prog 43 ti_impl_Ring := tyOk_of (.agg #[.int .i64 0, .int .i64 0, .int .i64 0, .int .i64 0]) (by kernel_rfl) rfl rfl rfl (by decide) (by decide) ⟨by rw [Tryz.underlying43]; kernel_rfl, by kernel_rfl, by kernel_rfl⟩ (fun h => by cases h)
theorem tok_impl_Pool : tyOk Tryz.prog 44 ti_impl_Pool := tyOk_of (.agg #[.int .i64 0, .int .i64 0, .int .i64 0, .slice none 0 0]) (by kernel_rfl) rfl rfl rfl (by decide) (by decide) ⟨by rw [Tryz.underlying44]; kernel_rfl, by kernel_rfl, by kernel_rfl⟩ (fun h => by cases h)
theorem tok_Simpl_Sent : tyOk Tryz.prog 45 ti_Simpl_Sent := tyOk_of (.slice none 0 0) (by kernel_rfl) rfl rfl rfl (by decide) (by decide) Tryz.underlying45 (fun _ => rfl)
theorem tok_impl_TxQueue : tyOk Tryz.prog 47 ti_impl_TxQueue := tyOk_of (.agg #[.int .i64 0, .int .i64 0, .int .i64 0, .int .i64 0, .int .i64 0, .int .i64 0, .int .i64 0, .slice none 0 0, .slice none 0 0, .int .i64 0]) (by kernel_rfl) rfl rfl rfl (by decide) (by decide) ⟨by rw [Tryz.underlying47]; kernel_rfl, by kernel_rfl, by kernel_rfl⟩ (fun h => by cases h)
theorem tok_Simpl_Mapping : tyOk Tryz.prog 50 ti_Simpl_Mapping := tyOk_of (.slice none 0 0) (by kernel_rfl) rfl rfl rfl (by decide) (by decide) Tryz.underlying50 (fun _ => rfl)
theorem tok_impl_Segment : tyOk Tryz.prog 54 ti_impl_Segment := tyOk_of (.agg #[.int .i64 0, .int .i64 0, .int .i64 0, .int .i64 0, .int .i64 0, .int .i64 0, .int .i64 0, .string ⟨#[]⟩]) (by kernel_rfl) rfl rfl rfl (by decide) (by decide) ⟨by rw [Tryz.underlying54]; kernel_rfl, by kernel_rfl, by kernel_rfl⟩ (fun h => by cases h)
theorem tok_impl_Packet : tyOk Tryz.prog 56 ti_impl_Packet := tyOk_of (.agg #[.int .i64 0, .int .i64 0, .int .i64 0, .int .i64 0, .int .i64 0, .int .i64 0, .int .i64 0, .int .i64 0, .int .i64 0, .int .i64 0, .int .i64 0, .int .i64 0, .int .i64 0, .int .i64 0, .int .i64 0, .string ⟨#[]⟩]) (by kernel_rfl) rfl rfl rfl (by decide) (by decide) ⟨by rw [Tryz.underlying56]; kernel_rfl, by kernel_rfl, by kernel_rfl⟩ (fun h => by cases h)
theorem tok_Simpl_Piece : tyOk Tryz.prog 79 ti_Simpl_Piece := tyOk_of (.slice none 0 0) (by kernel_rfl) rfl rfl rfl (by decide) (by decide) Tryz.underlying79 (fun _ => rfl)
theorem tok_impl_Piece : tyOk Tryz.prog 84 ti_impl_Piece := tyOk_of (.agg #[.int .i64 0, .int .i64 0]) (by kernel_rfl) rfl rfl rfl (by decide) (by decide) ⟨by rw [Tryz.underlying84]; kernel_rfl, by kernel_rfl, by kernel_rfl⟩ (fun h => by cases h)
theorem tok_Simpl_Desc : tyOk Tryz.prog 85 ti_Simpl_Desc := tyOk_of (.slice none 0 0) (by kernel_rfl) rfl rfl rfl (by decide) (by decide) Tryz.underlying85 (fun _ => rfl)
theorem tok_impl_Desc : tyOk Tryz.prog 89 ti_impl_Desc := tyOk_of (.agg #[.int .i64 0, .int .i64 0, .int .i64 0, .int .i64 0, .int .i64 0, .int .i64 0]) (by kernel_rfl) rfl rfl rfl (by decide) (by decide) ⟨by rw [Tryz.underlying89]; kernel_rfl, by kernel_rfl, by kernel_rfl⟩ (fun h => by cases h)
theorem tok_impl_Sent : tyOk Tryz.prog 93 ti_impl_Sent := tyOk_of (.agg #[.int .i64 0, .int .i64 0, .slice none 0 0]) (by kernel_rfl) rfl rfl rfl (by decide) (by decide) ⟨by rw [Tryz.underlying93]; kernel_rfl, by kernel_rfl, by kernel_rfl⟩ (fun h => by cases h)
theorem tok_impl_Mapping : tyOk Tryz.prog 95 ti_impl_Mapping := tyOk_of (.agg #[.int .i64 0, .int .i64 0, .int .i64 0, .bool false]) (by kernel_rfl) rfl rfl rfl (by decide) (by decide) ⟨by rw [Tryz.underlying95]; kernel_rfl, by kernel_rfl, by kernel_rfl⟩ (fun h => by cases h)
theorem tok_laws_Mapping : tyOk Tryz.prog 97 ti_laws_Mapping := tyOk_of (.agg #[.int .i64 0, .int .i64 0, .int .i64 0, .bool false]) (by kernel_rfl) rfl rfl rfl (by decide) (by decide) ⟨by rw [Tryz.underlying97]; kernel_rfl, by kernel_rfl, by kernel_rfl⟩ (fun h => by cases h)
theorem tok_laws_Sent : tyOk Tryz.prog 114 ti_laws_Sent := tyOk_of (.agg #[.int .i64 0, .int .i64 0, .slice none 0 0]) (by kernel_rfl) rfl rfl rfl (by decide) (by decide) ⟨by rw [Tryz.underlying114]; kernel_rfl, by kernel_rfl, by kernel_rfl⟩ (fun h => by cases h)
theorem tok_Suint8 : tyOk Tryz.prog 126 ti_Suint8 := tyOk_of (.slice none 0 0) (by kernel_rfl) rfl rfl rfl (by decide) (by decide) Tryz.underlying126 (fun _ => rfl)
theorem tok_impl_Ip : tyOk Tryz.prog 138 ti_impl_Ip := tyOk_of (.agg #[.int .i64 0, .int .i64 0, .int .i64 0, .int .i64 0, .int .i64 0, .int .i64 0, .string ⟨#[]⟩]) (by kernel_rfl) rfl rfl rfl (by decide) (by decide) ⟨by rw [Tryz.underlying138]; kernel_rfl, by kernel_rfl, by kernel_rfl⟩ (fun h => by cases h)
theorem tok_impl_Eth : tyOk Tryz.prog 142 ti_impl_Eth := tyOk_of (.agg #[.int .i64 0, .int .i64 0, .int .i64 0, .int .i64 0, .string ⟨#[]⟩]) (by kernel_rfl) rfl rfl rfl (by decide) (by decide) ⟨by rw [Tryz.underlying142]; kernel_rfl, by kernel_rfl, by kernel_rfl⟩ (fun h => by cases h)
theorem tok_Sbool : tyOk Tryz.prog 146 ti_Sbool := tyOk_of (.slice none 0 0) (by kernel_rfl) rfl rfl rfl (by decide) (by decide) Tryz.underlying146 (fun _ => rfl)
theorem tok_Simpl_run : tyOk Tryz.prog 164 ti_Simpl_run := tyOk_of (.slice none 0 0) (by kernel_rfl) rfl rfl rfl (by decide) (by decide) Tryz.underlying164 (fun _ => rfl)
theorem tok_impl_run : tyOk Tryz.prog 168 ti_impl_run := tyOk_of (.agg #[.int .i64 0, .int .i64 0]) (by kernel_rfl) rfl rfl rfl (by decide) (by decide) ⟨by rw [Tryz.underlying168]; kernel_rfl, by kernel_rfl, by kernel_rfl⟩ (fun h => by cases h)
theorem tok_uint32 : tyOk Tryz.prog 178 ti_uint32 := tyOk_of (.int .u32 0) (by kernel_rfl) rfl rfl rfl (by decide) (by decide) Tryz.underlying178 (fun _ => rfl)
def tyTab : List (TypeId × TyI) := [(3, ⟨.int .i64, 1, 8, [.v (.int .i64 0)]⟩), (4, ⟨.bool, 1, 1, [.v (.bool false)]⟩), (9, ⟨.str, 1, 16, [.v (.string ⟨#[]⟩)]⟩), (5, ⟨.int .u8, 1, 1, [.v (.int .u8 0)]⟩), (22, ⟨.slice 97, 1, 24, [.nil]⟩), (23, ⟨.slice 9, 1, 24, [.nil]⟩), (25, ⟨.struct [(0, 1)], 1, 24, [.nil]⟩), (27, ⟨.struct [(0, 1), (1, 1), (2, 1), (3, 1)], 4, 32, [.v (.int .i64 0), .v (.int .i64 0), .v (.int .i64 0), .v (.int .i64 0)]⟩), (28, ⟨.slice 3, 1, 24, [.nil]⟩), (30, ⟨.struct [(0, 1), (1, 1), (2, 1), (3, 1)], 4, 48, [.v (.int .i64 0), .v (.int .i64 0), .v (.int .i64 0), .nil]⟩), (31, ⟨.slice 114, 1, 24, [.nil]⟩), (33, ⟨.struct [(0, 4), (4, 4), (8, 1), (9, 1)], 10, 112, [.v (.int .i64 0), .v (.int .i64 0), .v (.int .i64 0), .v (.int .i64 0), .v (.int .i64 0), .v (.int .i64 0), .v (.int .i64 0), .nil, .nil, .v (.int .i64 0)]⟩), (35, ⟨.struct [(0, 1), (1, 1), (2, 1), (3, 1), (4, 1), (5, 1), (6, 1), (7, 1)], 8, 72, [.v (.int .i64 0), .v (.int .i64 0), .v (.int .i64 0), .v (.int .i64 0), .v (.int .i64 0), .v (.int .i64 0), .v (.int .i64 0), .v (.string ⟨#[]⟩)]⟩), (37, ⟨.struct [(0, 1), (1, 1), (2, 1), (3, 1), (4, 1), (5, 1), (6, 1), (7, 1), (8, 8)], 16, 136, [.v (.int .i64 0), .v (.int .i64 0), .v (.int .i64 0), .v (.int .i64 0), .v (.int .i64 0), .v (.int .i64 0), .v (.int .i64 0), .v (.int .i64 0), .v (.int .i64 0), .v (.int .i64 0), .v (.int .i64 0), .v (.int .i64 0), .v (.int .i64 0), .v (.int .i64 0), .v (.int .i64 0), .v (.string ⟨#[]⟩)]⟩), (42, ⟨.struct [(0, 1)], 1, 24, [.nil]⟩), (43, ⟨.struct [(0, 1), (1, 1), (2, 1), (3, 1)], 4, 32, [.v (.int .i64 0), .v (.int .i64 0), .v (.int .i64 0), .v (.int .i64 0)]⟩), (44, ⟨.struct [(0, 1), (1, 1), (2, 1), (3, 1)], 4, 48, [.v (.int .i64 0), .v (.int .i64 0), .v (.int .i64 0), .nil]⟩), (45, ⟨.slice 93, 1, 24, [.nil]⟩), (47, ⟨.struct [(0, 4), (4, 4), (8, 1), (9, 1)], 10, 112, [.v (.int .i64 0), .v (.int .i64 0), .v (.int .i64 0), .v (.int .i64 0), .v (.int .i64 0), .v (.int .i64 0), .v (.int .i64 0), .nil, .nil, .v (.int .i64 0)]⟩), (50, ⟨.slice 95, 1, 24, [.nil]⟩), (54, ⟨.struct [(0, 1), (1, 1), (2, 1), (3, 1), (4, 1), (5, 1), (6, 1), (7, 1)], 8, 72, [.v (.int .i64 0), .v (.int .i64 0), .v (.int .i64 0), .v (.int .i64 0), .v (.int .i64 0), .v (.int .i64 0), .v (.int .i64 0), .v (.string ⟨#[]⟩)]⟩), (56, ⟨.struct [(0, 1), (1, 1), (2, 1), (3, 1), (4, 1), (5, 1), (6, 1), (7, 1), (8, 8)], 16, 136, [.v (.int .i64 0), .v (.int .i64 0), .v (.int .i64 0), .v (.int .i64 0), .v (.int .i64 0), .v (.int .i64 0), .v (.int .i64 0), .v (.int .i64 0), .v (.int .i64 0), .v (.int .i64 0), .v (.int .i64 0), .v (.int .i64 0), .v (.int .i64 0), .v (.int .i64 0), .v (.int .i64 0), .v (.string ⟨#[]⟩)]⟩), (79, ⟨.slice 84, 1, 24, [.nil]⟩), (84, ⟨.struct [(0, 1), (1, 1)], 2, 16, [.v (.int .i64 0), .v (.int .i64 0)]⟩), (85, ⟨.slice 89, 1, 24, [.nil]⟩), (89, ⟨.struct [(0, 1), (1, 1), (2, 1), (3, 1), (4, 1), (5, 1)], 6, 48, [.v (.int .i64 0), .v (.int .i64 0), .v (.int .i64 0), .v (.int .i64 0), .v (.int .i64 0), .v (.int .i64 0)]⟩), (93, ⟨.struct [(0, 1), (1, 1), (2, 1)], 3, 40, [.v (.int .i64 0), .v (.int .i64 0), .nil]⟩), (95, ⟨.struct [(0, 1), (1, 1), (2, 1), (3, 1)], 4, 32, [.v (.int .i64 0), .v (.int .i64 0), .v (.int .i64 0), .v (.bool false)]⟩), (97, ⟨.struct [(0, 1), (1, 1), (2, 1), (3, 1)], 4, 32, [.v (.int .i64 0), .v (.int .i64 0), .v (.int .i64 0), .v (.bool false)]⟩), (114, ⟨.struct [(0, 1), (1, 1), (2, 1)], 3, 40, [.v (.int .i64 0), .v (.int .i64 0), .nil]⟩), (126, ⟨.slice 5, 1, 24, [.nil]⟩), (138, ⟨.struct [(0, 1), (1, 1), (2, 1), (3, 1), (4, 1), (5, 1), (6, 1)], 7, 64, [.v (.int .i64 0), .v (.int .i64 0), .v (.int .i64 0), .v (.int .i64 0), .v (.int .i64 0), .v (.int .i64 0), .v (.string ⟨#[]⟩)]⟩), (142, ⟨.struct [(0, 1), (1, 1), (2, 1), (3, 1), (4, 1)], 5, 48, [.v (.int .i64 0), .v (.int .i64 0), .v (.int .i64 0), .v (.int .i64 0), .v (.string ⟨#[]⟩)]⟩), (146, ⟨.slice 4, 1, 24, [.nil]⟩), (164, ⟨.slice 168, 1, 24, [.nil]⟩), (168, ⟨.struct [(0, 1), (1, 1)], 2, 16, [.v (.int .i64 0), .v (.int .i64 0)]⟩), (178, ⟨.int .u32, 1, 4, [.v (.int .u32 0)]⟩)]
def lkT : List (TypeId × TyI) → TypeId → Option TyI
  | [], _ => none
  | (k, i) :: l, n => bif Nat.beq k n then some i else lkT l n
theorem lkT_mem : ∀ {l : List (TypeId × TyI)} {T : TypeId} {i : TyI}, lkT l T = some i → (T, i) ∈ l
  | (k, j) :: l, T, i, h => by
    simp only [lkT] at h
    cases e : Nat.beq k T with
    | true =>
      rw [e] at h
      simp only [cond_true, Option.some.injEq] at h
      subst h
      have := Nat.eq_of_beq_eq_true e
      subst this
      exact List.mem_cons_self ..
    | false =>
      rw [e] at h
      exact List.mem_cons_of_mem _ (lkT_mem h)
theorem tyTab_ok : ∀ x ∈ tyTab, tyOk Tryz.prog x.1 x.2 := by
  intro x hx
  unfold tyTab at hx
  simp only [List.mem_cons, List.not_mem_nil, or_false] at hx
  rcases hx with rfl | rfl | rfl | rfl | rfl | rfl | rfl | rfl | rfl | rfl | rfl | rfl | rfl | rfl | rfl | rfl | rfl | rfl | rfl | rfl | rfl | rfl | rfl | rfl | rfl | rfl | rfl | rfl | rfl | rfl | rfl | rfl | rfl | rfl | rfl | rfl | rfl
  · exact tok_int
  · exact tok_bool
  · exact tok_string
  · exact tok_uint8
  · exact tok_Slaws_Mapping
  · exact tok_Sstring
  · exact tok_laws_Memory
  · exact tok_laws_Ring
  · exact tok_Sint
  · exact tok_laws_Pool
  · exact tok_Slaws_Sent
  · exact tok_laws_TxQueue
  · exact tok_laws_Segment
  · exact tok_laws_Packet
  · exact tok_impl_Memory
  · exact tok_impl_Ring
  · exact tok_impl_Pool
  · exact tok_Simpl_Sent
  · exact tok_impl_TxQueue
  · exact tok_Simpl_Mapping
  · exact tok_impl_Segment
  · exact tok_impl_Packet
  · exact tok_Simpl_Piece
  · exact tok_impl_Piece
  · exact tok_Simpl_Desc
  · exact tok_impl_Desc
  · exact tok_impl_Sent
  · exact tok_impl_Mapping
  · exact tok_laws_Mapping
  · exact tok_laws_Sent
  · exact tok_Suint8
  · exact tok_impl_Ip
  · exact tok_impl_Eth
  · exact tok_Sbool
  · exact tok_Simpl_run
  · exact tok_impl_run
  · exact tok_uint32
instance tyEnv : TyEnv Tryz.prog where
  ti := lkT tyTab
  ok := fun T i h => tyTab_ok (T, i) (lkT_mem h)
  mix := by kernel_rfl
end Go.Proofs.YtnikopahkjmneaaGreat
end
section
namespace Go.Proofs.YtnikopahkjmneaaGreat
open Go Go.RowKit
set_option linter.unusedVariables false
set_option linter.unusedSimpArgs false
set_option linter.unnecessarySimpa false
set_option linter.unusedSectionVars false
def completionOkB (a b c d e : Int) : Bool := inB a 0 65535 && inB b 0 65535 && inB c 0 65535 && inB d 0 65535 && inB e 0 4294967295
def sizeB (n : Int) : Bool := n == 2 || n == 4 || n == 8 || n == 16
def queueOkB (b s c : Int) : Bool := inB b 0 130944 && sizeB s && inB c 0 (2 * s - 1)
theorem i64_bits_or (a b : Nat) (ha : a < 4294967296) (hb : b < 4294967296) : bits .or .i64 (a : Int) (b : Int) = ((a ||| b : Nat) : Int) := by
  have hx : a ||| b < 2 ^ 32 := Nat.or_lt_two_pow (by omega) (by omega)
  have h1 : (BitVec.ofInt 64 (a : Int)).toNat = a := by
    rw [BitVec.ofInt_natCast, BitVec.toNat_ofNat]; exact Nat.mod_eq_of_lt (by omega)
  have h2 : (BitVec.ofInt 64 (b : Int)).toNat = b := by
    rw [BitVec.ofInt_natCast, BitVec.toNat_ofNat]; exact Nat.mod_eq_of_lt (by omega)
  show IntKind.i64.wrap ((BitVec.ofInt 64 (a : Int) ||| BitVec.ofInt 64 (b : Int)).toNat : Int) = _
  rw [BitVec.toNat_or, h1, h2, IntKind.wrap_i64]
  omega
theorem or_add (a b i : Nat) (h : b < 2 ^ i) : a * 2 ^ i ||| b = a * 2 ^ i + b := by
  rw [Nat.mul_comm, Nat.two_pow_add_eq_or_of_lt h]
theorem i64_or_add (a b i : Nat) (h : b < 2 ^ i) (ha : a * 2 ^ i < 4294967296) (hb : b < 4294967296) : bits .or .i64 ((a * 2 ^ i : Nat) : Int) (b : Int) = ((a * 2 ^ i + b : Nat) : Int) := by
  rw [i64_bits_or _ _ ha hb, or_add _ _ _ h]
@[go_sem] theorem wrap64_u8 (b : UInt8) : wrap64 (b.toNat : Int) = b.toNat := by have := b.toNat_lt; unfold wrap64; omega
theorem wrap64_id {n : Int} (h1 : -9223372036854775808 ≤ n) (h2 : n ≤ 9223372036854775807) : wrap64 n = n := by unfold wrap64; omega
def bAt (s : ByteArray) (i : Nat) : Nat := if h : i < s.size then s[i].toNat else 0
theorem bAt_lt (s : ByteArray) (i : Nat) : bAt s i < 256 := by
  unfold bAt
  split
  · exact s[i].toNat_lt
  · omega
def word16 (v : Int) : ByteArray := if inB v 0 65535 then strOfNums [v / 256, v % 256] else ⟨#[]⟩
def word32 (v : Int) : ByteArray := if inB v 0 4294967295 then strOfNums [v / 16777216, v / 65536 % 256, v / 256 % 256, v % 256] else ⟨#[]⟩
theorem word16_size {v : Int} (h : inB v 0 65535 = true) : (word16 v).size = 2 := by simp [word16, h, strOfNums_size]
theorem word32_size {v : Int} (h : inB v 0 4294967295 = true) : (word32 v).size = 4 := by simp [word32, h, strOfNums_size]
theorem word16_le (v : Int) : (word16 v).size ≤ 2 := by
  unfold word16
  split
  · exact Nat.le_of_eq (strOfNums_size _)
  · exact Nat.zero_le _
theorem word32_le (v : Int) : (word32 v).size ≤ 4 := by
  unfold word32
  split
  · exact Nat.le_of_eq (strOfNums_size _)
  · exact Nat.zero_le _
def get16 (s : ByteArray) (i : Int) : Int := if 0 ≤ i ∧ i + 2 ≤ s.size then ((bAt s i.toNat * 256 + bAt s (i.toNat + 1) : Nat) : Int) else -1
def get32 (s : ByteArray) (i : Int) : Int := if 0 ≤ i ∧ i + 4 ≤ s.size then ((bAt s i.toNat * 16777216 + bAt s (i.toNat + 1) * 65536 + bAt s (i.toNat + 2) * 256 + bAt s (i.toNat + 3) : Nat) : Int) else -1
theorem get16_bd (s : ByteArray) (i : Int) : -1 ≤ get16 s i ∧ get16 s i ≤ 65535 := by
  unfold get16
  have h1 := bAt_lt s i.toNat
  have h2 := bAt_lt s (i.toNat + 1)
  split <;> omega
theorem get32_bd (s : ByteArray) (i : Int) : -1 ≤ get32 s i ∧ get32 s i ≤ 4294967295 := by
  unfold get32
  have h1 := bAt_lt s i.toNat
  have h2 := bAt_lt s (i.toNat + 1)
  have h3 := bAt_lt s (i.toNat + 2)
  have h4 := bAt_lt s (i.toNat + 3)
  split <;> omega
theorem or16 (a b : Nat) (ha : a < 256) (hb : b < 256) : bits .or .i64 (wrap64 ((a : Int) * 256)) (b : Int) = ((a * 256 + b : Nat) : Int) := by
  rw [wrap64_id (by omega) (by omega), show (a : Int) * 256 = ((a * 256 : Nat) : Int) from by omega]
  exact i64_or_add a b 8 (by omega) (by omega) (by omega)
theorem add16 (a b : Nat) (ha : a < 256) (hb : b < 256) : wrap64 (wrap64 ((a : Int) * 256) + (b : Int)) = ((a * 256 + b : Nat) : Int) := by
  rw [wrap64_id (n := (a : Int) * 256) (by omega) (by omega), wrap64_id (by omega) (by omega)]
  rfl
def withinB (s : ByteArray) (i n : Int) : Bool := decide (0 ≤ i) && decide (i ≤ s.size) && decide (n ≤ s.size - i)
def encC (a b c d h p : Int) : ByteArray := word16 a ++ word16 b ++ word16 c ++ word16 d ++ word32 h ++ word32 p
theorem and_mask_i64 (x : Int) (i : Nat) (hi : i ≤ 62) : bits .and .i64 x (2 ^ i - 1) = x % 2 ^ i := by
  have hp : (2 : Nat) ^ i ≤ 2 ^ 62 := Nat.pow_le_pow_right (by decide) hi
  have hpos : 0 < 2 ^ i := Nat.two_pow_pos i
  have hc : ((2 : Int) ^ i - 1) = ((2 ^ i - 1 : Nat) : Int) := by rw [Int.natCast_sub hpos]; simp
  rw [hc]
  show IntKind.i64.wrap (((BitVec.ofInt 64 x &&& BitVec.ofInt 64 ((2 ^ i - 1 : Nat) : Int)).toNat : Nat) : Int) = x % 2 ^ i
  rw [BitVec.ofInt_natCast, BitVec.toNat_and, BitVec.toNat_ofNat, BitVec.toNat_ofInt, Nat.mod_eq_of_lt (a := 2 ^ i - 1) (by omega), Nat.and_two_pow_sub_one_eq_mod]
  have hlt : (x % (2 ^ 64 : Nat)).toNat % 2 ^ i < 2 ^ i := Nat.mod_lt _ hpos
  rw [IntKind.wrap_i64, Int.emod_eq_of_lt (by omega) (by omega)]
  have h0 : 0 ≤ x % (2 ^ 64 : Nat) := Int.emod_nonneg _ (by decide)
  have e : (((x % (2 ^ 64 : Nat)).toNat % 2 ^ i : Nat) : Int) = x % 2 ^ i := by
    rw [Int.natCast_emod, Int.toNat_of_nonneg h0]
    have hd : ((2 ^ i : Nat) : Int) ∣ ((2 ^ 64 : Nat) : Int) := Int.natCast_dvd_natCast.2 (Nat.pow_dvd_pow 2 (by omega))
    rw [Int.emod_emod_of_dvd _ hd]; simp
  omega
def mapGood (l : List Mp) (k : Nat) : Prop := ∀ h : k < l.length, MapFine l[k] ∧ ∀ j (g : j < k), ¬ ((l[j]'(by omega)).1 = l[k].1 ∧ (l[j]'(by omega)).2.1 = l[k].2.1)
theorem mapsOk_bad {l : List Mp} {k : Nat} (hk : k < l.length) (h : ¬ mapGood l k) : mapsOk l = false := mapsOk_not fun hh => h fun hk => hh.2 k hk
theorem mapsOk_all {l : List Mp} (h : ∀ k, k < l.length → mapGood l k) : mapsOk l = decide ((l.length : Int) ≤ 96) := by
  by_cases h9 : l.length ≤ 96
  · rw [mapsOk_iff.2 ⟨h9, fun i hi => h i hi hi⟩, decide_eq_true (by omega)]
  · rw [mapsOk_not (fun hh => h9 hh.1), decide_eq_false (by omega)]
theorem mapsOk_long {l : List Mp} (h : 96 < l.length) : mapsOk l = false := mapsOk_not fun hh => by have := hh.1; omega
theorem memOk_bad {ps : Pg} {k : Nat} (hk : k < ps.length) (h : ¬ ps[k].size = 128) : memOk ps = false := memOk_not fun hh => h (hh.2 k hk)
theorem memOk_all {ps : Pg} (h : ∀ k (g : k < ps.length), ps[k].size = 128) : memOk ps = decide ((ps.length : Int) ≤ 64) := by
  by_cases h9 : ps.length ≤ 64
  · rw [memOk_iff.2 ⟨h9, h⟩, decide_eq_true (by omega)]
  · rw [memOk_not (fun hh => h9 hh.1), decide_eq_false (by omega)]
def placeF (l : List Mp) (d a : Int) (wt : Bool) : Int := if mpPage l d (a / 128) wt < 0 then -1 else mpPage l d (a / 128) wt * 128 + a % 128
theorem ba_full (s : ByteArray) : s.extract s.size s.size = ⟨#[]⟩ := by
  apply ByteArray.ext
  rw [ByteArray.data_extract]
  exact Array.eq_empty_of_size_eq_zero (by rw [Array.size_extract]; omega)
theorem ba_all (s : ByteArray) : s.extract 0 s.size = s := ByteArray.extract_zero_size
def putBF (s : ByteArray) (i : Int) (p : ByteArray) : ByteArray := if withinB s i p.size then putB s i.toNat p else s
theorem putBF_in {s p : ByteArray} {i : Nat} (h : i + p.size ≤ s.size) : putBF s i p = putB s i p := by
  unfold putBF
  rw [if_pos (by simp [withinB]; omega)]; rfl
theorem putBF_size (s : ByteArray) (i : Int) (p : ByteArray) : (putBF s i p).size = s.size := by
  unfold putBF
  split
  · rename_i h
    simp only [withinB, Bool.and_eq_true, decide_eq_true_eq] at h
    exact putB_size (by omega)
  · rfl
theorem runs_not {l : List Mp} {ps : Pg} {d a n : Int} {wt : Bool} (h : runsOk l ps n = false) : runs l ps d a n wt = none := by unfold runs; rw [h]; rfl
theorem runs_is {l : List Mp} {ps : Pg} {d a : Int} {n : Nat} {wt : Bool} (h : runsOk l ps n = true) : runs l ps d a n wt = parts l ps.length d wt a n := by unfold runs; rw [h]; rfl
theorem map_nil_append {α : Type} (o : Option (List α)) : o.map ([] ++ ·) = o := by cases o <;> rfl
theorem map_step {α : Type} (o : Option (List α)) (x : List α) (y : α) : (o.map (y :: ·)).map (x ++ ·) = o.map ((x ++ [y]) ++ ·) := by cases o <;> simp
def dmaWF (l : List Mp) (ps : Pg) (d a : Int) (s : ByteArray) (wt : Bool) : Pg × Bool := match dmaW l ps d a s wt with
  | some qs => (qs, true)
  | none => (ps, false)
theorem dmaWF_no {l : List Mp} {ps : Pg} {d a : Int} {s : ByteArray} {wt : Bool} (h : runs l ps d a s.size wt = none) : dmaWF l ps d a s wt = (ps, false) := by unfold dmaWF dmaW; rw [h]; rfl
def ringOkB (b s h t : Int) : Bool := inB b 0 130944 && sizeB s && inB h 0 (2 * s - 1) && inB t 0 (2 * s - 1) && decide ((t - h) % (2 * s) ≤ s)
def segOkB (kind sp dp seq ack fl win : Int) (n : Nat) : Bool := inB sp 0 65535 && inB dp 0 65535 && !decide (320 < n) &&
  ((kind == 6 && (inB seq 0 4294967295 && (inB ack 0 4294967295 && (inB fl 0 31 && inB win 0 65535)))) || (!(kind == 6) && (kind == 17 && (seq == 0 && (ack == 0 && (fl == 0 && win == 0))))))
def streamB (fl : Int) : Bool := fl == 16 || fl == 17 || fl == 24 || fl == 25
def superOkB (dm sm vl tos id ttl si di kind sp dp seq ack fl win : Int) (n : Nat) : Bool := inB dm 0 281474976710655 && (inB sm 0 281474976710655 && (inB vl (-1) 4095 && (inB tos 0 255 && (inB ttl 0 255 && (inB id 0 65535 && (inB si 0 4294967295 && (inB di 0 4294967295 && (segOkB kind sp dp seq ack fl win n &&
  (!decide (128 < n) || (kind == 6 && streamB fl))))))))))
theorem flag_facts : ∀ n : Fin 32, bits .and .i64 (n.val : Int) 16 = (if 16 ≤ n.val then 16 else 0) ∧ (bits .andNot .i64 (n.val : Int) 25 == 0) = decide (n.val = 0 ∨ n.val = 1 ∨ n.val = 8 ∨ n.val = 9 ∨ n.val = 16 ∨ n.val = 17 ∨ n.val = 24 ∨ n.val = 25) ∧ (bits .andNot .i64 (n.val : Int) 9 == 16) = decide (n.val = 16 ∨ n.val = 17 ∨ n.val = 24 ∨ n.val = 25) := by decide +kernel
theorem sizeB_cases {s : Int} (h : sizeB s = true) : s = 2 ∨ s = 4 ∨ s = 8 ∨ s = 16 := by simpa [sizeB, or_assoc] using h
theorem segOk_fl {kind sp dp seq ack fl win : Int} {n : Nat} (h : segOkB kind sp dp seq ack fl win n = true) : 0 ≤ fl ∧ fl ≤ 31 := by
  simp only [segOkB, Bool.and_eq_true, Bool.or_eq_true, inB_iff, beq_iff_eq] at h
  omega
theorem ringOk_facts {b s h t : Int} (q : ringOkB b s h t = true) : sizeB s = true ∧ 0 ≤ b ∧ b ≤ 130944 ∧ 2 ≤ s ∧ s ≤ 16 ∧ 0 ≤ h ∧ h ≤ 2 * s - 1 ∧ 0 ≤ t ∧ t ≤ 2 * s - 1 ∧ (t - h) % (2 * s) ≤ s ∧ 0 ≤ (t - h) % (2 * s) := by
  simp only [ringOkB, Bool.and_eq_true, inB_iff, decide_eq_true_eq] at q
  obtain ⟨⟨⟨⟨⟨h1, h2⟩, h3⟩, h4, h5⟩, h6, h7⟩, h8⟩ := q
  have h9 := sizeB_cases h3
  exact ⟨h3, h1, h2, by omega, by omega, h4, h5, h6, h7, h8, Int.emod_nonneg _ (by omega)⟩
def usedF (s h t : Int) : Int := (t - h) % (2 * s)
def freeF (b s h t : Int) : Int := if ringOkB b s h t then s - (t - h) % (2 * s) else 0
def rslot (b s k : Int) : Int := b + k % s * 16
def rnext (s k : Int) : Int := (k + 1) % (2 * s)
theorem freeF_ok {b s h t : Int} (q : ¬ freeF b s h t = 0) : ringOkB b s h t = true := by
  unfold freeF at q
  split at q
  · assumption
  · exact (q rfl).elim
theorem rslot_bd {b s h t : Int} (q : ringOkB b s h t = true) (k : Int) : 0 ≤ rslot b s k ∧ rslot b s k ≤ 131184 := by
  obtain ⟨_, h1, h2, h3, h4, _⟩ := ringOk_facts q
  unfold rslot
  have := Int.emod_nonneg k (show s ≠ 0 by omega)
  have := Int.emod_lt_of_pos k (show 0 < s by omega)
  omega
def rputF (l : List Mp) (ps : Pg) (d b s h t : Int) (e : ByteArray) : Pg × Int × Bool :=
  if freeF b s h t = 0 then (ps, t, false) else if e.size = 16 then match dmaWF l ps d (rslot b s t) e true with
    | (qs, true) => (qs, rnext s t, true)
    | (_, false) => (ps, t, false)
  else (ps, t, false)
def poolB (b z c : Int) (fr : List Int) : Bool := inB b 0 130944 && inB z 1 512 && inB c 0 16 && fr.all (fun k => inB k 0 (c - 1)) && decide (fr.Pairwise (· ≠ ·))
def seenF (n : Nat) (xs : List Int) : List Bool := (List.range n).map fun i : Nat => xs.contains (i : Int)
theorem seenF_length (n : Nat) (xs : List Int) : (seenF n xs).length = n := by simp [seenF]
theorem seenF_nil (n : Nat) : seenF n [] = List.replicate n false := by
  apply List.ext_getElem <;> simp [seenF]
theorem seenF_get {n i : Nat} (xs : List Int) (h : i < n) : (seenF n xs)[i]? = some (xs.contains (i : Int)) := by simp [seenF, h]
theorem seenF_set {n i : Nat} (xs : List Int) (h : i < n) : (seenF n xs).set i true = seenF n (xs ++ [(i : Int)]) := by
  apply List.ext_getElem
  · simp [seenF]
  · intro j h1 h2
    simp only [seenF, List.getElem_set, List.getElem_map, List.getElem_range]
    by_cases e : i = j
    · subst e; simp
    · rw [if_neg e]
      simp only [List.contains_append, List.contains_cons, List.contains_nil, Bool.or_false]
      have : ((j : Int) == (i : Int)) = false := by simp; omega
      rw [this, Bool.or_false]
def poolG (n : Nat) (fr : List Int) (k : Nat) : Prop := (∀ x ∈ fr.take k, inB x 0 ((n : Int) - 1) = true) ∧ (fr.take k).Pairwise (· ≠ ·)
theorem poolG_zero (n : Nat) (fr : List Int) : poolG n fr 0 := by simp [poolG]
theorem poolG_step {n : Nat} {fr : List Int} {k : Nat} {x : Int} (hk : k < fr.length) (hx : fr[k] = x) (g : poolG n fr k) (h1 : inB x 0 ((n : Int) - 1) = true) (h2 : (fr.take k).contains x = false) : poolG n fr (k + 1) := by
  unfold poolG
  rw [List.take_add_one, List.getElem?_eq_getElem hk, hx]
  refine ⟨fun y hy => ?_, ?_⟩
  · rcases List.mem_append.1 hy with hy | hy
    · exact g.1 y hy
    · rw [List.mem_singleton.1 hy]; exact h1
  · refine List.pairwise_append.2 ⟨g.2, by simp, fun a ha d hd => ?_⟩
    rw [List.mem_singleton.1 hd]
    rintro rfl
    have := List.contains_iff_mem.2 ha
    rw [h2] at this; cases this
theorem poolB_all {b z : Int} {n : Nat} {fr : List Int} (h0 : inB b 0 130944 = true) (h1 : inB z 1 512 = true) (h2 : inB (n : Int) 0 16 = true) (g : poolG n fr fr.length) : poolB b z n fr = true := by
  unfold poolG at g
  rw [List.take_length] at g
  simp only [poolB, h0, h1, h2, Bool.true_and, Bool.and_eq_true, List.all_eq_true, decide_eq_true_eq]
  exact ⟨g.1, g.2⟩
theorem poolB_range {b z c : Int} {fr : List Int} {k : Nat} {x : Int} (hk : k < fr.length) (hx : fr[k] = x) (h : inB x 0 (c - 1) = false) : poolB b z c fr = false := by
  rw [Bool.eq_false_iff]; intro hp
  simp only [poolB, Bool.and_eq_true, List.all_eq_true] at hp
  have := hp.1.2 _ (List.getElem_mem hk)
  rw [hx, h] at this; cases this
theorem poolB_dup {b z c : Int} {fr : List Int} {k : Nat} {x : Int} (hk : k < fr.length) (hx : fr[k] = x) (h : (fr.take k).contains x = true) : poolB b z c fr = false := by
  rw [Bool.eq_false_iff]; intro hp
  simp only [poolB, Bool.and_eq_true, decide_eq_true_eq] at hp
  have hn := hp.2
  rw [← List.take_append_drop k fr, List.drop_eq_getElem_cons hk, hx] at hn
  exact (List.pairwise_append.1 hn).2.2 x (List.contains_iff_mem.1 h) x (List.mem_cons_self ..) rfl
theorem poolB_facts {b z c : Int} {fr : List Int} (h : poolB b z c fr = true) : 0 ≤ b ∧ b ≤ 130944 ∧ 1 ≤ z ∧ z ≤ 512 ∧ 0 ≤ c ∧ c ≤ 16 ∧ ∀ k ∈ fr, 0 ≤ k ∧ k < c := by
  simp only [poolB, Bool.and_eq_true, inB_iff, List.all_eq_true] at h
  obtain ⟨⟨⟨⟨⟨h1, h2⟩, h3, h4⟩, h5, h6⟩, h7⟩, h8⟩ := h
  exact ⟨h1, h2, h3, h4, h5, h6, fun k hk => by have := h7 k hk; omega⟩
def dig : Nat → ByteArray
  | 0 => ⟨#[]⟩
  | n + 1 => dig ((n + 1) / 10) ++ ⟨#[UInt8.ofNat (48 + (n + 1) % 10)]⟩
termination_by n => n
decreasing_by omega
theorem dig_zero : dig 0 = ⟨#[]⟩ := by rw [dig]
theorem dig_pos {n : Nat} (h : 0 < n) : dig n = dig (n / 10) ++ ⟨#[UInt8.ofNat (48 + n % 10)]⟩ := by
  obtain ⟨m, rfl⟩ : ∃ m, n = m + 1 := ⟨n - 1, by omega⟩
  rw [dig]
theorem dig_size (n : Nat) : (dig n).size ≤ n := by
  induction n using Nat.strongRecOn with
  | _ n ih =>
    by_cases h : n = 0
    · subst h; rw [dig_zero]; exact Nat.le_refl _
    · rw [dig_pos (by omega), ByteArray.size_append]
      have := ih (n / 10) (by omega)
      have h1 : (⟨#[UInt8.ofNat (48 + n % 10)]⟩ : ByteArray).size = 1 := rfl
      omega
def mtext (k : Nat) : ByteArray := ⟨#[109]⟩ ++ dig k
theorem ba_append_nil (s : ByteArray) : s ++ (⟨#[]⟩ : ByteArray) = s := ByteArray.append_empty
def descB (op fl ln at_ sz ck : Int) : Bool := inB op 0 3 && inB fl 0 3 && inB ln 0 65535 && inB sz 0 65535 && inB ck 0 65535 && inB at_ 0 4294967295
theorem descB_iff {op fl ln at_ sz ck : Int} : descB op fl ln at_ sz ck = true ↔ (0 ≤ op ∧ op ≤ 3) ∧ (0 ≤ fl ∧ fl ≤ 3) ∧ (0 ≤ ln ∧ ln ≤ 65535) ∧ (0 ≤ sz ∧ sz ≤ 65535) ∧ (0 ≤ ck ∧ ck ≤ 65535) ∧ 0 ≤ at_ ∧ at_ ≤ 4294967295 := by
  simp only [descB, Bool.and_eq_true, inB_iff, and_assoc]
def encD (op fl ln at_ sz ck : Int) : ByteArray := strOfNums [op, fl] ++ word16 ln ++ word32 at_ ++ word16 sz ++ word16 ck ++ word32 0
def encDF (op fl ln at_ sz ck : Int) : ByteArray := if descB op fl ln at_ sz ck then encD op fl ln at_ sz ck else ⟨#[]⟩
theorem encD_size {op fl ln at_ sz ck : Int} (h : descB op fl ln at_ sz ck = true) : (encD op fl ln at_ sz ck).size = 16 := by
  obtain ⟨-, -, h1, h2, h3, h4⟩ := descB_iff.1 h
  have a1 := word16_size (inB_iff.2 h1); have a2 := word16_size (inB_iff.2 h2); have a3 := word16_size (inB_iff.2 h3); have a4 := word32_size (inB_iff.2 h4)
  have a5 := word32_size (v := 0) (by decide)
  unfold encD
  simp only [ByteArray.size_append, strOfNums_size, a1, a2, a3, a4, a5]; rfl
abbrev Dsc := Int × Int × Int × Int × Int × Int
def decX (x : ByteArray) : Dsc := ((bAt x 0 : Int), (bAt x 1 : Int), get16 x 2, get32 x 4, get16 x 8, get16 x 10)
def decDF (x : ByteArray) : Dsc × Bool := if x.size = 16 then if encDF (bAt x 0) (bAt x 1) (get16 x 2) (get32 x 4) (get16 x 8) (get16 x 10) = x then (decX x, true) else ((0, 0, 0, 0, 0, 0), false) else ((0, 0, 0, 0, 0, 0), false)
theorem dmaWF_ln {l : List Mp} {ps qs : Pg} {d a : Int} {s : ByteArray} {wt ok : Bool} (h : (qs, ok) = dmaWF l ps d a s wt) : qs.length = ps.length := by
  unfold dmaWF at h
  split at h
  · rename_i hq; simp only [Prod.mk.injEq] at h; rw [h.1]; exact (dmaW_ok hq).2.1
  · simp only [Prod.mk.injEq] at h; rw [h.1]
theorem rputF_len {l : List Mp} {ps qs : Pg} {d b s h t t2 : Int} {e : ByteArray} {ok : Bool} (hr : (qs, t2, ok) = rputF l ps d b s h t e) : qs.length = ps.length := by
  unfold rputF at hr
  split at hr
  · simp only [Prod.mk.injEq] at hr; rw [hr.1]
  · split at hr
    · split at hr
      · rename_i hq; simp only [Prod.mk.injEq] at hr; rw [hr.1]; exact dmaWF_ln hq.symm
      · simp only [Prod.mk.injEq] at hr; rw [hr.1]
    · simp only [Prod.mk.injEq] at hr; rw [hr.1]
def addS (a b : Int) : Int := if 65535 < a + b then a + b - 65535 else a + b
def wAt (s : ByteArray) (k : Nat) : Int := ((bAt s (2 * k) * 256 + bAt s (2 * k + 1) : Nat) : Int)
def sumW (s : ByteArray) : Nat → Int
  | 0 => 0
  | k + 1 => addS (sumW s k) (wAt s k)
def words (n : Nat) : Nat := (n + 1) / 2
def sumF (s : ByteArray) : Int := sumW s (words s.size)
theorem addS_bd {a b : Int} (h1 : 0 ≤ a ∧ a ≤ 65535) (h2 : 0 ≤ b ∧ b ≤ 65535) : 0 ≤ addS a b ∧ addS a b ≤ 65535 := by
  unfold addS; split <;> omega
theorem wAt_bd (s : ByteArray) (k : Nat) : 0 ≤ wAt s k ∧ wAt s k ≤ 65535 := by
  have h1 := bAt_lt s (2 * k)
  have h2 := bAt_lt s (2 * k + 1)
  unfold wAt; omega
theorem sumW_bd (s : ByteArray) : ∀ k, 0 ≤ sumW s k ∧ sumW s k ≤ 65535
  | 0 => by simp [sumW]
  | k + 1 => addS_bd (sumW_bd s k) (wAt_bd s k)
def checkF (s : ByteArray) : Int := 65535 - sumF s
theorem sumF_bd (s : ByteArray) : 0 ≤ sumF s ∧ sumF s ≤ 65535 := sumW_bd s _
def psF (src dst kind len : Int) : ByteArray := word32 src ++ word32 dst ++ strOfNums [0, kind] ++ word16 len
def phaseC (s c : Int) : Int := if c < s then 1 else 0
def slotC (b s c : Int) : Int := b + c % s * 16
def nextC (s c : Int) : Int := (c + 1) % (2 * s)
def putC (l : List Mp) (ps : Pg) (d b s c : Int) (x1 x2 x3 x4 x5 : Int) : Pg × Int × Bool :=
  if queueOkB b s c then if completionOkB x1 x2 x3 x4 x5 then match dmaWF l ps d (slotC b s c) (encC x1 x2 x3 x4 x5 (phaseC s c)) true with
    | (qs, true) => (qs, nextC s c, true)
    | (_, false) => (ps, c, false)
  else (ps, c, false) else (ps, c, false)
theorem dmaWF_same {l : List Mp} {ps qs : Pg} {d a : Int} {s : ByteArray} {wt : Bool} (h : (qs, false) = dmaWF l ps d a s wt) : qs = ps := by
  unfold dmaWF at h
  split at h
  · cases h
  · simp only [Prod.mk.injEq] at h; exact h.1
end Go.Proofs.YtnikopahkjmneaaGreat
end
section
namespace Go.Proofs.YtnikopahkjmneaaGreat
open Go Go.RowKit Go.Vc
set_option linter.unusedVariables false
set_option linter.unusedSimpArgs false
set_option linter.unnecessarySimpa false
theorem orI_eq (a b : Int) : orI a b = Go.bits .or .i64 a b := rfl
theorem andI_eq (a b : Int) : andI a b = Go.bits .and .i64 a b := rfl
theorem andNotI_eq (a b : Int) : andNotI a b = Go.bits .andNot .i64 a b := rfl
theorem wr_eq (n : Int) : wr n = wrap64 n := IntWalk.i64_left n
theorem wr_id {n : Int} (h1 : -9223372036854775808 ≤ n) (h2 : n ≤ 9223372036854775807) : wr n = n := IntWalk.i64_in n ⟨h1, h2⟩
theorem bytI_nat (s : ByteArray) (n : Int) : bytI s n = (bAt s n.toNat : Int) := by
  unfold bytI bAt
  split
  · rename_i h
    rw [List.getElem?_eq_getElem (by rw [Array.length_toList]; exact h)]
    simp only [Option.getD_some]
    rfl
  · rename_i h
    rw [List.getElem?_eq_none (by rw [Array.length_toList]; exact Nat.le_of_not_lt h)]
    rfl
def bytV : List Value → UInt8
  | [.int _ n] => UInt8.ofNat n.toNat
  | _ => 0
theorem ofE_eq (es : List (List Value)) : ofE es = ⟨(es.map bytV).toArray⟩ := rfl
theorem u8w {n : Int} (h0 : 0 ≤ n) (h1 : n ≤ 255) : IntKind.u8.wrap n = n := by rw [IntKind.wrap_u8]; omega
theorem bytesE_len (s : ByteArray) : (bytesE s).length = s.size := by
  unfold bytesE
  rw [List.length_map, Array.length_toList]; rfl
theorem w16 {v : Int} (h : inB v 0 65535 = true) : strOfNums [IntKind.u8.wrap (v / 2 ^ Int.toNat 8), IntKind.u8.wrap v] = word16 v := by
  have h' := inB_iff.1 h
  unfold word16
  rw [if_pos h, IntKind.wrap_u8, IntKind.wrap_u8]
  have e1 : (2 : Int) ^ Int.toNat 8 = 256 := by decide
  rw [e1, show v / 256 % 256 = v / 256 by omega]
theorem w32 {v : Int} (h : inB v 0 4294967295 = true) : strOfNums [IntKind.u8.wrap (v / 2 ^ Int.toNat 24), IntKind.u8.wrap (v / 2 ^ Int.toNat 16), IntKind.u8.wrap (v / 2 ^ Int.toNat 8), IntKind.u8.wrap v] = word32 v := by
  have h' := inB_iff.1 h
  unfold word32
  rw [if_pos h, IntKind.wrap_u8, IntKind.wrap_u8, IntKind.wrap_u8, IntKind.wrap_u8]
  have e1 : (2 : Int) ^ Int.toNat 8 = 256 := by decide
  have e2 : (2 : Int) ^ Int.toNat 16 = 65536 := by decide
  have e3 : (2 : Int) ^ Int.toNat 24 = 16777216 := by decide
  rw [e1, e2, e3, show v / 16777216 % 256 = v / 16777216 by omega]
theorem i64_byt (s : ByteArray) (n : Int) : IntKind.i64.wrap (bytI s n) = (bAt s n.toNat : Int) := by
  rw [bytI_nat, IntWalk.i64_in]
  have := bAt_lt s n.toNat
  omega
theorem g16 {s : ByteArray} {i : Int} (h0 : 0 ≤ i) (h1 : i + 2 ≤ s.size) : orI (IntKind.i64.wrap (IntKind.i64.wrap (bytI s i) * 2 ^ Int.toNat 8)) (IntKind.i64.wrap (bytI s (i + 1))) = get16 s i := by
  rw [i64_byt, i64_byt, orI_eq, IntWalk.i64_left]
  have e1 : (2 : Int) ^ Int.toNat 8 = 256 := by decide
  rw [e1, or16 _ _ (bAt_lt ..) (bAt_lt ..), get16, if_pos ⟨h0, h1⟩, show (i + 1).toNat = i.toNat + 1 by omega]
theorem g16s {s : ByteArray} {i : Int} (h0 : 0 ≤ i) (h1 : i + 2 ≤ s.size) : wr (IntKind.i64.wrap (IntKind.i64.wrap (bytI s i) * 2 ^ Int.toNat 8) + IntKind.i64.wrap (bytI s (i + 1))) = get16 s i := by
  rw [i64_byt, i64_byt, wr_eq, IntWalk.i64_left]
  have e1 : (2 : Int) ^ Int.toNat 8 = 256 := by decide
  rw [e1, add16 _ _ (bAt_lt ..) (bAt_lt ..), get16, if_pos ⟨h0, h1⟩, show (i + 1).toNat = i.toNat + 1 by omega]
theorem wthB_iff {s : ByteArray} {i n : Int} : withinB s i n = true ↔ 0 ≤ i ∧ i ≤ s.size ∧ n ≤ s.size - i := by simp [withinB, and_assoc]
theorem shl8 (s : ByteArray) (n : Int) : IntKind.i64.wrap (IntKind.i64.wrap (bytI s n) * 2 ^ Int.toNat 8) = ((bAt s n.toNat * 256 : Nat) : Int) := by
  have := bAt_lt s n.toNat
  have e1 : (2 : Int) ^ Int.toNat 8 = 256 := by decide
  rw [i64_byt, e1, IntWalk.i64_in _ (by omega)]
  omega
theorem or8 (s : ByteArray) (a : Nat) (n : Int) (ha : a < 256) : orI ((a * 256 : Nat) : Int) (IntKind.i64.wrap (bytI s n)) = ((a * 256 + bAt s n.toNat : Nat) : Int) := by
  have := bAt_lt s n.toNat
  rw [i64_byt, orI_eq]
  exact i64_or_add a (bAt s n.toNat) 8 this (by omega) (by omega)
theorem bAt_out {s : ByteArray} {i : Nat} (h : s.size ≤ i) : bAt s i = 0 := by unfold bAt; rw [dif_neg (by omega)]
def macF (a : Int) : ByteArray := word16 (a / 4294967296) ++ word32 (a % 4294967296)
def repF (b : Int) (n : Nat) : ByteArray := strOfNums (List.replicate n b)
def padF (s : ByteArray) : ByteArray := if s.size < 46 then s ++ repF 0 (46 - s.size) else s
theorem ofE_by (L : List Int) : ofE (L.map byE) = strOfNums L := by
  rw [ofE_eq, strOfNums, List.map_map]; rfl
theorem set_rep (b : Int) (n i : Nat) (h : i < n) : (List.replicate i b ++ List.replicate (n - i) 0).set i b = List.replicate (i + 1) b ++ List.replicate (n - (i + 1)) 0 := by
  obtain ⟨m, hm⟩ : ∃ m, n - i = m + 1 := ⟨n - i - 1, by omega⟩
  rw [hm, show n - (i + 1) = m by omega, List.set_append_right _ _ (by simp)]
  simp only [List.length_replicate, Nat.sub_self, List.replicate_succ, List.set_cons_zero]
  rw [← List.replicate_succ, List.replicate_succ', List.append_assoc]; rfl
theorem mac_le (a : Int) : (macF a).size ≤ 6 := by
  have := word16_le (a / 4294967296); have := word32_le (a % 4294967296)
  unfold macF
  simp only [ByteArray.size_append]
  omega
theorem rep_le (b : Int) (n : Nat) : (repF b n).size ≤ n := by rw [repF, strOfNums_size]; simp
end Go.Proofs.YtnikopahkjmneaaGreat
end
section
namespace Go.Proofs.YtnikopahkjmneaaGreat
open Go Go.RowKit Go.Vc
set_option linter.unusedVariables false
set_option linter.unusedSimpArgs false
set_option linter.unnecessarySimpa false
theorem tmod_add {x m : Int} (h0 : 1 ≤ m) (h1 : m ≤ 4611686018427387904) (h : x.tmod m < 0) : wr (x.tmod m + m) = x % m := by
  have h2 := Int.lt_tmod_of_pos x (show 0 < m by omega)
  unfold wr
  rw [IntWalk.i64_in _ (by omega)]
  have h3 := Int.tmod_eq_emod (a := x) (b := m)
  split at h3
  · have := Int.emod_nonneg x (show m ≠ 0 by omega); omega
  · omega
theorem tmod_pos {x m : Int} (h0 : 1 ≤ m) (h : 0 ≤ x.tmod m) : x.tmod m = x % m := by
  have h3 := Int.tmod_eq_emod (a := x) (b := m)
  split at h3
  · omega
  · have := Int.emod_lt_of_pos x (show 0 < m by omega); omega
set_option maxHeartbeats 4000000 in
theorem c_impl_between {x lo hi : Int} : Con0 Tryz.prog 49 [I x, I lo, I hi] (B (inB x lo hi)) [] := by
  refine con_i Tryz.func49 Tryz.ntmps49 (t := [(0, I x), (1, I lo), (2, I hi)]) rfl ?_
  refine vc_sr ?_
  refine vo ?_
  refine vnt ?_
  refine vc_sr ?_
  iterate 4 refine vo ?_
  refine vsp (fun g1 => ?_) (fun g1 => ?_)
  · iterate 3 refine von ?_
    iterate 2 refine vo ?_
    refine vnt ?_
    refine vc_ret ?_
    refine fin_i [] rfl (fz ?_) trivial
    simp [inB, g1]
    try omega
  · iterate 3 refine vof ?_
    iterate 2 refine vo ?_
    refine vnt ?_
    refine vc_ret ?_
    refine fin_i [] rfl (fz ?_) trivial
    simp [inB, g1]
    try omega
set_option maxHeartbeats 4000000 in
theorem c_impl_modulo {x m : Int} (h0 : 1 ≤ m := by omega) (h1 : m ≤ 4611686018427387904 := by omega) : Con0 Tryz.prog 130 [I x, I m] (I (x % m)) [] := by
  refine con_i Tryz.func130 Tryz.ntmps130 (t := [(0, I x), (1, I m)]) rfl ?_
  refine vc_sr ?_
  refine vo ?_
  refine vnt ?_
  refine vc_sr ?_
  iterate 4 refine vo ?_
  refine vnt ?_
  refine vc_seq' ?_
  refine vc_sr ?_
  iterate 2 refine vo ?_
  refine vnt ?_
  refine vc_if (fun g1 => ?_) (fun g1 => ?_)
  · refine vc_region ?_
    iterate 3 refine vo ?_
    try refine vwr ?_
    refine vo ?_
    refine vnt ?_
    refine vc_sr ?_
    iterate 2 refine vo ?_
    refine vnt ?_
    refine vc_ret ?_
    refine fin_i [] rfl (fz ?_) trivial
    exact (tmod_add h0 h1 g1).symm
  · refine vc_skip ?_
    refine thn ?_
    refine vc_sr ?_
    iterate 2 refine vo ?_
    refine vnt ?_
    refine vc_ret ?_
    refine fin_i [] rfl (fz ?_) trivial
    exact (tmod_pos h0 g1).symm
set_option maxHeartbeats 4000000 in
theorem c_impl_ringSize {x : Int} : Con0 Tryz.prog 123 [I x] (B (sizeB x)) [] := by
  refine con_i Tryz.func123 Tryz.ntmps123 (t := [(0, I x)]) rfl ?_
  refine vc_sr ?_
  refine vo ?_
  refine vnt ?_
  refine vc_sr ?_
  iterate 3 refine vo ?_
  refine vsp (fun g1 => ?_) (fun g1 => ?_)
  · iterate 2 refine vof ?_
    iterate 2 refine vo ?_
    iterate 2 refine vof ?_
    iterate 2 refine vo ?_
    iterate 2 refine vof ?_
    iterate 2 refine vo ?_
    refine vnt ?_
    refine vc_ret ?_
    refine fin_i [] rfl (fz ?_) trivial
    rw [Bool.eq_iff_iff]
    simp [sizeB, *]
  · iterate 2 refine von ?_
    iterate 2 refine vo ?_
    refine vsp (fun g2 => ?_) (fun g2 => ?_)
    · iterate 2 refine vof ?_
      iterate 2 refine vo ?_
      iterate 2 refine vof ?_
      iterate 2 refine vo ?_
      refine vnt ?_
      refine vc_ret ?_
      refine fin_i [] rfl (fz ?_) trivial
      rw [Bool.eq_iff_iff]
      simp [sizeB, *]
    · iterate 2 refine von ?_
      iterate 2 refine vo ?_
      refine vsp (fun g3 => ?_) (fun g3 => ?_)
      · iterate 2 refine vof ?_
        iterate 2 refine vo ?_
        refine vnt ?_
        refine vc_ret ?_
        refine fin_i [] rfl (fz ?_) trivial
        rw [Bool.eq_iff_iff]
        simp [sizeB, *]
      · iterate 2 refine von ?_
        iterate 2 refine vo ?_
        refine vnt ?_
        refine vc_ret ?_
        refine fin_i [] rfl (fz ?_) trivial
        rw [Bool.eq_iff_iff]
        simp [sizeB, *]
set_option maxHeartbeats 4000000 in
theorem c_impl_RingUsed {b s h t : Int} (h0 : sizeB s = true := by assumption) : Con0 Tryz.prog 99 [.agg [V b, V s, V h, V t]] (I (usedF s h t)) [] := by
  have hs := sizeB_cases h0
  have e1 : (t % (2 * s) - h % (2 * s)) % (2 * s) = (t - h) % (2 * s) := by rw [← Int.sub_emod]
  have q1 := Int.emod_nonneg t (show 2 * s ≠ 0 by omega)
  have q2 := Int.emod_lt_of_pos t (show 0 < 2 * s by omega)
  have q3 := Int.emod_nonneg h (show 2 * s ≠ 0 by omega)
  have q4 := Int.emod_lt_of_pos h (show 0 < 2 * s by omega)
  refine con_i Tryz.func99 Tryz.ntmps99 (t := [(0, .agg [V b, V s, V h, V t])]) rfl ?_
  refine vc_sr ?_
  iterate 2 refine vo ?_
  refine vnt ?_
  refine vc_seq' ?_
  refine vc_sr ?_
  iterate 2 refine vo ?_
  refine voc c_impl_ringSize rfl rfl ?_
  refine vo ?_
  refine vnt ?_
  refine vc_if (fun g1 => ?_) (fun g1 => ?_)
  · refine vc_sr ?_
    refine vo ?_
    refine vnt ?_
    refine vc_ret ?_
    refine thn_r ?_
    refine fin_i [] rfl (fz ?_) trivial
    simp_all [usedF]
  · refine vc_skip ?_
    refine thn ?_
    refine vc_sr ?_
    iterate 5 refine vo ?_
    try refine vwr ?_
    refine voc c_impl_modulo rfl rfl ?_
    iterate 5 refine vo ?_
    try refine vwr ?_
    refine voc c_impl_modulo rfl rfl ?_
    refine vo ?_
    try refine vwr ?_
    iterate 3 refine vo ?_
    try refine vwr ?_
    refine voc c_impl_modulo rfl rfl ?_
    refine vo ?_
    refine vnt ?_
    refine vc_ret ?_
    refine fin_i [] rfl (fz ?_) trivial
    simp_all [usedF]
set_option maxHeartbeats 4000000 in
theorem c_impl_RingOk {b s h t : Int} : Con0 Tryz.prog 90 [.agg [V b, V s, V h, V t]] (B (ringOkB b s h t)) [] := by
  refine con_i Tryz.func90 Tryz.ntmps90 (t := [(0, .agg [V b, V s, V h, V t])]) rfl ?_
  refine vc_sr ?_
  iterate 2 refine vo ?_
  refine vnt ?_
  refine vc_sr ?_
  iterate 2 refine vo ?_
  refine voc c_impl_between rfl rfl ?_
  refine vo ?_
  refine vsp (fun g1 => ?_) (fun g1 => ?_)
  · iterate 2 refine von ?_
    refine vocn c_impl_ringSize rfl rfl ?_
    iterate 2 refine vo ?_
    refine vsp (fun g2 => ?_) (fun g2 => ?_)
    · have hs := sizeB_cases g2
      iterate 5 refine von ?_
      try refine vwr ?_
      refine von ?_
      try refine vwr ?_
      refine vocn c_impl_between rfl rfl ?_
      iterate 2 refine vo ?_
      refine vsp (fun g3 => ?_) (fun g3 => ?_)
      · iterate 5 refine von ?_
        try refine vwr ?_
        refine von ?_
        try refine vwr ?_
        refine vocn c_impl_between rfl rfl ?_
        iterate 2 refine vo ?_
        refine vsp (fun g4 => ?_) (fun g4 => ?_)
        · refine von ?_
          refine vocn c_impl_RingUsed rfl rfl ?_
          iterate 3 refine von ?_
          iterate 2 refine vo ?_
          refine vnt ?_
          refine vc_ret ?_
          refine fin_i [] rfl (fz ?_) trivial
          simp_all [ringOkB, usedF]
          try rfl
        · iterate 5 refine vof ?_
          iterate 2 refine vo ?_
          refine vnt ?_
          refine vc_ret ?_
          refine fin_i [] rfl (fz ?_) trivial
          simp_all [ringOkB, usedF]
          try rfl
      · iterate 7 refine vof ?_
        iterate 2 refine vo ?_
        iterate 5 refine vof ?_
        iterate 2 refine vo ?_
        refine vnt ?_
        refine vc_ret ?_
        refine fin_i [] rfl (fz ?_) trivial
        simp_all [ringOkB, usedF]
        try rfl
    · iterate 7 refine vof ?_
      iterate 2 refine vo ?_
      iterate 7 refine vof ?_
      iterate 2 refine vo ?_
      iterate 5 refine vof ?_
      iterate 2 refine vo ?_
      refine vnt ?_
      refine vc_ret ?_
      refine fin_i [] rfl (fz ?_) trivial
      simp_all [ringOkB, usedF]
      try rfl
  · iterate 3 refine vof ?_
    iterate 2 refine vo ?_
    iterate 7 refine vof ?_
    iterate 2 refine vo ?_
    iterate 7 refine vof ?_
    iterate 2 refine vo ?_
    iterate 5 refine vof ?_
    iterate 2 refine vo ?_
    refine vnt ?_
    refine vc_ret ?_
    refine fin_i [] rfl (fz ?_) trivial
    simp_all [ringOkB, usedF]
    try rfl
set_option maxHeartbeats 4000000 in
theorem c_spec_l01In {x lo hi : Int} : Con0 Tryz.prog 28 [I x, I lo, I hi] (B (inB x lo hi)) [] := by
  refine con_i Tryz.func28 Tryz.ntmps28 (t := [(0, I x), (1, I lo), (2, I hi)]) rfl ?_
  refine vc_sr ?_
  refine vo ?_
  refine vnt ?_
  refine vc_sr ?_
  iterate 4 refine vo ?_
  refine vsp (fun g1 => ?_) (fun g1 => ?_)
  · iterate 3 refine von ?_
    iterate 2 refine vo ?_
    refine vnt ?_
    refine vc_ret ?_
    refine fin_i [] rfl (fz ?_) trivial
    simp [inB, g1]
    try omega
  · iterate 3 refine vof ?_
    iterate 2 refine vo ?_
    refine vnt ?_
    refine vc_ret ?_
    refine fin_i [] rfl (fz ?_) trivial
    simp [inB, g1]
    try omega
set_option maxHeartbeats 4000000 in
theorem c_spec_l20Size {x : Int} : Con0 Tryz.prog 119 [I x] (B (sizeB x)) [] := by
  refine con_i Tryz.func119 Tryz.ntmps119 (t := [(0, I x)]) rfl ?_
  refine vc_sr ?_
  refine vo ?_
  refine vnt ?_
  refine vc_sr ?_
  iterate 3 refine vo ?_
  refine vsp (fun g1 => ?_) (fun g1 => ?_)
  · iterate 2 refine vof ?_
    iterate 2 refine vo ?_
    iterate 2 refine vof ?_
    iterate 2 refine vo ?_
    iterate 2 refine vof ?_
    iterate 2 refine vo ?_
    refine vnt ?_
    refine vc_ret ?_
    refine fin_i [] rfl (fz ?_) trivial
    rw [Bool.eq_iff_iff]
    simp [sizeB, *]
  · iterate 2 refine von ?_
    iterate 2 refine vo ?_
    refine vsp (fun g2 => ?_) (fun g2 => ?_)
    · iterate 2 refine vof ?_
      iterate 2 refine vo ?_
      iterate 2 refine vof ?_
      iterate 2 refine vo ?_
      refine vnt ?_
      refine vc_ret ?_
      refine fin_i [] rfl (fz ?_) trivial
      rw [Bool.eq_iff_iff]
      simp [sizeB, *]
    · iterate 2 refine von ?_
      iterate 2 refine vo ?_
      refine vsp (fun g3 => ?_) (fun g3 => ?_)
      · iterate 2 refine vof ?_
        iterate 2 refine vo ?_
        refine vnt ?_
        refine vc_ret ?_
        refine fin_i [] rfl (fz ?_) trivial
        rw [Bool.eq_iff_iff]
        simp [sizeB, *]
      · iterate 2 refine von ?_
        iterate 2 refine vo ?_
        refine vnt ?_
        refine vc_ret ?_
        refine fin_i [] rfl (fz ?_) trivial
        rw [Bool.eq_iff_iff]
        simp [sizeB, *]
set_option maxHeartbeats 4000000 in
theorem c_spec_l02Within {s : ByteArray} {i n : Int} (hs : s.size ≤ 1099511627776 := by first | assumption | omega) : Con0 Tryz.prog 118 [Z s, I i, I n] (B (withinB s i n)) [] := by
  refine con_i Tryz.func118 Tryz.ntmps118 (t := [(0, Z s), (1, I i), (2, I n)]) rfl ?_
  refine vc_sr ?_
  refine vo ?_
  refine vnt ?_
  refine vc_sr ?_
  iterate 3 refine vo ?_
  refine vsp (fun g1 => ?_) (fun g1 => ?_)
  · iterate 4 refine von ?_
    iterate 2 refine vo ?_
    refine vsp (fun g2 => ?_) (fun g2 => ?_)
    · iterate 5 refine von ?_
      try refine vwr ?_
      refine von ?_
      iterate 2 refine vo ?_
      refine vnt ?_
      refine vc_ret ?_
      refine fin_i [] rfl (fz ?_) trivial
      rw [Bool.eq_iff_iff, wthB_iff]
      simp
      try omega
    · iterate 6 refine vof ?_
      iterate 2 refine vo ?_
      refine vnt ?_
      refine vc_ret ?_
      refine fin_i [] rfl (fz ?_) trivial
      rw [Bool.eq_iff_iff, wthB_iff]
      simp
      try omega
  · iterate 4 refine vof ?_
    iterate 2 refine vo ?_
    iterate 6 refine vof ?_
    iterate 2 refine vo ?_
    refine vnt ?_
    refine vc_ret ?_
    refine fin_i [] rfl (fz ?_) trivial
    rw [Bool.eq_iff_iff, wthB_iff]
    simp
    try omega
set_option maxHeartbeats 4000000 in
theorem c_impl_Word16 {v : Int} : Con0 Tryz.prog 98 [I v] (Z (word16 v)) [] := by
  refine con_i Tryz.func98 Tryz.ntmps98 (t := [(0, I v)]) rfl ?_
  refine vc_sr ?_
  refine vo ?_
  refine vnt ?_
  refine vc_seq' ?_
  refine vc_sr ?_
  refine vo ?_
  refine voc c_impl_between rfl rfl ?_
  refine vo ?_
  refine vnt ?_
  refine vc_if (fun g1 => ?_) (fun g1 => ?_)
  · refine vc_sr ?_
    refine vo ?_
    refine vnt ?_
    refine vc_ret ?_
    refine thn_r ?_
    refine fin_i [] rfl (fz ?_) trivial
    simp [word16, g1]
  · refine vc_skip ?_
    refine thn ?_
    refine vc_sr ?_
    iterate 7 refine vo ?_
    refine vs2 ?_
    refine vo ?_
    refine vnt ?_
    refine vc_ret ?_
    refine fin_i [] rfl (fz ?_) trivial
    exact (w16 g1).symm
set_option maxHeartbeats 4000000 in
theorem c_impl_Word32 {v : Int} : Con0 Tryz.prog 105 [I v] (Z (word32 v)) [] := by
  refine con_i Tryz.func105 Tryz.ntmps105 (t := [(0, I v)]) rfl ?_
  refine vc_sr ?_
  refine vo ?_
  refine vnt ?_
  refine vc_seq' ?_
  refine vc_sr ?_
  refine vo ?_
  refine voc c_impl_between rfl rfl ?_
  refine vo ?_
  refine vnt ?_
  refine vc_if (fun g1 => ?_) (fun g1 => ?_)
  · refine vc_sr ?_
    refine vo ?_
    refine vnt ?_
    refine vc_ret ?_
    refine thn_r ?_
    refine fin_i [] rfl (fz ?_) trivial
    simp [word32, g1]
  · refine vc_skip ?_
    refine thn ?_
    refine vc_sr ?_
    iterate 13 refine vo ?_
    refine vs4 ?_
    refine vo ?_
    refine vnt ?_
    refine vc_ret ?_
    refine fin_i [] rfl (fz ?_) trivial
    exact (w32 g1).symm
set_option maxHeartbeats 4000000 in
theorem c_spec_Word16 {v : Int} : Con0 Tryz.prog 74 [I v] (Z (word16 v)) [] := by
  refine con_i Tryz.func74 Tryz.ntmps74 (t := [(0, I v)]) rfl ?_
  refine vc_sr ?_
  refine vo ?_
  refine vnt ?_
  refine vc_seq' ?_
  refine vc_sr ?_
  refine vo ?_
  refine voc c_spec_l01In rfl rfl ?_
  refine vo ?_
  refine vnt ?_
  refine vc_if (fun g1 => ?_) (fun g1 => ?_)
  · refine vc_sr ?_
    refine vo ?_
    refine vnt ?_
    refine vc_ret ?_
    refine thn_r ?_
    refine fin_i [] rfl (fz ?_) trivial
    simp [word16, g1]
  · refine vc_skip ?_
    refine thn ?_
    refine vc_sr ?_
    iterate 7 refine vo ?_
    refine vs2 ?_
    refine vo ?_
    refine vnt ?_
    refine vc_ret ?_
    refine fin_i [] rfl (fz ?_) trivial
    exact (w16 g1).symm
set_option maxHeartbeats 4000000 in
theorem c_spec_Word32 {v : Int} : Con0 Tryz.prog 83 [I v] (Z (word32 v)) [] := by
  refine con_i Tryz.func83 Tryz.ntmps83 (t := [(0, I v)]) rfl ?_
  refine vc_sr ?_
  refine vo ?_
  refine vnt ?_
  refine vc_seq' ?_
  refine vc_sr ?_
  refine vo ?_
  refine voc c_spec_l01In rfl rfl ?_
  refine vo ?_
  refine vnt ?_
  refine vc_if (fun g1 => ?_) (fun g1 => ?_)
  · refine vc_sr ?_
    refine vo ?_
    refine vnt ?_
    refine vc_ret ?_
    refine thn_r ?_
    refine fin_i [] rfl (fz ?_) trivial
    simp [word32, g1]
  · refine vc_skip ?_
    refine thn ?_
    refine vc_sr ?_
    iterate 13 refine vo ?_
    refine vs4 ?_
    refine vo ?_
    refine vnt ?_
    refine vc_ret ?_
    refine fin_i [] rfl (fz ?_) trivial
    exact (w32 g1).symm
set_option maxHeartbeats 4000000 in
theorem c_impl_Get16 {s : ByteArray} {i : Int} (hs : s.size ≤ 1099511627776 := by first | assumption | omega) : Con0 Tryz.prog 128 [Z s, I i] (I (get16 s i)) [] := by
  refine con_i Tryz.func128 Tryz.ntmps128 (t := [(0, Z s), (1, I i)]) rfl ?_
  refine vc_sr ?_
  refine vo ?_
  refine vnt ?_
  refine vc_seq' ?_
  refine vc_sr ?_
  iterate 3 refine vo ?_
  refine vsp (fun g1 => ?_) (fun g1 => ?_)
  · iterate 5 refine vof ?_
    refine vo ?_
    refine vnt ?_
    refine vc_then ?_
    refine vc_sr ?_
    refine vo ?_
    refine vnt ?_
    refine vc_ret ?_
    refine thn_r ?_
    refine fin_i [] rfl (fz ?_) trivial
    rw [get16, if_neg (by omega)]
  · iterate 4 refine von ?_
    try refine vwr ?_
    refine von ?_
    refine vo ?_
    refine vnt ?_
    refine vc_if (fun g2 => ?_) (fun g2 => ?_)
    · refine vc_sr ?_
      refine vo ?_
      refine vnt ?_
      refine vc_ret ?_
      refine thn_r ?_
      refine fin_i [] rfl (fz ?_) trivial
      rw [get16, if_neg (by omega)]
    · refine vc_skip ?_
      refine thn ?_
      refine vc_sr ?_
      iterate 8 refine vo ?_
      try refine vwr ?_
      iterate 4 refine vo ?_
      refine vnt ?_
      refine vc_ret ?_
      refine fin_i [] rfl (fz ?_) trivial
      exact (g16 (by omega) (by omega)).symm
set_option maxHeartbeats 4000000 in
theorem c_spec_Get16 {s : ByteArray} {i : Int} (hs : s.size ≤ 1099511627776 := by first | assumption | omega) : Con0 Tryz.prog 117 [Z s, I i] (I (get16 s i)) [] := by
  refine con_i Tryz.func117 Tryz.ntmps117 (t := [(0, Z s), (1, I i)]) rfl ?_
  refine vc_sr ?_
  refine vo ?_
  refine vnt ?_
  refine vc_seq' ?_
  refine vc_sr ?_
  iterate 2 refine vo ?_
  refine voc c_spec_l02Within rfl rfl ?_
  refine vo ?_
  refine vnt ?_
  refine vc_if (fun g1 => ?_) (fun g1 => ?_)
  · have hw : ¬ _ := fun h => Bool.false_ne_true (g1.symm.trans (wthB_iff.2 h))
    refine vc_sr ?_
    refine vo ?_
    refine vnt ?_
    refine vc_ret ?_
    refine thn_r ?_
    refine fin_i [] rfl (fz ?_) trivial
    rw [get16, if_neg (by omega)]
  · have hw := wthB_iff.1 g1
    refine vc_skip ?_
    refine thn ?_
    refine vc_sr ?_
    iterate 8 refine vo ?_
    try refine vwr ?_
    iterate 3 refine vo ?_
    try refine vwr ?_
    refine vo ?_
    refine vnt ?_
    refine vc_ret ?_
    refine fin_i [] rfl (fz ?_) trivial
    exact (g16s (by omega) (by omega)).symm
end Go.Proofs.YtnikopahkjmneaaGreat
end
section
namespace Go.Proofs.YtnikopahkjmneaaGreat
open Go Go.RowKit Go.Vc
set_option linter.unusedVariables false
set_option linter.unusedSimpArgs false
set_option linter.unnecessarySimpa false
theorem strm_a {fl : Int} (h : 0 ≤ fl ∧ fl ≤ 31) (h1 : ¬ andI fl 16 = 0) : streamB fl = decide (andNotI fl 25 = 0) := by
  obtain ⟨k, rfl⟩ := Int.eq_ofNat_of_zero_le h.1
  have hk : k < 32 := by omega
  obtain ⟨e1, e2, e3⟩ := flag_facts ⟨k, hk⟩
  simp only at e1 e2
  rw [andI_eq, e1] at h1
  have : (Go.bits .andNot .i64 (k : Int) 25 == 0) = decide (andNotI (k : Int) 25 = 0) := by rw [andNotI_eq]; rfl
  rw [← this, e2]
  unfold streamB
  rw [Bool.eq_iff_iff]
  simp
  split at h1
  · omega
  · exact (h1 rfl).elim
theorem strm_b {fl : Int} (h : 0 ≤ fl ∧ fl ≤ 31) (h1 : andI fl 16 = 0) : streamB fl = false := by
  obtain ⟨k, rfl⟩ := Int.eq_ofNat_of_zero_le h.1
  have hk : k < 32 := by omega
  obtain ⟨e1, e2, e3⟩ := flag_facts ⟨k, hk⟩
  simp only at e1
  rw [andI_eq, e1] at h1
  unfold streamB
  split at h1
  · cases h1
  · rw [Bool.eq_false_iff]
    simp
    omega
theorem strm_c {fl : Int} (h : 0 ≤ fl ∧ fl ≤ 31) : decide (andNotI fl 9 = 16) = streamB fl := by
  obtain ⟨k, rfl⟩ := Int.eq_ofNat_of_zero_le h.1
  have hk : k < 32 := by omega
  obtain ⟨e1, e2, e3⟩ := flag_facts ⟨k, hk⟩
  have : (Go.bits .andNot .i64 (k : Int) 9 == 16) = decide (andNotI (k : Int) 9 = 16) := by rw [andNotI_eq]; rfl
  rw [← this, e3]
  unfold streamB
  rw [Bool.eq_iff_iff]
  simp
  omega
set_option maxHeartbeats 4000000 in
theorem c_impl_SegmentOk {kind sp dp seq ack fl win : Int} {body : ByteArray} : Con0 Tryz.prog 93 [.agg [V kind, V sp, V dp, V seq, V ack, V fl, V win, VS body]] (B (segOkB kind sp dp seq ack fl win body.size)) [] := by
  refine con_i Tryz.func93 Tryz.ntmps93 (t := [(0, .agg [V kind, V sp, V dp, V seq, V ack, V fl, V win, VS body])]) rfl ?_
  refine vc_sr ?_
  iterate 2 refine vo ?_
  refine vnt ?_
  refine vc_seq' ?_
  refine vc_sr ?_
  iterate 2 refine vo ?_
  refine voc c_impl_between rfl rfl ?_
  iterate 2 refine vo ?_
  refine vsp (fun g1 => ?_) (fun g1 => ?_)
  · iterate 4 refine vof ?_
    iterate 2 refine vo ?_
    iterate 4 refine vof ?_
    refine vo ?_
    refine vnt ?_
    refine vc_then ?_
    refine vc_sr ?_
    refine vo ?_
    refine vnt ?_
    refine vc_ret ?_
    refine thn_r ?_
    refine fin_i [] rfl (fz ?_) trivial
    simp_all [segOkB]
    try first | omega | (rw [Bool.eq_iff_iff]; simp; omega)
  · iterate 2 refine von ?_
    refine vocn c_impl_between rfl rfl ?_
    refine von ?_
    iterate 2 refine vo ?_
    refine vsp (fun g2 => ?_) (fun g2 => ?_)
    · iterate 4 refine vof ?_
      refine vo ?_
      refine vnt ?_
      refine vc_then ?_
      refine vc_sr ?_
      refine vo ?_
      refine vnt ?_
      refine vc_ret ?_
      refine thn_r ?_
      refine fin_i [] rfl (fz ?_) trivial
      simp_all [segOkB]
      try first | omega | (rw [Bool.eq_iff_iff]; simp; omega)
    · iterate 4 refine von ?_
      refine vo ?_
      refine vnt ?_
      refine vc_if (fun g3 => ?_) (fun g3 => ?_)
      · refine vc_sr ?_
        refine vo ?_
        refine vnt ?_
        refine vc_ret ?_
        refine thn_r ?_
        refine fin_i [] rfl (fz ?_) trivial
        simp_all [segOkB]
        try first | omega | (rw [Bool.eq_iff_iff]; simp; omega)
      · refine vc_skip ?_
        refine thn ?_
        refine vc_seq' ?_
        refine vc_sr ?_
        iterate 2 refine vo ?_
        refine vnt ?_
        refine vc_block ?_
        refine vc_sr ?_
        iterate 2 refine vo ?_
        refine vnt ?_
        refine vc_if (fun g4 => ?_) (fun g4 => ?_)
        · refine vc_sr ?_
          iterate 2 refine vo ?_
          refine voc c_impl_between rfl rfl ?_
          refine vo ?_
          refine vsp (fun g5 => ?_) (fun g5 => ?_)
          · iterate 2 refine von ?_
            refine vocn c_impl_between rfl rfl ?_
            iterate 2 refine vo ?_
            refine vsp (fun g6 => ?_) (fun g6 => ?_)
            · iterate 2 refine von ?_
              refine vocn c_impl_between rfl rfl ?_
              iterate 2 refine vo ?_
              refine vsp (fun g7 => ?_) (fun g7 => ?_)
              · iterate 2 refine von ?_
                refine vocn c_impl_between rfl rfl ?_
                iterate 2 refine vo ?_
                refine vnt ?_
                refine vc_ret ?_
                refine inB_r ?_
                refine thn_r ?_
                refine fin_i [] rfl (fz ?_) trivial
                simp_all [segOkB]
                try first | omega | (rw [Bool.eq_iff_iff]; simp; omega)
              · iterate 3 refine vof ?_
                iterate 2 refine vo ?_
                refine vnt ?_
                refine vc_ret ?_
                refine inB_r ?_
                refine thn_r ?_
                refine fin_i [] rfl (fz ?_) trivial
                simp_all [segOkB]
                try first | omega | (rw [Bool.eq_iff_iff]; simp; omega)
            · iterate 3 refine vof ?_
              iterate 2 refine vo ?_
              iterate 3 refine vof ?_
              iterate 2 refine vo ?_
              refine vnt ?_
              refine vc_ret ?_
              refine inB_r ?_
              refine thn_r ?_
              refine fin_i [] rfl (fz ?_) trivial
              simp_all [segOkB]
              try first | omega | (rw [Bool.eq_iff_iff]; simp; omega)
          · iterate 3 refine vof ?_
            iterate 2 refine vo ?_
            iterate 3 refine vof ?_
            iterate 2 refine vo ?_
            iterate 3 refine vof ?_
            iterate 2 refine vo ?_
            refine vnt ?_
            refine vc_ret ?_
            refine inB_r ?_
            refine thn_r ?_
            refine fin_i [] rfl (fz ?_) trivial
            simp_all [segOkB]
            try first | omega | (rw [Bool.eq_iff_iff]; simp; omega)
        · refine vc_sr ?_
          iterate 2 refine vo ?_
          refine vnt ?_
          refine vc_if (fun g8 => ?_) (fun g8 => ?_)
          · refine vc_sr ?_
            iterate 4 refine vo ?_
            refine vsp (fun g9 => ?_) (fun g9 => ?_)
            · iterate 3 refine von ?_
              iterate 2 refine vo ?_
              refine vsp (fun g10 => ?_) (fun g10 => ?_)
              · iterate 3 refine von ?_
                iterate 2 refine vo ?_
                refine vsp (fun g11 => ?_) (fun g11 => ?_)
                · iterate 3 refine von ?_
                  iterate 2 refine vo ?_
                  refine vnt ?_
                  refine vc_ret ?_
                  refine inB_r ?_
                  refine thn_r ?_
                  refine fin_i [] rfl (fz ?_) trivial
                  simp_all [segOkB]
                  try first | omega | (rw [Bool.eq_iff_iff]; simp; omega)
                · iterate 3 refine vof ?_
                  iterate 2 refine vo ?_
                  refine vnt ?_
                  refine vc_ret ?_
                  refine inB_r ?_
                  refine thn_r ?_
                  refine fin_i [] rfl (fz ?_) trivial
                  simp_all [segOkB]
                  try first | omega | (rw [Bool.eq_iff_iff]; simp; omega)
              · iterate 3 refine vof ?_
                iterate 2 refine vo ?_
                iterate 3 refine vof ?_
                iterate 2 refine vo ?_
                refine vnt ?_
                refine vc_ret ?_
                refine inB_r ?_
                refine thn_r ?_
                refine fin_i [] rfl (fz ?_) trivial
                simp_all [segOkB]
                try first | omega | (rw [Bool.eq_iff_iff]; simp; omega)
            · iterate 3 refine vof ?_
              iterate 2 refine vo ?_
              iterate 3 refine vof ?_
              iterate 2 refine vo ?_
              iterate 3 refine vof ?_
              iterate 2 refine vo ?_
              refine vnt ?_
              refine vc_ret ?_
              refine inB_r ?_
              refine thn_r ?_
              refine fin_i [] rfl (fz ?_) trivial
              simp_all [segOkB]
              try first | omega | (rw [Bool.eq_iff_iff]; simp; omega)
          · refine vc_skip ?_
            refine inB_n ?_
            refine thn ?_
            refine vc_sr ?_
            refine vo ?_
            refine vnt ?_
            refine vc_ret ?_
            refine fin_i [] rfl (fz ?_) trivial
            simp_all [segOkB]
            try first | omega | (rw [Bool.eq_iff_iff]; simp; omega)
set_option maxHeartbeats 4000000 in
theorem c_spec_SegmentOk {kind sp dp seq ack fl win : Int} {body : ByteArray} : Con0 Tryz.prog 134 [.agg [V kind, V sp, V dp, V seq, V ack, V fl, V win, VS body]] (B (segOkB kind sp dp seq ack fl win body.size)) [] := by
  refine con_i Tryz.func134 Tryz.ntmps134 (t := [(0, .agg [V kind, V sp, V dp, V seq, V ack, V fl, V win, VS body])]) rfl ?_
  refine vc_sr ?_
  iterate 2 refine vo ?_
  refine vnt ?_
  refine vc_seq' ?_
  refine vc_sr ?_
  iterate 2 refine vo ?_
  refine voc c_spec_l01In rfl rfl ?_
  iterate 2 refine vo ?_
  refine vsp (fun g1 => ?_) (fun g1 => ?_)
  · iterate 4 refine vof ?_
    iterate 2 refine vo ?_
    iterate 4 refine vof ?_
    refine vo ?_
    refine vnt ?_
    refine vc_then ?_
    refine vc_sr ?_
    refine vo ?_
    refine vnt ?_
    refine vc_ret ?_
    refine thn_r ?_
    refine fin_i [] rfl (fz ?_) trivial
    simp_all [segOkB]
    try first | omega | (rw [Bool.eq_iff_iff]; simp; omega)
  · iterate 2 refine von ?_
    refine vocn c_spec_l01In rfl rfl ?_
    refine von ?_
    iterate 2 refine vo ?_
    refine vsp (fun g2 => ?_) (fun g2 => ?_)
    · iterate 4 refine vof ?_
      refine vo ?_
      refine vnt ?_
      refine vc_then ?_
      refine vc_sr ?_
      refine vo ?_
      refine vnt ?_
      refine vc_ret ?_
      refine thn_r ?_
      refine fin_i [] rfl (fz ?_) trivial
      simp_all [segOkB]
      try first | omega | (rw [Bool.eq_iff_iff]; simp; omega)
    · iterate 4 refine von ?_
      refine vo ?_
      refine vnt ?_
      refine vc_if (fun g3 => ?_) (fun g3 => ?_)
      · refine vc_sr ?_
        refine vo ?_
        refine vnt ?_
        refine vc_ret ?_
        refine thn_r ?_
        refine fin_i [] rfl (fz ?_) trivial
        simp_all [segOkB]
        try first | omega | (rw [Bool.eq_iff_iff]; simp; omega)
      · refine vc_skip ?_
        refine thn ?_
        refine vc_seq' ?_
        refine vc_sr ?_
        iterate 3 refine vo ?_
        refine vnt ?_
        refine vc_if (fun g4 => ?_) (fun g4 => ?_)
        · refine vc_sr ?_
          iterate 4 refine vo ?_
          refine vsp (fun g5 => ?_) (fun g5 => ?_)
          · iterate 3 refine von ?_
            iterate 2 refine vo ?_
            refine vsp (fun g6 => ?_) (fun g6 => ?_)
            · iterate 3 refine von ?_
              iterate 2 refine vo ?_
              refine vsp (fun g7 => ?_) (fun g7 => ?_)
              · iterate 3 refine von ?_
                iterate 2 refine vo ?_
                refine vnt ?_
                refine vc_ret ?_
                refine thn_r ?_
                refine fin_i [] rfl (fz ?_) trivial
                simp_all [segOkB]
                try first | omega | (rw [Bool.eq_iff_iff]; simp; omega)
              · iterate 3 refine vof ?_
                iterate 2 refine vo ?_
                refine vnt ?_
                refine vc_ret ?_
                refine thn_r ?_
                refine fin_i [] rfl (fz ?_) trivial
                simp_all [segOkB]
                try first | omega | (rw [Bool.eq_iff_iff]; simp; omega)
            · iterate 3 refine vof ?_
              iterate 2 refine vo ?_
              iterate 3 refine vof ?_
              iterate 2 refine vo ?_
              refine vnt ?_
              refine vc_ret ?_
              refine thn_r ?_
              refine fin_i [] rfl (fz ?_) trivial
              simp_all [segOkB]
              try first | omega | (rw [Bool.eq_iff_iff]; simp; omega)
          · iterate 3 refine vof ?_
            iterate 2 refine vo ?_
            iterate 3 refine vof ?_
            iterate 2 refine vo ?_
            iterate 3 refine vof ?_
            iterate 2 refine vo ?_
            refine vnt ?_
            refine vc_ret ?_
            refine thn_r ?_
            refine fin_i [] rfl (fz ?_) trivial
            simp_all [segOkB]
            try first | omega | (rw [Bool.eq_iff_iff]; simp; omega)
        · refine vc_skip ?_
          refine thn ?_
          refine vc_sr ?_
          iterate 4 refine vo ?_
          refine vsp (fun g8 => ?_) (fun g8 => ?_)
          · iterate 2 refine von ?_
            refine vocn c_spec_l01In rfl rfl ?_
            iterate 2 refine vo ?_
            refine vsp (fun g9 => ?_) (fun g9 => ?_)
            · iterate 2 refine von ?_
              refine vocn c_spec_l01In rfl rfl ?_
              iterate 2 refine vo ?_
              refine vsp (fun g10 => ?_) (fun g10 => ?_)
              · iterate 2 refine von ?_
                refine vocn c_spec_l01In rfl rfl ?_
                iterate 2 refine vo ?_
                refine vsp (fun g11 => ?_) (fun g11 => ?_)
                · iterate 2 refine von ?_
                  refine vocn c_spec_l01In rfl rfl ?_
                  iterate 2 refine vo ?_
                  refine vnt ?_
                  refine vc_ret ?_
                  refine fin_i [] rfl (fz ?_) trivial
                  simp_all [segOkB]
                  try first | omega | (rw [Bool.eq_iff_iff]; simp; omega)
                · iterate 3 refine vof ?_
                  iterate 2 refine vo ?_
                  refine vnt ?_
                  refine vc_ret ?_
                  refine fin_i [] rfl (fz ?_) trivial
                  simp_all [segOkB]
                  try first | omega | (rw [Bool.eq_iff_iff]; simp; omega)
              · iterate 3 refine vof ?_
                iterate 2 refine vo ?_
                iterate 3 refine vof ?_
                iterate 2 refine vo ?_
                refine vnt ?_
                refine vc_ret ?_
                refine fin_i [] rfl (fz ?_) trivial
                simp_all [segOkB]
                try first | omega | (rw [Bool.eq_iff_iff]; simp; omega)
            · iterate 3 refine vof ?_
              iterate 2 refine vo ?_
              iterate 3 refine vof ?_
              iterate 2 refine vo ?_
              iterate 3 refine vof ?_
              iterate 2 refine vo ?_
              refine vnt ?_
              refine vc_ret ?_
              refine fin_i [] rfl (fz ?_) trivial
              simp_all [segOkB]
              try first | omega | (rw [Bool.eq_iff_iff]; simp; omega)
          · iterate 3 refine vof ?_
            iterate 2 refine vo ?_
            iterate 3 refine vof ?_
            iterate 2 refine vo ?_
            iterate 3 refine vof ?_
            iterate 2 refine vo ?_
            iterate 3 refine vof ?_
            iterate 2 refine vo ?_
            refine vnt ?_
            refine vc_ret ?_
            refine fin_i [] rfl (fz ?_) trivial
            simp_all [segOkB]
            try first | omega | (rw [Bool.eq_iff_iff]; simp; omega)
set_option maxHeartbeats 4000000 in
theorem c_impl_streaming {fl : Int} (hf : 0 ≤ fl ∧ fl ≤ 31 := by assumption) : Con0 Tryz.prog 94 [I fl] (B (streamB fl)) [] := by
  refine con_i Tryz.func94 Tryz.ntmps94 (t := [(0, I fl)]) rfl ?_
  refine vc_sr ?_
  refine vo ?_
  refine vnt ?_
  refine vc_sr ?_
  iterate 4 refine vo ?_
  refine vsp (fun g1 => ?_) (fun g1 => ?_)
  · iterate 3 refine von ?_
    iterate 2 refine vo ?_
    refine vnt ?_
    refine vc_ret ?_
    refine fin_i [] rfl (fz ?_) trivial
    exact strm_a hf g1
  · iterate 3 refine vof ?_
    iterate 2 refine vo ?_
    refine vnt ?_
    refine vc_ret ?_
    refine fin_i [] rfl (fz ?_) trivial
    exact strm_b hf g1
set_option maxHeartbeats 4000000 in
theorem c_impl_SuperOk {dm sm vl tos id ttl si di kind sp dp seq ack fl win : Int} {body : ByteArray} : Con0 Tryz.prog 48 [.agg [V dm, V sm, V vl, V tos, V id, V ttl, V si, V di, V kind, V sp, V dp, V seq, V ack, V fl, V win, VS body]] (B (superOkB dm sm vl tos id ttl si di kind sp dp seq ack fl win body.size)) [] := by
  refine con_i Tryz.func48 Tryz.ntmps48 (t := [(0, .agg [V dm, V sm, V vl, V tos, V id, V ttl, V si, V di, V kind, V sp, V dp, V seq, V ack, V fl, V win, VS body])]) rfl ?_
  refine vc_sr ?_
  iterate 2 refine vo ?_
  refine vnt ?_
  refine vc_sr ?_
  iterate 2 refine vo ?_
  refine voc c_impl_between rfl rfl ?_
  refine vo ?_
  refine vsp (fun g1 => ?_) (fun g1 => ?_)
  · iterate 2 refine von ?_
    refine vocn c_impl_between rfl rfl ?_
    iterate 2 refine vo ?_
    refine vsp (fun g2 => ?_) (fun g2 => ?_)
    · iterate 2 refine von ?_
      refine vocn c_impl_between rfl rfl ?_
      iterate 2 refine vo ?_
      refine vsp (fun g3 => ?_) (fun g3 => ?_)
      · iterate 2 refine von ?_
        refine vocn c_impl_between rfl rfl ?_
        iterate 2 refine vo ?_
        refine vsp (fun g4 => ?_) (fun g4 => ?_)
        · iterate 2 refine von ?_
          refine vocn c_impl_between rfl rfl ?_
          iterate 2 refine vo ?_
          refine vsp (fun g5 => ?_) (fun g5 => ?_)
          · iterate 2 refine von ?_
            refine vocn c_impl_between rfl rfl ?_
            iterate 2 refine vo ?_
            refine vsp (fun g6 => ?_) (fun g6 => ?_)
            · iterate 2 refine von ?_
              refine vocn c_impl_between rfl rfl ?_
              iterate 2 refine vo ?_
              refine vsp (fun g7 => ?_) (fun g7 => ?_)
              · iterate 2 refine von ?_
                refine vocn c_impl_between rfl rfl ?_
                iterate 2 refine vo ?_
                refine vsp (fun g8 => ?_) (fun g8 => ?_)
                · iterate 2 refine von ?_
                  refine vocn c_impl_SegmentOk rfl rfl ?_
                  iterate 2 refine vo ?_
                  refine vsp (fun g9 => ?_) (fun g9 => ?_)
                  · have hf := segOk_fl g9
                    have hc := strm_c hf
                    iterate 6 refine von ?_
                    refine vsp (fun g10 => ?_) (fun g10 => ?_)
                    · iterate 10 refine vof ?_
                      refine von ?_
                      iterate 2 refine vo ?_
                      refine vnt ?_
                      refine vc_ret ?_
                      refine fin_i [] rfl (fz ?_) trivial
                      simp_all [superOkB]
                      try first | omega | (rw [Bool.eq_iff_iff]; simp; omega)
                    · iterate 5 refine von ?_
                      refine vsp (fun g11 => ?_) (fun g11 => ?_)
                      · iterate 3 refine von ?_
                        refine vocn c_impl_streaming rfl rfl ?_
                        iterate 2 refine von ?_
                        iterate 2 refine vo ?_
                        refine vnt ?_
                        refine vc_ret ?_
                        refine fin_i [] rfl (fz ?_) trivial
                        simp_all [superOkB]
                        try first | omega | (rw [Bool.eq_iff_iff]; simp; omega)
                      · iterate 4 refine vof ?_
                        iterate 2 refine von ?_
                        iterate 2 refine vo ?_
                        refine vnt ?_
                        refine vc_ret ?_
                        refine fin_i [] rfl (fz ?_) trivial
                        simp_all [superOkB]
                        try first | omega | (rw [Bool.eq_iff_iff]; simp; omega)
                  · iterate 17 refine vof ?_
                    iterate 2 refine vo ?_
                    refine vnt ?_
                    refine vc_ret ?_
                    refine fin_i [] rfl (fz ?_) trivial
                    simp_all [superOkB]
                    try first | omega | (rw [Bool.eq_iff_iff]; simp; omega)
                · iterate 3 refine vof ?_
                  iterate 2 refine vo ?_
                  iterate 17 refine vof ?_
                  iterate 2 refine vo ?_
                  refine vnt ?_
                  refine vc_ret ?_
                  refine fin_i [] rfl (fz ?_) trivial
                  simp_all [superOkB]
                  try first | omega | (rw [Bool.eq_iff_iff]; simp; omega)
              · iterate 3 refine vof ?_
                iterate 2 refine vo ?_
                iterate 3 refine vof ?_
                iterate 2 refine vo ?_
                iterate 17 refine vof ?_
                iterate 2 refine vo ?_
                refine vnt ?_
                refine vc_ret ?_
                refine fin_i [] rfl (fz ?_) trivial
                simp_all [superOkB]
                try first | omega | (rw [Bool.eq_iff_iff]; simp; omega)
            · iterate 3 refine vof ?_
              iterate 2 refine vo ?_
              iterate 3 refine vof ?_
              iterate 2 refine vo ?_
              iterate 3 refine vof ?_
              iterate 2 refine vo ?_
              iterate 17 refine vof ?_
              iterate 2 refine vo ?_
              refine vnt ?_
              refine vc_ret ?_
              refine fin_i [] rfl (fz ?_) trivial
              simp_all [superOkB]
              try first | omega | (rw [Bool.eq_iff_iff]; simp; omega)
          · iterate 3 refine vof ?_
            iterate 2 refine vo ?_
            iterate 3 refine vof ?_
            iterate 2 refine vo ?_
            iterate 3 refine vof ?_
            iterate 2 refine vo ?_
            iterate 3 refine vof ?_
            iterate 2 refine vo ?_
            iterate 17 refine vof ?_
            iterate 2 refine vo ?_
            refine vnt ?_
            refine vc_ret ?_
            refine fin_i [] rfl (fz ?_) trivial
            simp_all [superOkB]
            try first | omega | (rw [Bool.eq_iff_iff]; simp; omega)
        · iterate 3 refine vof ?_
          iterate 2 refine vo ?_
          iterate 3 refine vof ?_
          iterate 2 refine vo ?_
          iterate 3 refine vof ?_
          iterate 2 refine vo ?_
          iterate 3 refine vof ?_
          iterate 2 refine vo ?_
          iterate 3 refine vof ?_
          iterate 2 refine vo ?_
          iterate 17 refine vof ?_
          iterate 2 refine vo ?_
          refine vnt ?_
          refine vc_ret ?_
          refine fin_i [] rfl (fz ?_) trivial
          simp_all [superOkB]
          try first | omega | (rw [Bool.eq_iff_iff]; simp; omega)
      · iterate 3 refine vof ?_
        iterate 2 refine vo ?_
        iterate 3 refine vof ?_
        iterate 2 refine vo ?_
        iterate 3 refine vof ?_
        iterate 2 refine vo ?_
        iterate 3 refine vof ?_
        iterate 2 refine vo ?_
        iterate 3 refine vof ?_
        iterate 2 refine vo ?_
        iterate 3 refine vof ?_
        iterate 2 refine vo ?_
        iterate 17 refine vof ?_
        iterate 2 refine vo ?_
        refine vnt ?_
        refine vc_ret ?_
        refine fin_i [] rfl (fz ?_) trivial
        simp_all [superOkB]
        try first | omega | (rw [Bool.eq_iff_iff]; simp; omega)
    · iterate 3 refine vof ?_
      iterate 2 refine vo ?_
      iterate 3 refine vof ?_
      iterate 2 refine vo ?_
      iterate 3 refine vof ?_
      iterate 2 refine vo ?_
      iterate 3 refine vof ?_
      iterate 2 refine vo ?_
      iterate 3 refine vof ?_
      iterate 2 refine vo ?_
      iterate 3 refine vof ?_
      iterate 2 refine vo ?_
      iterate 3 refine vof ?_
      iterate 2 refine vo ?_
      iterate 17 refine vof ?_
      iterate 2 refine vo ?_
      refine vnt ?_
      refine vc_ret ?_
      refine fin_i [] rfl (fz ?_) trivial
      simp_all [superOkB]
      try first | omega | (rw [Bool.eq_iff_iff]; simp; omega)
  · iterate 3 refine vof ?_
    iterate 2 refine vo ?_
    iterate 3 refine vof ?_
    iterate 2 refine vo ?_
    iterate 3 refine vof ?_
    iterate 2 refine vo ?_
    iterate 3 refine vof ?_
    iterate 2 refine vo ?_
    iterate 3 refine vof ?_
    iterate 2 refine vo ?_
    iterate 3 refine vof ?_
    iterate 2 refine vo ?_
    iterate 3 refine vof ?_
    iterate 2 refine vo ?_
    iterate 3 refine vof ?_
    iterate 2 refine vo ?_
    iterate 17 refine vof ?_
    iterate 2 refine vo ?_
    refine vnt ?_
    refine vc_ret ?_
    refine fin_i [] rfl (fz ?_) trivial
    simp_all [superOkB]
    try first | omega | (rw [Bool.eq_iff_iff]; simp; omega)
set_option maxHeartbeats 4000000 in
theorem c_spec_SuperOk {dm sm vl tos id ttl si di kind sp dp seq ack fl win : Int} {body : ByteArray} : Con0 Tryz.prog 112 [.agg [V dm, V sm, V vl, V tos, V id, V ttl, V si, V di, V kind, V sp, V dp, V seq, V ack, V fl, V win, VS body]] (B (superOkB dm sm vl tos id ttl si di kind sp dp seq ack fl win body.size)) [] := by
  refine con_i Tryz.func112 Tryz.ntmps112 (t := [(0, .agg [V dm, V sm, V vl, V tos, V id, V ttl, V si, V di, V kind, V sp, V dp, V seq, V ack, V fl, V win, VS body])]) rfl ?_
  refine vc_sr ?_
  iterate 2 refine vo ?_
  refine vnt ?_
  refine vc_seq' ?_
  refine vc_sr ?_
  iterate 2 refine vo ?_
  refine voc c_spec_l01In rfl rfl ?_
  iterate 2 refine vo ?_
  refine vsp (fun g1 => ?_) (fun g1 => ?_)
  · iterate 4 refine vof ?_
    iterate 2 refine vo ?_
    iterate 4 refine vof ?_
    iterate 2 refine vo ?_
    iterate 4 refine vof ?_
    iterate 2 refine vo ?_
    iterate 4 refine vof ?_
    iterate 2 refine vo ?_
    iterate 4 refine vof ?_
    iterate 2 refine vo ?_
    iterate 4 refine vof ?_
    iterate 2 refine vo ?_
    iterate 4 refine vof ?_
    iterate 2 refine vo ?_
    iterate 4 refine vof ?_
    refine vo ?_
    refine vnt ?_
    refine vc_then ?_
    refine vc_sr ?_
    refine vo ?_
    refine vnt ?_
    refine vc_ret ?_
    refine thn_r ?_
    refine fin_i [] rfl (fz ?_) trivial
    simp_all [superOkB]
    try first | omega | (rw [Bool.eq_iff_iff]; simp; omega)
  · iterate 2 refine von ?_
    refine vocn c_spec_l01In rfl rfl ?_
    refine von ?_
    iterate 2 refine vo ?_
    refine vsp (fun g2 => ?_) (fun g2 => ?_)
    · iterate 4 refine vof ?_
      iterate 2 refine vo ?_
      iterate 4 refine vof ?_
      iterate 2 refine vo ?_
      iterate 4 refine vof ?_
      iterate 2 refine vo ?_
      iterate 4 refine vof ?_
      iterate 2 refine vo ?_
      iterate 4 refine vof ?_
      iterate 2 refine vo ?_
      iterate 4 refine vof ?_
      iterate 2 refine vo ?_
      iterate 4 refine vof ?_
      refine vo ?_
      refine vnt ?_
      refine vc_then ?_
      refine vc_sr ?_
      refine vo ?_
      refine vnt ?_
      refine vc_ret ?_
      refine thn_r ?_
      refine fin_i [] rfl (fz ?_) trivial
      simp_all [superOkB]
      try first | omega | (rw [Bool.eq_iff_iff]; simp; omega)
    · iterate 2 refine von ?_
      refine vocn c_spec_l01In rfl rfl ?_
      refine von ?_
      iterate 2 refine vo ?_
      refine vsp (fun g3 => ?_) (fun g3 => ?_)
      · iterate 4 refine vof ?_
        iterate 2 refine vo ?_
        iterate 4 refine vof ?_
        iterate 2 refine vo ?_
        iterate 4 refine vof ?_
        iterate 2 refine vo ?_
        iterate 4 refine vof ?_
        iterate 2 refine vo ?_
        iterate 4 refine vof ?_
        iterate 2 refine vo ?_
        iterate 4 refine vof ?_
        refine vo ?_
        refine vnt ?_
        refine vc_then ?_
        refine vc_sr ?_
        refine vo ?_
        refine vnt ?_
        refine vc_ret ?_
        refine thn_r ?_
        refine fin_i [] rfl (fz ?_) trivial
        simp_all [superOkB]
        try first | omega | (rw [Bool.eq_iff_iff]; simp; omega)
      · iterate 2 refine von ?_
        refine vocn c_spec_l01In rfl rfl ?_
        refine von ?_
        iterate 2 refine vo ?_
        refine vsp (fun g4 => ?_) (fun g4 => ?_)
        · iterate 4 refine vof ?_
          iterate 2 refine vo ?_
          iterate 4 refine vof ?_
          iterate 2 refine vo ?_
          iterate 4 refine vof ?_
          iterate 2 refine vo ?_
          iterate 4 refine vof ?_
          iterate 2 refine vo ?_
          iterate 4 refine vof ?_
          refine vo ?_
          refine vnt ?_
          refine vc_then ?_
          refine vc_sr ?_
          refine vo ?_
          refine vnt ?_
          refine vc_ret ?_
          refine thn_r ?_
          refine fin_i [] rfl (fz ?_) trivial
          simp_all [superOkB]
          try first | omega | (rw [Bool.eq_iff_iff]; simp; omega)
        · iterate 2 refine von ?_
          refine vocn c_spec_l01In rfl rfl ?_
          refine von ?_
          iterate 2 refine vo ?_
          refine vsp (fun g5 => ?_) (fun g5 => ?_)
          · iterate 4 refine vof ?_
            iterate 2 refine vo ?_
            iterate 4 refine vof ?_
            iterate 2 refine vo ?_
            iterate 4 refine vof ?_
            iterate 2 refine vo ?_
            iterate 4 refine vof ?_
            refine vo ?_
            refine vnt ?_
            refine vc_then ?_
            refine vc_sr ?_
            refine vo ?_
            refine vnt ?_
            refine vc_ret ?_
            refine thn_r ?_
            refine fin_i [] rfl (fz ?_) trivial
            simp_all [superOkB]
            try first | omega | (rw [Bool.eq_iff_iff]; simp; omega)
          · iterate 2 refine von ?_
            refine vocn c_spec_l01In rfl rfl ?_
            refine von ?_
            iterate 2 refine vo ?_
            refine vsp (fun g6 => ?_) (fun g6 => ?_)
            · iterate 4 refine vof ?_
              iterate 2 refine vo ?_
              iterate 4 refine vof ?_
              iterate 2 refine vo ?_
              iterate 4 refine vof ?_
              refine vo ?_
              refine vnt ?_
              refine vc_then ?_
              refine vc_sr ?_
              refine vo ?_
              refine vnt ?_
              refine vc_ret ?_
              refine thn_r ?_
              refine fin_i [] rfl (fz ?_) trivial
              simp_all [superOkB]
              try first | omega | (rw [Bool.eq_iff_iff]; simp; omega)
            · iterate 2 refine von ?_
              refine vocn c_spec_l01In rfl rfl ?_
              refine von ?_
              iterate 2 refine vo ?_
              refine vsp (fun g7 => ?_) (fun g7 => ?_)
              · iterate 4 refine vof ?_
                iterate 2 refine vo ?_
                iterate 4 refine vof ?_
                refine vo ?_
                refine vnt ?_
                refine vc_then ?_
                refine vc_sr ?_
                refine vo ?_
                refine vnt ?_
                refine vc_ret ?_
                refine thn_r ?_
                refine fin_i [] rfl (fz ?_) trivial
                simp_all [superOkB]
                try first | omega | (rw [Bool.eq_iff_iff]; simp; omega)
              · iterate 2 refine von ?_
                refine vocn c_spec_l01In rfl rfl ?_
                refine von ?_
                iterate 2 refine vo ?_
                refine vsp (fun g8 => ?_) (fun g8 => ?_)
                · iterate 4 refine vof ?_
                  refine vo ?_
                  refine vnt ?_
                  refine vc_then ?_
                  refine vc_sr ?_
                  refine vo ?_
                  refine vnt ?_
                  refine vc_ret ?_
                  refine thn_r ?_
                  refine fin_i [] rfl (fz ?_) trivial
                  simp_all [superOkB]
                  try first | omega | (rw [Bool.eq_iff_iff]; simp; omega)
                · iterate 2 refine von ?_
                  refine vocn c_spec_SegmentOk rfl rfl ?_
                  refine von ?_
                  refine vo ?_
                  refine vnt ?_
                  refine vc_if (fun g9 => ?_) (fun g9 => ?_)
                  · refine vc_sr ?_
                    refine vo ?_
                    refine vnt ?_
                    refine vc_ret ?_
                    refine thn_r ?_
                    refine fin_i [] rfl (fz ?_) trivial
                    simp_all [superOkB]
                    try first | omega | (rw [Bool.eq_iff_iff]; simp; omega)
                  · have hf := segOk_fl g9
                    have hc := strm_c hf
                    refine vc_skip ?_
                    refine thn ?_
                    refine vc_sr ?_
                    iterate 5 refine vo ?_
                    refine vsp (fun g10 => ?_) (fun g10 => ?_)
                    · iterate 5 refine von ?_
                      iterate 2 refine vo ?_
                      refine vnt ?_
                      refine vc_sr ?_
                      iterate 2 refine vo ?_
                      refine vsp (fun g11 => ?_) (fun g11 => ?_)
                      · iterate 5 refine vof ?_
                        iterate 2 refine vo ?_
                        refine vnt ?_
                        refine vc_ret ?_
                        refine fin_i [] rfl (fz ?_) trivial
                        simp_all [superOkB]
                        try first | omega | (rw [Bool.eq_iff_iff]; simp; omega)
                      · iterate 5 refine von ?_
                        iterate 2 refine vo ?_
                        refine vnt ?_
                        refine vc_ret ?_
                        refine fin_i [] rfl (fz ?_) trivial
                        simp_all [superOkB]
                        try first | omega | (rw [Bool.eq_iff_iff]; simp; omega)
                    · iterate 5 refine vof ?_
                      iterate 2 refine vo ?_
                      refine vnt ?_
                      refine vc_sr ?_
                      iterate 2 refine vo ?_
                      iterate 5 refine von ?_
                      iterate 2 refine vo ?_
                      refine vnt ?_
                      refine vc_ret ?_
                      refine fin_i [] rfl (fz ?_) trivial
                      simp_all [superOkB]
                      try first | omega | (rw [Bool.eq_iff_iff]; simp; omega)
end Go.Proofs.YtnikopahkjmneaaGreat
end
section
namespace Go.Proofs.YtnikopahkjmneaaGreat
open Go Go.RowKit Go.Vc
set_option linter.unusedVariables false
set_option linter.unusedSimpArgs false
set_option linter.unnecessarySimpa false
theorem mac_eq (a : Int) : macF a = word16 (a / 2 ^ Int.toNat 32) ++ word32 (andI a 4294967295) := by
  have := and_mask_i64 a 32 (by decide)
  have e : (2 : Int) ^ 32 - 1 = 4294967295 := by decide
  have e2 : (2 : Int) ^ 32 = 4294967296 := by decide
  have e3 : (2 : Int) ^ Int.toNat 32 = 4294967296 := by decide
  rw [e, e2] at this
  rw [andI_eq, this, e3]; rfl
theorem putBF_eq {s p : ByteArray} {i : Int} (h0 : 0 ≤ i) (h1 : i ≤ s.size - p.size) : putBF s i p = s.extract (Int.toNat 0) i.toNat ++ p ++ s.extract (i + p.size).toNat s.size := by
  unfold putBF
  rw [if_pos (wthB_iff.2 ⟨h0, by omega, by omega⟩), show (i + p.size).toNat = i.toNat + p.size by omega]; rfl
theorem putBF_no {s p : ByteArray} {i : Int} (h : ¬ (0 ≤ i ∧ i ≤ s.size - p.size)) : putBF s i p = s := by
  unfold putBF
  rw [if_neg fun h' => h (by have := wthB_iff.1 h'; omega)]
theorem putBF_le (s p : ByteArray) (i : Int) : (putBF s i p).size = s.size := by
  by_cases h : 0 ≤ i ∧ i ≤ s.size - p.size
  · rw [putBF_eq h.1 h.2]
    simp only [ByteArray.size_append, ByteArray.size_extract]
    have : Int.toNat 0 = 0 := rfl
    omega
  · rw [putBF_no h]
theorem psF_le (a b c d : Int) : (psF a b c d).size ≤ 12 := by
  have := word32_le a; have := word32_le b; have := word16_le d
  unfold psF
  simp only [ByteArray.size_append, strOfNums_size, List.length_cons, List.length_nil]
  omega
set_option maxHeartbeats 4000000 in
theorem c_impl_macBytes {a : Int} : Con0 Tryz.prog 150 [I a] (Z (macF a)) [] := by
  refine con_i Tryz.func150 Tryz.ntmps150 (t := [(0, I a)]) rfl ?_
  refine vc_sr ?_
  refine vo ?_
  refine vnt ?_
  refine vc_sr ?_
  iterate 2 refine vo ?_
  refine voc c_impl_Word16 rfl rfl ?_
  refine vzs (word16_le _) fun z1 => ?_
  iterate 2 refine vo ?_
  refine voc c_impl_Word32 rfl rfl ?_
  refine vzs (word32_le _) fun z2 => ?_
  iterate 2 refine vo ?_
  refine vnt ?_
  refine vc_ret ?_
  refine fin_i [] rfl (fz ?_) trivial
  exact mac_eq a
set_option maxHeartbeats 4000000 in
theorem c_spec_l04Address {a : Int} : Con0 Tryz.prog 139 [I a] (Z (macF a)) [] := by
  refine con_i Tryz.func139 Tryz.ntmps139 (t := [(0, I a)]) rfl ?_
  refine vc_sr ?_
  refine vo ?_
  refine vnt ?_
  refine vc_sr ?_
  iterate 2 refine vo ?_
  refine voc c_spec_Word16 rfl rfl ?_
  refine vzs (word16_le _) fun z1 => ?_
  iterate 2 refine vo ?_
  refine voc c_spec_Word32 rfl rfl ?_
  refine vzs (word32_le _) fun z2 => ?_
  iterate 2 refine vo ?_
  refine vnt ?_
  refine vc_ret ?_
  refine fin_i [] rfl (fz ?_) trivial
  exact mac_eq a
set_option maxHeartbeats 4000000 in
theorem c_impl_repeat {b n : Int} (hb : 0 ≤ b ∧ b ≤ 255 := by omega) (hn : 0 ≤ n ∧ n ≤ 1099511627776 := by omega) : Con0 Tryz.prog 151 [.one (.v (.int .u8 b)), I n] (Z (repF b n.toNat)) [] := by
  refine con_i Tryz.func151 Tryz.ntmps151 (t := [(0, .one (.v (.int .u8 b))), (1, I n)]) rfl ?_
  refine vc_sr ?_
  refine vo ?_
  refine vnt ?_
  refine vc_sr ?_
  iterate 3 refine vo ?_
  refine vnt ?_
  refine vc_seq' ?_
  refine vc_sr ?_
  iterate 2 refine vo ?_
  try refine vln ?_
  refine vo ?_
  refine vnt ?_
  refine vc_block ?_
  refine vc_lp (σ := Nat) [0, 5, 10] [] (fun i => [(11, I (i : Nat))]) (fun i => [(64, .arr 5 1 ((List.replicate i b ++ List.replicate (n.toNat - i) 0).map byE))]) (fun i => i ≤ n.toNat) (fun i => n.toNat - i) 0 rfl rfl (sub_i [] (fz ?_) (fz ?_)) ?_ fun i hI => ?_
  · first | trivial | simp
  · simp [byE]
  · omega
  refine vc_nf rfl rfl ?_
  refine vc_sr ?_
  refine vo ?_
  refine vnt ?_
  refine vc_seq' ?_
  refine vc_if (fun g1 => ?_) (fun g1 => ?_)
  · refine vc_skip ?_
    refine thn ?_
    refine vc_seq' ?_
    refine vc_block ?_
    refine vc_sr ?_
    iterate 2 refine vo ?_
    refine vnt ?_
    refine vc_region ?_
    iterate 5 refine vo ?_
    refine vnil ?_
    refine inB_n ?_
    refine thn ?_
    refine vc_region ?_
    refine vo ?_
    try refine vwr ?_
    refine vo ?_
    refine vnt ?_
    refine ⟨i + 1, ?_, ?_, sub_i [] (fz ?_) (fz ?_)⟩
    · omega
    · omega
    · first | rfl | trivial
    · first | trivial | (rw [← set_rep b n.toNat i (by omega), List.map_set]; rfl)
  · refine vc_exit ?_
    refine thn_x ?_
    refine thn_x ?_
    refine inB_x ?_
    refine thn ?_
    refine vc_sr ?_
    iterate 3 refine vo ?_
    refine vnt ?_
    refine vc_ret ?_
    refine fin_i [] rfl (fz ?_) trivial
    rw [ofE_by, repF, show n.toNat - i = 0 by omega, show i = n.toNat by omega]
    simp
set_option maxHeartbeats 4000000 in
theorem c_spec_l01Long {b n : Int} (hb : 0 ≤ b ∧ b ≤ 255 := by omega) (hn : 0 ≤ n ∧ n ≤ 1099511627776 := by omega) : Con0 Tryz.prog 140 [I n, .one (.v (.int .u8 b))] (Z (repF b n.toNat)) [] := by
  refine con_i Tryz.func140 Tryz.ntmps140 (t := [(0, I n), (1, .one (.v (.int .u8 b)))]) rfl ?_
  refine vc_sr ?_
  refine vo ?_
  refine vnt ?_
  refine vc_sr ?_
  iterate 3 refine vo ?_
  refine vnt ?_
  refine vc_seq' ?_
  refine vc_sr ?_
  refine vo ?_
  refine vnt ?_
  refine vc_block ?_
  refine vc_lp (σ := Nat) [0, 1, 5] [] (fun i => [(6, I (i : Nat))]) (fun i => [(64, .arr 5 1 ((List.replicate i b ++ List.replicate (n.toNat - i) 0).map byE))]) (fun i => i ≤ n.toNat) (fun i => n.toNat - i) 0 rfl rfl (sub_i [] (fz ?_) (fz ?_)) ?_ fun i hI => ?_
  · first | trivial | simp
  · simp [byE]
  · omega
  refine vc_nf rfl rfl ?_
  refine vc_seq' ?_
  refine vc_sr ?_
  iterate 3 refine vo ?_
  refine vnt ?_
  refine vc_if (fun g1 => ?_) (fun g1 => ?_)
  · refine vc_skip ?_
    refine thn ?_
    refine vc_seq' ?_
    refine vc_block ?_
    refine vc_region ?_
    iterate 5 refine vo ?_
    refine vnil ?_
    refine inB_n ?_
    refine thn ?_
    refine vc_region ?_
    iterate 2 refine vo ?_
    try refine vwr ?_
    refine vo ?_
    refine vnt ?_
    refine ⟨i + 1, ?_, ?_, sub_i [] (fz ?_) (fz ?_)⟩
    · omega
    · omega
    · first | rfl | trivial
    · first | trivial | (rw [← set_rep b n.toNat i (by omega), List.map_set]; rfl)
  · refine vc_exit ?_
    refine thn_x ?_
    refine thn_x ?_
    refine inB_x ?_
    refine thn ?_
    refine vc_sr ?_
    iterate 3 refine vo ?_
    refine vnt ?_
    refine vc_ret ?_
    refine fin_i [] rfl (fz ?_) trivial
    rw [ofE_by, repF, show n.toNat - i = 0 by omega, show i = n.toNat by omega]
    simp
set_option maxHeartbeats 4000000 in
theorem c_impl_AddSums {a b : Int} (ha : 0 ≤ a ∧ a ≤ 65535 := by omega) (hb : 0 ≤ b ∧ b ≤ 65535 := by omega) : Con0 Tryz.prog 163 [I a, I b] (I (addS a b)) [] := by
  refine con_i Tryz.func163 Tryz.ntmps163 (t := [(0, I a), (1, I b)]) rfl ?_
  refine vc_sr ?_
  refine vo ?_
  refine vnt ?_
  refine vc_seq' ?_
  refine vc_sr ?_
  refine vo ?_
  refine voc c_impl_between rfl rfl ?_
  iterate 2 refine vo ?_
  refine vsp (fun g1 => ?_) (fun g1 => ?_)
  · iterate 3 refine vof ?_
    refine vo ?_
    refine vnt ?_
    refine vc_then ?_
    refine vc_sr ?_
    refine vo ?_
    refine vnt ?_
    refine vc_ret ?_
    refine thn_r ?_
    refine fin_i [] rfl (fz ?_) trivial
    first | (unfold addS; split <;> omega) | (have := inB_iff.2 ha; have := inB_iff.2 hb; simp_all)
  · refine von ?_
    refine vocn c_impl_between rfl rfl ?_
    refine von ?_
    refine vo ?_
    refine vnt ?_
    refine vc_if (fun g2 => ?_) (fun g2 => ?_)
    · refine vc_sr ?_
      refine vo ?_
      refine vnt ?_
      refine vc_ret ?_
      refine thn_r ?_
      refine fin_i [] rfl (fz ?_) trivial
      first | (unfold addS; split <;> omega) | (have := inB_iff.2 ha; have := inB_iff.2 hb; simp_all)
    · refine vc_skip ?_
      refine thn ?_
      refine vc_seq' ?_
      refine vc_sr ?_
      iterate 3 refine vo ?_
      try refine vwr ?_
      refine vo ?_
      refine vnt ?_
      refine vc_if (fun g3 => ?_) (fun g3 => ?_)
      · refine vc_sr ?_
        iterate 3 refine vo ?_
        try refine vwr ?_
        refine vo ?_
        try refine vwr ?_
        refine vo ?_
        refine vnt ?_
        refine vc_ret ?_
        refine thn_r ?_
        refine fin_i [] rfl (fz ?_) trivial
        first | (unfold addS; split <;> omega) | (have := inB_iff.2 ha; have := inB_iff.2 hb; simp_all)
      · refine vc_skip ?_
        refine thn ?_
        refine vc_sr ?_
        iterate 3 refine vo ?_
        try refine vwr ?_
        refine vo ?_
        refine vnt ?_
        refine vc_ret ?_
        refine fin_i [] rfl (fz ?_) trivial
        first | (unfold addS; split <;> omega) | (have := inB_iff.2 ha; have := inB_iff.2 hb; simp_all)
set_option maxHeartbeats 4000000 in
theorem c_impl_PutBytes {s p : ByteArray} {i : Int} (hs_s : s.size ≤ 1099511627776 := by first | assumption | omega | (simp only [ByteArray.size_append, ByteArray.size_extract, strOfNums_size, List.length_cons, List.length_nil]; omega)) (hs_p : p.size ≤ 1099511627776 := by first | assumption | omega | (simp only [ByteArray.size_append, ByteArray.size_extract, strOfNums_size, List.length_cons, List.length_nil]; omega)) : Con0 Tryz.prog 97 [Z s, I i, Z p] (Z (putBF s i p)) [] := by
  refine con_i Tryz.func97 Tryz.ntmps97 (t := [(0, Z s), (1, I i), (2, Z p)]) rfl ?_
  refine vc_sr ?_
  refine vo ?_
  refine vnt ?_
  refine vc_seq' ?_
  refine vc_sr ?_
  iterate 3 refine vo ?_
  refine vsp (fun g1 => ?_) (fun g1 => ?_)
  · iterate 7 refine vof ?_
    refine vo ?_
    refine vnt ?_
    refine vc_then ?_
    refine vc_sr ?_
    iterate 2 refine vo ?_
    refine vnt ?_
    refine vc_ret ?_
    refine thn_r ?_
    refine fin_i [] rfl (fz ?_) trivial
    first | exact putBF_eq (by omega) (by omega) | exact putBF_no (by omega)
  · iterate 6 refine von ?_
    try refine vwr ?_
    refine von ?_
    refine vo ?_
    refine vnt ?_
    refine vc_if (fun g2 => ?_) (fun g2 => ?_)
    · refine vc_sr ?_
      iterate 2 refine vo ?_
      refine vnt ?_
      refine vc_ret ?_
      refine thn_r ?_
      refine fin_i [] rfl (fz ?_) trivial
      first | exact putBF_eq (by omega) (by omega) | exact putBF_no (by omega)
    · refine vc_skip ?_
      refine thn ?_
      refine vc_sr ?_
      iterate 10 refine vo ?_
      try refine vwr ?_
      iterate 3 refine vo ?_
      refine vnt ?_
      refine vc_ret ?_
      refine fin_i [] rfl (fz ?_) trivial
      first | exact putBF_eq (by omega) (by omega) | exact putBF_no (by omega)
set_option maxHeartbeats 4000000 in
theorem c_spec_AddSums {a b : Int} (ha : 0 ≤ a ∧ a ≤ 65535 := by omega) (hb : 0 ≤ b ∧ b ≤ 65535 := by omega) : Con0 Tryz.prog 162 [I a, I b] (I (addS a b)) [] := by
  refine con_i Tryz.func162 Tryz.ntmps162 (t := [(0, I a), (1, I b)]) rfl ?_
  refine vc_sr ?_
  refine vo ?_
  refine vnt ?_
  refine vc_seq' ?_
  refine vc_sr ?_
  refine vo ?_
  refine voc c_spec_l01In rfl rfl ?_
  iterate 2 refine vo ?_
  refine vsp (fun g1 => ?_) (fun g1 => ?_)
  · iterate 3 refine vof ?_
    refine vo ?_
    refine vnt ?_
    refine vc_then ?_
    refine vc_sr ?_
    refine vo ?_
    refine vnt ?_
    refine vc_ret ?_
    refine thn_r ?_
    refine fin_i [] rfl (fz ?_) trivial
    first | (unfold addS; split <;> omega) | (have := inB_iff.2 ha; have := inB_iff.2 hb; simp_all)
  · refine von ?_
    refine vocn c_spec_l01In rfl rfl ?_
    refine von ?_
    refine vo ?_
    refine vnt ?_
    refine vc_if (fun g2 => ?_) (fun g2 => ?_)
    · refine vc_sr ?_
      refine vo ?_
      refine vnt ?_
      refine vc_ret ?_
      refine thn_r ?_
      refine fin_i [] rfl (fz ?_) trivial
      first | (unfold addS; split <;> omega) | (have := inB_iff.2 ha; have := inB_iff.2 hb; simp_all)
    · refine vc_skip ?_
      refine thn ?_
      refine vc_seq' ?_
      refine vc_sr ?_
      iterate 3 refine vo ?_
      try refine vwr ?_
      refine vo ?_
      refine vnt ?_
      refine vc_if (fun g3 => ?_) (fun g3 => ?_)
      · refine vc_sr ?_
        iterate 3 refine vo ?_
        try refine vwr ?_
        refine vo ?_
        try refine vwr ?_
        refine vo ?_
        refine vnt ?_
        refine vc_ret ?_
        refine thn_r ?_
        refine fin_i [] rfl (fz ?_) trivial
        first | (unfold addS; split <;> omega) | (have := inB_iff.2 ha; have := inB_iff.2 hb; simp_all)
      · refine vc_skip ?_
        refine thn ?_
        refine vc_sr ?_
        iterate 3 refine vo ?_
        try refine vwr ?_
        refine vo ?_
        refine vnt ?_
        refine vc_ret ?_
        refine fin_i [] rfl (fz ?_) trivial
        first | (unfold addS; split <;> omega) | (have := inB_iff.2 ha; have := inB_iff.2 hb; simp_all)
set_option maxHeartbeats 4000000 in
theorem c_spec_PutBytes {s p : ByteArray} {i : Int} (hs_s : s.size ≤ 1099511627776 := by first | assumption | omega | (simp only [ByteArray.size_append, ByteArray.size_extract, strOfNums_size, List.length_cons, List.length_nil]; omega)) (hs_p : p.size ≤ 1099511627776 := by first | assumption | omega | (simp only [ByteArray.size_append, ByteArray.size_extract, strOfNums_size, List.length_cons, List.length_nil]; omega)) : Con0 Tryz.prog 73 [Z s, I i, Z p] (Z (putBF s i p)) [] := by
  refine con_i Tryz.func73 Tryz.ntmps73 (t := [(0, Z s), (1, I i), (2, Z p)]) rfl ?_
  refine vc_sr ?_
  refine vo ?_
  refine vnt ?_
  refine vc_seq' ?_
  refine vc_sr ?_
  iterate 4 refine vo ?_
  refine voc c_spec_l02Within rfl rfl ?_
  refine vo ?_
  refine vnt ?_
  refine vc_if (fun g1 => ?_) (fun g1 => ?_)
  · have hw : ¬ _ := fun h => Bool.false_ne_true (g1.symm.trans (wthB_iff.2 h))
    refine vc_sr ?_
    iterate 2 refine vo ?_
    refine vnt ?_
    refine vc_ret ?_
    refine thn_r ?_
    refine fin_i [] rfl (fz ?_) trivial
    first | exact putBF_eq (by omega) (by omega) | exact putBF_no (by omega)
  · have hw := wthB_iff.1 g1
    refine vc_skip ?_
    refine thn ?_
    refine vc_sr ?_
    iterate 10 refine vo ?_
    try refine vwr ?_
    iterate 3 refine vo ?_
    refine vnt ?_
    refine vc_ret ?_
    refine fin_i [] rfl (fz ?_) trivial
    first | exact putBF_eq (by omega) (by omega) | exact putBF_no (by omega)
def psOkB (src dst kind len : Int) : Bool := inB src 0 4294967295 && inB dst 0 4294967295 && inB kind 0 255 && inB len 0 65535
def psR (src dst kind len : Int) : ByteArray := if psOkB src dst kind len then psF src dst kind len else ⟨#[]⟩
theorem psR_ok {src dst kind len : Int} (h : psOkB src dst kind len = true) : psR src dst kind len = psF src dst kind len := if_pos h
theorem wa_or (s : ByteArray) (k : Nat) : orI (IntKind.i64.wrap (IntKind.i64.wrap (bytI s ((2 * k : Nat) : Int)) * 2 ^ Int.toNat 8)) (IntKind.i64.wrap (bytI s (((2 * k : Nat) : Int) + 1))) = wAt s k := by
  rw [shl8, or8 _ _ _ (bAt_lt ..)]; rfl
theorem wa_add (s : ByteArray) (k : Nat) : wr (IntKind.i64.wrap (IntKind.i64.wrap (bytI s ((2 * k : Nat) : Int)) * 2 ^ Int.toNat 8) + IntKind.i64.wrap (bytI s (((2 * k : Nat) : Int) + 1))) = wAt s k := by
  rw [shl8, i64_byt, wr_id]
  · rfl
  · omega
  · have := bAt_lt s ((2 * k : Nat) : Int).toNat
    have := bAt_lt s (((2 * k : Nat) : Int) + 1).toNat
    omega
theorem wa_one (s : ByteArray) (k : Nat) (h : s.size ≤ 2 * k + 1) : IntKind.i64.wrap (IntKind.i64.wrap (bytI s ((2 * k : Nat) : Int)) * 2 ^ Int.toNat 8) = wAt s k := by
  rw [shl8, Int.toNat_natCast, wAt, bAt_out (i := 2 * k + 1) h, Nat.add_zero]
set_option maxHeartbeats 4000000 in
theorem c_impl_SumWords {s : ByteArray} (hs_s : s.size ≤ 1099511627776 := by first | assumption | omega | (simp only [ByteArray.size_append, ByteArray.size_extract, strOfNums_size, List.length_cons, List.length_nil]; omega)) : Con0 Tryz.prog 156 [Z s] (I (sumF s)) [] := by
  refine con_i Tryz.func156 Tryz.ntmps156 (t := [(0, Z s)]) rfl ?_
  refine vc_sr ?_
  refine vo ?_
  refine vnt ?_
  refine vc_sr ?_
  refine vo ?_
  refine vnt ?_
  refine vc_seq' ?_
  refine vc_sr ?_
  refine vo ?_
  refine vnt ?_
  refine vc_block ?_
  refine vc_lp (σ := Nat) [0] [] (fun k => [(3, I (sumW s k)), (4, I ((2 * k : Nat) : Int))]) (fun k => []) (fun k => k ≤ words s.size) (fun k => words s.size - k) 0 rfl rfl (sub_i [] (fz ?_) (fz ?_)) ?_ fun k hI => ?_
  · first | trivial | simp [sumW]
  · trivial
  · exact Nat.zero_le _
  refine vc_nf rfl rfl ?_
  have hk := bAt_lt s (2 * k)
  have hw := wAt_bd s k
  have hm := sumW_bd s k
  refine vc_seq' ?_
  refine vc_sr ?_
  iterate 4 refine vo ?_
  refine vnt ?_
  refine vc_if (fun g1 => ?_) (fun g1 => ?_)
  · refine vc_skip ?_
    refine thn ?_
    refine vc_seq' ?_
    refine vc_block ?_
    refine vc_sr ?_
    iterate 6 refine vo ?_
    refine vnt ?_
    refine vc_seq' ?_
    refine vc_sr ?_
    iterate 2 refine vo ?_
    try refine vwr ?_
    iterate 3 refine vo ?_
    refine vnt ?_
    refine vc_if (fun g2 => ?_) (fun g2 => ?_)
    · refine vc_region ?_
      iterate 4 refine vo ?_
      try refine vwr ?_
      iterate 3 refine vo ?_
      refine veq (wa_or s k) ?_
      refine vo ?_
      refine vnt ?_
      refine vc_region ?_
      iterate 2 refine vo ?_
      refine voc c_impl_AddSums rfl rfl ?_
      refine vo ?_
      refine vnil ?_
      refine inB_n ?_
      refine thn ?_
      refine vc_region ?_
      iterate 2 refine vo ?_
      try refine vwr ?_
      refine vo ?_
      refine vnt ?_
      refine ⟨k + 1, ?_, ?_, sub_i [] (fz ?_) (fz ?_)⟩
      · unfold words; omega
      · unfold words; omega
      · exact ⟨rfl, by omega⟩
      · first | trivial
    · rw [wa_one s k (by omega)]
      refine vc_skip ?_
      refine thn ?_
      refine vc_region ?_
      iterate 2 refine vo ?_
      refine voc c_impl_AddSums rfl rfl ?_
      refine vo ?_
      refine vnil ?_
      refine inB_n ?_
      refine thn ?_
      refine vc_region ?_
      iterate 2 refine vo ?_
      try refine vwr ?_
      refine vo ?_
      refine vnt ?_
      refine ⟨k + 1, ?_, ?_, sub_i [] (fz ?_) (fz ?_)⟩
      · unfold words; omega
      · unfold words; omega
      · exact ⟨rfl, by omega⟩
      · first | trivial
  · refine vc_exit ?_
    refine thn_x ?_
    refine thn_x ?_
    refine inB_x ?_
    refine thn ?_
    refine vc_sr ?_
    iterate 2 refine vo ?_
    refine vnt ?_
    refine vc_ret ?_
    refine fin_i [] rfl (fz ?_) trivial
    rw [sumF, show words s.size = k by unfold words at *; omega]
set_option maxHeartbeats 4000000 in
theorem c_impl_Checksum {s : ByteArray} (hs_s : s.size ≤ 1099511627776 := by first | assumption | omega | (simp only [ByteArray.size_append, ByteArray.size_extract, strOfNums_size, List.length_cons, List.length_nil]; omega)) : Con0 Tryz.prog 147 [Z s] (I (checkF s)) [] := by
  have hb := sumF_bd s
  refine con_i Tryz.func147 Tryz.ntmps147 (t := [(0, Z s)]) rfl ?_
  refine vc_sr ?_
  refine vo ?_
  refine vnt ?_
  refine vc_sr ?_
  refine vo ?_
  refine voc c_impl_SumWords rfl rfl ?_
  refine vo ?_
  try refine vwr ?_
  refine vo ?_
  refine vnt ?_
  refine vc_ret ?_
  refine fin_i [] rfl (fz ?_) trivial
  rfl
set_option maxHeartbeats 4000000 in
theorem c_impl_PseudoHeader {src dst kind len : Int} : Con0 Tryz.prog 146 [I src, I dst, I kind, I len] (.tup [Z (psR src dst kind len), B (psOkB src dst kind len)]) [] := by
  refine con_i Tryz.func146 Tryz.ntmps146 (t := [(0, I src), (1, I dst), (2, I kind), (3, I len)]) rfl ?_
  refine vc_sr ?_
  iterate 2 refine vo ?_
  refine vnt ?_
  refine vc_seq' ?_
  refine vc_sr ?_
  refine vo ?_
  refine voc c_impl_between rfl rfl ?_
  iterate 2 refine vo ?_
  refine vsp (fun g1 => ?_) (fun g1 => ?_)
  · iterate 3 refine vof ?_
    iterate 2 refine vo ?_
    iterate 3 refine vof ?_
    iterate 2 refine vo ?_
    iterate 3 refine vof ?_
    refine vo ?_
    refine vnt ?_
    refine vc_then ?_
    refine vc_sr ?_
    iterate 2 refine vo ?_
    refine vnt ?_
    refine vc_ret ?_
    refine thn_r ?_
    refine fin_i [] rfl (fz ?_) trivial
    first | (simp_all [psR, psOkB, psF]; done) | (have h3 := inB_iff.1 g3; have := u8w h3.1 h3.2; simp_all [psR, psOkB, psF])
  · refine von ?_
    refine vocn c_impl_between rfl rfl ?_
    refine von ?_
    iterate 2 refine vo ?_
    refine vsp (fun g2 => ?_) (fun g2 => ?_)
    · iterate 3 refine vof ?_
      iterate 2 refine vo ?_
      iterate 3 refine vof ?_
      refine vo ?_
      refine vnt ?_
      refine vc_then ?_
      refine vc_sr ?_
      iterate 2 refine vo ?_
      refine vnt ?_
      refine vc_ret ?_
      refine thn_r ?_
      refine fin_i [] rfl (fz ?_) trivial
      first | (simp_all [psR, psOkB, psF]; done) | (have h3 := inB_iff.1 g3; have := u8w h3.1 h3.2; simp_all [psR, psOkB, psF])
    · refine von ?_
      refine vocn c_impl_between rfl rfl ?_
      refine von ?_
      iterate 2 refine vo ?_
      refine vsp (fun g3 => ?_) (fun g3 => ?_)
      · iterate 3 refine vof ?_
        refine vo ?_
        refine vnt ?_
        refine vc_then ?_
        refine vc_sr ?_
        iterate 2 refine vo ?_
        refine vnt ?_
        refine vc_ret ?_
        refine thn_r ?_
        refine fin_i [] rfl (fz ?_) trivial
        first | (simp_all [psR, psOkB, psF]; done) | (have h3 := inB_iff.1 g3; have := u8w h3.1 h3.2; simp_all [psR, psOkB, psF])
      · refine von ?_
        refine vocn c_impl_between rfl rfl ?_
        refine von ?_
        refine vo ?_
        refine vnt ?_
        refine vc_if (fun g4 => ?_) (fun g4 => ?_)
        · refine vc_sr ?_
          iterate 2 refine vo ?_
          refine vnt ?_
          refine vc_ret ?_
          refine thn_r ?_
          refine fin_i [] rfl (fz ?_) trivial
          first | (simp_all [psR, psOkB, psF]; done) | (have h3 := inB_iff.1 g3; have := u8w h3.1 h3.2; simp_all [psR, psOkB, psF])
        · refine vc_skip ?_
          refine thn ?_
          refine vc_sr ?_
          refine vo ?_
          refine voc c_impl_Word32 rfl rfl ?_
          refine vzs (word32_le _) fun z1 => ?_
          refine vo ?_
          refine voc c_impl_Word32 rfl rfl ?_
          refine vzs (word32_le _) fun z2 => ?_
          iterate 5 refine vo ?_
          refine vs2 ?_
          iterate 2 refine vo ?_
          refine voc c_impl_Word16 rfl rfl ?_
          refine vzs (word16_le _) fun z3 => ?_
          iterate 3 refine vo ?_
          refine vnt ?_
          refine vc_ret ?_
          refine fin_i [] rfl (fz ?_) trivial
          first | (simp_all [psR, psOkB, psF]; done) | (have h3 := inB_iff.1 g3; have := u8w h3.1 h3.2; simp_all [psR, psOkB, psF])
set_option maxHeartbeats 4000000 in
theorem c_spec_SumWords {s : ByteArray} (hs_s : s.size ≤ 1099511627776 := by first | assumption | omega | (simp only [ByteArray.size_append, ByteArray.size_extract, strOfNums_size, List.length_cons, List.length_nil]; omega)) : Con0 Tryz.prog 154 [Z s] (I (sumF s)) [] := by
  refine con_i Tryz.func154 Tryz.ntmps154 (t := [(0, Z s)]) rfl ?_
  refine vc_sr ?_
  refine vo ?_
  refine vnt ?_
  refine vc_sr ?_
  refine vo ?_
  refine vnt ?_
  refine vc_seq' ?_
  refine vc_sr ?_
  refine vo ?_
  refine vnt ?_
  refine vc_block ?_
  refine vc_lp (σ := Nat) [0] [] (fun k => [(3, I (sumW s k)), (4, I ((2 * k : Nat) : Int))]) (fun k => []) (fun k => k ≤ words s.size) (fun k => words s.size - k) 0 rfl rfl (sub_i [] (fz ?_) (fz ?_)) ?_ fun k hI => ?_
  · first | trivial | simp [sumW]
  · trivial
  · exact Nat.zero_le _
  refine vc_nf rfl rfl ?_
  have hk := bAt_lt s (2 * k)
  have hw := wAt_bd s k
  have hm := sumW_bd s k
  refine vc_seq' ?_
  refine vc_sr ?_
  iterate 4 refine vo ?_
  refine vnt ?_
  refine vc_if (fun g1 => ?_) (fun g1 => ?_)
  · refine vc_skip ?_
    refine thn ?_
    refine vc_seq' ?_
    refine vc_block ?_
    refine vc_sr ?_
    iterate 6 refine vo ?_
    refine vnt ?_
    refine vc_seq' ?_
    refine vc_sr ?_
    iterate 2 refine vo ?_
    try refine vwr ?_
    iterate 3 refine vo ?_
    refine vnt ?_
    refine vc_if (fun g2 => ?_) (fun g2 => ?_)
    · refine vc_region ?_
      iterate 4 refine vo ?_
      try refine vwr ?_
      iterate 3 refine vo ?_
      try refine vwr ?_
      refine veq (wa_add s k) ?_
      refine vo ?_
      refine vnt ?_
      refine vc_region ?_
      iterate 2 refine vo ?_
      refine voc c_spec_AddSums rfl rfl ?_
      refine vo ?_
      refine vnil ?_
      refine inB_n ?_
      refine thn ?_
      refine vc_region ?_
      iterate 2 refine vo ?_
      try refine vwr ?_
      refine vo ?_
      refine vnt ?_
      refine ⟨k + 1, ?_, ?_, sub_i [] (fz ?_) (fz ?_)⟩
      · unfold words; omega
      · unfold words; omega
      · exact ⟨rfl, by omega⟩
      · first | trivial
    · rw [wa_one s k (by omega)]
      refine vc_skip ?_
      refine thn ?_
      refine vc_region ?_
      iterate 2 refine vo ?_
      refine voc c_spec_AddSums rfl rfl ?_
      refine vo ?_
      refine vnil ?_
      refine inB_n ?_
      refine thn ?_
      refine vc_region ?_
      iterate 2 refine vo ?_
      try refine vwr ?_
      refine vo ?_
      refine vnt ?_
      refine ⟨k + 1, ?_, ?_, sub_i [] (fz ?_) (fz ?_)⟩
      · unfold words; omega
      · unfold words; omega
      · exact ⟨rfl, by omega⟩
      · first | trivial
  · refine vc_exit ?_
    refine thn_x ?_
    refine thn_x ?_
    refine inB_x ?_
    refine thn ?_
    refine vc_sr ?_
    iterate 2 refine vo ?_
    refine vnt ?_
    refine vc_ret ?_
    refine fin_i [] rfl (fz ?_) trivial
    rw [sumF, show words s.size = k by unfold words at *; omega]
set_option maxHeartbeats 4000000 in
theorem c_spec_Checksum {s : ByteArray} (hs_s : s.size ≤ 1099511627776 := by first | assumption | omega | (simp only [ByteArray.size_append, ByteArray.size_extract, strOfNums_size, List.length_cons, List.length_nil]; omega)) : Con0 Tryz.prog 136 [Z s] (I (checkF s)) [] := by
  have hb := sumF_bd s
  refine con_i Tryz.func136 Tryz.ntmps136 (t := [(0, Z s)]) rfl ?_
  refine vc_sr ?_
  refine vo ?_
  refine vnt ?_
  refine vc_sr ?_
  refine vo ?_
  refine voc c_spec_SumWords rfl rfl ?_
  refine vo ?_
  try refine vwr ?_
  refine vo ?_
  refine vnt ?_
  refine vc_ret ?_
  refine fin_i [] rfl (fz ?_) trivial
  rfl
set_option maxHeartbeats 4000000 in
theorem c_spec_PseudoHeader {src dst kind len : Int} : Con0 Tryz.prog 135 [I src, I dst, I kind, I len] (.tup [Z (psR src dst kind len), B (psOkB src dst kind len)]) [] := by
  refine con_i Tryz.func135 Tryz.ntmps135 (t := [(0, I src), (1, I dst), (2, I kind), (3, I len)]) rfl ?_
  refine vc_sr ?_
  iterate 2 refine vo ?_
  refine vnt ?_
  refine vc_seq' ?_
  refine vc_sr ?_
  refine vo ?_
  refine voc c_spec_l01In rfl rfl ?_
  iterate 2 refine vo ?_
  refine vsp (fun g1 => ?_) (fun g1 => ?_)
  · iterate 3 refine vof ?_
    iterate 2 refine vo ?_
    iterate 3 refine vof ?_
    iterate 2 refine vo ?_
    iterate 3 refine vof ?_
    refine vo ?_
    refine vnt ?_
    refine vc_then ?_
    refine vc_sr ?_
    iterate 2 refine vo ?_
    refine vnt ?_
    refine vc_ret ?_
    refine thn_r ?_
    refine fin_i [] rfl (fz ?_) trivial
    first | (simp_all [psR, psOkB, psF]; done) | (have h3 := inB_iff.1 g3; have := u8w h3.1 h3.2; simp_all [psR, psOkB, psF])
  · refine von ?_
    refine vocn c_spec_l01In rfl rfl ?_
    refine von ?_
    iterate 2 refine vo ?_
    refine vsp (fun g2 => ?_) (fun g2 => ?_)
    · iterate 3 refine vof ?_
      iterate 2 refine vo ?_
      iterate 3 refine vof ?_
      refine vo ?_
      refine vnt ?_
      refine vc_then ?_
      refine vc_sr ?_
      iterate 2 refine vo ?_
      refine vnt ?_
      refine vc_ret ?_
      refine thn_r ?_
      refine fin_i [] rfl (fz ?_) trivial
      first | (simp_all [psR, psOkB, psF]; done) | (have h3 := inB_iff.1 g3; have := u8w h3.1 h3.2; simp_all [psR, psOkB, psF])
    · refine von ?_
      refine vocn c_spec_l01In rfl rfl ?_
      refine von ?_
      iterate 2 refine vo ?_
      refine vsp (fun g3 => ?_) (fun g3 => ?_)
      · iterate 3 refine vof ?_
        refine vo ?_
        refine vnt ?_
        refine vc_then ?_
        refine vc_sr ?_
        iterate 2 refine vo ?_
        refine vnt ?_
        refine vc_ret ?_
        refine thn_r ?_
        refine fin_i [] rfl (fz ?_) trivial
        first | (simp_all [psR, psOkB, psF]; done) | (have h3 := inB_iff.1 g3; have := u8w h3.1 h3.2; simp_all [psR, psOkB, psF])
      · refine von ?_
        refine vocn c_spec_l01In rfl rfl ?_
        refine von ?_
        refine vo ?_
        refine vnt ?_
        refine vc_if (fun g4 => ?_) (fun g4 => ?_)
        · refine vc_sr ?_
          iterate 2 refine vo ?_
          refine vnt ?_
          refine vc_ret ?_
          refine thn_r ?_
          refine fin_i [] rfl (fz ?_) trivial
          first | (simp_all [psR, psOkB, psF]; done) | (have h3 := inB_iff.1 g3; have := u8w h3.1 h3.2; simp_all [psR, psOkB, psF])
        · refine vc_skip ?_
          refine thn ?_
          refine vc_sr ?_
          refine vo ?_
          refine voc c_spec_Word32 rfl rfl ?_
          refine vzs (word32_le _) fun z1 => ?_
          refine vo ?_
          refine voc c_spec_Word32 rfl rfl ?_
          refine vzs (word32_le _) fun z2 => ?_
          iterate 5 refine vo ?_
          refine vs2 ?_
          iterate 2 refine vo ?_
          refine voc c_spec_Word16 rfl rfl ?_
          refine vzs (word16_le _) fun z3 => ?_
          iterate 3 refine vo ?_
          refine vnt ?_
          refine vc_ret ?_
          refine fin_i [] rfl (fz ?_) trivial
          first | (simp_all [psR, psOkB, psF]; done) | (have h3 := inB_iff.1 g3; have := u8w h3.1 h3.2; simp_all [psR, psOkB, psF])
def ethOkB (dst src vl ty : Int) (n : Nat) : Bool := inB dst 0 281474976710655 && inB src 0 281474976710655 && inB vl (-1) 4095 && inB ty 1536 65535 && !decide (ty = 33024) && inB n 46 400
def ethF (dst src vl ty : Int) (body : ByteArray) : ByteArray := if 0 ≤ vl then macF dst ++ macF src ++ (word16 33024 ++ word16 vl) ++ word16 ty ++ body else macF dst ++ macF src ++ word16 ty ++ body
def ethR (dst src vl ty : Int) (body : ByteArray) : ByteArray := if ethOkB dst src vl ty body.size then ethF dst src vl ty body else ⟨#[]⟩
def ipOkB (tos id ttl pr src dst : Int) (n : Nat) : Bool := inB tos 0 255 && inB ttl 0 255 && inB pr 0 255 && inB id 0 65535 && inB src 0 4294967295 && inB dst 0 4294967295 && decide (n ≤ 380)
def ipH0 (tos id ttl pr src dst : Int) (n : Nat) : ByteArray := strOfNums [69, tos] ++ word16 (20 + n) ++ word16 id ++ word16 16384 ++ strOfNums [ttl, pr] ++ word16 0 ++ word32 src ++ word32 dst
def ipHF (tos id ttl pr src dst : Int) (n : Nat) : ByteArray := putBF (ipH0 tos id ttl pr src dst n) 10 (word16 (checkF (ipH0 tos id ttl pr src dst n)))
def ipHR (tos id ttl pr src dst : Int) (n : Nat) : ByteArray := if ipOkB tos id ttl pr src dst n then ipHF tos id ttl pr src dst n else ⟨#[]⟩
def ipR (tos id ttl pr src dst : Int) (body : ByteArray) : ByteArray := if ipOkB tos id ttl pr src dst body.size then ipHF tos id ttl pr src dst body.size ++ body else ⟨#[]⟩
theorem ipHR_ok {tos id ttl pr src dst : Int} {n : Nat} (h : ipOkB tos id ttl pr src dst n = true) : ipHR tos id ttl pr src dst n = ipHF tos id ttl pr src dst n := if_pos h
theorem ipOk_w {tos id ttl pr src dst : Int} {n : Nat} (h : ipOkB tos id ttl pr src dst n = true) : IntKind.u8.wrap tos = tos ∧ IntKind.u8.wrap ttl = ttl ∧ IntKind.u8.wrap pr = pr := by
  simp only [ipOkB, Bool.and_eq_true, inB_iff] at h
  exact ⟨u8w h.1.1.1.1.1.1.1 h.1.1.1.1.1.1.2, u8w h.1.1.1.1.1.2.1 h.1.1.1.1.1.2.2, u8w h.1.1.1.1.2.1 h.1.1.1.1.2.2⟩
set_option maxHeartbeats 4000000 in
theorem c_impl_PadBody {s : ByteArray} (hs_s : s.size ≤ 1099511627776 := by first | assumption | omega | (simp only [ByteArray.size_append, ByteArray.size_extract, strOfNums_size, List.length_cons, List.length_nil]; omega)) : Con0 Tryz.prog 127 [Z s] (Z (padF s)) [] := by
  refine con_i Tryz.func127 Tryz.ntmps127 (t := [(0, Z s)]) rfl ?_
  refine vc_sr ?_
  refine vo ?_
  refine vnt ?_
  refine vc_seq' ?_
  refine vc_sr ?_
  iterate 3 refine vo ?_
  refine vnt ?_
  refine vc_if (fun g1 => ?_) (fun g1 => ?_)
  · refine vc_sr ?_
    iterate 2 refine vo ?_
    refine vnt ?_
    refine vc_ret ?_
    refine thn_r ?_
    refine fin_i [] rfl (fz ?_) trivial
    first | (rw [padF, if_neg (by omega)]; done) | (rw [padF, if_pos (by omega), show (46 - (s.size : Int)).toNat = 46 - s.size by omega])
  · refine vc_skip ?_
    refine thn ?_
    refine vc_sr ?_
    iterate 4 refine vo ?_
    try refine vwr ?_
    refine voc c_impl_repeat rfl rfl ?_
    refine vzs (rep_le _ _) fun z1 => ?_
    iterate 2 refine vo ?_
    refine vnt ?_
    refine vc_ret ?_
    refine fin_i [] rfl (fz ?_) trivial
    first | (rw [padF, if_neg (by omega)]; done) | (rw [padF, if_pos (by omega), show (46 - (s.size : Int)).toNat = 46 - s.size by omega])
set_option maxHeartbeats 4000000 in
theorem c_impl_EthOk {dst src vl ty : Int} {body : ByteArray} (hs_body : body.size ≤ 1099511627776 := by first | assumption | omega | (simp only [ByteArray.size_append, ByteArray.size_extract, strOfNums_size, List.length_cons, List.length_nil]; omega)) : Con0 Tryz.prog 149 [.agg [V dst, V src, V vl, V ty, VS body]] (B (ethOkB dst src vl ty body.size)) [] := by
  refine con_i Tryz.func149 Tryz.ntmps149 (t := [(0, .agg [V dst, V src, V vl, V ty, VS body])]) rfl ?_
  refine vc_sr ?_
  iterate 2 refine vo ?_
  refine vnt ?_
  refine vc_sr ?_
  iterate 2 refine vo ?_
  refine voc c_impl_between rfl rfl ?_
  refine vo ?_
  refine vsp (fun g1 => ?_) (fun g1 => ?_)
  · iterate 2 refine von ?_
    refine vocn c_impl_between rfl rfl ?_
    iterate 2 refine vo ?_
    refine vsp (fun g2 => ?_) (fun g2 => ?_)
    · iterate 2 refine von ?_
      refine vocn c_impl_between rfl rfl ?_
      iterate 2 refine vo ?_
      refine vsp (fun g3 => ?_) (fun g3 => ?_)
      · iterate 2 refine von ?_
        refine vocn c_impl_between rfl rfl ?_
        iterate 2 refine vo ?_
        refine vsp (fun g4 => ?_) (fun g4 => ?_)
        · iterate 3 refine von ?_
          iterate 2 refine vo ?_
          refine vsp (fun g5 => ?_) (fun g5 => ?_)
          · iterate 3 refine von ?_
            refine vocn c_impl_between rfl rfl ?_
            iterate 2 refine vo ?_
            refine vnt ?_
            refine vc_ret ?_
            refine fin_i [] rfl (fz ?_) trivial
            simp_all [ethOkB]
          · iterate 4 refine vof ?_
            iterate 2 refine vo ?_
            refine vnt ?_
            refine vc_ret ?_
            refine fin_i [] rfl (fz ?_) trivial
            simp_all [ethOkB]
        · iterate 3 refine vof ?_
          iterate 2 refine vo ?_
          iterate 4 refine vof ?_
          iterate 2 refine vo ?_
          refine vnt ?_
          refine vc_ret ?_
          refine fin_i [] rfl (fz ?_) trivial
          simp_all [ethOkB]
      · iterate 3 refine vof ?_
        iterate 2 refine vo ?_
        iterate 3 refine vof ?_
        iterate 2 refine vo ?_
        iterate 4 refine vof ?_
        iterate 2 refine vo ?_
        refine vnt ?_
        refine vc_ret ?_
        refine fin_i [] rfl (fz ?_) trivial
        simp_all [ethOkB]
    · iterate 3 refine vof ?_
      iterate 2 refine vo ?_
      iterate 3 refine vof ?_
      iterate 2 refine vo ?_
      iterate 3 refine vof ?_
      iterate 2 refine vo ?_
      iterate 4 refine vof ?_
      iterate 2 refine vo ?_
      refine vnt ?_
      refine vc_ret ?_
      refine fin_i [] rfl (fz ?_) trivial
      simp_all [ethOkB]
  · iterate 3 refine vof ?_
    iterate 2 refine vo ?_
    iterate 3 refine vof ?_
    iterate 2 refine vo ?_
    iterate 3 refine vof ?_
    iterate 2 refine vo ?_
    iterate 3 refine vof ?_
    iterate 2 refine vo ?_
    iterate 4 refine vof ?_
    iterate 2 refine vo ?_
    refine vnt ?_
    refine vc_ret ?_
    refine fin_i [] rfl (fz ?_) trivial
    simp_all [ethOkB]
set_option maxHeartbeats 4000000 in
theorem c_impl_BuildEth {dst src vl ty : Int} {body : ByteArray} (hs_body : body.size ≤ 1099511627776 := by first | assumption | omega | (simp only [ByteArray.size_append, ByteArray.size_extract, strOfNums_size, List.length_cons, List.length_nil]; omega)) : Con0 Tryz.prog 126 [.agg [V dst, V src, V vl, V ty, VS body]] (.tup [Z (ethR dst src vl ty body), B (ethOkB dst src vl ty body.size)]) [] := by
  refine con_i Tryz.func126 Tryz.ntmps126 (t := [(0, .agg [V dst, V src, V vl, V ty, VS body])]) rfl ?_
  refine vc_sr ?_
  iterate 3 refine vo ?_
  refine vnt ?_
  refine vc_seq' ?_
  refine vc_sr ?_
  refine vo ?_
  refine voc c_impl_EthOk rfl rfl ?_
  refine vo ?_
  refine vnt ?_
  refine vc_if (fun g1 => ?_) (fun g1 => ?_)
  · refine vc_sr ?_
    iterate 2 refine vo ?_
    refine vnt ?_
    refine vc_ret ?_
    refine thn_r ?_
    refine fin_i [] rfl (fz ?_) trivial
    first | (simp [ethR, g1]; done) | (simp [ethR, g1, ethF, g2, ByteArray.append_assoc]; done) | (simp [ethR, g1, ethF, ByteArray.append_assoc]; omega)
  · refine vc_skip ?_
    refine thn ?_
    refine vc_sr ?_
    iterate 2 refine vo ?_
    refine voc c_impl_macBytes rfl rfl ?_
    refine vzs (mac_le _) fun z1 => ?_
    iterate 2 refine vo ?_
    refine voc c_impl_macBytes rfl rfl ?_
    refine vzs (mac_le _) fun z2 => ?_
    iterate 2 refine vo ?_
    refine vnt ?_
    refine vc_seq' ?_
    refine vc_sr ?_
    iterate 3 refine vo ?_
    refine vnt ?_
    refine vc_if (fun g2 => ?_) (fun g2 => ?_)
    · refine vc_region ?_
      refine vo ?_
      refine voc c_impl_Word16 rfl rfl ?_
      refine vzs (word16_le _) fun z3 => ?_
      iterate 2 refine vo ?_
      refine voc c_impl_Word16 rfl rfl ?_
      refine vzs (word16_le _) fun z4 => ?_
      iterate 3 refine vo ?_
      refine vnt ?_
      refine vc_sr ?_
      iterate 3 refine vo ?_
      refine voc c_impl_Word16 rfl rfl ?_
      refine vzs (word16_le _) fun z5 => ?_
      iterate 6 refine vo ?_
      refine vnt ?_
      refine vc_ret ?_
      refine fin_i [] rfl (fz ?_) trivial
      first | (simp [ethR, g1]; done) | (simp [ethR, g1, ethF, g2, ByteArray.append_assoc]; done) | (simp [ethR, g1, ethF, ByteArray.append_assoc]; omega)
    · refine vc_skip ?_
      refine thn ?_
      refine vc_sr ?_
      iterate 3 refine vo ?_
      refine voc c_impl_Word16 rfl rfl ?_
      refine vzs (word16_le _) fun z6 => ?_
      iterate 6 refine vo ?_
      refine vnt ?_
      refine vc_ret ?_
      refine fin_i [] rfl (fz ?_) trivial
      first | (simp [ethR, g1]; done) | (simp [ethR, g1, ethF, g2, ByteArray.append_assoc]; done) | (simp [ethR, g1, ethF, ByteArray.append_assoc]; omega)
set_option maxHeartbeats 4000000 in
theorem c_impl_IpOk {tos id ttl pr src dst : Int} {body : ByteArray} (hs_body : body.size ≤ 1099511627776 := by first | assumption | omega | (simp only [ByteArray.size_append, ByteArray.size_extract, strOfNums_size, List.length_cons, List.length_nil]; omega)) : Con0 Tryz.prog 157 [.agg [V tos, V id, V ttl, V pr, V src, V dst, VS body]] (B (ipOkB tos id ttl pr src dst body.size)) [] := by
  refine con_i Tryz.func157 Tryz.ntmps157 (t := [(0, .agg [V tos, V id, V ttl, V pr, V src, V dst, VS body])]) rfl ?_
  refine vc_sr ?_
  iterate 2 refine vo ?_
  refine vnt ?_
  refine vc_sr ?_
  iterate 2 refine vo ?_
  refine voc c_impl_between rfl rfl ?_
  refine vo ?_
  refine vsp (fun g1 => ?_) (fun g1 => ?_)
  · iterate 2 refine von ?_
    refine vocn c_impl_between rfl rfl ?_
    iterate 2 refine vo ?_
    refine vsp (fun g2 => ?_) (fun g2 => ?_)
    · iterate 2 refine von ?_
      refine vocn c_impl_between rfl rfl ?_
      iterate 2 refine vo ?_
      refine vsp (fun g3 => ?_) (fun g3 => ?_)
      · iterate 2 refine von ?_
        refine vocn c_impl_between rfl rfl ?_
        iterate 2 refine vo ?_
        refine vsp (fun g4 => ?_) (fun g4 => ?_)
        · iterate 2 refine von ?_
          refine vocn c_impl_between rfl rfl ?_
          iterate 2 refine vo ?_
          refine vsp (fun g5 => ?_) (fun g5 => ?_)
          · iterate 2 refine von ?_
            refine vocn c_impl_between rfl rfl ?_
            iterate 2 refine vo ?_
            refine vsp (fun g6 => ?_) (fun g6 => ?_)
            · iterate 4 refine von ?_
              iterate 2 refine vo ?_
              refine vnt ?_
              refine vc_ret ?_
              refine fin_i [] rfl (fz ?_) trivial
              simp_all [ipOkB]
              try omega
            · iterate 4 refine vof ?_
              iterate 2 refine vo ?_
              refine vnt ?_
              refine vc_ret ?_
              refine fin_i [] rfl (fz ?_) trivial
              simp_all [ipOkB]
              try omega
          · iterate 3 refine vof ?_
            iterate 2 refine vo ?_
            iterate 4 refine vof ?_
            iterate 2 refine vo ?_
            refine vnt ?_
            refine vc_ret ?_
            refine fin_i [] rfl (fz ?_) trivial
            simp_all [ipOkB]
            try omega
        · iterate 3 refine vof ?_
          iterate 2 refine vo ?_
          iterate 3 refine vof ?_
          iterate 2 refine vo ?_
          iterate 4 refine vof ?_
          iterate 2 refine vo ?_
          refine vnt ?_
          refine vc_ret ?_
          refine fin_i [] rfl (fz ?_) trivial
          simp_all [ipOkB]
          try omega
      · iterate 3 refine vof ?_
        iterate 2 refine vo ?_
        iterate 3 refine vof ?_
        iterate 2 refine vo ?_
        iterate 3 refine vof ?_
        iterate 2 refine vo ?_
        iterate 4 refine vof ?_
        iterate 2 refine vo ?_
        refine vnt ?_
        refine vc_ret ?_
        refine fin_i [] rfl (fz ?_) trivial
        simp_all [ipOkB]
        try omega
    · iterate 3 refine vof ?_
      iterate 2 refine vo ?_
      iterate 3 refine vof ?_
      iterate 2 refine vo ?_
      iterate 3 refine vof ?_
      iterate 2 refine vo ?_
      iterate 3 refine vof ?_
      iterate 2 refine vo ?_
      iterate 4 refine vof ?_
      iterate 2 refine vo ?_
      refine vnt ?_
      refine vc_ret ?_
      refine fin_i [] rfl (fz ?_) trivial
      simp_all [ipOkB]
      try omega
  · iterate 3 refine vof ?_
    iterate 2 refine vo ?_
    iterate 3 refine vof ?_
    iterate 2 refine vo ?_
    iterate 3 refine vof ?_
    iterate 2 refine vo ?_
    iterate 3 refine vof ?_
    iterate 2 refine vo ?_
    iterate 3 refine vof ?_
    iterate 2 refine vo ?_
    iterate 4 refine vof ?_
    iterate 2 refine vo ?_
    refine vnt ?_
    refine vc_ret ?_
    refine fin_i [] rfl (fz ?_) trivial
    simp_all [ipOkB]
    try omega
set_option maxHeartbeats 4000000 in
theorem c_impl_IpHeader {tos id ttl pr src dst : Int} {body : ByteArray} (hs_body : body.size ≤ 1099511627776 := by first | assumption | omega | (simp only [ByteArray.size_append, ByteArray.size_extract, strOfNums_size, List.length_cons, List.length_nil]; omega)) : Con0 Tryz.prog 148 [.agg [V tos, V id, V ttl, V pr, V src, V dst, VS body]] (.tup [Z (ipHR tos id ttl pr src dst body.size), B (ipOkB tos id ttl pr src dst body.size)]) [] := by
  refine con_i Tryz.func148 Tryz.ntmps148 (t := [(0, .agg [V tos, V id, V ttl, V pr, V src, V dst, VS body])]) rfl ?_
  refine vc_sr ?_
  iterate 3 refine vo ?_
  refine vnt ?_
  refine vc_seq' ?_
  refine vc_sr ?_
  refine vo ?_
  refine voc c_impl_IpOk rfl rfl ?_
  refine vo ?_
  refine vnt ?_
  refine vc_if (fun g1 => ?_) (fun g1 => ?_)
  · refine vc_sr ?_
    iterate 2 refine vo ?_
    refine vnt ?_
    refine vc_ret ?_
    refine thn_r ?_
    refine fin_i [] rfl (fz ?_) trivial
    first | (simp [ipHR, g1]; done) | (have hw := ipOk_w g1; simp [ipHR, g1, ipHF, ipH0, hw])
  · refine vc_skip ?_
    refine thn ?_
    refine vc_sr ?_
    iterate 5 refine vo ?_
    refine vs2 ?_
    iterate 4 refine vo ?_
    try refine vwr ?_
    refine voc c_impl_Word16 rfl rfl ?_
    refine vzs (word16_le _) fun z1 => ?_
    iterate 3 refine vo ?_
    refine voc c_impl_Word16 rfl rfl ?_
    refine vzs (word16_le _) fun z2 => ?_
    refine vo ?_
    refine voc c_impl_Word16 rfl rfl ?_
    refine vzs (word16_le _) fun z3 => ?_
    iterate 9 refine vo ?_
    refine vs2 ?_
    refine vo ?_
    refine voc c_impl_Word16 rfl rfl ?_
    refine vzs (word16_le _) fun z4 => ?_
    iterate 3 refine vo ?_
    refine voc c_impl_Word32 rfl rfl ?_
    refine vzs (word32_le _) fun z5 => ?_
    iterate 3 refine vo ?_
    refine voc c_impl_Word32 rfl rfl ?_
    refine vzs (word32_le _) fun z6 => ?_
    iterate 2 refine vo ?_
    refine vnt ?_
    refine vc_sr ?_
    iterate 2 refine vo ?_
    refine voc c_impl_Checksum rfl rfl ?_
    refine voc c_impl_Word16 rfl rfl ?_
    refine vzs (word16_le _) fun z7 => ?_
    refine voc c_impl_PutBytes rfl rfl ?_
    refine vzs (Nat.le_of_eq (putBF_le _ _ _)) fun z8 => ?_
    iterate 2 refine vo ?_
    refine vnt ?_
    refine vc_ret ?_
    refine fin_i [] rfl (fz ?_) trivial
    first | (simp [ipHR, g1]; done) | (have hw := ipOk_w g1; simp [ipHR, g1, ipHF, ipH0, hw])
set_option maxHeartbeats 4000000 in
theorem c_spec_PadBody {s : ByteArray} (hs_s : s.size ≤ 1099511627776 := by first | assumption | omega | (simp only [ByteArray.size_append, ByteArray.size_extract, strOfNums_size, List.length_cons, List.length_nil]; omega)) : Con0 Tryz.prog 116 [Z s] (Z (padF s)) [] := by
  refine con_i Tryz.func116 Tryz.ntmps116 (t := [(0, Z s)]) rfl ?_
  refine vc_sr ?_
  refine vo ?_
  refine vnt ?_
  refine vc_seq' ?_
  refine vc_sr ?_
  iterate 3 refine vo ?_
  refine vnt ?_
  refine vc_if (fun g1 => ?_) (fun g1 => ?_)
  · refine vc_sr ?_
    iterate 4 refine vo ?_
    try refine vwr ?_
    refine voc c_spec_l01Long rfl rfl ?_
    refine vzs (rep_le _ _) fun z1 => ?_
    iterate 2 refine vo ?_
    refine vnt ?_
    refine vc_ret ?_
    refine thn_r ?_
    refine fin_i [] rfl (fz ?_) trivial
    first | (rw [padF, if_neg (by omega)]; done) | (rw [padF, if_pos (by omega), show (46 - (s.size : Int)).toNat = 46 - s.size by omega])
  · refine vc_skip ?_
    refine thn ?_
    refine vc_sr ?_
    iterate 2 refine vo ?_
    refine vnt ?_
    refine vc_ret ?_
    refine fin_i [] rfl (fz ?_) trivial
    first | (rw [padF, if_neg (by omega)]; done) | (rw [padF, if_pos (by omega), show (46 - (s.size : Int)).toNat = 46 - s.size by omega])
set_option maxHeartbeats 4000000 in
theorem c_spec_EthOk {dst src vl ty : Int} {body : ByteArray} (hs_body : body.size ≤ 1099511627776 := by first | assumption | omega | (simp only [ByteArray.size_append, ByteArray.size_extract, strOfNums_size, List.length_cons, List.length_nil]; omega)) : Con0 Tryz.prog 138 [.agg [V dst, V src, V vl, V ty, VS body]] (B (ethOkB dst src vl ty body.size)) [] := by
  refine con_i Tryz.func138 Tryz.ntmps138 (t := [(0, .agg [V dst, V src, V vl, V ty, VS body])]) rfl ?_
  refine vc_sr ?_
  iterate 2 refine vo ?_
  refine vnt ?_
  refine vc_sr ?_
  iterate 2 refine vo ?_
  refine voc c_spec_l01In rfl rfl ?_
  refine vo ?_
  refine vsp (fun g1 => ?_) (fun g1 => ?_)
  · iterate 2 refine von ?_
    refine vocn c_spec_l01In rfl rfl ?_
    iterate 2 refine vo ?_
    refine vsp (fun g2 => ?_) (fun g2 => ?_)
    · iterate 2 refine von ?_
      refine vocn c_spec_l01In rfl rfl ?_
      iterate 2 refine vo ?_
      refine vsp (fun g3 => ?_) (fun g3 => ?_)
      · iterate 2 refine von ?_
        refine vocn c_spec_l01In rfl rfl ?_
        iterate 2 refine vo ?_
        refine vsp (fun g4 => ?_) (fun g4 => ?_)
        · iterate 3 refine von ?_
          iterate 2 refine vo ?_
          refine vsp (fun g5 => ?_) (fun g5 => ?_)
          · iterate 3 refine von ?_
            refine vocn c_spec_l01In rfl rfl ?_
            iterate 2 refine vo ?_
            refine vnt ?_
            refine vc_ret ?_
            refine fin_i [] rfl (fz ?_) trivial
            simp_all [ethOkB]
          · iterate 4 refine vof ?_
            iterate 2 refine vo ?_
            refine vnt ?_
            refine vc_ret ?_
            refine fin_i [] rfl (fz ?_) trivial
            simp_all [ethOkB]
        · iterate 3 refine vof ?_
          iterate 2 refine vo ?_
          iterate 4 refine vof ?_
          iterate 2 refine vo ?_
          refine vnt ?_
          refine vc_ret ?_
          refine fin_i [] rfl (fz ?_) trivial
          simp_all [ethOkB]
      · iterate 3 refine vof ?_
        iterate 2 refine vo ?_
        iterate 3 refine vof ?_
        iterate 2 refine vo ?_
        iterate 4 refine vof ?_
        iterate 2 refine vo ?_
        refine vnt ?_
        refine vc_ret ?_
        refine fin_i [] rfl (fz ?_) trivial
        simp_all [ethOkB]
    · iterate 3 refine vof ?_
      iterate 2 refine vo ?_
      iterate 3 refine vof ?_
      iterate 2 refine vo ?_
      iterate 3 refine vof ?_
      iterate 2 refine vo ?_
      iterate 4 refine vof ?_
      iterate 2 refine vo ?_
      refine vnt ?_
      refine vc_ret ?_
      refine fin_i [] rfl (fz ?_) trivial
      simp_all [ethOkB]
  · iterate 3 refine vof ?_
    iterate 2 refine vo ?_
    iterate 3 refine vof ?_
    iterate 2 refine vo ?_
    iterate 3 refine vof ?_
    iterate 2 refine vo ?_
    iterate 3 refine vof ?_
    iterate 2 refine vo ?_
    iterate 4 refine vof ?_
    iterate 2 refine vo ?_
    refine vnt ?_
    refine vc_ret ?_
    refine fin_i [] rfl (fz ?_) trivial
    simp_all [ethOkB]
set_option maxHeartbeats 4000000 in
theorem c_spec_BuildEth {dst src vl ty : Int} {body : ByteArray} (hs_body : body.size ≤ 1099511627776 := by first | assumption | omega | (simp only [ByteArray.size_append, ByteArray.size_extract, strOfNums_size, List.length_cons, List.length_nil]; omega)) : Con0 Tryz.prog 115 [.agg [V dst, V src, V vl, V ty, VS body]] (.tup [Z (ethR dst src vl ty body), B (ethOkB dst src vl ty body.size)]) [] := by
  refine con_i Tryz.func115 Tryz.ntmps115 (t := [(0, .agg [V dst, V src, V vl, V ty, VS body])]) rfl ?_
  refine vc_sr ?_
  iterate 3 refine vo ?_
  refine vnt ?_
  refine vc_seq' ?_
  refine vc_sr ?_
  refine vo ?_
  refine voc c_spec_EthOk rfl rfl ?_
  refine vo ?_
  refine vnt ?_
  refine vc_if (fun g1 => ?_) (fun g1 => ?_)
  · refine vc_sr ?_
    iterate 2 refine vo ?_
    refine vnt ?_
    refine vc_ret ?_
    refine thn_r ?_
    refine fin_i [] rfl (fz ?_) trivial
    first | (simp [ethR, g1]; done) | (simp [ethR, g1, ethF, g2, ByteArray.append_assoc]; done) | (simp [ethR, g1, ethF, ByteArray.append_assoc]; omega)
  · refine vc_skip ?_
    refine thn ?_
    refine vc_sr ?_
    iterate 2 refine vo ?_
    refine voc c_spec_l04Address rfl rfl ?_
    refine vzs (mac_le _) fun z1 => ?_
    iterate 2 refine vo ?_
    refine voc c_spec_l04Address rfl rfl ?_
    refine vzs (mac_le _) fun z2 => ?_
    iterate 2 refine vo ?_
    refine vnt ?_
    refine vc_seq' ?_
    refine vc_sr ?_
    iterate 3 refine vo ?_
    refine vnt ?_
    refine vc_if (fun g2 => ?_) (fun g2 => ?_)
    · refine vc_region ?_
      refine vo ?_
      refine voc c_spec_Word16 rfl rfl ?_
      refine vzs (word16_le _) fun z3 => ?_
      iterate 3 refine vo ?_
      refine voc c_spec_Word16 rfl rfl ?_
      refine vzs (word16_le _) fun z4 => ?_
      iterate 2 refine vo ?_
      refine vnt ?_
      refine vc_sr ?_
      iterate 3 refine vo ?_
      refine voc c_spec_Word16 rfl rfl ?_
      refine vzs (word16_le _) fun z5 => ?_
      iterate 6 refine vo ?_
      refine vnt ?_
      refine vc_ret ?_
      refine fin_i [] rfl (fz ?_) trivial
      first | (simp [ethR, g1]; done) | (simp [ethR, g1, ethF, g2, ByteArray.append_assoc]; done) | (simp [ethR, g1, ethF, ByteArray.append_assoc]; omega)
    · refine vc_skip ?_
      refine thn ?_
      refine vc_sr ?_
      iterate 3 refine vo ?_
      refine voc c_spec_Word16 rfl rfl ?_
      refine vzs (word16_le _) fun z6 => ?_
      iterate 6 refine vo ?_
      refine vnt ?_
      refine vc_ret ?_
      refine fin_i [] rfl (fz ?_) trivial
      first | (simp [ethR, g1]; done) | (simp [ethR, g1, ethF, g2, ByteArray.append_assoc]; done) | (simp [ethR, g1, ethF, ByteArray.append_assoc]; omega)
set_option maxHeartbeats 4000000 in
theorem c_spec_IpOk {tos id ttl pr src dst : Int} {body : ByteArray} (hs_body : body.size ≤ 1099511627776 := by first | assumption | omega | (simp only [ByteArray.size_append, ByteArray.size_extract, strOfNums_size, List.length_cons, List.length_nil]; omega)) : Con0 Tryz.prog 155 [.agg [V tos, V id, V ttl, V pr, V src, V dst, VS body]] (B (ipOkB tos id ttl pr src dst body.size)) [] := by
  refine con_i Tryz.func155 Tryz.ntmps155 (t := [(0, .agg [V tos, V id, V ttl, V pr, V src, V dst, VS body])]) rfl ?_
  refine vc_sr ?_
  iterate 2 refine vo ?_
  refine vnt ?_
  refine vc_sr ?_
  iterate 2 refine vo ?_
  refine voc c_spec_l01In rfl rfl ?_
  refine vo ?_
  refine vsp (fun g1 => ?_) (fun g1 => ?_)
  · iterate 2 refine von ?_
    refine vocn c_spec_l01In rfl rfl ?_
    iterate 2 refine vo ?_
    refine vsp (fun g2 => ?_) (fun g2 => ?_)
    · iterate 2 refine von ?_
      refine vocn c_spec_l01In rfl rfl ?_
      iterate 2 refine vo ?_
      refine vsp (fun g3 => ?_) (fun g3 => ?_)
      · iterate 2 refine von ?_
        refine vocn c_spec_l01In rfl rfl ?_
        iterate 2 refine vo ?_
        refine vsp (fun g4 => ?_) (fun g4 => ?_)
        · iterate 2 refine von ?_
          refine vocn c_spec_l01In rfl rfl ?_
          iterate 2 refine vo ?_
          refine vsp (fun g5 => ?_) (fun g5 => ?_)
          · iterate 2 refine von ?_
            refine vocn c_spec_l01In rfl rfl ?_
            iterate 2 refine vo ?_
            refine vsp (fun g6 => ?_) (fun g6 => ?_)
            · iterate 4 refine von ?_
              iterate 2 refine vo ?_
              refine vnt ?_
              refine vc_ret ?_
              refine fin_i [] rfl (fz ?_) trivial
              simp_all [ipOkB]
              try omega
            · iterate 4 refine vof ?_
              iterate 2 refine vo ?_
              refine vnt ?_
              refine vc_ret ?_
              refine fin_i [] rfl (fz ?_) trivial
              simp_all [ipOkB]
              try omega
          · iterate 3 refine vof ?_
            iterate 2 refine vo ?_
            iterate 4 refine vof ?_
            iterate 2 refine vo ?_
            refine vnt ?_
            refine vc_ret ?_
            refine fin_i [] rfl (fz ?_) trivial
            simp_all [ipOkB]
            try omega
        · iterate 3 refine vof ?_
          iterate 2 refine vo ?_
          iterate 3 refine vof ?_
          iterate 2 refine vo ?_
          iterate 4 refine vof ?_
          iterate 2 refine vo ?_
          refine vnt ?_
          refine vc_ret ?_
          refine fin_i [] rfl (fz ?_) trivial
          simp_all [ipOkB]
          try omega
      · iterate 3 refine vof ?_
        iterate 2 refine vo ?_
        iterate 3 refine vof ?_
        iterate 2 refine vo ?_
        iterate 3 refine vof ?_
        iterate 2 refine vo ?_
        iterate 4 refine vof ?_
        iterate 2 refine vo ?_
        refine vnt ?_
        refine vc_ret ?_
        refine fin_i [] rfl (fz ?_) trivial
        simp_all [ipOkB]
        try omega
    · iterate 3 refine vof ?_
      iterate 2 refine vo ?_
      iterate 3 refine vof ?_
      iterate 2 refine vo ?_
      iterate 3 refine vof ?_
      iterate 2 refine vo ?_
      iterate 3 refine vof ?_
      iterate 2 refine vo ?_
      iterate 4 refine vof ?_
      iterate 2 refine vo ?_
      refine vnt ?_
      refine vc_ret ?_
      refine fin_i [] rfl (fz ?_) trivial
      simp_all [ipOkB]
      try omega
  · iterate 3 refine vof ?_
    iterate 2 refine vo ?_
    iterate 3 refine vof ?_
    iterate 2 refine vo ?_
    iterate 3 refine vof ?_
    iterate 2 refine vo ?_
    iterate 3 refine vof ?_
    iterate 2 refine vo ?_
    iterate 3 refine vof ?_
    iterate 2 refine vo ?_
    iterate 4 refine vof ?_
    iterate 2 refine vo ?_
    refine vnt ?_
    refine vc_ret ?_
    refine fin_i [] rfl (fz ?_) trivial
    simp_all [ipOkB]
    try omega
set_option maxHeartbeats 4000000 in
theorem c_spec_IpHeader {tos id ttl pr src dst : Int} {body : ByteArray} (hs_body : body.size ≤ 1099511627776 := by first | assumption | omega | (simp only [ByteArray.size_append, ByteArray.size_extract, strOfNums_size, List.length_cons, List.length_nil]; omega)) : Con0 Tryz.prog 137 [.agg [V tos, V id, V ttl, V pr, V src, V dst, VS body]] (.tup [Z (ipHR tos id ttl pr src dst body.size), B (ipOkB tos id ttl pr src dst body.size)]) [] := by
  refine con_i Tryz.func137 Tryz.ntmps137 (t := [(0, .agg [V tos, V id, V ttl, V pr, V src, V dst, VS body])]) rfl ?_
  refine vc_sr ?_
  iterate 3 refine vo ?_
  refine vnt ?_
  refine vc_seq' ?_
  refine vc_sr ?_
  refine vo ?_
  refine voc c_spec_IpOk rfl rfl ?_
  refine vo ?_
  refine vnt ?_
  refine vc_if (fun g1 => ?_) (fun g1 => ?_)
  · refine vc_sr ?_
    iterate 2 refine vo ?_
    refine vnt ?_
    refine vc_ret ?_
    refine thn_r ?_
    refine fin_i [] rfl (fz ?_) trivial
    first | (simp [ipHR, g1]; done) | (have hw := ipOk_w g1; simp [ipHR, g1, ipHF, ipH0, hw])
  · refine vc_skip ?_
    refine thn ?_
    refine vc_sr ?_
    iterate 5 refine vo ?_
    refine vs2 ?_
    iterate 4 refine vo ?_
    try refine vwr ?_
    refine voc c_spec_Word16 rfl rfl ?_
    refine vzs (word16_le _) fun z1 => ?_
    iterate 3 refine vo ?_
    refine voc c_spec_Word16 rfl rfl ?_
    refine vzs (word16_le _) fun z2 => ?_
    refine vo ?_
    refine voc c_spec_Word16 rfl rfl ?_
    refine vzs (word16_le _) fun z3 => ?_
    iterate 9 refine vo ?_
    refine vs2 ?_
    refine vo ?_
    refine voc c_spec_Word16 rfl rfl ?_
    refine vzs (word16_le _) fun z4 => ?_
    iterate 3 refine vo ?_
    refine voc c_spec_Word32 rfl rfl ?_
    refine vzs (word32_le _) fun z5 => ?_
    iterate 3 refine vo ?_
    refine voc c_spec_Word32 rfl rfl ?_
    refine vzs (word32_le _) fun z6 => ?_
    iterate 2 refine vo ?_
    refine vnt ?_
    refine vc_sr ?_
    iterate 2 refine vo ?_
    refine voc c_spec_Checksum rfl rfl ?_
    refine voc c_spec_Word16 rfl rfl ?_
    refine vzs (word16_le _) fun z7 => ?_
    refine voc c_spec_PutBytes rfl rfl ?_
    refine vzs (Nat.le_of_eq (putBF_le _ _ _)) fun z8 => ?_
    iterate 2 refine vo ?_
    refine vnt ?_
    refine vc_ret ?_
    refine fin_i [] rfl (fz ?_) trivial
    first | (simp [ipHR, g1]; done) | (have hw := ipOk_w g1; simp [ipHR, g1, ipHF, ipH0, hw])
def bareF (kind sp dp seq ack fl win : Int) (body : ByteArray) : ByteArray := if kind = 6 then word16 sp ++ word16 dp ++ word32 seq ++ word32 ack ++ strOfNums [80, fl] ++ word16 win ++ word16 0 ++ word16 0 ++ body else word16 sp ++ word16 dp ++ word16 (8 + body.size) ++ word16 0 ++ body
theorem ipH_le (tos id ttl pr src dst : Int) (n : Nat) : (ipHF tos id ttl pr src dst n).size ≤ 24 := by
  have h1 := word16_le (20 + n); have h2 := word16_le id; have h3 := word16_le 16384; have h4 := word16_le 0; have h5 := word32_le src; have h6 := word32_le dst
  unfold ipHF
  rw [putBF_le, ipH0]
  simp only [ByteArray.size_append, strOfNums_size, List.length_cons, List.length_nil]
  omega
theorem bare_le (kind sp dp seq ack fl win : Int) (body : ByteArray) : (bareF kind sp dp seq ack fl win body).size ≤ body.size + 20 := by
  have h1 := word16_le sp; have h2 := word16_le dp; have h3 := word32_le seq; have h4 := word32_le ack; have h5 := word16_le win; have h6 := word16_le 0; have h7 := word16_le (8 + body.size)
  unfold bareF
  split <;> simp only [ByteArray.size_append, strOfNums_size, List.length_cons, List.length_nil] <;> omega
def sumPl (kind : Int) : Int := if kind = 6 then 16 else 6
def segF (src dst kind sp dp seq ack fl win : Int) (body : ByteArray) : ByteArray := putBF (bareF kind sp dp seq ack fl win body) (sumPl kind) (word16 (if kind = 17 ∧ checkF (psF src dst kind (bareF kind sp dp seq ack fl win body).size ++ bareF kind sp dp seq ack fl win body) = 0 then 65535 else checkF (psF src dst kind (bareF kind sp dp seq ack fl win body).size ++ bareF kind sp dp seq ack fl win body)))
set_option maxHeartbeats 4000000 in
theorem c_impl_BuildIp {tos id ttl pr src dst : Int} {body : ByteArray} (hs_body : body.size ≤ 1099511627776 := by first | assumption | omega | (simp only [ByteArray.size_append, ByteArray.size_extract, strOfNums_size, List.length_cons, List.length_nil]; omega)) : Con0 Tryz.prog 125 [.agg [V tos, V id, V ttl, V pr, V src, V dst, VS body]] (.tup [Z (ipR tos id ttl pr src dst body), B (ipOkB tos id ttl pr src dst body.size)]) [] := by
  refine con_i Tryz.func125 Tryz.ntmps125 (t := [(0, .agg [V tos, V id, V ttl, V pr, V src, V dst, VS body])]) rfl ?_
  refine vc_sr ?_
  iterate 3 refine vo ?_
  refine vnt ?_
  refine vc_sr ?_
  refine vo ?_
  refine voc c_impl_IpHeader rfl rfl ?_
  iterate 5 refine vo ?_
  refine vnt ?_
  refine vc_seq' ?_
  refine vc_sr ?_
  iterate 2 refine vo ?_
  refine vnt ?_
  refine vc_if (fun g1 => ?_) (fun g1 => ?_)
  · refine vc_sr ?_
    iterate 2 refine vo ?_
    refine vnt ?_
    refine vc_ret ?_
    refine thn_r ?_
    refine fin_i [] rfl (fz ?_) trivial
    simp [ipR, g1]
  · rw [ipHR_ok g1]
    have z := ipH_le tos id ttl pr src dst body.size
    refine vc_skip ?_
    refine thn ?_
    refine vc_sr ?_
    iterate 6 refine vo ?_
    refine vnt ?_
    refine vc_ret ?_
    refine fin_i [] rfl (fz ?_) trivial
    simp [ipR, g1]
set_option maxHeartbeats 4000000 in
theorem c_spec_BuildIp {tos id ttl pr src dst : Int} {body : ByteArray} (hs_body : body.size ≤ 1099511627776 := by first | assumption | omega | (simp only [ByteArray.size_append, ByteArray.size_extract, strOfNums_size, List.length_cons, List.length_nil]; omega)) : Con0 Tryz.prog 114 [.agg [V tos, V id, V ttl, V pr, V src, V dst, VS body]] (.tup [Z (ipR tos id ttl pr src dst body), B (ipOkB tos id ttl pr src dst body.size)]) [] := by
  refine con_i Tryz.func114 Tryz.ntmps114 (t := [(0, .agg [V tos, V id, V ttl, V pr, V src, V dst, VS body])]) rfl ?_
  refine vc_sr ?_
  iterate 3 refine vo ?_
  refine vnt ?_
  refine vc_sr ?_
  refine vo ?_
  refine voc c_spec_IpHeader rfl rfl ?_
  iterate 5 refine vo ?_
  refine vnt ?_
  refine vc_seq' ?_
  refine vc_sr ?_
  iterate 2 refine vo ?_
  refine vnt ?_
  refine vc_if (fun g1 => ?_) (fun g1 => ?_)
  · refine vc_sr ?_
    iterate 2 refine vo ?_
    refine vnt ?_
    refine vc_ret ?_
    refine thn_r ?_
    refine fin_i [] rfl (fz ?_) trivial
    simp [ipR, g1]
  · rw [ipHR_ok g1]
    have z := ipH_le tos id ttl pr src dst body.size
    refine vc_skip ?_
    refine thn ?_
    refine vc_sr ?_
    iterate 6 refine vo ?_
    refine vnt ?_
    refine vc_ret ?_
    refine fin_i [] rfl (fz ?_) trivial
    simp [ipR, g1]
set_option maxHeartbeats 4000000 in
theorem c_impl_sumPlace {kind : Int} : Con0 Tryz.prog 129 [I kind] (I (sumPl kind)) [] := by
  refine con_i Tryz.func129 Tryz.ntmps129 (t := [(0, I kind)]) rfl ?_
  refine vc_sr ?_
  refine vo ?_
  refine vnt ?_
  refine vc_seq' ?_
  refine vc_sr ?_
  iterate 2 refine vo ?_
  refine vnt ?_
  refine vc_if (fun g1 => ?_) (fun g1 => ?_)
  · refine vc_sr ?_
    refine vo ?_
    refine vnt ?_
    refine vc_ret ?_
    refine thn_r ?_
    refine fin_i [] rfl (fz ?_) trivial
    simp [sumPl, g1]
  · refine vc_skip ?_
    refine thn ?_
    refine vc_sr ?_
    refine vo ?_
    refine vnt ?_
    refine vc_ret ?_
    refine fin_i [] rfl (fz ?_) trivial
    simp [sumPl, g1]
set_option maxHeartbeats 4000000 in
theorem c_impl_bareSegment {kind sp dp seq ack fl win : Int} {body : ByteArray} (hs_body : body.size ≤ 1099511627776 := by first | assumption | omega | (simp only [ByteArray.size_append, ByteArray.size_extract, strOfNums_size, List.length_cons, List.length_nil]; omega)) (hf : kind = 6 → 0 ≤ fl ∧ fl ≤ 255 := by assumption) : Con0 Tryz.prog 145 [.agg [V kind, V sp, V dp, V seq, V ack, V fl, V win, VS body]] (Z (bareF kind sp dp seq ack fl win body)) [] := by
  refine con_i Tryz.func145 Tryz.ntmps145 (t := [(0, .agg [V kind, V sp, V dp, V seq, V ack, V fl, V win, VS body])]) rfl ?_
  refine vc_sr ?_
  iterate 2 refine vo ?_
  refine vnt ?_
  refine vc_sr ?_
  iterate 2 refine vo ?_
  refine voc c_impl_Word16 rfl rfl ?_
  refine vzs (word16_le _) fun z1 => ?_
  iterate 2 refine vo ?_
  refine voc c_impl_Word16 rfl rfl ?_
  refine vzs (word16_le _) fun z2 => ?_
  iterate 2 refine vo ?_
  refine vnt ?_
  refine vc_seq' ?_
  refine vc_sr ?_
  iterate 3 refine vo ?_
  refine vnt ?_
  refine vc_if (fun g1 => ?_) (fun g1 => ?_)
  · refine vc_sr ?_
    iterate 3 refine vo ?_
    refine voc c_impl_Word32 rfl rfl ?_
    refine vzs (word32_le _) fun z3 => ?_
    iterate 3 refine vo ?_
    refine voc c_impl_Word32 rfl rfl ?_
    refine vzs (word32_le _) fun z4 => ?_
    iterate 6 refine vo ?_
    refine vs2 ?_
    iterate 3 refine vo ?_
    refine voc c_impl_Word16 rfl rfl ?_
    refine vzs (word16_le _) fun z5 => ?_
    refine vo ?_
    refine voc c_impl_Word16 rfl rfl ?_
    refine vzs (word16_le _) fun z6 => ?_
    refine vo ?_
    refine voc c_impl_Word16 rfl rfl ?_
    refine vzs (word16_le _) fun z7 => ?_
    iterate 5 refine vo ?_
    refine vnt ?_
    refine vc_ret ?_
    refine thn_r ?_
    refine fin_i [] rfl (fz ?_) trivial
    first | (have := hf g1; have hw := u8w this.1 this.2; simp [bareF, g1, hw]; done) | (simp [bareF, g1]; done) | trace_state
  · refine vc_skip ?_
    refine thn ?_
    refine vc_sr ?_
    iterate 5 refine vo ?_
    try refine vwr ?_
    refine voc c_impl_Word16 rfl rfl ?_
    refine vzs (word16_le _) fun z8 => ?_
    refine vo ?_
    refine voc c_impl_Word16 rfl rfl ?_
    refine vzs (word16_le _) fun z9 => ?_
    iterate 5 refine vo ?_
    refine vnt ?_
    refine vc_ret ?_
    refine fin_i [] rfl (fz ?_) trivial
    first | (have := hf g1; have hw := u8w this.1 this.2; simp [bareF, g1, hw]; done) | (simp [bareF, g1]; done) | trace_state
theorem segOk_kind {kind sp dp seq ack fl win : Int} {n : Nat} (h : segOkB kind sp dp seq ack fl win n = true) : (kind = 6 ∨ kind = 17) ∧ n ≤ 320 ∧ 0 ≤ fl ∧ fl ≤ 31 := by
  have := segOk_fl h
  simp only [segOkB, Bool.and_eq_true, Bool.or_eq_true, inB_iff, beq_iff_eq] at h
  simp at h
  omega
def segC (src dst kind sp dp seq ack fl win : Int) (body : ByteArray) : Bool := segOkB kind sp dp seq ack fl win body.size && psOkB src dst kind (bareF kind sp dp seq ack fl win body).size
def segR (src dst kind sp dp seq ack fl win : Int) (body : ByteArray) : ByteArray := if segC src dst kind sp dp seq ack fl win body then segF src dst kind sp dp seq ack fl win body else ⟨#[]⟩
theorem seg_n1 {src dst kind sp dp seq ack fl win : Int} {body : ByteArray} (h : segOkB kind sp dp seq ack fl win body.size = false) : segR src dst kind sp dp seq ack fl win body = ⟨#[]⟩ ∧ segC src dst kind sp dp seq ack fl win body = false := by
  have : segC src dst kind sp dp seq ack fl win body = false := by unfold segC; rw [h]; rfl
  exact ⟨if_neg (by rw [this]; exact Bool.false_ne_true), this⟩
theorem seg_n2 {src dst kind sp dp seq ack fl win : Int} {body : ByteArray} (h : psOkB src dst kind (bareF kind sp dp seq ack fl win body).size = false) : segR src dst kind sp dp seq ack fl win body = ⟨#[]⟩ ∧ segC src dst kind sp dp seq ack fl win body = false := by
  have : segC src dst kind sp dp seq ack fl win body = false := by unfold segC; rw [h, Bool.and_false]
  exact ⟨if_neg (by rw [this]; exact Bool.false_ne_true), this⟩
theorem seg_y0 {src dst kind sp dp seq ack fl win p : Int} {body : ByteArray} (h1 : segOkB kind sp dp seq ack fl win body.size = true) (h2 : psOkB src dst kind (bareF kind sp dp seq ack fl win body).size = true) (hp : sumPl kind = p) (h3 : kind = 17) (h4 : checkF (psF src dst kind (bareF kind sp dp seq ack fl win body).size ++ bareF kind sp dp seq ack fl win body) = 0) : segR src dst kind sp dp seq ack fl win body = putBF (bareF kind sp dp seq ack fl win body) p (word16 65535) ∧ segC src dst kind sp dp seq ack fl win body = true := by
  have : segC src dst kind sp dp seq ack fl win body = true := by unfold segC; rw [h1, h2]; rfl
  refine ⟨?_, this⟩
  unfold segR
  rw [if_pos this, segF, if_pos ⟨h3, h4⟩, hp]
theorem seg_y1 {src dst kind sp dp seq ack fl win p : Int} {body : ByteArray} (h1 : segOkB kind sp dp seq ack fl win body.size = true) (h2 : psOkB src dst kind (bareF kind sp dp seq ack fl win body).size = true) (hp : sumPl kind = p) (h3 : ¬ (kind = 17 ∧ checkF (psF src dst kind (bareF kind sp dp seq ack fl win body).size ++ bareF kind sp dp seq ack fl win body) = 0)) : segR src dst kind sp dp seq ack fl win body = putBF (bareF kind sp dp seq ack fl win body) p (word16 (checkF (psF src dst kind (bareF kind sp dp seq ack fl win body).size ++ bareF kind sp dp seq ack fl win body))) ∧ segC src dst kind sp dp seq ack fl win body = true := by
  have : segC src dst kind sp dp seq ack fl win body = true := by unfold segC; rw [h1, h2]; rfl
  refine ⟨?_, this⟩
  unfold segR
  rw [if_pos this, segF, if_neg h3, hp]
theorem bare_a {kind sp dp seq ack fl win : Int} {body : ByteArray} (h : kind = 6) (hf : 0 ≤ fl ∧ fl ≤ 255) : word16 sp ++ word16 dp ++ word32 seq ++ word32 ack ++ strOfNums [80, IntKind.u8.wrap fl] ++ word16 win ++ word32 0 ++ body = bareF kind sp dp seq ack fl win body := by
  have e : word32 0 = word16 0 ++ word16 0 := by decide
  rw [bareF, if_pos h, u8w hf.1 hf.2, e]
  simp only [ByteArray.append_assoc]
theorem bare_b {kind sp dp seq ack fl win : Int} {body : ByteArray} (h : ¬ kind = 6) : word16 sp ++ word16 dp ++ word16 (8 + body.size) ++ word16 0 ++ body = bareF kind sp dp seq ack fl win body := by rw [bareF, if_neg h]
set_option maxHeartbeats 4000000 in
theorem c_impl_BuildSegment {src dst : Int} {kind sp dp seq ack fl win : Int} {body : ByteArray} (hs_body : body.size ≤ 1099511627776 := by first | assumption | omega | (simp only [ByteArray.size_append, ByteArray.size_extract, strOfNums_size, List.length_cons, List.length_nil]; omega)) : Con0 Tryz.prog 124 [I src, I dst, .agg [V kind, V sp, V dp, V seq, V ack, V fl, V win, VS body]] (.tup [Z (segR src dst kind sp dp seq ack fl win body), B (segC src dst kind sp dp seq ack fl win body)]) [] := by
  refine con_i Tryz.func124 Tryz.ntmps124 (t := [(0, I src), (1, I dst), (2, .agg [V kind, V sp, V dp, V seq, V ack, V fl, V win, VS body])]) rfl ?_
  refine vc_sr ?_
  iterate 3 refine vo ?_
  refine vnt ?_
  refine vc_seq' ?_
  refine vc_sr ?_
  refine vo ?_
  refine voc c_impl_SegmentOk rfl rfl ?_
  refine vo ?_
  refine vnt ?_
  refine vc_if (fun g1 => ?_) (fun g1 => ?_)
  · refine vc_sr ?_
    iterate 2 refine vo ?_
    refine vnt ?_
    refine vc_ret ?_
    refine thn_r ?_
    refine fin_i [] rfl (fz ?_) trivial
    exact seg_n1 g1
  · have hk := segOk_kind g1
    have hf : kind = 6 → 0 ≤ fl ∧ fl ≤ 255 := fun _ => ⟨hk.2.2.1, by omega⟩
    have zb := bare_le kind sp dp seq ack fl win body
    refine vc_skip ?_
    refine thn ?_
    refine vc_sr ?_
    refine vo ?_
    refine voc c_impl_bareSegment rfl rfl ?_
    refine vo ?_
    refine vnt ?_
    refine vc_sr ?_
    iterate 6 refine vo ?_
    refine voc c_impl_PseudoHeader rfl rfl ?_
    iterate 5 refine vo ?_
    refine vnt ?_
    refine vc_seq' ?_
    refine vc_sr ?_
    iterate 2 refine vo ?_
    refine vnt ?_
    refine vc_if (fun g2 => ?_) (fun g2 => ?_)
    · refine vc_sr ?_
      iterate 2 refine vo ?_
      refine vnt ?_
      refine vc_ret ?_
      refine thn_r ?_
      refine fin_i [] rfl (fz ?_) trivial
      exact seg_n2 g2
    · rw [psR_ok g2]
      have zp := psF_le src dst kind (bareF kind sp dp seq ack fl win body).size
      have hc := sumF_bd (psF src dst kind (bareF kind sp dp seq ack fl win body).size ++ bareF kind sp dp seq ack fl win body)
      refine vc_skip ?_
      refine thn ?_
      refine vc_sr ?_
      iterate 3 refine vo ?_
      refine voc c_impl_Checksum rfl rfl ?_
      refine vo ?_
      refine vnt ?_
      refine vc_seq' ?_
      refine vc_sr ?_
      iterate 4 refine vo ?_
      refine vsp (fun g3 => ?_) (fun g3 => ?_)
      · iterate 2 refine von ?_
        refine vo ?_
        refine vnt ?_
        refine vc_if (fun g4 => ?_) (fun g4 => ?_)
        · refine vc_region ?_
          refine vo ?_
          refine vnt ?_
          refine vc_sr ?_
          iterate 3 refine vo ?_
          refine voc c_impl_sumPlace rfl rfl ?_
          refine vo ?_
          refine voc c_impl_Word16 rfl rfl ?_
          refine vzs (word16_le _) fun z1 => ?_
          refine voc c_impl_PutBytes rfl rfl ?_
          refine vzs (Nat.le_of_eq (putBF_le _ _ _)) fun z2 => ?_
          iterate 2 refine vo ?_
          refine vnt ?_
          refine vc_ret ?_
          refine fin_i [] rfl (fz ?_) trivial
          exact seg_y0 g1 g2 rfl g3 g4
        · refine vc_skip ?_
          refine thn ?_
          refine vc_sr ?_
          iterate 3 refine vo ?_
          refine voc c_impl_sumPlace rfl rfl ?_
          refine vo ?_
          refine voc c_impl_Word16 rfl rfl ?_
          refine vzs (word16_le _) fun z3 => ?_
          refine voc c_impl_PutBytes rfl rfl ?_
          refine vzs (Nat.le_of_eq (putBF_le _ _ _)) fun z4 => ?_
          iterate 2 refine vo ?_
          refine vnt ?_
          refine vc_ret ?_
          refine fin_i [] rfl (fz ?_) trivial
          exact seg_y1 g1 g2 rfl fun h => g4 h.2
      · iterate 2 refine vof ?_
        refine vo ?_
        refine vnt ?_
        refine vc_else ?_
        refine vc_skip ?_
        refine thn ?_
        refine vc_sr ?_
        iterate 3 refine vo ?_
        refine voc c_impl_sumPlace rfl rfl ?_
        refine vo ?_
        refine voc c_impl_Word16 rfl rfl ?_
        refine vzs (word16_le _) fun z5 => ?_
        refine voc c_impl_PutBytes rfl rfl ?_
        refine vzs (Nat.le_of_eq (putBF_le _ _ _)) fun z6 => ?_
        iterate 2 refine vo ?_
        refine vnt ?_
        refine vc_ret ?_
        refine fin_i [] rfl (fz ?_) trivial
        exact seg_y1 g1 g2 rfl fun h => g3 h.1
set_option maxHeartbeats 4000000 in
theorem c_spec_BuildSegment {src dst : Int} {kind sp dp seq ack fl win : Int} {body : ByteArray} (hs_body : body.size ≤ 1099511627776 := by first | assumption | omega | (simp only [ByteArray.size_append, ByteArray.size_extract, strOfNums_size, List.length_cons, List.length_nil]; omega)) : Con0 Tryz.prog 113 [I src, I dst, .agg [V kind, V sp, V dp, V seq, V ack, V fl, V win, VS body]] (.tup [Z (segR src dst kind sp dp seq ack fl win body), B (segC src dst kind sp dp seq ack fl win body)]) [] := by
  refine con_i Tryz.func113 Tryz.ntmps113 (t := [(0, I src), (1, I dst), (2, .agg [V kind, V sp, V dp, V seq, V ack, V fl, V win, VS body])]) rfl ?_
  refine vc_sr ?_
  iterate 3 refine vo ?_
  refine vnt ?_
  refine vc_seq' ?_
  refine vc_sr ?_
  refine vo ?_
  refine voc c_spec_SegmentOk rfl rfl ?_
  refine vo ?_
  refine vnt ?_
  refine vc_if (fun g1 => ?_) (fun g1 => ?_)
  · refine vc_sr ?_
    iterate 2 refine vo ?_
    refine vnt ?_
    refine vc_ret ?_
    refine thn_r ?_
    refine fin_i [] rfl (fz ?_) trivial
    exact seg_n1 g1
  · have hk := segOk_kind g1
    have hf : kind = 6 → 0 ≤ fl ∧ fl ≤ 255 := fun _ => ⟨hk.2.2.1, by omega⟩
    have zb := bare_le kind sp dp seq ack fl win body
    refine vc_skip ?_
    refine thn ?_
    refine vc_sr ?_
    iterate 2 refine vo ?_
    refine voc c_spec_Word16 rfl rfl ?_
    refine vzs (word16_le _) fun z1 => ?_
    iterate 2 refine vo ?_
    refine voc c_spec_Word16 rfl rfl ?_
    refine vzs (word16_le _) fun z2 => ?_
    iterate 2 refine vo ?_
    refine vnt ?_
    refine vc_sr ?_
    refine vo ?_
    refine vnt ?_
    refine vc_seq' ?_
    refine vc_sr ?_
    iterate 3 refine vo ?_
    refine vnt ?_
    refine vc_if (fun g2 => ?_) (fun g2 => ?_)
    · refine vc_sr ?_
      iterate 3 refine vo ?_
      refine voc c_spec_Word32 rfl rfl ?_
      refine vzs (word32_le _) fun z3 => ?_
      iterate 3 refine vo ?_
      refine voc c_spec_Word32 rfl rfl ?_
      refine vzs (word32_le _) fun z4 => ?_
      iterate 6 refine vo ?_
      refine vs2 ?_
      iterate 3 refine vo ?_
      refine voc c_spec_Word16 rfl rfl ?_
      refine vzs (word16_le _) fun z5 => ?_
      refine vo ?_
      refine voc c_spec_Word32 rfl rfl ?_
      refine vzs (word32_le _) fun z6 => ?_
      iterate 2 refine vo ?_
      refine vnt ?_
      refine vc_region ?_
      refine vo ?_
      refine vnt ?_
      refine vc_sr ?_
      iterate 4 refine vo ?_
      refine vstr (bare_a (seq := seq) (ack := ack) (win := win) g2 (hf g2)) ?_
      refine vo ?_
      refine vnt ?_
      refine vc_sr ?_
      iterate 6 refine vo ?_
      refine voc c_spec_PseudoHeader rfl rfl ?_
      iterate 5 refine vo ?_
      refine vnt ?_
      refine vc_seq' ?_
      refine vc_sr ?_
      iterate 2 refine vo ?_
      refine vnt ?_
      refine vc_if (fun g3 => ?_) (fun g3 => ?_)
      · refine vc_sr ?_
        iterate 2 refine vo ?_
        refine vnt ?_
        refine vc_ret ?_
        refine thn_r ?_
        refine fin_i [] rfl (fz ?_) trivial
        exact seg_n2 g3
      · rw [psR_ok g3]
        have zp := psF_le src dst kind (bareF kind sp dp seq ack fl win body).size
        have hc := sumF_bd (psF src dst kind (bareF kind sp dp seq ack fl win body).size ++ bareF kind sp dp seq ack fl win body)
        refine vc_skip ?_
        refine thn ?_
        refine vc_sr ?_
        iterate 3 refine vo ?_
        refine voc c_spec_Checksum rfl rfl ?_
        refine vo ?_
        refine vnt ?_
        refine vc_seq' ?_
        refine vc_sr ?_
        iterate 3 refine vo ?_
        refine vsp (fun g4 => ?_) (fun g4 => ?_)
        · iterate 3 refine von ?_
          refine vo ?_
          refine vnt ?_
          refine vc_if (fun g5 => ?_) (fun g5 => ?_)
          · refine vc_region ?_
            refine vo ?_
            refine vnt ?_
            refine vc_sr ?_
            iterate 3 refine vo ?_
            refine voc c_spec_Word16 rfl rfl ?_
            refine vzs (word16_le _) fun z7 => ?_
            refine voc c_spec_PutBytes rfl rfl ?_
            refine vzs (Nat.le_of_eq (putBF_le _ _ _)) fun z8 => ?_
            iterate 2 refine vo ?_
            refine vnt ?_
            refine vc_ret ?_
            refine fin_i [] rfl (fz ?_) trivial
            exact seg_y0 g1 g3 (if_pos g2) g5 g4
          · refine vc_skip ?_
            refine thn ?_
            refine vc_sr ?_
            iterate 3 refine vo ?_
            refine voc c_spec_Word16 rfl rfl ?_
            refine vzs (word16_le _) fun z9 => ?_
            refine voc c_spec_PutBytes rfl rfl ?_
            refine vzs (Nat.le_of_eq (putBF_le _ _ _)) fun z10 => ?_
            iterate 2 refine vo ?_
            refine vnt ?_
            refine vc_ret ?_
            refine fin_i [] rfl (fz ?_) trivial
            exact seg_y1 g1 g3 (if_pos g2) fun h => g5 h.1
        · iterate 3 refine vof ?_
          refine vo ?_
          refine vnt ?_
          refine vc_else ?_
          refine vc_skip ?_
          refine thn ?_
          refine vc_sr ?_
          iterate 3 refine vo ?_
          refine voc c_spec_Word16 rfl rfl ?_
          refine vzs (word16_le _) fun z11 => ?_
          refine voc c_spec_PutBytes rfl rfl ?_
          refine vzs (Nat.le_of_eq (putBF_le _ _ _)) fun z12 => ?_
          iterate 2 refine vo ?_
          refine vnt ?_
          refine vc_ret ?_
          refine fin_i [] rfl (fz ?_) trivial
          exact seg_y1 g1 g3 (if_pos g2) fun h => g4 h.2
    · refine vc_region ?_
      iterate 5 refine vo ?_
      try refine vwr ?_
      refine voc c_spec_Word16 rfl rfl ?_
      refine vzs (word16_le _) fun z13 => ?_
      refine vo ?_
      refine voc c_spec_Word16 rfl rfl ?_
      refine vzs (word16_le _) fun z14 => ?_
      iterate 2 refine vo ?_
      refine vnt ?_
      refine vc_sr ?_
      iterate 4 refine vo ?_
      refine vstr (bare_b (seq := seq) (ack := ack) (fl := fl) (win := win) g2) ?_
      refine vo ?_
      refine vnt ?_
      refine vc_sr ?_
      iterate 6 refine vo ?_
      refine voc c_spec_PseudoHeader rfl rfl ?_
      iterate 5 refine vo ?_
      refine vnt ?_
      refine vc_seq' ?_
      refine vc_sr ?_
      iterate 2 refine vo ?_
      refine vnt ?_
      refine vc_if (fun g6 => ?_) (fun g6 => ?_)
      · refine vc_sr ?_
        iterate 2 refine vo ?_
        refine vnt ?_
        refine vc_ret ?_
        refine thn_r ?_
        refine fin_i [] rfl (fz ?_) trivial
        exact seg_n2 g6
      · rw [psR_ok g6]
        have zp := psF_le src dst kind (bareF kind sp dp seq ack fl win body).size
        have hc := sumF_bd (psF src dst kind (bareF kind sp dp seq ack fl win body).size ++ bareF kind sp dp seq ack fl win body)
        refine vc_skip ?_
        refine thn ?_
        refine vc_sr ?_
        iterate 3 refine vo ?_
        refine voc c_spec_Checksum rfl rfl ?_
        refine vo ?_
        refine vnt ?_
        refine vc_seq' ?_
        refine vc_sr ?_
        iterate 3 refine vo ?_
        refine vsp (fun g7 => ?_) (fun g7 => ?_)
        · iterate 3 refine von ?_
          refine vo ?_
          refine vnt ?_
          refine vc_if (fun g8 => ?_) (fun g8 => ?_)
          · refine vc_region ?_
            refine vo ?_
            refine vnt ?_
            refine vc_sr ?_
            iterate 3 refine vo ?_
            refine voc c_spec_Word16 rfl rfl ?_
            refine vzs (word16_le _) fun z15 => ?_
            refine voc c_spec_PutBytes rfl rfl ?_
            refine vzs (Nat.le_of_eq (putBF_le _ _ _)) fun z16 => ?_
            iterate 2 refine vo ?_
            refine vnt ?_
            refine vc_ret ?_
            refine fin_i [] rfl (fz ?_) trivial
            exact seg_y0 g1 g6 (if_neg g2) g8 g7
          · refine vc_skip ?_
            refine thn ?_
            refine vc_sr ?_
            iterate 3 refine vo ?_
            refine voc c_spec_Word16 rfl rfl ?_
            refine vzs (word16_le _) fun z17 => ?_
            refine voc c_spec_PutBytes rfl rfl ?_
            refine vzs (Nat.le_of_eq (putBF_le _ _ _)) fun z18 => ?_
            iterate 2 refine vo ?_
            refine vnt ?_
            refine vc_ret ?_
            refine fin_i [] rfl (fz ?_) trivial
            exact seg_y1 g1 g6 (if_neg g2) fun h => g8 h.1
        · iterate 3 refine vof ?_
          refine vo ?_
          refine vnt ?_
          refine vc_else ?_
          refine vc_skip ?_
          refine thn ?_
          refine vc_sr ?_
          iterate 3 refine vo ?_
          refine voc c_spec_Word16 rfl rfl ?_
          refine vzs (word16_le _) fun z19 => ?_
          refine voc c_spec_PutBytes rfl rfl ?_
          refine vzs (Nat.le_of_eq (putBF_le _ _ _)) fun z20 => ?_
          iterate 2 refine vo ?_
          refine vnt ?_
          refine vc_ret ?_
          refine fin_i [] rfl (fz ?_) trivial
          exact seg_y1 g1 g6 (if_neg g2) fun h => g7 h.2
end Go.Proofs.YtnikopahkjmneaaGreat
end
section
namespace Go.Proofs.YtnikopahkjmneaaGreat
open Go Go.RowKit Go.Vc
set_option linter.unusedVariables false
set_option linter.unusedSimpArgs false
set_option linter.unnecessarySimpa false
def supC (dm sm vl tos id ttl si di kind sp dp seq ack fl win : Int) (body : ByteArray) : Bool := superOkB dm sm vl tos id ttl si di kind sp dp seq ack fl win body.size && ethOkB dm sm vl 2048 (padF (ipR tos id ttl kind si di (segR si di kind sp dp seq ack fl win body))).size
def imgR (dm sm vl tos id ttl si di kind sp dp seq ack fl win : Int) (body : ByteArray) : ByteArray := if superOkB dm sm vl tos id ttl si di kind sp dp seq ack fl win body.size then ethR dm sm vl 2048 (padF (ipR tos id ttl kind si di (segR si di kind sp dp seq ack fl win body))) else ⟨#[]⟩
theorem segR_le (src dst kind sp dp seq ack fl win : Int) (body : ByteArray) : (segR src dst kind sp dp seq ack fl win body).size ≤ body.size + 20 := by
  unfold segR
  split
  · unfold segF; rw [putBF_le]; exact bare_le ..
  · exact Nat.zero_le _
theorem ipR_le (tos id ttl pr src dst : Int) (body : ByteArray) : (ipR tos id ttl pr src dst body).size ≤ body.size + 24 := by
  have := ipH_le tos id ttl pr src dst body.size
  unfold ipR
  split
  · simp only [ByteArray.size_append]; omega
  · exact Nat.zero_le _
theorem padF_le (s : ByteArray) : (padF s).size = max 46 s.size := by
  have := rep_le 0 (46 - s.size)
  unfold padF
  split
  · simp only [ByteArray.size_append, repF, strOfNums_size, List.length_replicate]; omega
  · omega
theorem superOk_facts {dm sm vl tos id ttl si di kind sp dp seq ack fl win : Int} {n : Nat} (h : superOkB dm sm vl tos id ttl si di kind sp dp seq ack fl win n = true) : inB dm 0 281474976710655 = true ∧ inB sm 0 281474976710655 = true ∧ inB vl (-1) 4095 = true ∧ inB tos 0 255 = true ∧ inB ttl 0 255 = true ∧ inB id 0 65535 = true ∧ inB si 0 4294967295 = true ∧ inB di 0 4294967295 = true ∧ segOkB kind sp dp seq ack fl win n = true ∧ n ≤ 320 := by
  simp only [superOkB, Bool.and_eq_true] at h
  obtain ⟨h1, h2, h3, h4, h5, h6, h7, h8, h9, h10⟩ := h
  exact ⟨h1, h2, h3, h4, h5, h6, h7, h8, h9, (segOk_kind h9).2.1⟩
theorem sup_img {dm sm vl tos id ttl si di kind sp dp seq ack fl win : Int} {body : ByteArray} (h : superOkB dm sm vl tos id ttl si di kind sp dp seq ack fl win body.size = true) : supC dm sm vl tos id ttl si di kind sp dp seq ack fl win body = true ∧ (imgR dm sm vl tos id ttl si di kind sp dp seq ack fl win body).size ≤ 1000 := by
  obtain ⟨h1, h2, h3, h4, h5, h6, h7, h8, h9, h10⟩ := superOk_facts h
  have a1 := segR_le si di kind sp dp seq ack fl win body
  have a2 := ipR_le tos id ttl kind si di (segR si di kind sp dp seq ack fl win body)
  have a3 := padF_le (ipR tos id ttl kind si di (segR si di kind sp dp seq ack fl win body))
  have e : ethOkB dm sm vl 2048 (padF (ipR tos id ttl kind si di (segR si di kind sp dp seq ack fl win body))).size = true := by
    unfold ethOkB
    rw [h1, h2, h3]
    have : inB ((padF (ipR tos id ttl kind si di (segR si di kind sp dp seq ack fl win body))).size : Int) 46 400 = true := inB_iff.2 (by omega)
    rw [this]; rfl
  refine ⟨by unfold supC; rw [h, e]; rfl, ?_⟩
  unfold imgR
  rw [if_pos h, ethR, if_pos e, ethF]
  have b1 := mac_le dm; have b2 := mac_le sm; have b3 := word16_le 33024; have b4 := word16_le vl; have b5 := word16_le 2048
  split <;> simp only [ByteArray.size_append] <;> omega
set_option maxHeartbeats 4000000 in
theorem c_impl_BuildImage {dm sm vl tos id ttl si di kind sp dp seq ack fl win : Int} {body : ByteArray} : Con0 Tryz.prog 95 [.agg [V dm, V sm, V vl, V tos, V id, V ttl, V si, V di, V kind, V sp, V dp, V seq, V ack, V fl, V win, VS body]] (.tup [Z (imgR dm sm vl tos id ttl si di kind sp dp seq ack fl win body), B (supC dm sm vl tos id ttl si di kind sp dp seq ack fl win body)]) [] := by
  refine con_i Tryz.func95 Tryz.ntmps95 (t := [(0, .agg [V dm, V sm, V vl, V tos, V id, V ttl, V si, V di, V kind, V sp, V dp, V seq, V ack, V fl, V win, VS body])]) rfl ?_
  refine vc_sr ?_
  iterate 3 refine vo ?_
  refine vnt ?_
  refine vc_seq' ?_
  refine vc_sr ?_
  refine vo ?_
  refine voc c_impl_SuperOk rfl rfl ?_
  refine vo ?_
  refine vnt ?_
  refine vc_if (fun g1 => ?_) (fun g1 => ?_)
  · refine vc_sr ?_
    iterate 2 refine vo ?_
    refine vnt ?_
    refine vc_ret ?_
    refine thn_r ?_
    refine fin_i [] rfl (fz ?_) trivial
    simp [imgR, supC, g1]
  · have hb := (superOk_facts g1).2.2.2.2.2.2.2.2.2
    have a1 := segR_le si di kind sp dp seq ack fl win body
    have a2 := ipR_le tos id ttl kind si di (segR si di kind sp dp seq ack fl win body)
    have a3 := padF_le (ipR tos id ttl kind si di (segR si di kind sp dp seq ack fl win body))
    refine vc_skip ?_
    refine thn ?_
    refine vc_sr ?_
    iterate 6 refine vo ?_
    refine voc c_impl_BuildSegment rfl rfl ?_
    iterate 5 refine vo ?_
    refine vnt ?_
    refine vc_sr ?_
    iterate 15 refine vo ?_
    refine voc c_impl_BuildIp rfl rfl ?_
    iterate 5 refine vo ?_
    refine vnt ?_
    refine vc_sr ?_
    iterate 7 refine vo ?_
    refine voc c_impl_PadBody rfl rfl ?_
    refine vo ?_
    refine voc c_impl_BuildEth rfl rfl ?_
    iterate 4 refine vo ?_
    refine vnt ?_
    refine vc_ret ?_
    refine fin_i [] rfl (fz ?_) trivial
    simp [imgR, supC, g1]
set_option maxHeartbeats 4000000 in
theorem c_spec_BuildImage {dm sm vl tos id ttl si di kind sp dp seq ack fl win : Int} {body : ByteArray} : Con0 Tryz.prog 71 [.agg [V dm, V sm, V vl, V tos, V id, V ttl, V si, V di, V kind, V sp, V dp, V seq, V ack, V fl, V win, VS body]] (.tup [Z (imgR dm sm vl tos id ttl si di kind sp dp seq ack fl win body), B (supC dm sm vl tos id ttl si di kind sp dp seq ack fl win body)]) [] := by
  refine con_i Tryz.func71 Tryz.ntmps71 (t := [(0, .agg [V dm, V sm, V vl, V tos, V id, V ttl, V si, V di, V kind, V sp, V dp, V seq, V ack, V fl, V win, VS body])]) rfl ?_
  refine vc_sr ?_
  iterate 3 refine vo ?_
  refine vnt ?_
  refine vc_seq' ?_
  refine vc_sr ?_
  refine vo ?_
  refine voc c_spec_SuperOk rfl rfl ?_
  refine vo ?_
  refine vnt ?_
  refine vc_if (fun g1 => ?_) (fun g1 => ?_)
  · refine vc_sr ?_
    iterate 2 refine vo ?_
    refine vnt ?_
    refine vc_ret ?_
    refine thn_r ?_
    refine fin_i [] rfl (fz ?_) trivial
    simp [imgR, supC, g1]
  · have hb := (superOk_facts g1).2.2.2.2.2.2.2.2.2
    have a1 := segR_le si di kind sp dp seq ack fl win body
    have a2 := ipR_le tos id ttl kind si di (segR si di kind sp dp seq ack fl win body)
    have a3 := padF_le (ipR tos id ttl kind si di (segR si di kind sp dp seq ack fl win body))
    refine vc_skip ?_
    refine thn ?_
    refine vc_sr ?_
    iterate 6 refine vo ?_
    refine voc c_spec_BuildSegment rfl rfl ?_
    iterate 5 refine vo ?_
    refine vnt ?_
    refine vc_sr ?_
    iterate 15 refine vo ?_
    refine voc c_spec_BuildIp rfl rfl ?_
    iterate 5 refine vo ?_
    refine vnt ?_
    refine vc_sr ?_
    iterate 7 refine vo ?_
    refine voc c_spec_PadBody rfl rfl ?_
    refine vo ?_
    refine voc c_spec_BuildEth rfl rfl ?_
    iterate 4 refine vo ?_
    refine vnt ?_
    refine vc_ret ?_
    refine fin_i [] rfl (fz ?_) trivial
    simp [imgR, supC, g1]
end Go.Proofs.YtnikopahkjmneaaGreat
end
section
namespace Go.Proofs.YtnikopahkjmneaaGreat
open Go Go.RowKit Go.Vc
set_option linter.unusedVariables false
set_option linter.unusedSimpArgs false
set_option linter.unnecessarySimpa false
theorem enc_u8 {op fl ln at_ sz ck : Int} (h : descB op fl ln at_ sz ck = true) : IntKind.u8.wrap op = op ∧ IntKind.u8.wrap fl = fl := by
  have := descB_iff.1 h
  exact ⟨u8w (by omega) (by omega), u8w (by omega) (by omega)⟩
theorem ring_and {h t s : Int} (hs : sizeB s = true) : andI (t - h) (2 * s - 1) = usedF s h t := by
  have := sizeB_cases hs
  rw [andI_eq, usedF]
  rcases this with rfl | rfl | rfl | rfl
  · exact and_mask_i64 (t - h) 2 (by decide)
  · exact and_mask_i64 (t - h) 3 (by decide)
  · exact and_mask_i64 (t - h) 4 (by decide)
  · exact and_mask_i64 (t - h) 5 (by decide)
theorem and_wr (x m : Int) : andI (wr x) m = andI x m := by
  have e : BitVec.ofInt 64 (wr x) = BitVec.ofInt 64 x := by
    apply BitVec.eq_of_toNat_eq
    rw [BitVec.toNat_ofInt, BitVec.toNat_ofInt, wr_eq]
    unfold wrap64
    omega
  unfold andI Vc.bits
  rw [e]
theorem slot_bd {b s k : Int} (hs : sizeB s = true) (hb : 0 ≤ b ∧ b ≤ 130944) (hk : 0 ≤ k) : k.tmod s = k % s ∧ 0 ≤ k % s ∧ k % s ≤ 15 ∧ ¬ s = 0 := by
  have h := sizeB_cases hs
  have q1 := Int.emod_nonneg k (show s ≠ 0 by omega)
  have q2 := Int.emod_lt_of_pos k (show 0 < s by omega)
  exact ⟨Int.tmod_eq_emod_of_nonneg hk, q1, by omega, by omega⟩
set_option maxHeartbeats 4000000 in
theorem c_impl_DescOk {op fl ln at_ sz ck : Int} : Con0 Tryz.prog 104 [.agg [V op, V fl, V ln, V at_, V sz, V ck]] (B (descB op fl ln at_ sz ck)) [] := by
  refine con_i Tryz.func104 Tryz.ntmps104 (t := [(0, .agg [V op, V fl, V ln, V at_, V sz, V ck])]) rfl ?_
  refine vc_sr ?_
  iterate 2 refine vo ?_
  refine vnt ?_
  refine vc_sr ?_
  iterate 2 refine vo ?_
  refine voc c_impl_between rfl rfl ?_
  refine vo ?_
  refine vsp (fun g1 => ?_) (fun g1 => ?_)
  · iterate 2 refine von ?_
    refine vocn c_impl_between rfl rfl ?_
    iterate 2 refine vo ?_
    refine vsp (fun g2 => ?_) (fun g2 => ?_)
    · iterate 2 refine von ?_
      refine vocn c_impl_between rfl rfl ?_
      iterate 2 refine vo ?_
      refine vsp (fun g3 => ?_) (fun g3 => ?_)
      · iterate 2 refine von ?_
        refine vocn c_impl_between rfl rfl ?_
        iterate 2 refine vo ?_
        refine vsp (fun g4 => ?_) (fun g4 => ?_)
        · iterate 2 refine von ?_
          refine vocn c_impl_between rfl rfl ?_
          iterate 2 refine vo ?_
          refine vsp (fun g5 => ?_) (fun g5 => ?_)
          · iterate 2 refine von ?_
            refine vocn c_impl_between rfl rfl ?_
            iterate 2 refine vo ?_
            refine vnt ?_
            refine vc_ret ?_
            refine fin_i [] rfl (fz ?_) trivial
            simp_all [descB]
          · iterate 3 refine vof ?_
            iterate 2 refine vo ?_
            refine vnt ?_
            refine vc_ret ?_
            refine fin_i [] rfl (fz ?_) trivial
            simp_all [descB]
        · iterate 3 refine vof ?_
          iterate 2 refine vo ?_
          iterate 3 refine vof ?_
          iterate 2 refine vo ?_
          refine vnt ?_
          refine vc_ret ?_
          refine fin_i [] rfl (fz ?_) trivial
          simp_all [descB]
      · iterate 3 refine vof ?_
        iterate 2 refine vo ?_
        iterate 3 refine vof ?_
        iterate 2 refine vo ?_
        iterate 3 refine vof ?_
        iterate 2 refine vo ?_
        refine vnt ?_
        refine vc_ret ?_
        refine fin_i [] rfl (fz ?_) trivial
        simp_all [descB]
    · iterate 3 refine vof ?_
      iterate 2 refine vo ?_
      iterate 3 refine vof ?_
      iterate 2 refine vo ?_
      iterate 3 refine vof ?_
      iterate 2 refine vo ?_
      iterate 3 refine vof ?_
      iterate 2 refine vo ?_
      refine vnt ?_
      refine vc_ret ?_
      refine fin_i [] rfl (fz ?_) trivial
      simp_all [descB]
  · iterate 3 refine vof ?_
    iterate 2 refine vo ?_
    iterate 3 refine vof ?_
    iterate 2 refine vo ?_
    iterate 3 refine vof ?_
    iterate 2 refine vo ?_
    iterate 3 refine vof ?_
    iterate 2 refine vo ?_
    iterate 3 refine vof ?_
    iterate 2 refine vo ?_
    refine vnt ?_
    refine vc_ret ?_
    refine fin_i [] rfl (fz ?_) trivial
    simp_all [descB]
set_option maxHeartbeats 4000000 in
theorem c_impl_EncodeDesc {op fl ln at_ sz ck : Int} : Con0 Tryz.prog 56 [.agg [V op, V fl, V ln, V at_, V sz, V ck]] (Z (encDF op fl ln at_ sz ck)) [] := by
  refine con_i Tryz.func56 Tryz.ntmps56 (t := [(0, .agg [V op, V fl, V ln, V at_, V sz, V ck])]) rfl ?_
  refine vc_sr ?_
  iterate 2 refine vo ?_
  refine vnt ?_
  refine vc_seq' ?_
  refine vc_sr ?_
  refine vo ?_
  refine voc c_impl_DescOk rfl rfl ?_
  refine vo ?_
  refine vnt ?_
  refine vc_if (fun g1 => ?_) (fun g1 => ?_)
  · refine vc_sr ?_
    refine vo ?_
    refine vnt ?_
    refine vc_ret ?_
    refine thn_r ?_
    refine fin_i [] rfl (fz ?_) trivial
    first | (simp [encDF, g1]; done) | (have hw := enc_u8 g1; simp [encDF, g1, encD, hw])
  · refine vc_skip ?_
    refine thn ?_
    refine vc_sr ?_
    iterate 8 refine vo ?_
    refine vs2 ?_
    iterate 2 refine vo ?_
    refine voc c_impl_Word16 rfl rfl ?_
    refine vzs (word16_le _) fun z1 => ?_
    iterate 3 refine vo ?_
    refine voc c_impl_Word32 rfl rfl ?_
    refine vzs (word32_le _) fun z2 => ?_
    iterate 3 refine vo ?_
    refine voc c_impl_Word16 rfl rfl ?_
    refine vzs (word16_le _) fun z3 => ?_
    iterate 3 refine vo ?_
    refine voc c_impl_Word16 rfl rfl ?_
    refine vzs (word16_le _) fun z4 => ?_
    refine vo ?_
    refine voc c_impl_Word32 rfl rfl ?_
    refine vzs (word32_le _) fun z5 => ?_
    iterate 2 refine vo ?_
    refine vnt ?_
    refine vc_ret ?_
    refine fin_i [] rfl (fz ?_) trivial
    first | (simp [encDF, g1]; done) | (have hw := enc_u8 g1; simp [encDF, g1, encD, hw])
set_option maxHeartbeats 4000000 in
theorem c_spec_DescOk {op fl ln at_ sz ck : Int} : Con0 Tryz.prog 82 [.agg [V op, V fl, V ln, V at_, V sz, V ck]] (B (descB op fl ln at_ sz ck)) [] := by
  refine con_i Tryz.func82 Tryz.ntmps82 (t := [(0, .agg [V op, V fl, V ln, V at_, V sz, V ck])]) rfl ?_
  refine vc_sr ?_
  iterate 2 refine vo ?_
  refine vnt ?_
  refine vc_sr ?_
  iterate 2 refine vo ?_
  refine voc c_spec_l01In rfl rfl ?_
  refine vo ?_
  refine vsp (fun g1 => ?_) (fun g1 => ?_)
  · iterate 2 refine von ?_
    refine vocn c_spec_l01In rfl rfl ?_
    iterate 2 refine vo ?_
    refine vsp (fun g2 => ?_) (fun g2 => ?_)
    · iterate 2 refine von ?_
      refine vocn c_spec_l01In rfl rfl ?_
      iterate 2 refine vo ?_
      refine vsp (fun g3 => ?_) (fun g3 => ?_)
      · iterate 2 refine von ?_
        refine vocn c_spec_l01In rfl rfl ?_
        iterate 2 refine vo ?_
        refine vsp (fun g4 => ?_) (fun g4 => ?_)
        · iterate 2 refine von ?_
          refine vocn c_spec_l01In rfl rfl ?_
          iterate 2 refine vo ?_
          refine vsp (fun g5 => ?_) (fun g5 => ?_)
          · iterate 2 refine von ?_
            refine vocn c_spec_l01In rfl rfl ?_
            iterate 2 refine vo ?_
            refine vnt ?_
            refine vc_ret ?_
            refine fin_i [] rfl (fz ?_) trivial
            simp_all [descB]
          · iterate 3 refine vof ?_
            iterate 2 refine vo ?_
            refine vnt ?_
            refine vc_ret ?_
            refine fin_i [] rfl (fz ?_) trivial
            simp_all [descB]
        · iterate 3 refine vof ?_
          iterate 2 refine vo ?_
          iterate 3 refine vof ?_
          iterate 2 refine vo ?_
          refine vnt ?_
          refine vc_ret ?_
          refine fin_i [] rfl (fz ?_) trivial
          simp_all [descB]
      · iterate 3 refine vof ?_
        iterate 2 refine vo ?_
        iterate 3 refine vof ?_
        iterate 2 refine vo ?_
        iterate 3 refine vof ?_
        iterate 2 refine vo ?_
        refine vnt ?_
        refine vc_ret ?_
        refine fin_i [] rfl (fz ?_) trivial
        simp_all [descB]
    · iterate 3 refine vof ?_
      iterate 2 refine vo ?_
      iterate 3 refine vof ?_
      iterate 2 refine vo ?_
      iterate 3 refine vof ?_
      iterate 2 refine vo ?_
      iterate 3 refine vof ?_
      iterate 2 refine vo ?_
      refine vnt ?_
      refine vc_ret ?_
      refine fin_i [] rfl (fz ?_) trivial
      simp_all [descB]
  · iterate 3 refine vof ?_
    iterate 2 refine vo ?_
    iterate 3 refine vof ?_
    iterate 2 refine vo ?_
    iterate 3 refine vof ?_
    iterate 2 refine vo ?_
    iterate 3 refine vof ?_
    iterate 2 refine vo ?_
    iterate 3 refine vof ?_
    iterate 2 refine vo ?_
    refine vnt ?_
    refine vc_ret ?_
    refine fin_i [] rfl (fz ?_) trivial
    simp_all [descB]
set_option maxHeartbeats 4000000 in
theorem c_spec_EncodeDesc {op fl ln at_ sz ck : Int} : Con0 Tryz.prog 37 [.agg [V op, V fl, V ln, V at_, V sz, V ck]] (Z (encDF op fl ln at_ sz ck)) [] := by
  refine con_i Tryz.func37 Tryz.ntmps37 (t := [(0, .agg [V op, V fl, V ln, V at_, V sz, V ck])]) rfl ?_
  refine vc_sr ?_
  iterate 2 refine vo ?_
  refine vnt ?_
  refine vc_seq' ?_
  refine vc_sr ?_
  refine vo ?_
  refine voc c_spec_DescOk rfl rfl ?_
  refine vo ?_
  refine vnt ?_
  refine vc_if (fun g1 => ?_) (fun g1 => ?_)
  · refine vc_sr ?_
    refine vo ?_
    refine vnt ?_
    refine vc_ret ?_
    refine thn_r ?_
    refine fin_i [] rfl (fz ?_) trivial
    first | (simp [encDF, g1]; done) | (have hw := enc_u8 g1; simp [encDF, g1, encD, hw])
  · refine vc_skip ?_
    refine thn ?_
    refine vc_sr ?_
    iterate 8 refine vo ?_
    refine vs2 ?_
    iterate 2 refine vo ?_
    refine voc c_spec_Word16 rfl rfl ?_
    refine vzs (word16_le _) fun z1 => ?_
    iterate 3 refine vo ?_
    refine voc c_spec_Word32 rfl rfl ?_
    refine vzs (word32_le _) fun z2 => ?_
    iterate 3 refine vo ?_
    refine voc c_spec_Word16 rfl rfl ?_
    refine vzs (word16_le _) fun z3 => ?_
    iterate 3 refine vo ?_
    refine voc c_spec_Word16 rfl rfl ?_
    refine vzs (word16_le _) fun z4 => ?_
    refine vo ?_
    refine voc c_spec_Word32 rfl rfl ?_
    refine vzs (word32_le _) fun z5 => ?_
    iterate 2 refine vo ?_
    refine vnt ?_
    refine vc_ret ?_
    refine fin_i [] rfl (fz ?_) trivial
    first | (simp [encDF, g1]; done) | (have hw := enc_u8 g1; simp [encDF, g1, encD, hw])
set_option maxHeartbeats 4000000 in
theorem c_impl_SlotAddress {b s h t k : Int} (hr : ringOkB b s h t = true := by assumption) (hk : 0 ≤ k := by omega) : Con0 Tryz.prog 133 [.agg [V b, V s, V h, V t], I k] (I (rslot b s k)) [] := by
  have hf := ringOk_facts hr
  have hm := slot_bd hf.1 ⟨hf.2.1, hf.2.2.1⟩ hk
  refine con_i Tryz.func133 Tryz.ntmps133 (t := [(0, .agg [V b, V s, V h, V t]), (1, I k)]) rfl ?_
  refine vc_sr ?_
  iterate 2 refine vo ?_
  refine vnt ?_
  refine vc_seq' ?_
  refine vc_sr ?_
  refine vo ?_
  refine voc c_impl_RingOk rfl rfl ?_
  iterate 2 refine vo ?_
  refine vsp (fun g1 => ?_) (fun g1 => ?_)
  · iterate 2 refine vof ?_
    refine vo ?_
    refine vnt ?_
    refine vc_then ?_
    refine vc_sr ?_
    refine vo ?_
    refine vnt ?_
    refine vc_ret ?_
    refine thn_r ?_
    refine fin_i [] rfl (fz ?_) trivial
    first | (simp_all; done) | omega | (rw [rslot, hm.1]; done) | (rw [rslot, hm.1]; omega)
  · iterate 2 refine von ?_
    refine vo ?_
    refine vnt ?_
    refine vc_if (fun g2 => ?_) (fun g2 => ?_)
    · refine vc_sr ?_
      refine vo ?_
      refine vnt ?_
      refine vc_ret ?_
      refine thn_r ?_
      refine fin_i [] rfl (fz ?_) trivial
      first | (simp_all; done) | omega | (rw [rslot, hm.1]; done) | (rw [rslot, hm.1]; omega)
    · refine vc_skip ?_
      refine thn ?_
      refine vc_sr ?_
      iterate 7 refine vo ?_
      try refine vwr ?_
      refine vo ?_
      try refine vwr ?_
      refine vo ?_
      refine vnt ?_
      refine vc_ret ?_
      refine fin_i [] rfl (fz ?_) trivial
      first | (simp_all; done) | omega | (rw [rslot, hm.1]; done) | (rw [rslot, hm.1]; omega)
set_option maxHeartbeats 4000000 in
theorem c_spec_RingUsed {b s h t : Int} (h0 : sizeB s = true := by assumption) : Con0 Tryz.prog 79 [.agg [V b, V s, V h, V t]] (I (usedF s h t)) [] := by
  have hs := sizeB_cases h0
  refine con_i Tryz.func79 Tryz.ntmps79 (t := [(0, .agg [V b, V s, V h, V t])]) rfl ?_
  refine vc_sr ?_
  iterate 2 refine vo ?_
  refine vnt ?_
  refine vc_seq' ?_
  refine vc_sr ?_
  iterate 2 refine vo ?_
  refine voc c_spec_l20Size rfl rfl ?_
  refine vo ?_
  refine vnt ?_
  refine vc_if (fun g1 => ?_) (fun g1 => ?_)
  · refine vc_sr ?_
    refine vo ?_
    refine vnt ?_
    refine vc_ret ?_
    refine thn_r ?_
    refine fin_i [] rfl (fz ?_) trivial
    first | (simp_all; done) | (rw [and_wr, ring_and h0])
  · refine vc_skip ?_
    refine thn ?_
    refine vc_sr ?_
    iterate 5 refine vo ?_
    try refine vwr ?_
    iterate 3 refine vo ?_
    try refine vwr ?_
    refine vo ?_
    try refine vwr ?_
    iterate 2 refine vo ?_
    refine vnt ?_
    refine vc_ret ?_
    refine fin_i [] rfl (fz ?_) trivial
    first | (simp_all; done) | (rw [and_wr, ring_and h0])
set_option maxHeartbeats 4000000 in
theorem c_spec_RingOk {b s h t : Int} : Con0 Tryz.prog 75 [.agg [V b, V s, V h, V t]] (B (ringOkB b s h t)) [] := by
  refine con_i Tryz.func75 Tryz.ntmps75 (t := [(0, .agg [V b, V s, V h, V t])]) rfl ?_
  refine vc_sr ?_
  iterate 2 refine vo ?_
  refine vnt ?_
  refine vc_sr ?_
  iterate 2 refine vo ?_
  refine voc c_spec_l01In rfl rfl ?_
  refine vo ?_
  refine vsp (fun g1 => ?_) (fun g1 => ?_)
  · iterate 2 refine von ?_
    refine vocn c_spec_l20Size rfl rfl ?_
    iterate 2 refine vo ?_
    refine vsp (fun g2 => ?_) (fun g2 => ?_)
    · have hs := sizeB_cases g2
      iterate 5 refine von ?_
      try refine vwr ?_
      refine von ?_
      try refine vwr ?_
      refine vocn c_spec_l01In rfl rfl ?_
      iterate 2 refine vo ?_
      refine vsp (fun g3 => ?_) (fun g3 => ?_)
      · iterate 5 refine von ?_
        try refine vwr ?_
        refine von ?_
        try refine vwr ?_
        refine vocn c_spec_l01In rfl rfl ?_
        iterate 2 refine vo ?_
        refine vsp (fun g4 => ?_) (fun g4 => ?_)
        · refine von ?_
          refine vocn c_spec_RingUsed rfl rfl ?_
          iterate 3 refine von ?_
          iterate 2 refine vo ?_
          refine vnt ?_
          refine vc_ret ?_
          refine fin_i [] rfl (fz ?_) trivial
          simp_all [ringOkB, usedF]
          try rfl
        · iterate 5 refine vof ?_
          iterate 2 refine vo ?_
          refine vnt ?_
          refine vc_ret ?_
          refine fin_i [] rfl (fz ?_) trivial
          simp_all [ringOkB, usedF]
          try rfl
      · iterate 7 refine vof ?_
        iterate 2 refine vo ?_
        iterate 5 refine vof ?_
        iterate 2 refine vo ?_
        refine vnt ?_
        refine vc_ret ?_
        refine fin_i [] rfl (fz ?_) trivial
        simp_all [ringOkB, usedF]
        try rfl
    · iterate 7 refine vof ?_
      iterate 2 refine vo ?_
      iterate 7 refine vof ?_
      iterate 2 refine vo ?_
      iterate 5 refine vof ?_
      iterate 2 refine vo ?_
      refine vnt ?_
      refine vc_ret ?_
      refine fin_i [] rfl (fz ?_) trivial
      simp_all [ringOkB, usedF]
      try rfl
  · iterate 3 refine vof ?_
    iterate 2 refine vo ?_
    iterate 7 refine vof ?_
    iterate 2 refine vo ?_
    iterate 7 refine vof ?_
    iterate 2 refine vo ?_
    iterate 5 refine vof ?_
    iterate 2 refine vo ?_
    refine vnt ?_
    refine vc_ret ?_
    refine fin_i [] rfl (fz ?_) trivial
    simp_all [ringOkB, usedF]
    try rfl
set_option maxHeartbeats 4000000 in
theorem c_spec_SlotAddress {b s h t k : Int} (hr : ringOkB b s h t = true := by assumption) (hk : 0 ≤ k := by omega) : Con0 Tryz.prog 122 [.agg [V b, V s, V h, V t], I k] (I (rslot b s k)) [] := by
  have hf := ringOk_facts hr
  have hm := slot_bd hf.1 ⟨hf.2.1, hf.2.2.1⟩ hk
  refine con_i Tryz.func122 Tryz.ntmps122 (t := [(0, .agg [V b, V s, V h, V t]), (1, I k)]) rfl ?_
  refine vc_sr ?_
  iterate 2 refine vo ?_
  refine vnt ?_
  refine vc_seq' ?_
  refine vc_sr ?_
  refine vo ?_
  refine voc c_spec_RingOk rfl rfl ?_
  iterate 2 refine vo ?_
  refine vsp (fun g1 => ?_) (fun g1 => ?_)
  · iterate 2 refine vof ?_
    refine vo ?_
    refine vnt ?_
    refine vc_then ?_
    refine vc_sr ?_
    refine vo ?_
    refine vnt ?_
    refine vc_ret ?_
    refine thn_r ?_
    refine fin_i [] rfl (fz ?_) trivial
    first | (simp_all; done) | omega | (rw [rslot, hm.1]; done) | (rw [rslot, hm.1]; omega)
  · iterate 2 refine von ?_
    refine vo ?_
    refine vnt ?_
    refine vc_if (fun g2 => ?_) (fun g2 => ?_)
    · refine vc_sr ?_
      refine vo ?_
      refine vnt ?_
      refine vc_ret ?_
      refine thn_r ?_
      refine fin_i [] rfl (fz ?_) trivial
      first | (simp_all; done) | omega | (rw [rslot, hm.1]; done) | (rw [rslot, hm.1]; omega)
    · refine vc_skip ?_
      refine thn ?_
      refine vc_sr ?_
      iterate 7 refine vo ?_
      try refine vwr ?_
      refine vo ?_
      try refine vwr ?_
      refine vo ?_
      refine vnt ?_
      refine vc_ret ?_
      refine fin_i [] rfl (fz ?_) trivial
      first | (simp_all; done) | omega | (rw [rslot, hm.1]; done) | (rw [rslot, hm.1]; omega)
end Go.Proofs.YtnikopahkjmneaaGreat
end
section
namespace Go.Proofs.YtnikopahkjmneaaGreat
open Go Go.RowKit Go.Vc
set_option linter.unusedVariables false
set_option linter.unusedSimpArgs false
set_option linter.unnecessarySimpa false
set_option maxHeartbeats 4000000 in
theorem c_impl_copyStrings {ps : Pg} (hp : ps.length ≤ 1099511627776 := by first | assumption | omega) : Con0 Tryz.prog 87 [.one (.sl 1 (ps.map strE))] (.one (.hs 0)) [(0, .arr 9 1 ((ps).map strE))] := by
  refine con_i Tryz.func87 Tryz.ntmps87 (t := [(0, .one (.sl 1 (ps.map strE)))]) rfl ?_
  refine vc_sr ?_
  refine vo ?_
  refine vnt ?_
  refine vc_sr ?_
  iterate 4 refine vo ?_
  refine vnt ?_
  refine vc_ret ?_
  refine fin_i [(0, some 40)] rfl (fz ?_) (fz ?_) <;> first | trivial | rfl
set_option maxHeartbeats 4000000 in
theorem c_impl_copyMemory {ps : Pg} (hp : ps.length ≤ 1099511627776 := by first | assumption | omega) : Con0 Tryz.prog 45 [.agg [.sl 1 (ps.map strE)]] (.agg [.hs 0]) [(0, .arr 9 1 ((ps).map strE))] := by
  refine con_i Tryz.func45 Tryz.ntmps45 (t := [(0, .agg [.sl 1 (ps.map strE)])]) rfl ?_
  refine vc_sr ?_
  iterate 2 refine vo ?_
  refine vnt ?_
  refine vc_sr ?_
  iterate 2 refine vo ?_
  refine voc c_impl_copyStrings rfl rfl ?_
  iterate 2 refine vo ?_
  refine vnt ?_
  refine vc_ret ?_
  refine fin_i [(0, some 40)] rfl (fz ?_) (fz ?_) <;> first | trivial | rfl
set_option maxHeartbeats 4000000 in
theorem c_spec_l16Copy {ps : Pg} (hp : ps.length ≤ 1099511627776 := by first | assumption | omega) : Con0 Tryz.prog 29 [.agg [.sl 1 (ps.map strE)]] (.agg [.hs 0]) [(0, .arr 9 1 ((ps).map strE))] := by
  refine con_i Tryz.func29 Tryz.ntmps29 (t := [(0, .agg [.sl 1 (ps.map strE)])]) rfl ?_
  refine vc_sr ?_
  iterate 2 refine vo ?_
  refine vnt ?_
  refine vc_sr ?_
  iterate 6 refine vo ?_
  refine vnt ?_
  refine vc_ret ?_
  refine fin_i [(0, some 48)] rfl (fz ?_) (fz ?_) <;> first | trivial | rfl
section
variable {P : Program} [TyEnv P] {n : Nat} {ops os : List Oper} {dr : Bool} {K : Tm → Hp → Prop} {t : Tm} {H : Hp} {fp : List Fp} {d : Nat}
theorem vep {sz i k : Nat} {es : List (List Value)} (h : Vd P n ops dr K os ((d, .one (.ep sz es i k)) :: t) H fp) : Vd P n ops dr K os ((d, .one (.ep sz es (Int.toNat (i : Nat)) k)) :: t) H fp := h
theorem vpt {j sz i k : Nat} (h : Vd P n ops dr K os ((d, .one (.ptr j i sz k)) :: t) H fp) : Vd P n ops dr K os ((d, .one (.ptr j (Int.toNat (i : Nat)) sz k)) :: t) H fp := h
end
theorem at_eq {α : Type} [Inhabited α] {l : List α} {i : Nat} (h : i < l.length) : at' l i = l[i] := by unfold at'; rw [List.getElem?_eq_getElem h]; rfl
theorem mem_stp {ps : Pg} {i : Nat} (h : ∀ j (g : j < ps.length), j < i → ps[j].size = 128) (hi : i < ps.length) (hs : ((at' ps i).size : Int) = 128) : ∀ j (g : j < ps.length), j < i + 1 → ps[j].size = 128 := fun j g hj => by
  rcases Nat.lt_or_ge j i with h2 | h2
  · exact h j g h2
  · obtain rfl : j = i := by omega
    rw [at_eq hi] at hs; omega
theorem mem_bad {ps : Pg} {i : Nat} (hi : i < ps.length) (hs : ¬ ((at' ps i).size : Int) = 128) : memOk ps = false := memOk_bad hi (by rw [at_eq hi] at hs; omega)
theorem mem_end {ps : Pg} {i : Nat} (h : ∀ j (g : j < ps.length), j < i → ps[j].size = 128) (hi : ¬ i < ps.length) : memOk ps = decide ((ps.length : Int) ≤ 64) := memOk_all fun k g => h k g (by omega)
theorem mpIdx_end {l : List Mp} {d v : Int} {i : Nat} (h : mpIdx l d v = mpIdxF d v i (l.drop i)) (hi : ¬ i < l.length) : mpIdx l d v = -1 := by
  rw [h, List.drop_eq_nil_of_le (by omega)]; rfl
theorem mpIdx_hit {l : List Mp} {d v : Int} {i : Nat} (h : mpIdx l d v = mpIdxF d v i (l.drop i)) (hi : i < l.length) (h1 : (at' l i).1 = d) (h2 : (at' l i).2.1 = v) : mpIdx l d v = i := by
  rw [h, drop_at hi]; simp [mpIdxF, Go.hit, h1, h2]
theorem mpIdx_go {l : List Mp} {d v : Int} {i : Nat} (h : mpIdx l d v = mpIdxF d v i (l.drop i)) (hi : i < l.length) (hh : ¬ ((at' l i).1 = d ∧ (at' l i).2.1 = v)) : mpIdx l d v = mpIdxF d v (i + 1) (l.drop (i + 1)) := by
  rw [h, drop_at hi]
  have : Go.hit (at' l i) d v = false := hit_no.2 hh
  simp [mpIdxF, this]
set_option maxHeartbeats 4000000 in
theorem c_impl_MemoryOk {ps : Pg} (hp : ps.length ≤ 1099511627776 := by first | assumption | omega) : Con0 Tryz.prog 159 [.agg [.sl 1 (ps.map strE)]] (B (memOk ps)) [] := by
  refine con_i Tryz.func159 Tryz.ntmps159 (t := [(0, .agg [.sl 1 (ps.map strE)])]) rfl ?_
  refine vc_sr ?_
  iterate 2 refine vo ?_
  refine vnt ?_
  refine vc_seq' ?_
  refine vc_sr ?_
  iterate 3 refine vo ?_
  try refine vln ?_
  refine vo ?_
  refine vnt ?_
  refine vc_block ?_
  refine vc_lp (σ := Nat) [1, 6, 7] [8] (fun i => [(8, I (i : Nat))]) (fun i => []) (fun i => i ≤ ps.length ∧ ∀ j (g : j < ps.length), j < i → ps[j].size = 128) (fun i => ps.length - i) 0 rfl rfl (sub_i [] (fz ?_) (fz ?_)) ?_ fun i hI => ?_
  · first | trivial | rfl
  · first | trivial | rfl | (exact ⟨rfl, trivial⟩)
  · exact ⟨Nat.zero_le _, fun j g h => by omega⟩
  refine vc_nf rfl rfl ?_
  refine vc_sr ?_
  refine vo ?_
  refine vnt ?_
  refine vc_seq' ?_
  refine vc_if (fun g1 => ?_) (fun g1 => ?_)
  · refine vc_skip ?_
    refine thn ?_
    refine vc_seq' ?_
    refine vc_block ?_
    refine vc_sr ?_
    iterate 3 refine vo ?_
    refine vnt ?_
    refine vc_sr ?_
    iterate 3 refine vo ?_
    refine vnt ?_
    refine vc_if (fun g2 => ?_) (fun g2 => ?_)
    · refine vc_sr ?_
      refine vo ?_
      refine vnt ?_
      refine vc_ret ?_
      refine inB_r ?_
      refine thn_r ?_
      refine thn_r ?_
      refine inB_r ?_
      refine thn_r ?_
      refine fin_i [] rfl (fz ?_) trivial
      exact mem_bad g1 g2
    · refine vc_skip ?_
      refine inB_n ?_
      refine thn ?_
      refine vc_region ?_
      refine vo ?_
      try refine vwr ?_
      refine vo ?_
      refine vnt ?_
      refine ⟨i + 1, ?_, ?_, sub_i [] (fz ?_) (fz ?_)⟩
      · exact ⟨by omega, mem_stp hI.2 g1 g2⟩
      · omega
      · first | rfl | trivial
      · first | trivial
  · refine vc_exit ?_
    refine thn_x ?_
    refine thn_x ?_
    refine inB_x ?_
    refine thn ?_
    refine vc_sr ?_
    iterate 3 refine vo ?_
    try refine vln ?_
    iterate 2 refine vo ?_
    refine vnt ?_
    refine vc_ret ?_
    refine fin_i [] rfl (fz ?_) trivial
    exact mem_end hI.2 g1
set_option maxHeartbeats 4000000 in
theorem c_spec_MemoryOk {ps : Pg} (hp : ps.length ≤ 1099511627776 := by first | assumption | omega) : Con0 Tryz.prog 142 [.agg [.sl 1 (ps.map strE)]] (B (memOk ps)) [] := by
  refine con_i Tryz.func142 Tryz.ntmps142 (t := [(0, .agg [.sl 1 (ps.map strE)])]) rfl ?_
  refine vc_sr ?_
  iterate 2 refine vo ?_
  refine vnt ?_
  refine vc_seq' ?_
  refine vc_sr ?_
  refine vo ?_
  refine vnt ?_
  refine vc_block ?_
  refine vc_lp (σ := Nat) [1] [8] (fun i => [(3, I (i : Nat))]) (fun i => []) (fun i => i ≤ ps.length ∧ ∀ j (g : j < ps.length), j < i → ps[j].size = 128) (fun i => ps.length - i) 0 rfl rfl (sub_i [] (fz ?_) (fz ?_)) ?_ fun i hI => ?_
  · first | trivial | rfl
  · first | trivial | rfl | (exact ⟨rfl, trivial⟩)
  · exact ⟨Nat.zero_le _, fun j g h => by omega⟩
  refine vc_nf rfl rfl ?_
  refine vc_seq' ?_
  refine vc_sr ?_
  iterate 4 refine vo ?_
  try refine vln ?_
  refine vo ?_
  refine vnt ?_
  refine vc_if (fun g1 => ?_) (fun g1 => ?_)
  · refine vc_skip ?_
    refine thn ?_
    refine vc_seq' ?_
    refine vc_block ?_
    refine vc_sr ?_
    iterate 7 refine vo ?_
    refine vnt ?_
    refine vc_if (fun g2 => ?_) (fun g2 => ?_)
    · refine vc_sr ?_
      refine vo ?_
      refine vnt ?_
      refine vc_ret ?_
      refine inB_r ?_
      refine thn_r ?_
      refine thn_r ?_
      refine inB_r ?_
      refine thn_r ?_
      refine fin_i [] rfl (fz ?_) trivial
      exact mem_bad g1 g2
    · refine vc_skip ?_
      refine inB_n ?_
      refine thn ?_
      refine vc_region ?_
      iterate 2 refine vo ?_
      try refine vwr ?_
      refine vo ?_
      refine vnt ?_
      refine ⟨i + 1, ?_, ?_, sub_i [] (fz ?_) (fz ?_)⟩
      · exact ⟨by omega, mem_stp hI.2 g1 g2⟩
      · omega
      · first | rfl | trivial
      · first | trivial
  · refine vc_exit ?_
    refine thn_x ?_
    refine thn_x ?_
    refine inB_x ?_
    refine thn ?_
    refine vc_sr ?_
    iterate 3 refine vo ?_
    try refine vln ?_
    iterate 2 refine vo ?_
    refine vnt ?_
    refine vc_ret ?_
    refine fin_i [] rfl (fz ?_) trivial
    exact mem_end hI.2 g1
set_option maxHeartbeats 4000000 in
theorem c_impl_within {ps : Pg} {a n : Int} (hp : ps.length ≤ 1099511627776 := by first | assumption | omega) : Con0 Tryz.prog 161 [.agg [.sl 1 (ps.map strE)], I a, I n] (B (memInB ps a n)) [] := by
  refine con_i Tryz.func161 Tryz.ntmps161 (t := [(0, .agg [.sl 1 (ps.map strE)]), (1, I a), (2, I n)]) rfl ?_
  refine vc_sr ?_
  iterate 2 refine vo ?_
  refine vnt ?_
  refine vc_sr ?_
  iterate 3 refine vo ?_
  try refine vln ?_
  refine vo ?_
  try refine vwr ?_
  refine vo ?_
  refine vnt ?_
  refine vc_sr ?_
  refine vo ?_
  refine voc c_impl_MemoryOk rfl rfl ?_
  refine vo ?_
  refine vsp (fun g1 => ?_) (fun g1 => ?_)
  · iterate 2 refine von ?_
    iterate 2 refine vo ?_
    refine vsp (fun g2 => ?_) (fun g2 => ?_)
    · iterate 3 refine von ?_
      iterate 2 refine vo ?_
      refine vsp (fun g3 => ?_) (fun g3 => ?_)
      · iterate 2 refine von ?_
        iterate 2 refine vo ?_
        refine vsp (fun g4 => ?_) (fun g4 => ?_)
        · iterate 4 refine von ?_
          try refine vwr ?_
          refine von ?_
          iterate 2 refine vo ?_
          refine vnt ?_
          refine vc_ret ?_
          refine fin_i [] rfl (fz ?_) trivial
          simp [memInB, g1]
          try first | omega | (rw [Bool.eq_iff_iff]; simp; omega)
        · iterate 5 refine vof ?_
          iterate 2 refine vo ?_
          refine vnt ?_
          refine vc_ret ?_
          refine fin_i [] rfl (fz ?_) trivial
          simp [memInB, g1]
          try first | omega | (rw [Bool.eq_iff_iff]; simp; omega)
      · iterate 2 refine vof ?_
        iterate 2 refine vo ?_
        iterate 5 refine vof ?_
        iterate 2 refine vo ?_
        refine vnt ?_
        refine vc_ret ?_
        refine fin_i [] rfl (fz ?_) trivial
        simp [memInB, g1]
        try first | omega | (rw [Bool.eq_iff_iff]; simp; omega)
    · iterate 3 refine vof ?_
      iterate 2 refine vo ?_
      iterate 2 refine vof ?_
      iterate 2 refine vo ?_
      iterate 5 refine vof ?_
      iterate 2 refine vo ?_
      refine vnt ?_
      refine vc_ret ?_
      refine fin_i [] rfl (fz ?_) trivial
      simp [memInB, g1]
      try first | omega | (rw [Bool.eq_iff_iff]; simp; omega)
  · iterate 2 refine vof ?_
    iterate 2 refine vo ?_
    iterate 3 refine vof ?_
    iterate 2 refine vo ?_
    iterate 2 refine vof ?_
    iterate 2 refine vo ?_
    iterate 5 refine vof ?_
    iterate 2 refine vo ?_
    refine vnt ?_
    refine vc_ret ?_
    refine fin_i [] rfl (fz ?_) trivial
    simp [memInB, g1]
    try first | omega | (rw [Bool.eq_iff_iff]; simp; omega)
set_option maxHeartbeats 4000000 in
theorem c_spec_l16Within {ps : Pg} {a n : Int} (hp : ps.length ≤ 1099511627776 := by first | assumption | omega) : Con0 Tryz.prog 144 [.agg [.sl 1 (ps.map strE)], I a, I n] (B (memInB ps a n)) [] := by
  refine con_i Tryz.func144 Tryz.ntmps144 (t := [(0, .agg [.sl 1 (ps.map strE)]), (1, I a), (2, I n)]) rfl ?_
  refine vc_sr ?_
  iterate 2 refine vo ?_
  refine vnt ?_
  refine vc_sr ?_
  iterate 3 refine vo ?_
  try refine vln ?_
  refine vo ?_
  try refine vwr ?_
  refine vo ?_
  refine vnt ?_
  refine vc_sr ?_
  refine vo ?_
  refine voc c_spec_MemoryOk rfl rfl ?_
  refine vo ?_
  refine vsp (fun g1 => ?_) (fun g1 => ?_)
  · iterate 2 refine von ?_
    iterate 2 refine vo ?_
    refine vsp (fun g2 => ?_) (fun g2 => ?_)
    · iterate 2 refine von ?_
      iterate 2 refine vo ?_
      refine vsp (fun g3 => ?_) (fun g3 => ?_)
      · iterate 3 refine von ?_
        iterate 2 refine vo ?_
        refine vsp (fun g4 => ?_) (fun g4 => ?_)
        · iterate 4 refine von ?_
          try refine vwr ?_
          refine von ?_
          iterate 2 refine vo ?_
          refine vnt ?_
          refine vc_ret ?_
          refine fin_i [] rfl (fz ?_) trivial
          simp [memInB, g1]
          try first | omega | (rw [Bool.eq_iff_iff]; simp; omega)
        · iterate 5 refine vof ?_
          iterate 2 refine vo ?_
          refine vnt ?_
          refine vc_ret ?_
          refine fin_i [] rfl (fz ?_) trivial
          simp [memInB, g1]
          try first | omega | (rw [Bool.eq_iff_iff]; simp; omega)
      · iterate 3 refine vof ?_
        iterate 2 refine vo ?_
        iterate 5 refine vof ?_
        iterate 2 refine vo ?_
        refine vnt ?_
        refine vc_ret ?_
        refine fin_i [] rfl (fz ?_) trivial
        simp [memInB, g1]
        try first | omega | (rw [Bool.eq_iff_iff]; simp; omega)
    · iterate 2 refine vof ?_
      iterate 2 refine vo ?_
      iterate 3 refine vof ?_
      iterate 2 refine vo ?_
      iterate 5 refine vof ?_
      iterate 2 refine vo ?_
      refine vnt ?_
      refine vc_ret ?_
      refine fin_i [] rfl (fz ?_) trivial
      simp [memInB, g1]
      try first | omega | (rw [Bool.eq_iff_iff]; simp; omega)
  · iterate 2 refine vof ?_
    iterate 2 refine vo ?_
    iterate 2 refine vof ?_
    iterate 2 refine vo ?_
    iterate 3 refine vof ?_
    iterate 2 refine vo ?_
    iterate 5 refine vof ?_
    iterate 2 refine vo ?_
    refine vnt ?_
    refine vc_ret ?_
    refine fin_i [] rfl (fz ?_) trivial
    simp [memInB, g1]
    try first | omega | (rw [Bool.eq_iff_iff]; simp; omega)
set_option maxHeartbeats 4000000 in
theorem c_impl_pageMapping {l : List Mp} {d v : Int} (hl : l.length ≤ 1099511627776 := by first | assumption | omega) : Con0 Tryz.prog 164 [.one (.sl 4 (l.map mpE)), I d, I v] (I (mpIdx l d v)) [] := by
  refine con_i Tryz.func164 Tryz.ntmps164 (t := [(0, .one (.sl 4 (l.map mpE))), (1, I d), (2, I v)]) rfl ?_
  refine vc_sr ?_
  refine vo ?_
  refine vnt ?_
  refine vc_seq' ?_
  refine vc_sr ?_
  iterate 2 refine vo ?_
  try refine vln ?_
  refine vo ?_
  refine vnt ?_
  refine vc_block ?_
  refine vc_lp (σ := Nat) [1, 2, 9, 10] [] (fun i => [(11, I (i : Nat))]) (fun i => []) (fun i => i ≤ l.length ∧ mpIdx l d v = mpIdxF d v i (l.drop i)) (fun i => l.length - i) 0 rfl rfl (sub_i [] (fz ?_) (fz ?_)) ?_ fun i hI => ?_
  · first | trivial | rfl
  · first | trivial | rfl
  · exact ⟨Nat.zero_le _, rfl⟩
  refine vc_nf rfl rfl ?_
  refine vc_sr ?_
  refine vo ?_
  refine vnt ?_
  refine vc_seq' ?_
  refine vc_if (fun g1 => ?_) (fun g1 => ?_)
  · refine vc_skip ?_
    refine thn ?_
    refine vc_seq' ?_
    refine vc_block ?_
    refine vc_sr ?_
    iterate 6 refine vo ?_
    refine vnt ?_
    refine vc_sr ?_
    iterate 5 refine vo ?_
    refine vsp (fun g2 => ?_) (fun g2 => ?_)
    · iterate 4 refine von ?_
      refine vo ?_
      refine vnt ?_
      refine vc_if (fun g3 => ?_) (fun g3 => ?_)
      · refine vc_sr ?_
        iterate 2 refine vo ?_
        refine vnt ?_
        refine vc_ret ?_
        refine inB_r ?_
        refine thn_r ?_
        refine thn_r ?_
        refine inB_r ?_
        refine thn_r ?_
        refine fin_i [] rfl (fz ?_) trivial
        exact mpIdx_hit hI.2 g1 g2 g3
      · refine vc_skip ?_
        refine inB_n ?_
        refine thn ?_
        refine vc_region ?_
        refine vo ?_
        try refine vwr ?_
        refine vo ?_
        refine vnt ?_
        refine ⟨i + 1, ?_, ?_, sub_i [] (fz ?_) (fz ?_)⟩
        · exact ⟨by omega, mpIdx_go hI.2 g1 fun h => by simp_all⟩
        · omega
        · first | rfl | trivial
        · first | trivial
    · iterate 4 refine vof ?_
      refine vo ?_
      refine vnt ?_
      refine vc_else ?_
      refine vc_skip ?_
      refine inB_n ?_
      refine thn ?_
      refine vc_region ?_
      refine vo ?_
      try refine vwr ?_
      refine vo ?_
      refine vnt ?_
      refine ⟨i + 1, ?_, ?_, sub_i [] (fz ?_) (fz ?_)⟩
      · exact ⟨by omega, mpIdx_go hI.2 g1 fun h => by simp_all⟩
      · omega
      · first | rfl | trivial
      · first | trivial
  · refine vc_exit ?_
    refine thn_x ?_
    refine thn_x ?_
    refine inB_x ?_
    refine thn ?_
    refine vc_sr ?_
    refine vo ?_
    refine vnt ?_
    refine vc_ret ?_
    refine fin_i [] rfl (fz ?_) trivial
    exact mpIdx_end hI.2 g1
theorem mp_bad {l : List Mp} {i : Nat} (hi : i < l.length) (h : inB (at' l i).1 0 7 = false ∨ inB (at' l i).2.1 0 1023 = false ∨ inB (at' l i).2.2.1 0 63 = false ∨ ¬ mpIdx l (at' l i).1 (at' l i).2.1 = i) : mapsOk l = false := by
  rw [at_eq hi] at h
  refine mapsOk_bad hi fun hg => ?_
  obtain ⟨⟨h1, h2, h3⟩, h4⟩ := hg hi
  rcases h with h | h | h | h
  · rw [inB_iff.2 h1] at h; cases h
  · rw [inB_iff.2 h2] at h; cases h
  · rw [inB_iff.2 h3] at h; cases h
  · exact h ((mpIdx_self hi).2 h4)
theorem mp_stp {l : List Mp} {i : Nat} (h : ∀ j, j < i → mapGood l j) (hi : i < l.length) (h1 : inB (at' l i).1 0 7 = true) (h2 : inB (at' l i).2.1 0 1023 = true) (h3 : inB (at' l i).2.2.1 0 63 = true) (h4 : mpIdx l (at' l i).1 (at' l i).2.1 = i) : ∀ j, j < i + 1 → mapGood l j := fun j hj => by
  rcases Nat.lt_or_ge j i with g | g
  · exact h j g
  · obtain rfl : j = i := by omega
    rw [at_eq hi] at h1 h2 h3 h4
    exact fun _ => ⟨⟨inB_iff.1 h1, inB_iff.1 h2, inB_iff.1 h3⟩, (mpIdx_self hi).1 h4⟩
theorem mp_end {l : List Mp} {i : Nat} (h : ∀ j, j < i → mapGood l j) (hi : ¬ i < l.length) : mapsOk l = decide ((l.length : Int) ≤ 96) := mapsOk_all fun k hk => h k (by omega)
theorem mp_dup {l : List Mp} {i j : Nat} (hi : i < l.length) (hj : j < i) (h1 : (at' l j).1 = (at' l i).1) (h2 : (at' l j).2.1 = (at' l i).2.1) : mapsOk l = false := by
  rw [at_eq hi, at_eq (by omega)] at h1 h2
  exact mapsOk_bad hi fun hg => (hg hi).2 j hj ⟨h1, h2⟩
theorem mp_stp2 {l : List Mp} {i j : Nat} (h : ∀ j, j < i → mapGood l j) (hi : i < l.length) (h1 : inB (at' l i).1 0 7 = true) (h2 : inB (at' l i).2.1 0 1023 = true) (h3 : inB (at' l i).2.2.1 0 63 = true) (h4 : ∀ k, k < j → ¬ ((at' l k).1 = (at' l i).1 ∧ (at' l k).2.1 = (at' l i).2.1)) (hj : ¬ j < i) : ∀ j, j < i + 1 → mapGood l j := fun k hk => by
  rcases Nat.lt_or_ge k i with g | g
  · exact h k g
  · obtain rfl : k = i := by omega
    rw [at_eq hi] at h1 h2 h3 h4
    exact fun _ => ⟨⟨inB_iff.1 h1, inB_iff.1 h2, inB_iff.1 h3⟩, fun q hq => by have := h4 q (by omega); rwa [at_eq (by omega)] at this⟩
theorem pg_hit {l : List Mp} {d v : Int} {i : Nat} {wt : Bool} (hm : MapsOk l) (hi : i < l.length) (h1 : (at' l i).1 = d) (h2 : (at' l i).2.1 = v) : mpPage l d v wt = if wt && !(at' l i).2.2.2 then -1 else (at' l i).2.2.1 := by
  rw [at_eq hi] at *
  exact mpPage_unique hm hi (hit_iff.2 ⟨h1, h2⟩) wt
def noPg (l : List Mp) (d v : Int) (wt : Bool) (i : Nat) : Prop := ∀ j, j < i → ¬ ((at' l j).1 = d ∧ (at' l j).2.1 = v ∧ ((at' l j).2.2.2 = true ∨ wt = false))
theorem pg_end {l : List Mp} {d v : Int} {i : Nat} {wt : Bool} (hm : MapsOk l) (h : noPg l d v wt i) (hi : ¬ i < l.length) : mpPage l d v wt = -1 := by
  rcases mp_first l d v with h1 | ⟨k, hk, h1, h2⟩
  · exact mpPage_no h1 wt
  · rw [mpPage_unique hm hk h2 wt]
    have := h k (by omega)
    rw [at_eq hk] at this
    have h3 := hit_iff.1 h2
    rw [if_pos]
    cases hw : wt <;> cases hx : l[k].2.2.2 <;> simp_all
theorem pg_idx {l : List Mp} {d v : Int} {wt : Bool} (hm : MapsOk l) : (mpIdx l d v < 0 → mpPage l d v wt = -1) ∧ (0 ≤ mpIdx l d v → ∃ i, i < l.length ∧ mpIdx l d v = (i : Nat) ∧ mpPage l d v wt = if wt && !(at' l i).2.2.2 then -1 else (at' l i).2.2.1) := by
  rcases mp_first l d v with h1 | ⟨k, hk, h1, h2⟩
  · rw [mpIdx_no h1]
    exact ⟨fun _ => mpPage_no h1 wt, fun h => by omega⟩
  · rw [mpIdx_at hk h1 h2]
    exact ⟨fun h => by omega, fun _ => ⟨k, hk, rfl, by rw [at_eq hk]; exact mpPage_at hk h1 h2 wt⟩⟩
set_option maxHeartbeats 4000000 in
theorem c_impl_MappingsOk {l : List Mp} (hl : l.length ≤ 1099511627776 := by first | assumption | omega) : Con0 Tryz.prog 158 [.one (.sl 4 (l.map mpE))] (B (mapsOk l)) [] := by
  refine con_i Tryz.func158 Tryz.ntmps158 (t := [(0, .one (.sl 4 (l.map mpE)))]) rfl ?_
  refine vc_sr ?_
  refine vo ?_
  refine vnt ?_
  refine vc_seq' ?_
  refine vc_sr ?_
  iterate 2 refine vo ?_
  try refine vln ?_
  refine vo ?_
  refine vnt ?_
  refine vc_block ?_
  refine vc_lp (σ := Nat) [0, 5, 6] [] (fun i => [(7, I (i : Nat))]) (fun i => []) (fun i => i ≤ l.length ∧ ∀ j, j < i → mapGood l j) (fun i => l.length - i) 0 rfl rfl (sub_i [] (fz ?_) (fz ?_)) ?_ fun i hI => ?_
  · first | trivial | rfl
  · first | trivial | rfl
  · exact ⟨Nat.zero_le _, fun j h => by omega⟩
  refine vc_nf rfl rfl ?_
  refine vc_sr ?_
  refine vo ?_
  refine vnt ?_
  refine vc_seq' ?_
  refine vc_if (fun g1 => ?_) (fun g1 => ?_)
  · refine vc_skip ?_
    refine thn ?_
    refine vc_seq' ?_
    refine vc_block ?_
    refine vc_sr ?_
    iterate 6 refine vo ?_
    refine vnt ?_
    refine vc_sr ?_
    iterate 2 refine vo ?_
    refine voc c_impl_between rfl rfl ?_
    iterate 2 refine vo ?_
    refine vsp (fun g2 => ?_) (fun g2 => ?_)
    · iterate 4 refine vof ?_
      iterate 2 refine vo ?_
      iterate 4 refine vof ?_
      iterate 2 refine vo ?_
      iterate 8 refine vof ?_
      refine vo ?_
      refine vnt ?_
      refine vc_then ?_
      refine vc_sr ?_
      refine vo ?_
      refine vnt ?_
      refine vc_ret ?_
      refine inB_r ?_
      refine thn_r ?_
      refine thn_r ?_
      refine inB_r ?_
      refine thn_r ?_
      refine fin_i [] rfl (fz ?_) trivial
      exact mp_bad g1 (by simp_all)
    · iterate 2 refine von ?_
      refine vocn c_impl_between rfl rfl ?_
      refine von ?_
      iterate 2 refine vo ?_
      refine vsp (fun g3 => ?_) (fun g3 => ?_)
      · iterate 4 refine vof ?_
        iterate 2 refine vo ?_
        iterate 8 refine vof ?_
        refine vo ?_
        refine vnt ?_
        refine vc_then ?_
        refine vc_sr ?_
        refine vo ?_
        refine vnt ?_
        refine vc_ret ?_
        refine inB_r ?_
        refine thn_r ?_
        refine thn_r ?_
        refine inB_r ?_
        refine thn_r ?_
        refine fin_i [] rfl (fz ?_) trivial
        exact mp_bad g1 (by simp_all)
      · iterate 2 refine von ?_
        refine vocn c_impl_between rfl rfl ?_
        refine von ?_
        iterate 2 refine vo ?_
        refine vsp (fun g4 => ?_) (fun g4 => ?_)
        · iterate 8 refine vof ?_
          refine vo ?_
          refine vnt ?_
          refine vc_then ?_
          refine vc_sr ?_
          refine vo ?_
          refine vnt ?_
          refine vc_ret ?_
          refine inB_r ?_
          refine thn_r ?_
          refine thn_r ?_
          refine inB_r ?_
          refine thn_r ?_
          refine fin_i [] rfl (fz ?_) trivial
          exact mp_bad g1 (by simp_all)
        · iterate 5 refine von ?_
          refine vocn c_impl_pageMapping rfl rfl ?_
          iterate 2 refine von ?_
          refine vo ?_
          refine vnt ?_
          refine vc_if (fun g5 => ?_) (fun g5 => ?_)
          · refine vc_sr ?_
            refine vo ?_
            refine vnt ?_
            refine vc_ret ?_
            refine inB_r ?_
            refine thn_r ?_
            refine thn_r ?_
            refine inB_r ?_
            refine thn_r ?_
            refine fin_i [] rfl (fz ?_) trivial
            exact mp_bad g1 (by simp_all)
          · refine vc_skip ?_
            refine inB_n ?_
            refine thn ?_
            refine vc_region ?_
            refine vo ?_
            try refine vwr ?_
            refine vo ?_
            refine vnt ?_
            refine ⟨i + 1, ?_, ?_, sub_i [] (fz ?_) (fz ?_)⟩
            · exact ⟨by omega, mp_stp hI.2 g1 g2 g3 g4 g5⟩
            · omega
            · first | rfl | trivial
            · first | trivial
  · refine vc_exit ?_
    refine thn_x ?_
    refine thn_x ?_
    refine inB_x ?_
    refine thn ?_
    refine vc_sr ?_
    iterate 2 refine vo ?_
    try refine vln ?_
    iterate 2 refine vo ?_
    refine vnt ?_
    refine vc_ret ?_
    refine fin_i [] rfl (fz ?_) trivial
    exact mp_end hI.2 g1
theorem pg_stp {l : List Mp} {d v : Int} {i : Nat} {wt : Bool} (h : noPg l d v wt i) (hh : ¬ ((at' l i).1 = d ∧ (at' l i).2.1 = v ∧ ((at' l i).2.2.2 = true ∨ wt = false))) : noPg l d v wt (i + 1) := fun j hj => by
  rcases Nat.lt_or_ge j i with g | g
  · exact h j g
  · obtain rfl : j = i := by omega
    exact hh
theorem mp_phys {l : List Mp} (hm : MapsOk l) {i : Nat} (hi : i < l.length) : 0 ≤ (at' l i).2.2.1 ∧ (at' l i).2.2.1 ≤ 63 := by rw [at_eq hi]; exact (hm.2 i hi).1.2.2
theorem place_neg {l : List Mp} {d a : Int} {wt : Bool} (hm : MapsOk l) (h : a < 0) : placeF l d a wt = -1 := by
  unfold placeF
  by_cases h2 : mpPage l d (a / 128) wt < 0
  · rw [if_pos h2]
  · have := mpPage_v hm (d := d) (v := a / 128) (wr := wt) (by omega); omega
set_option maxHeartbeats 4000000 in
theorem c_spec_l17Page {l : List Mp} {d v : Int} {wt : Bool} (hm : MapsOk l := by assumption) : Con0 Tryz.prog 143 [.one (.sl 4 (l.map mpE)), I d, I v, B wt] (I (mpPage l d v wt)) [] := by
  have hl := hm.1
  refine con_i Tryz.func143 Tryz.ntmps143 (t := [(0, .one (.sl 4 (l.map mpE))), (1, I d), (2, I v), (3, B wt)]) rfl ?_
  refine vc_sr ?_
  refine vo ?_
  refine vnt ?_
  refine vc_seq' ?_
  refine vc_sr ?_
  refine vo ?_
  refine vnt ?_
  refine vc_block ?_
  refine vc_lp (σ := Nat) [0, 1, 2, 3] [] (fun i => [(9, I (i : Nat))]) (fun i => []) (fun i => i ≤ l.length ∧ noPg l d v wt i) (fun i => l.length - i) 0 rfl rfl (sub_i [] (fz ?_) (fz ?_)) ?_ fun i hI => ?_
  · first | trivial | rfl
  · first | trivial | rfl
  · exact ⟨Nat.zero_le _, fun j h => by omega⟩
  refine vc_nf rfl rfl ?_
  refine vc_seq' ?_
  refine vc_sr ?_
  iterate 3 refine vo ?_
  try refine vln ?_
  refine vo ?_
  refine vnt ?_
  refine vc_if (fun g1 => ?_) (fun g1 => ?_)
  · refine vc_skip ?_
    refine thn ?_
    refine vc_seq' ?_
    refine vc_block ?_
    refine vc_sr ?_
    iterate 8 refine vo ?_
    refine vsp (fun g2 => ?_) (fun g2 => ?_)
    · iterate 7 refine von ?_
      iterate 2 refine vo ?_
      refine vsp (fun g3 => ?_) (fun g3 => ?_)
      · iterate 6 refine von ?_
        refine vsp (fun g4 => ?_) (fun g4 => ?_)
        · iterate 2 refine vof ?_
          refine von ?_
          refine vo ?_
          refine vnt ?_
          refine vc_then ?_
          refine vc_sr ?_
          iterate 6 refine vo ?_
          refine vnt ?_
          refine vc_ret ?_
          refine inB_r ?_
          refine thn_r ?_
          refine thn_r ?_
          refine inB_r ?_
          refine thn_r ?_
          refine fin_i [] rfl (fz ?_) trivial
          rw [pg_hit hm g1 g2 g3, if_neg]
          simp_all
        · iterate 3 refine von ?_
          refine vo ?_
          refine vnt ?_
          refine vc_if (fun g5 => ?_) (fun g5 => ?_)
          · refine vc_sr ?_
            iterate 6 refine vo ?_
            refine vnt ?_
            refine vc_ret ?_
            refine inB_r ?_
            refine thn_r ?_
            refine thn_r ?_
            refine inB_r ?_
            refine thn_r ?_
            refine fin_i [] rfl (fz ?_) trivial
            rw [pg_hit hm g1 g2 g3, if_neg]
            simp_all
          · refine vc_skip ?_
            refine inB_n ?_
            refine thn ?_
            refine vc_region ?_
            iterate 2 refine vo ?_
            try refine vwr ?_
            refine vo ?_
            refine vnt ?_
            refine ⟨i + 1, ?_, ?_, sub_i [] (fz ?_) (fz ?_)⟩
            · exact ⟨by omega, pg_stp hI.2 (by simp_all)⟩
            · omega
            · first | rfl | trivial
            · first | trivial
      · iterate 9 refine vof ?_
        refine vo ?_
        refine vnt ?_
        refine vc_else ?_
        refine vc_skip ?_
        refine inB_n ?_
        refine thn ?_
        refine vc_region ?_
        iterate 2 refine vo ?_
        try refine vwr ?_
        refine vo ?_
        refine vnt ?_
        refine ⟨i + 1, ?_, ?_, sub_i [] (fz ?_) (fz ?_)⟩
        · exact ⟨by omega, pg_stp hI.2 (by simp_all)⟩
        · omega
        · first | rfl | trivial
        · first | trivial
    · iterate 7 refine vof ?_
      iterate 2 refine vo ?_
      iterate 9 refine vof ?_
      refine vo ?_
      refine vnt ?_
      refine vc_else ?_
      refine vc_skip ?_
      refine inB_n ?_
      refine thn ?_
      refine vc_region ?_
      iterate 2 refine vo ?_
      try refine vwr ?_
      refine vo ?_
      refine vnt ?_
      refine ⟨i + 1, ?_, ?_, sub_i [] (fz ?_) (fz ?_)⟩
      · exact ⟨by omega, pg_stp hI.2 (by simp_all)⟩
      · omega
      · first | rfl | trivial
      · first | trivial
  · refine vc_exit ?_
    refine thn_x ?_
    refine thn_x ?_
    refine inB_x ?_
    refine thn ?_
    refine vc_sr ?_
    refine vo ?_
    refine vnt ?_
    refine vc_ret ?_
    refine fin_i [] rfl (fz ?_) trivial
    exact pg_end hm hI.2 g1
set_option maxHeartbeats 4000000 in
theorem c_impl_place {l : List Mp} {d a : Int} {wt : Bool} (hm : MapsOk l := by assumption) (ha : a ≤ 9223372036854775807 := by omega) : Con0 Tryz.prog 160 [.one (.sl 4 (l.map mpE)), I d, I a, B wt] (I (placeF l d a wt)) [] := by
  have hl := hm.1
  refine con_i Tryz.func160 Tryz.ntmps160 (t := [(0, .one (.sl 4 (l.map mpE))), (1, I d), (2, I a), (3, B wt)]) rfl ?_
  refine vc_sr ?_
  refine vo ?_
  refine vnt ?_
  refine vc_seq' ?_
  refine vc_sr ?_
  iterate 2 refine vo ?_
  refine vnt ?_
  refine vc_if (fun g1 => ?_) (fun g1 => ?_)
  · refine vc_sr ?_
    refine vo ?_
    refine vnt ?_
    refine vc_ret ?_
    refine thn_r ?_
    refine fin_i [] rfl (fz ?_) trivial
    exact place_neg hm g1
  · refine vc_skip ?_
    refine thn ?_
    refine vc_sr ?_
    iterate 4 refine vo ?_
    try refine veq (IntWalk.i64_quo _ _ (by omega)) ?_
    refine voc c_impl_pageMapping rfl rfl ?_
    refine vo ?_
    refine vnt ?_
    refine vc_seq' ?_
    refine vc_sr ?_
    iterate 3 refine vo ?_
    refine vsp (fun g2 => ?_) (fun g2 => ?_)
    · iterate 9 refine vof ?_
      refine vo ?_
      refine vnt ?_
      refine vc_then ?_
      refine vc_sr ?_
      refine vo ?_
      refine vnt ?_
      refine vc_ret ?_
      refine thn_r ?_
      refine fin_i [] rfl (fz ?_) trivial
      rw [placeF, (pg_idx hm).1 g2]
      rfl
    · obtain ⟨i, hi, e, hpg⟩ := (pg_idx (wt := wt) hm).2 g2
      rw [e]
      have hf := mp_phys hm hi
      iterate 2 refine von ?_
      refine vsp (fun g3 => ?_) (fun g3 => ?_)
      · iterate 3 refine von ?_
        try first | refine vep ?_ | refine vpt ?_
        iterate 4 refine von ?_
        refine vo ?_
        refine vnt ?_
        refine vc_if (fun g4 => ?_) (fun g4 => ?_)
        · refine vc_sr ?_
          refine vo ?_
          refine vnt ?_
          refine vc_ret ?_
          refine thn_r ?_
          refine fin_i [] rfl (fz ?_) trivial
          rw [placeF, hpg]
          simp_all
          try omega
        · refine vc_skip ?_
          refine thn ?_
          refine vc_sr ?_
          iterate 3 refine vo ?_
          try first | refine vep ?_ | refine vpt ?_
          iterate 3 refine vo ?_
          try refine vwr ?_
          iterate 2 refine vo ?_
          try refine veq (Int.tmod_eq_emod_of_nonneg (by omega)) ?_
          refine vo ?_
          try refine vwr ?_
          refine vo ?_
          refine vnt ?_
          refine vc_ret ?_
          refine fin_i [] rfl (fz ?_) trivial
          rw [placeF, hpg]
          simp_all
          try omega
      · iterate 6 refine vof ?_
        refine von ?_
        refine vo ?_
        refine vnt ?_
        refine vc_else ?_
        refine vc_skip ?_
        refine thn ?_
        refine vc_sr ?_
        iterate 3 refine vo ?_
        try first | refine vep ?_ | refine vpt ?_
        iterate 3 refine vo ?_
        try refine vwr ?_
        iterate 2 refine vo ?_
        try refine veq (Int.tmod_eq_emod_of_nonneg (by omega)) ?_
        refine vo ?_
        try refine vwr ?_
        refine vo ?_
        refine vnt ?_
        refine vc_ret ?_
        refine fin_i [] rfl (fz ?_) trivial
        rw [placeF, hpg]
        simp_all
        try omega
theorem nd_stp {l : List Mp} {k j : Nat} (h : ∀ q, q < j → ¬ ((at' l q).1 = (at' l k).1 ∧ (at' l q).2.1 = (at' l k).2.1)) (hh : ¬ ((at' l j).1 = (at' l k).1 ∧ (at' l j).2.1 = (at' l k).2.1)) : ∀ q, q < j + 1 → ¬ ((at' l q).1 = (at' l k).1 ∧ (at' l q).2.1 = (at' l k).2.1) := fun q hq => by
  rcases Nat.lt_or_ge q j with g | g
  · exact h q g
  · obtain rfl : q = j := by omega
    exact hh
set_option maxHeartbeats 4000000 in
theorem c_spec_MappingsOk {l : List Mp} (hl : l.length ≤ 1099511627776 := by first | assumption | omega) : Con0 Tryz.prog 141 [.one (.sl 4 (l.map mpE))] (B (mapsOk l)) [] := by
  refine con_i Tryz.func141 Tryz.ntmps141 (t := [(0, .one (.sl 4 (l.map mpE)))]) rfl ?_
  refine vc_sr ?_
  refine vo ?_
  refine vnt ?_
  refine vc_seq' ?_
  refine vc_sr ?_
  iterate 2 refine vo ?_
  try refine vln ?_
  refine vo ?_
  refine vnt ?_
  refine vc_if (fun g1 => ?_) (fun g1 => ?_)
  · refine vc_sr ?_
    refine vo ?_
    refine vnt ?_
    refine vc_ret ?_
    refine thn_r ?_
    refine fin_i [] rfl (fz ?_) trivial
    exact mapsOk_long (by omega)
  · refine vc_skip ?_
    refine thn ?_
    refine vc_seq' ?_
    refine vc_sr ?_
    refine vo ?_
    refine vnt ?_
    refine vc_block ?_
    refine vc_lp (σ := Nat) [0] [] (fun k => [(3, I (k : Nat))]) (fun k => []) (fun k => k ≤ l.length ∧ ∀ j, j < k → mapGood l j) (fun k => l.length - k) 0 rfl rfl (sub_i [] (fz ?_) (fz ?_)) ?_ fun k hI => ?_
    · first | trivial | rfl
    · first | trivial | rfl
    · exact ⟨Nat.zero_le _, fun j h => by omega⟩
    refine vc_nf rfl rfl ?_
    refine vc_seq' ?_
    refine vc_sr ?_
    iterate 3 refine vo ?_
    try refine vln ?_
    refine vo ?_
    refine vnt ?_
    refine vc_if (fun g2 => ?_) (fun g2 => ?_)
    · refine vc_skip ?_
      refine thn ?_
      refine vc_seq' ?_
      refine vc_block ?_
      refine vc_sr ?_
      iterate 3 refine vo ?_
      try first | refine vep ?_ | refine vpt ?_
      iterate 3 refine vo ?_
      refine vnt ?_
      refine vc_seq' ?_
      refine vc_sr ?_
      iterate 2 refine vo ?_
      refine voc c_spec_l01In rfl rfl ?_
      iterate 2 refine vo ?_
      refine vsp (fun g3 => ?_) (fun g3 => ?_)
      · iterate 4 refine vof ?_
        iterate 2 refine vo ?_
        iterate 4 refine vof ?_
        refine vo ?_
        refine vnt ?_
        refine vc_then ?_
        refine vc_sr ?_
        refine vo ?_
        refine vnt ?_
        refine vc_ret ?_
        refine thn_r ?_
        refine inB_r ?_
        refine thn_r ?_
        refine thn_r ?_
        refine inB_r ?_
        refine thn_r ?_
        refine fin_i [] rfl (fz ?_) trivial
        exact mp_bad g2 (by simp_all)
      · iterate 2 refine von ?_
        refine vocn c_spec_l01In rfl rfl ?_
        refine von ?_
        iterate 2 refine vo ?_
        refine vsp (fun g4 => ?_) (fun g4 => ?_)
        · iterate 4 refine vof ?_
          refine vo ?_
          refine vnt ?_
          refine vc_then ?_
          refine vc_sr ?_
          refine vo ?_
          refine vnt ?_
          refine vc_ret ?_
          refine thn_r ?_
          refine inB_r ?_
          refine thn_r ?_
          refine thn_r ?_
          refine inB_r ?_
          refine thn_r ?_
          refine fin_i [] rfl (fz ?_) trivial
          exact mp_bad g2 (by simp_all)
        · iterate 2 refine von ?_
          refine vocn c_spec_l01In rfl rfl ?_
          refine von ?_
          refine vo ?_
          refine vnt ?_
          refine vc_if (fun g5 => ?_) (fun g5 => ?_)
          · refine vc_sr ?_
            refine vo ?_
            refine vnt ?_
            refine vc_ret ?_
            refine thn_r ?_
            refine inB_r ?_
            refine thn_r ?_
            refine thn_r ?_
            refine inB_r ?_
            refine thn_r ?_
            refine fin_i [] rfl (fz ?_) trivial
            exact mp_bad g2 (by simp_all)
          · refine vc_skip ?_
            refine thn ?_
            refine vc_sr ?_
            refine vo ?_
            refine vnt ?_
            refine vc_block ?_
            refine vc_lp (σ := Nat) [0, 3, 4] [32] (fun j => [(5, I (j : Nat))]) (fun j => []) (fun j => j ≤ k ∧ ∀ q, q < j → ¬ ((at' l q).1 = (at' l k).1 ∧ (at' l q).2.1 = (at' l k).2.1)) (fun j => k - j) 0 rfl rfl (sub_i [] (fz ?_) (fz ?_)) ?_ fun j hJ => ?_
            · first | trivial | rfl
            · first | trivial | rfl
            · exact ⟨Nat.zero_le _, fun q h => by omega⟩
            refine vc_nf rfl rfl ?_
            refine vc_seq' ?_
            refine vc_sr ?_
            iterate 3 refine vo ?_
            refine vnt ?_
            refine vc_if (fun g6 => ?_) (fun g6 => ?_)
            · refine vc_skip ?_
              refine thn ?_
              refine vc_seq' ?_
              refine vc_block ?_
              refine vc_sr ?_
              iterate 3 refine vo ?_
              try first | refine vep ?_ | refine vpt ?_
              iterate 6 refine vo ?_
              refine vsp (fun g7 => ?_) (fun g7 => ?_)
              · iterate 3 refine von ?_
                try first | refine vep ?_ | refine vpt ?_
                iterate 5 refine von ?_
                refine vo ?_
                refine vnt ?_
                refine vc_if (fun g8 => ?_) (fun g8 => ?_)
                · refine vc_sr ?_
                  refine vo ?_
                  refine vnt ?_
                  refine vc_ret ?_
                  refine inB_r ?_
                  refine thn_r ?_
                  refine thn_r ?_
                  refine inB_r ?_
                  refine inB_r ?_
                  refine thn_r ?_
                  refine thn_r ?_
                  refine inB_r ?_
                  refine thn_r ?_
                  refine fin_i [] rfl (fz ?_) trivial
                  exact mp_dup g2 g6 g7 g8
                · refine vc_skip ?_
                  refine inB_n ?_
                  refine thn ?_
                  refine vc_region ?_
                  iterate 2 refine vo ?_
                  try refine vwr ?_
                  refine vo ?_
                  refine vnt ?_
                  refine ⟨j + 1, ?_, ?_, sub_i [] (fz ?_) (fz ?_)⟩
                  · exact ⟨by omega, nd_stp hJ.2 (by simp_all)⟩
                  · omega
                  · first | rfl | trivial
                  · first | trivial | rfl
              · iterate 8 refine vof ?_
                refine vo ?_
                refine vnt ?_
                refine vc_else ?_
                refine vc_skip ?_
                refine inB_n ?_
                refine thn ?_
                refine vc_region ?_
                iterate 2 refine vo ?_
                try refine vwr ?_
                refine vo ?_
                refine vnt ?_
                refine ⟨j + 1, ?_, ?_, sub_i [] (fz ?_) (fz ?_)⟩
                · exact ⟨by omega, nd_stp hJ.2 (by simp_all)⟩
                · omega
                · first | rfl | trivial
                · first | trivial | rfl
            · refine vc_exit ?_
              refine thn_x ?_
              refine thn_x ?_
              refine inB_x ?_
              refine inB_n ?_
              refine thn ?_
              refine vc_region ?_
              iterate 2 refine vo ?_
              try refine vwr ?_
              refine vo ?_
              refine vnt ?_
              refine ⟨k + 1, ?_, ?_, sub_i [] (fz ?_) (fz ?_)⟩
              · exact ⟨by omega, mp_stp2 hI.2 g2 g3 g4 g5 hJ.2 (by omega)⟩
              · omega
              · first | rfl | trivial
              · first | trivial | rfl
    · refine vc_exit ?_
      refine thn_x ?_
      refine thn_x ?_
      refine inB_x ?_
      refine thn ?_
      refine vc_sr ?_
      refine vo ?_
      refine vnt ?_
      refine vc_ret ?_
      refine fin_i [] rfl (fz ?_) trivial
      rw [mp_end hI.2 g2, decide_eq_true (by omega)]
end Go.Proofs.YtnikopahkjmneaaGreat
end
section
namespace Go.Proofs.YtnikopahkjmneaaGreat
open Go Go.RowKit Go.Vc
set_option linter.unusedVariables false
set_option linter.unusedSimpArgs false
set_option linter.unnecessarySimpa false
theorem vc_lp2 {P : Program} [TyEnv P] {n : Nat} {K : Post} {t t0 : Tm} {H H0 : Hp} {c : Code} {A B : Type} (live keep : List Nat) (ov : A → B → Tm) (gv : A → B → Hp) (I : A → B → Prop) (μ : A → B → Nat) (x10 : A) (x20 : B) (ht : keepF t live = some t0) (hH : keepH H keep = some H0) (hs : Sub t H (ov x10 x20 ++ t0) (gv x10 x20 ++ H0)) (h0 : I x10 x20)
    (h : ∀ x1 x2, I x1 x2 → VC P n c (thenP (fun t H => ∃ x1' x2', I x1' x2' ∧ μ x1' x2' < μ x1 x2 ∧ Sub t H (ov x1' x2' ++ t0) (gv x1' x2' ++ H0)) K) (ov x1 x2 ++ t0) (gv x1 x2 ++ H0)) : VC P n (.loop c) K t H :=
  vc_lp (σ := A × B) live keep (fun s => ov s.1 s.2) (fun s => gv s.1 s.2) (fun s => I s.1 s.2) (fun s => μ s.1 s.2) (x10, x20) ht hH hs h0 fun s hi => vc_mono (h s.1 s.2 hi) fun e t H hk => by
    cases e <;> first | exact hk | (obtain ⟨x1', x2', h1, h2, h3⟩ := hk; exact ⟨(x1', x2'), h1, h2, h3⟩)
theorem vc_lp3 {P : Program} [TyEnv P] {n : Nat} {K : Post} {t t0 : Tm} {H H0 : Hp} {c : Code} {A B C : Type} (live keep : List Nat) (ov : A → B → C → Tm) (gv : A → B → C → Hp) (I : A → B → C → Prop) (μ : A → B → C → Nat) (x10 : A) (x20 : B) (x30 : C) (ht : keepF t live = some t0) (hH : keepH H keep = some H0) (hs : Sub t H (ov x10 x20 x30 ++ t0) (gv x10 x20 x30 ++ H0)) (h0 : I x10 x20 x30)
    (h : ∀ x1 x2 x3, I x1 x2 x3 → VC P n c (thenP (fun t H => ∃ x1' x2' x3', I x1' x2' x3' ∧ μ x1' x2' x3' < μ x1 x2 x3 ∧ Sub t H (ov x1' x2' x3' ++ t0) (gv x1' x2' x3' ++ H0)) K) (ov x1 x2 x3 ++ t0) (gv x1 x2 x3 ++ H0)) : VC P n (.loop c) K t H :=
  vc_lp (σ := A × B × C) live keep (fun s => ov s.1 s.2.1 s.2.2) (fun s => gv s.1 s.2.1 s.2.2) (fun s => I s.1 s.2.1 s.2.2) (fun s => μ s.1 s.2.1 s.2.2) (x10, x20, x30) ht hH hs h0 fun s hi => vc_mono (h s.1 s.2.1 s.2.2 hi) fun e t H hk => by
    cases e <;> first | exact hk | (obtain ⟨x1', x2', x3', h1, h2, h3⟩ := hk; exact ⟨(x1', x2', x3'), h1, h2, h3⟩)
def runE (r : Int × Int) : List Value := [.int .i64 r.1, .int .i64 r.2]
theorem runsOk_of {l : List Mp} {ps : Pg} {n : Int} : runsOk l ps n = (mapsOk l && (memOk ps && inB n 0 4096)) := rfl
theorem pl_ok {l : List Mp} {d a : Int} {wt : Bool} (hm : MapsOk l) (h0 : 0 ≤ placeF l d a wt) : placeF l d a wt = mpPage l d (a / 128) wt * 128 + a % 128 ∧ 0 ≤ mpPage l d (a / 128) wt ∧ mpPage l d (a / 128) wt ≤ 63 ∧ 0 ≤ a ∧ a ≤ 131071 := by
  unfold placeF at *
  have hb := mpPage_bd hm d (a / 128) wt
  split at h0
  · omega
  · rename_i h
    have hv := mpPage_v hm (d := d) (v := a / 128) (wr := wt) (by omega)
    rw [if_neg h]
    exact ⟨rfl, by omega, by omega, by omega, by omega⟩
theorem pl_no {l : List Mp} {ps : Pg} {d a : Int} {wt : Bool} {m k : Nat} (hm : MapsOk l) (hps : MemOk ps) (hk : (k : Int) = min (m : Int) (128 - a % 128)) (hm0 : 0 < m) (ha : 0 ≤ a) (h : placeF l d a wt < 0 ∨ memInB ps (placeF l d a wt) k = false) : parts l ps.length d wt a m = none := by
  refine parts_none hm0 ?_
  unfold placeF at h
  by_cases h1 : mpPage l d (a / 128) wt < 0
  · exact .inl h1
  · rw [if_neg h1] at h
    right
    rcases h with h | h
    · omega
    · rcases Int.lt_or_le (mpPage l d (a / 128) wt) ps.length with h2 | h2
      · have : memInB ps (mpPage l d (a / 128) wt * 128 + a % 128) k = true := memInB_iff.2 ⟨hps, by omega, by omega, by omega, by omega⟩
        rw [this] at h; cases h
      · exact h2
theorem pl_yes {l : List Mp} {ps : Pg} {d a : Int} {wt : Bool} {m k : Nat} {x : Option (List (Int × Int))} {out : List (Int × Int)} (hm : MapsOk l) (hk : (k : Int) = min (m : Int) (128 - a % 128)) (hm0 : 0 < m) (h0 : 0 ≤ placeF l d a wt) (h1 : memInB ps (placeF l d a wt) k = true) (hx : x = (parts l ps.length d wt a m).map (out ++ ·)) : x = (parts l ps.length d wt (a + k) (m - k)).map ((out ++ [(placeF l d a wt, (k : Int))]) ++ ·) := by
  obtain ⟨e, p0, p1, p2, p3⟩ := pl_ok hm h0
  have hb := memInB_iff.1 h1
  rw [hx, parts_some hm0 p2 p0 (by omega) hk, map_step, e]
theorem rn_no {l : List Mp} {ps : Pg} {d a n : Int} {wt : Bool} (h : runs l ps d a n wt = none) : (runs l ps d a n wt).isSome = false ∧ ((runs l ps d a n wt).getD []).map runE = [] := by rw [h]; exact ⟨rfl, rfl⟩
theorem rn_yes {l : List Mp} {ps : Pg} {d a n : Int} {wt : Bool} {out : List (Int × Int)} (h : runs l ps d a n wt = some out) : (runs l ps d a n wt).isSome = true ∧ (runs l ps d a n wt).getD [] = out := by rw [h]; exact ⟨rfl, rfl⟩
theorem rn_bad {l : List Mp} {ps : Pg} {d a n : Int} {wt : Bool} (h : mapsOk l = false ∨ memOk ps = false ∨ inB n 0 4096 = false) : runs l ps d a n wt = none := by
  refine runs_not ?_
  unfold runsOk
  rcases h with h | h | h <;> rw [h] <;> simp
theorem rn_end {l : List Mp} {ps : Pg} {d a a1 n : Int} {wt : Bool} {m : Nat} {out : List (Int × Int)} (h : runs l ps d a n wt = (parts l ps.length d wt a1 m).map (out ++ ·)) (hm : ¬ 0 < (m : Int)) : runs l ps d a n wt = some out := by
  obtain rfl : m = 0 := by omega
  rw [h, parts_zero]; simp
set_option maxHeartbeats 4000000 in
theorem c_impl_runsOf {l : List Mp} {ps : Pg} {d a n : Int} {wt : Bool} (hl : l.length ≤ 1099511627776 := by first | assumption | omega) (hp : ps.length ≤ 1099511627776 := by first | assumption | omega) (ha : a ≤ 9223372036854775807 := by omega) : Con0 Tryz.prog 152 [.one (.sl 4 (l.map mpE)), .agg [.sl 1 (ps.map strE)], I d, I a, I n, B wt] (.tup [.one (.hs 0), B (runs l ps d a n wt).isSome]) [(0, .arr 168 2 (((runs l ps d a n wt).getD []).map runE))] := by
  refine con_i Tryz.func152 Tryz.ntmps152 (t := [(0, .one (.sl 4 (l.map mpE))), (1, .agg [.sl 1 (ps.map strE)]), (2, I d), (3, I a), (4, I n), (5, B wt)]) rfl ?_
  refine vc_sr ?_
  iterate 3 refine vo ?_
  refine vnt ?_
  refine vc_seq' ?_
  refine vc_sr ?_
  refine vo ?_
  refine voc c_impl_MappingsOk rfl rfl ?_
  iterate 2 refine vo ?_
  refine vsp (fun g1 => ?_) (fun g1 => ?_)
  · iterate 3 refine vof ?_
    iterate 2 refine vo ?_
    iterate 3 refine vof ?_
    refine vo ?_
    refine vnt ?_
    refine vc_then ?_
    refine vc_sr ?_
    iterate 2 refine vo ?_
    refine vnt ?_
    refine vc_ret ?_
    refine thn_r ?_
    have hno : runs l ps d a n wt = none := rn_bad (n := n) (.inl g1)
    refine fin_i [(0, none)] rfl (fz ?_) (fz ?_)
    · exact (rn_no hno).1
    · exact (rn_no hno).2
  · have hm := mapsOk_iff.1 g1
    refine von ?_
    refine vocn c_impl_MemoryOk rfl rfl ?_
    refine von ?_
    iterate 2 refine vo ?_
    refine vsp (fun g2 => ?_) (fun g2 => ?_)
    · iterate 3 refine vof ?_
      refine vo ?_
      refine vnt ?_
      refine vc_then ?_
      refine vc_sr ?_
      iterate 2 refine vo ?_
      refine vnt ?_
      refine vc_ret ?_
      refine thn_r ?_
      have hno : runs l ps d a n wt = none := rn_bad (n := n) (.inr (.inl g2))
      refine fin_i [(0, none)] rfl (fz ?_) (fz ?_)
      · exact (rn_no hno).1
      · exact (rn_no hno).2
    · have hps := memOk_iff.1 g2
      have hpl := hps.1
      refine von ?_
      refine vocn c_impl_between rfl rfl ?_
      refine von ?_
      refine vo ?_
      refine vnt ?_
      refine vc_if (fun g3 => ?_) (fun g3 => ?_)
      · refine vc_sr ?_
        iterate 2 refine vo ?_
        refine vnt ?_
        refine vc_ret ?_
        refine thn_r ?_
        have hno : runs l ps d a n wt = none := rn_bad (n := n) (.inr (.inr g3))
        refine fin_i [(0, none)] rfl (fz ?_) (fz ?_)
        · exact (rn_no hno).1
        · exact (rn_no hno).2
      · have hn := inB_iff.1 g3
        have hr : runsOk l ps n = true := by rw [runsOk_of, g1, g2, g3]; rfl
        obtain ⟨m0, rfl⟩ := Int.eq_ofNat_of_zero_le hn.1
        refine vc_skip ?_
        refine thn ?_
        refine vc_seq' ?_
        refine vc_sr ?_
        iterate 2 refine vo ?_
        refine vnt ?_
        refine vc_if (fun g4 => ?_) (fun g4 => ?_)
        · refine vc_sr ?_
          iterate 2 refine vo ?_
          refine vnt ?_
          refine vc_ret ?_
          refine thn_r ?_
          have hy : runs l ps d a (m0 : Int) wt = some [] := by rw [runs_is hr, show m0 = 0 by omega, parts_zero]
          refine fin_i [(0, none)] rfl (fz ?_) (fz ?_)
          · exact (rn_yes hy).1
          · rw [(rn_yes hy).2]; rfl
        · refine vc_skip ?_
          refine thn ?_
          refine vc_seq' ?_
          refine vc_sr ?_
          iterate 2 refine vo ?_
          refine vnt ?_
          refine vc_if (fun g5 => ?_) (fun g5 => ?_)
          · refine vc_sr ?_
            iterate 2 refine vo ?_
            refine vnt ?_
            refine vc_ret ?_
            refine thn_r ?_
            have hno : runs l ps d a (m0 : Int) wt = none := by rw [runs_is hr]; exact parts_neg (by omega) g5
            refine fin_i [(0, none)] rfl (fz ?_) (fz ?_)
            · exact (rn_no hno).1
            · exact (rn_no hno).2
          · refine vc_skip ?_
            refine thn ?_
            refine vc_sr ?_
            iterate 2 refine vo ?_
            refine vnt ?_
            refine vc_seq' ?_
            refine vc_block ?_
            refine vc_lp3 [0, 2, 5, 7] [56] (fun (out : List (Int × Int)) (a1 : Int) (m : Nat) => [(3, I a1), (4, I (m : Int)), (14, .one (.hs 7))]) (fun (out : List (Int × Int)) (a1 : Int) (m : Nat) => [(7, .arr 168 2 (out.map runE))]) (fun (out : List (Int × Int)) (a1 : Int) (m : Nat) => 0 ≤ a1 ∧ a1 ≤ 9223372036854775807 ∧ out.length + m ≤ 4096 ∧ runs l ps d a m0 wt = (parts l ps.length d wt a1 m).map (out ++ ·)) (fun (out : List (Int × Int)) (a1 : Int) (m : Nat) => m) [] a m0 rfl rfl (sub_i [(7, some 272)] (fz ?_) (fz ?_)) ?_ fun out a1 m hI => ?_
            · first | trivial | rfl
            · first | trivial | rfl
            · exact ⟨by omega, by omega, by simp; omega, by rw [runs_is hr]; exact (map_nil_append _).symm⟩
            refine vc_nf rfl rfl ?_
            refine vc_seq' ?_
            refine vc_sr ?_
            iterate 2 refine vo ?_
            refine vnt ?_
            refine vc_if (fun g6 => ?_) (fun g6 => ?_)
            · obtain ⟨k, hk⟩ : ∃ k : Nat, (k : Int) = min (m : Int) (128 - a1 % 128) := ⟨(min (m : Int) (128 - a1 % 128)).toNat, by omega⟩
              refine vc_skip ?_
              refine thn ?_
              refine vc_block ?_
              refine vc_sr ?_
              iterate 4 refine vo ?_
              refine voc c_impl_place rfl rfl ?_
              refine vo ?_
              refine vnt ?_
              refine vc_sr ?_
              iterate 3 refine vo ?_
              try refine veq (Int.tmod_eq_emod_of_nonneg (by omega)) ?_
              refine vo ?_
              try refine vwr ?_
              refine vo ?_
              refine veq hk.symm ?_
              refine vo ?_
              refine vnt ?_
              refine vc_seq' ?_
              refine vc_sr ?_
              iterate 3 refine vo ?_
              refine vsp (fun g7 => ?_) (fun g7 => ?_)
              · iterate 5 refine vof ?_
                refine vo ?_
                refine vnt ?_
                refine vc_then ?_
                refine vc_sr ?_
                iterate 2 refine vo ?_
                refine vnt ?_
                refine vc_ret ?_
                refine thn_r ?_
                refine inB_r ?_
                refine thn_r ?_
                refine inB_r ?_
                refine thn_r ?_
                have hno : runs l ps d a (m0 : Int) wt = none := by rw [hI.2.2.2, pl_no hm hps hk (by omega) hI.1 (.inl g7)]; rfl
                refine fin_i [(0, none)] rfl (fz ?_) (fz ?_)
                · exact (rn_no hno).1
                · exact (rn_no hno).2
              · iterate 3 refine von ?_
                refine vocn c_impl_within rfl rfl ?_
                refine von ?_
                refine vo ?_
                refine vnt ?_
                refine vc_if (fun g8 => ?_) (fun g8 => ?_)
                · refine vc_sr ?_
                  iterate 2 refine vo ?_
                  refine vnt ?_
                  refine vc_ret ?_
                  refine thn_r ?_
                  refine inB_r ?_
                  refine thn_r ?_
                  refine inB_r ?_
                  refine thn_r ?_
                  have hno : runs l ps d a (m0 : Int) wt = none := by rw [hI.2.2.2, pl_no hm hps hk (by omega) hI.1 (.inr g8)]; rfl
                  refine fin_i [(0, none)] rfl (fz ?_) (fz ?_)
                  · exact (rn_no hno).1
                  · exact (rn_no hno).2
                · have hpl2 := pl_ok hm g7
                  refine vc_skip ?_
                  refine thn ?_
                  refine vc_sr ?_
                  iterate 7 refine vo ?_
                  refine vnt ?_
                  refine vc_sr ?_
                  iterate 3 refine vo ?_
                  try refine vwr ?_
                  refine vo ?_
                  refine vnt ?_
                  refine vc_sr ?_
                  iterate 3 refine vo ?_
                  try refine vwr ?_
                  refine vo ?_
                  refine vnt ?_
                  refine vc_sr ?_
                  iterate 3 refine vo ?_
                  refine vsp (fun g9 => ?_) (fun g9 => ?_)
                  · iterate 2 refine von ?_
                    refine vo ?_
                    refine vnt ?_
                    refine vc_if (fun g10 => ?_) (fun g10 => ?_)
                    · refine vc_sr ?_
                      iterate 2 refine vo ?_
                      refine vnt ?_
                      refine vc_ret ?_
                      refine inB_r ?_
                      refine thn_r ?_
                      refine inB_r ?_
                      refine thn_r ?_
                      exfalso; omega
                    · refine vc_skip ?_
                      refine inB_n ?_
                      refine thn ?_
                      refine ⟨out ++ [(placeF l d a1 wt, (k : Int))], a1 + k, m - k, ?_, ?_, sub_i [(7, some (8 * 61))] (fz ?_) (fz ?_)⟩
                      · exact ⟨by omega, by omega, by simp; omega, pl_yes hm hk (by omega) g7 g8 hI.2.2.2⟩
                      · omega
                      · first | trivial | rfl | omega
                      · first | trivial | rfl | (simp [runE])
                  · iterate 2 refine vof ?_
                    refine vo ?_
                    refine vnt ?_
                    refine vc_else ?_
                    refine vc_skip ?_
                    refine inB_n ?_
                    refine thn ?_
                    refine ⟨out ++ [(placeF l d a1 wt, (k : Int))], a1 + k, m - k, ?_, ?_, sub_i [(7, some (8 * 61))] (fz ?_) (fz ?_)⟩
                    · exact ⟨by omega, by omega, by simp; omega, pl_yes hm hk (by omega) g7 g8 hI.2.2.2⟩
                    · omega
                    · first | trivial | rfl | omega
                    · first | trivial | rfl | (simp [runE])
            · refine vc_exit ?_
              refine thn_x ?_
              refine thn_x ?_
              refine inB_x ?_
              refine thn ?_
              refine vc_sr ?_
              iterate 3 refine vo ?_
              refine vnt ?_
              refine vc_ret ?_
              have hy := rn_end hI.2.2.2 (by omega)
              refine fin_i [(0, some 7)] rfl (fz ?_) (fz ?_)
              · exact (rn_yes hy).1
              · rw [(rn_yes hy).2]
theorem pg_out {l : List Mp} {ps : Pg} {d a : Int} {wt : Bool} {m : Nat} (hps : MemOk ps) (hm0 : 0 < m) (h0 : 0 ≤ mpPage l d (a / 128) wt) (h : memInB ps (mpPage l d (a / 128) wt * 128) 128 = false) : parts l ps.length d wt a m = none := by
  refine parts_none hm0 (.inr ?_)
  rcases Int.lt_or_le (mpPage l d (a / 128) wt) ps.length with h2 | h2
  · have : memInB ps (mpPage l d (a / 128) wt * 128) 128 = true := memInB_iff.2 ⟨hps, by omega, by omega, by omega, by omega⟩
    rw [this] at h; cases h
  · exact h2
theorem pg_in {l : List Mp} {ps : Pg} {d a : Int} {wt : Bool} {m k : Nat} {x : Option (List (Int × Int))} {out : List (Int × Int)} (hk : (k : Int) = min (m : Int) (128 - a % 128)) (hm0 : 0 < m) (ha : 0 ≤ a) (h0 : 0 ≤ mpPage l d (a / 128) wt) (h1 : memInB ps (mpPage l d (a / 128) wt * 128) 128 = true) (hx : x = (parts l ps.length d wt a m).map (out ++ ·)) : x = (parts l ps.length d wt (a + k) (m - k)).map ((out ++ [(mpPage l d (a / 128) wt * 128 + a % 128, (k : Int))]) ++ ·) := by
  have hb := memInB_iff.1 h1
  rw [hx, parts_some hm0 ha h0 (by omega) hk, map_step]
theorem pg_v {l : List Mp} {d a : Int} {wt : Bool} (hm : MapsOk l) (h0 : 0 ≤ mpPage l d (a / 128) wt) : mpPage l d (a / 128) wt ≤ 63 ∧ a ≤ 131071 := by
  have := mpPage_bd hm d (a / 128) wt
  have := mpPage_v hm h0
  omega
theorem rn_no2 {l : List Mp} {ps : Pg} {d a n : Int} {wt : Bool} (h : runs l ps d a n wt = none) : (runs l ps d a n wt).isSome = false ∧ (runs l ps d a n wt).getD [] = [] := by rw [h]; exact ⟨rfl, rfl⟩
set_option maxHeartbeats 4000000 in
theorem c_spec_l17Parts {l : List Mp} {ps : Pg} {d a n : Int} {wt : Bool} (hl : l.length ≤ 1099511627776 := by first | assumption | omega) (hp : ps.length ≤ 1099511627776 := by first | assumption | omega) (ha : a ≤ 9223372036854775807 := by omega) : Con0 Tryz.prog 120 [.one (.sl 4 (l.map mpE)), .agg [.sl 1 (ps.map strE)], I d, I a, I n, B wt] (.tup [.one (.hs 0), .one (.hs 1), B (runs l ps d a n wt).isSome]) [(0, .arr 3 1 ((((runs l ps d a n wt).getD []).map (·.1)).map intE)), (1, .arr 3 1 ((((runs l ps d a n wt).getD []).map (·.2)).map intE))] := by
  refine con_i Tryz.func120 Tryz.ntmps120 (t := [(0, .one (.sl 4 (l.map mpE))), (1, .agg [.sl 1 (ps.map strE)]), (2, I d), (3, I a), (4, I n), (5, B wt)]) rfl ?_
  refine vc_sr ?_
  iterate 4 refine vo ?_
  refine vnt ?_
  refine vc_sr ?_
  iterate 2 refine vo ?_
  refine vnt ?_
  refine vc_sr ?_
  iterate 2 refine vo ?_
  refine vnt ?_
  refine vc_seq' ?_
  refine vc_sr ?_
  refine vo ?_
  refine voc c_spec_MappingsOk rfl rfl ?_
  iterate 2 refine vo ?_
  refine vsp (fun g1 => ?_) (fun g1 => ?_)
  · iterate 3 refine vof ?_
    iterate 2 refine vo ?_
    iterate 3 refine vof ?_
    refine vo ?_
    refine vnt ?_
    refine vc_then ?_
    refine vc_sr ?_
    iterate 5 refine vo ?_
    refine vnt ?_
    refine vc_ret ?_
    refine thn_r ?_
    have hno : runs l ps d a n wt = none := rn_bad (n := n) (.inl g1)
    refine fin_i [(0, some 160), (1, some 168)] rfl (fz ?_) (fz ?_)
    · exact (rn_no2 hno).1
    · rw [(rn_no2 hno).2]; first | trivial | rfl | exact ⟨rfl, rfl⟩
  · have hm := mapsOk_iff.1 g1
    refine von ?_
    refine vocn c_spec_MemoryOk rfl rfl ?_
    refine von ?_
    iterate 2 refine vo ?_
    refine vsp (fun g2 => ?_) (fun g2 => ?_)
    · iterate 3 refine vof ?_
      refine vo ?_
      refine vnt ?_
      refine vc_then ?_
      refine vc_sr ?_
      iterate 5 refine vo ?_
      refine vnt ?_
      refine vc_ret ?_
      refine thn_r ?_
      have hno : runs l ps d a n wt = none := rn_bad (n := n) (.inr (.inl g2))
      refine fin_i [(0, some 160), (1, some 168)] rfl (fz ?_) (fz ?_)
      · exact (rn_no2 hno).1
      · rw [(rn_no2 hno).2]; first | trivial | rfl | exact ⟨rfl, rfl⟩
    · have hps := memOk_iff.1 g2
      have hpl := hps.1
      refine von ?_
      refine vocn c_spec_l01In rfl rfl ?_
      refine von ?_
      refine vo ?_
      refine vnt ?_
      refine vc_if (fun g3 => ?_) (fun g3 => ?_)
      · refine vc_sr ?_
        iterate 5 refine vo ?_
        refine vnt ?_
        refine vc_ret ?_
        refine thn_r ?_
        have hno : runs l ps d a n wt = none := rn_bad (n := n) (.inr (.inr g3))
        refine fin_i [(0, some 160), (1, some 168)] rfl (fz ?_) (fz ?_)
        · exact (rn_no2 hno).1
        · rw [(rn_no2 hno).2]; first | trivial | rfl | exact ⟨rfl, rfl⟩
      · have hn := inB_iff.1 g3
        have hr : runsOk l ps n = true := by rw [runsOk_of, g1, g2, g3]; rfl
        obtain ⟨m0, rfl⟩ := Int.eq_ofNat_of_zero_le hn.1
        refine vc_skip ?_
        refine thn ?_
        refine vc_seq' ?_
        refine vc_block ?_
        refine vc_lp3 [0, 2, 5, 7] [56] (fun (out : List (Int × Int)) (a1 : Int) (m : Nat) => [(3, I a1), (4, I (m : Int)), (15, .one (.hs 6)), (16, .one (.hs 7))]) (fun (out : List (Int × Int)) (a1 : Int) (m : Nat) => [(6, .arr 3 1 ((out.map (·.1)).map intE)), (7, .arr 3 1 ((out.map (·.2)).map intE))]) (fun (out : List (Int × Int)) (a1 : Int) (m : Nat) => a1 ≤ 9223372036854775807 ∧ out.length + m ≤ 4096 ∧ runs l ps d a m0 wt = (parts l ps.length d wt a1 m).map (out ++ ·)) (fun (out : List (Int × Int)) (a1 : Int) (m : Nat) => m) [] a m0 rfl rfl (sub_i [(6, some 160), (7, some 168)] (fz ?_) (fz ?_)) ?_ fun out a1 m hI => ?_
        · first | trivial | rfl
        · first | trivial | rfl | exact ⟨rfl, rfl⟩
        · exact ⟨by omega, by simp; omega, by rw [runs_is hr]; exact (map_nil_append _).symm⟩
        refine vc_nf rfl rfl ?_
        refine vc_seq' ?_
        refine vc_sr ?_
        iterate 2 refine vo ?_
        refine vnt ?_
        refine vc_if (fun g4 => ?_) (fun g4 => ?_)
        · refine vc_skip ?_
          refine thn ?_
          refine vc_block ?_
          refine vc_sr ?_
          refine vo ?_
          refine vnt ?_
          refine vc_seq' ?_
          refine vc_sr ?_
          iterate 2 refine vo ?_
          refine vnt ?_
          refine vc_if (fun g5 => ?_) (fun g5 => ?_)
          · obtain ⟨k, hk⟩ : ∃ k : Nat, (k : Int) = min (m : Int) (128 - a1 % 128) := ⟨(min (m : Int) (128 - a1 % 128)).toNat, by omega⟩
            refine vc_region ?_
            iterate 4 refine vo ?_
            try refine veq (IntWalk.i64_quo _ _ (by omega)) ?_
            refine vo ?_
            refine voc c_spec_l17Page rfl rfl ?_
            refine vo ?_
            refine vnt ?_
            refine vc_sr ?_
            iterate 2 refine vo ?_
            try refine veq (Int.tmod_eq_emod_of_nonneg (by omega)) ?_
            refine vo ?_
            refine vnt ?_
            refine vc_seq' ?_
            refine vc_sr ?_
            iterate 3 refine vo ?_
            refine vsp (fun g6 => ?_) (fun g6 => ?_)
            · iterate 5 refine vof ?_
              refine vo ?_
              refine vnt ?_
              refine vc_then ?_
              refine vc_sr ?_
              iterate 5 refine vo ?_
              refine vnt ?_
              refine vc_ret ?_
              refine thn_r ?_
              refine inB_r ?_
              refine thn_r ?_
              refine inB_r ?_
              refine thn_r ?_
              have hno : runs l ps d a (m0 : Int) wt = none := by rw [hI.2.2, parts_none (by omega) (.inl g6)]; rfl
              refine fin_i [(0, some 464), (1, some 472)] rfl (fz ?_) (fz ?_)
              · exact (rn_no2 hno).1
              · rw [(rn_no2 hno).2]; first | trivial | rfl | exact ⟨rfl, rfl⟩
            · have hv := pg_v hm g6
              iterate 3 refine von ?_
              try refine vwr ?_
              refine vocn c_spec_l16Within rfl rfl ?_
              refine von ?_
              refine vo ?_
              refine vnt ?_
              refine vc_if (fun g7 => ?_) (fun g7 => ?_)
              · refine vc_sr ?_
                iterate 5 refine vo ?_
                refine vnt ?_
                refine vc_ret ?_
                refine thn_r ?_
                refine inB_r ?_
                refine thn_r ?_
                refine inB_r ?_
                refine thn_r ?_
                have hno : runs l ps d a (m0 : Int) wt = none := by rw [hI.2.2, pg_out hps (by omega) g6 g7]; rfl
                refine fin_i [(0, some 464), (1, some 472)] rfl (fz ?_) (fz ?_)
                · exact (rn_no2 hno).1
                · rw [(rn_no2 hno).2]; first | trivial | rfl | exact ⟨rfl, rfl⟩
              · refine vc_skip ?_
                refine thn ?_
                refine vc_sr ?_
                iterate 3 refine vo ?_
                try refine vwr ?_
                refine vo ?_
                refine veq hk.symm ?_
                refine vo ?_
                refine vnt ?_
                refine vc_sr ?_
                iterate 3 refine vo ?_
                try refine vwr ?_
                iterate 2 refine vo ?_
                try refine vwr ?_
                iterate 3 refine vo ?_
                refine vnt ?_
                refine vc_sr ?_
                iterate 5 refine vo ?_
                refine vnt ?_
                refine vc_sr ?_
                iterate 3 refine vo ?_
                try refine vwr ?_
                refine vo ?_
                refine vnt ?_
                refine vc_region ?_
                iterate 3 refine vo ?_
                try refine vwr ?_
                refine vo ?_
                refine vnil ?_
                refine inB_n ?_
                refine thn ?_
                refine ⟨out ++ [(mpPage l d (a1 / 128) wt * 128 + a1 % 128, (k : Int))], a1 + k, m - k, ?_, ?_, sub_i [(6, some 560), (7, some 592)] (fz ?_) (fz ?_)⟩
                · exact ⟨by omega, by simp; omega, pg_in hk (by omega) g5 g6 g7 hI.2.2⟩
                · omega
                · first | trivial | rfl | omega
                · first | trivial | rfl | (simp [intE])
          · refine vc_skip ?_
            refine thn ?_
            refine vc_sr ?_
            iterate 2 refine vo ?_
            try refine veq (Int.tmod_eq_emod_of_nonneg (by omega)) ?_
            refine vo ?_
            refine vnt ?_
            refine vc_seq' ?_
            refine vc_sr ?_
            iterate 3 refine vo ?_
            refine vsp (fun g8 => ?_) (fun g8 => ?_)
            · iterate 5 refine vof ?_
              refine vo ?_
              refine vnt ?_
              refine vc_then ?_
              refine vc_sr ?_
              iterate 5 refine vo ?_
              refine vnt ?_
              refine vc_ret ?_
              refine thn_r ?_
              refine inB_r ?_
              refine thn_r ?_
              refine inB_r ?_
              refine thn_r ?_
              have hno : runs l ps d a (m0 : Int) wt = none := by rw [hI.2.2, parts_neg (by omega) g5]; rfl
              refine fin_i [(0, some 464), (1, some 472)] rfl (fz ?_) (fz ?_)
              · exact (rn_no2 hno).1
              · rw [(rn_no2 hno).2]; first | trivial | rfl | exact ⟨rfl, rfl⟩
            · exfalso; omega
        · refine vc_exit ?_
          refine thn_x ?_
          refine thn_x ?_
          refine inB_x ?_
          refine thn ?_
          refine vc_sr ?_
          iterate 5 refine vo ?_
          refine vnt ?_
          refine vc_ret ?_
          have hy := rn_end hI.2.2 (by omega)
          refine fin_i [(0, some 6), (1, some 7)] rfl (fz ?_) (fz ?_)
          · exact (rn_yes hy).1
          · rw [(rn_yes hy).2]; first | trivial | rfl | exact ⟨rfl, rfl⟩
end Go.Proofs.YtnikopahkjmneaaGreat
end

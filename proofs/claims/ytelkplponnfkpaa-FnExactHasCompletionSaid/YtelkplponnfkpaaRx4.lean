/- RxOk of one. -/
import Derived.Test.YtelkplponnfkpaaRows
import Derived.Test.YtelkplponnfkpaaRx3
namespace Go.Proofs.Ytelkplponnfkpaa
open Go.RowKit
set_option linter.unusedVariables false
set_option linter.unusedSimpArgs false

set_option maxRecDepth 100000 in
set_option maxHeartbeats 1000000 in
theorem rxOk_any_l1 (b s h t db dz dc eb ez ec dm sm vl tos id ttl si di kind sp dp seq ack fl win : Int) (bd : ByteArray) (hz hc : Int) (hold : Bool) (drop : Int) (hb : bd.size ≤ maxLen) (q1 : ringOkB b s h t = false) (w : World) :
    Calls Try.prog 82 #[.agg #[.int .i64 b, .int .i64 s, .int .i64 h, .int .i64 t, .int .i64 db, .int .i64 dz, .int .i64 dc, .int .i64 eb, .int .i64 ez, .int .i64 ec, .int .i64 dm, .int .i64 sm, .int .i64 vl, .int .i64 tos, .int .i64 id, .int .i64 ttl, .int .i64 si, .int .i64 di, .int .i64 kind, .int .i64 sp, .int .i64 dp, .int .i64 seq, .int .i64 ack, .int .i64 fl, .int .i64 win, .string bd, .int .i64 hz, .int .i64 hc, .bool hold, .int .i64 drop]] w fun e w' => e = .returned (.bool (rxOkB b s h t db dz dc eb ez ec dm sm vl tos id ttl si di kind sp dp seq ack fl win bd hz hc hold drop)) ∧ Ex w w' := by
  have H1 := hid q1
  clear q1
  go_enter Try.func82, Try.ntmps82
  go_wp2_with (first
        | (go_at_call 87; (first | (with_reducible refine (ringOk_v H1.out _).mono ?_)); rintro e w' ⟨rfl, hx⟩; obtain ⟨g, rfl⟩ := hx))
  go_ret
  exact ⟨ret_bool (by simp [rxOkB, H1.out]), (by repeat (first | (with_reducible exact Ex.refl _) | (with_reducible apply Ex.plus_add) | (with_reducible apply Ex.plus_drew) | (with_reducible apply Ex.plus) | (with_reducible apply Ex.alloc) | (with_reducible apply Ex.drew)))⟩

set_option maxRecDepth 100000 in
set_option maxHeartbeats 1000000 in
theorem rxOk_any_l2 (b s h t db dz dc eb ez ec dm sm vl tos id ttl si di kind sp dp seq ack fl win : Int) (bd : ByteArray) (hz hc : Int) (hold : Bool) (drop : Int) (hb : bd.size ≤ maxLen) (q1 : ringOkB b s h t = true) (q2 : queueOkB db dz dc = false) (w : World) :
    Calls Try.prog 82 #[.agg #[.int .i64 b, .int .i64 s, .int .i64 h, .int .i64 t, .int .i64 db, .int .i64 dz, .int .i64 dc, .int .i64 eb, .int .i64 ez, .int .i64 ec, .int .i64 dm, .int .i64 sm, .int .i64 vl, .int .i64 tos, .int .i64 id, .int .i64 ttl, .int .i64 si, .int .i64 di, .int .i64 kind, .int .i64 sp, .int .i64 dp, .int .i64 seq, .int .i64 ack, .int .i64 fl, .int .i64 win, .string bd, .int .i64 hz, .int .i64 hc, .bool hold, .int .i64 drop]] w fun e w' => e = .returned (.bool (rxOkB b s h t db dz dc eb ez ec dm sm vl tos id ttl si di kind sp dp seq ack fl win bd hz hc hold drop)) ∧ Ex w w' := by
  have H1 := hid q1
  clear q1
  have H2 := hid q2
  clear q2
  go_enter Try.func82, Try.ntmps82
  go_wp2_with (first
        | (go_at_call 87; (first | (with_reducible refine (ringOk_v H1.out _).mono ?_)); rintro e w' ⟨rfl, hx⟩; obtain ⟨g, rfl⟩ := hx)
        | (go_at_call 15; (first | (with_reducible refine (queueOk_v H2.out _).mono ?_)); rintro e w' ⟨rfl, hx⟩; obtain ⟨g, rfl⟩ := hx))
  go_ret
  exact ⟨ret_bool (by simp [rxOkB, H1.out, H2.out]), (by repeat (first | (with_reducible exact Ex.refl _) | (with_reducible apply Ex.plus_add) | (with_reducible apply Ex.plus_drew) | (with_reducible apply Ex.plus) | (with_reducible apply Ex.alloc) | (with_reducible apply Ex.drew)))⟩

set_option maxRecDepth 100000 in
set_option maxHeartbeats 1000000 in
theorem rxOk_any_l3 (b s h t db dz dc eb ez ec dm sm vl tos id ttl si di kind sp dp seq ack fl win : Int) (bd : ByteArray) (hz hc : Int) (hold : Bool) (drop : Int) (hb : bd.size ≤ maxLen) (q1 : ringOkB b s h t = true) (q2 : queueOkB db dz dc = true) (q3 : queueOkB eb ez ec = false) (w : World) :
    Calls Try.prog 82 #[.agg #[.int .i64 b, .int .i64 s, .int .i64 h, .int .i64 t, .int .i64 db, .int .i64 dz, .int .i64 dc, .int .i64 eb, .int .i64 ez, .int .i64 ec, .int .i64 dm, .int .i64 sm, .int .i64 vl, .int .i64 tos, .int .i64 id, .int .i64 ttl, .int .i64 si, .int .i64 di, .int .i64 kind, .int .i64 sp, .int .i64 dp, .int .i64 seq, .int .i64 ack, .int .i64 fl, .int .i64 win, .string bd, .int .i64 hz, .int .i64 hc, .bool hold, .int .i64 drop]] w fun e w' => e = .returned (.bool (rxOkB b s h t db dz dc eb ez ec dm sm vl tos id ttl si di kind sp dp seq ack fl win bd hz hc hold drop)) ∧ Ex w w' := by
  have H1 := hid q1
  clear q1
  have H2 := hid q2
  clear q2
  have H3 := hid q3
  clear q3
  go_enter Try.func82, Try.ntmps82
  go_wp2_with (first
        | (go_at_call 87; (first | (with_reducible refine (ringOk_v H1.out _).mono ?_)); rintro e w' ⟨rfl, hx⟩; obtain ⟨g, rfl⟩ := hx)
        | (go_at_call 15; (first | (with_reducible refine (queueOk_v H2.out _).mono ?_) | (with_reducible refine (queueOk_v H3.out _).mono ?_)); rintro e w' ⟨rfl, hx⟩; obtain ⟨g, rfl⟩ := hx))
  go_ret
  exact ⟨ret_bool (by simp [rxOkB, H1.out, H2.out, H3.out]), (by repeat (first | (with_reducible exact Ex.refl _) | (with_reducible apply Ex.plus_add) | (with_reducible apply Ex.plus_drew) | (with_reducible apply Ex.plus) | (with_reducible apply Ex.alloc) | (with_reducible apply Ex.drew)))⟩

set_option maxRecDepth 100000 in
set_option maxHeartbeats 1000000 in
theorem rxOk_any_l4 (b s h t db dz dc eb ez ec dm sm vl tos id ttl si di kind sp dp seq ack fl win : Int) (bd : ByteArray) (hz hc : Int) (hold : Bool) (drop : Int) (hb : bd.size ≤ maxLen) (q1 : ringOkB b s h t = true) (q2 : queueOkB db dz dc = true) (q3 : queueOkB eb ez ec = true) (q4 : (db == eb) = false) (w : World) :
    Calls Try.prog 82 #[.agg #[.int .i64 b, .int .i64 s, .int .i64 h, .int .i64 t, .int .i64 db, .int .i64 dz, .int .i64 dc, .int .i64 eb, .int .i64 ez, .int .i64 ec, .int .i64 dm, .int .i64 sm, .int .i64 vl, .int .i64 tos, .int .i64 id, .int .i64 ttl, .int .i64 si, .int .i64 di, .int .i64 kind, .int .i64 sp, .int .i64 dp, .int .i64 seq, .int .i64 ack, .int .i64 fl, .int .i64 win, .string bd, .int .i64 hz, .int .i64 hc, .bool hold, .int .i64 drop]] w fun e w' => e = .returned (.bool (rxOkB b s h t db dz dc eb ez ec dm sm vl tos id ttl si di kind sp dp seq ack fl win bd hz hc hold drop)) ∧ Ex w w' := by
  have H1 := hid q1
  clear q1
  have H2 := hid q2
  clear q2
  have H3 := hid q3
  clear q3
  have H4 := hid q4
  have n_db : (db != eb) = true := by simp at q4 ⊢; exact q4
  go_enter Try.func82, Try.ntmps82
  go_wp2_with (first
        | (go_at_call 87; (first | (with_reducible refine (ringOk_v H1.out _).mono ?_)); rintro e w' ⟨rfl, hx⟩; obtain ⟨g, rfl⟩ := hx)
        | (go_at_call 15; (first | (with_reducible refine (queueOk_v H2.out _).mono ?_) | (with_reducible refine (queueOk_v H3.out _).mono ?_)); rintro e w' ⟨rfl, hx⟩; obtain ⟨g, rfl⟩ := hx))
  go_ret
  exact ⟨ret_bool (by simp [rxOkB, H1.out, H2.out, H3.out, H4.out]), (by repeat (first | (with_reducible exact Ex.refl _) | (with_reducible apply Ex.plus_add) | (with_reducible apply Ex.plus_drew) | (with_reducible apply Ex.plus) | (with_reducible apply Ex.alloc) | (with_reducible apply Ex.drew)))⟩

set_option maxRecDepth 100000 in
set_option maxHeartbeats 1000000 in
theorem rxOk_any_l5 (b s h t db dz dc eb ez ec dm sm vl tos id ttl si di kind sp dp seq ack fl win : Int) (bd : ByteArray) (hz hc : Int) (hold : Bool) (drop : Int) (hb : bd.size ≤ maxLen) (q1 : ringOkB b s h t = true) (q2 : queueOkB db dz dc = true) (q3 : queueOkB eb ez ec = true) (q4 : (db == eb) = true) (q5 : (dz == ez) = false) (w : World) :
    Calls Try.prog 82 #[.agg #[.int .i64 b, .int .i64 s, .int .i64 h, .int .i64 t, .int .i64 db, .int .i64 dz, .int .i64 dc, .int .i64 eb, .int .i64 ez, .int .i64 ec, .int .i64 dm, .int .i64 sm, .int .i64 vl, .int .i64 tos, .int .i64 id, .int .i64 ttl, .int .i64 si, .int .i64 di, .int .i64 kind, .int .i64 sp, .int .i64 dp, .int .i64 seq, .int .i64 ack, .int .i64 fl, .int .i64 win, .string bd, .int .i64 hz, .int .i64 hc, .bool hold, .int .i64 drop]] w fun e w' => e = .returned (.bool (rxOkB b s h t db dz dc eb ez ec dm sm vl tos id ttl si di kind sp dp seq ack fl win bd hz hc hold drop)) ∧ Ex w w' := by
  have H1 := hid q1
  clear q1
  have H2 := hid q2
  clear q2
  have H3 := hid q3
  clear q3
  have H4 := hid q4
  have n_db : (db != eb) = false := by simp at q4 ⊢; exact q4
  have H5 := hid q5
  have n_dz : (dz != ez) = true := by simp at q5 ⊢; exact q5
  go_enter Try.func82, Try.ntmps82
  go_wp2_with (first
        | (go_at_call 87; (first | (with_reducible refine (ringOk_v H1.out _).mono ?_)); rintro e w' ⟨rfl, hx⟩; obtain ⟨g, rfl⟩ := hx)
        | (go_at_call 15; (first | (with_reducible refine (queueOk_v H2.out _).mono ?_) | (with_reducible refine (queueOk_v H3.out _).mono ?_)); rintro e w' ⟨rfl, hx⟩; obtain ⟨g, rfl⟩ := hx))
  go_ret
  exact ⟨ret_bool (by simp [rxOkB, H1.out, H2.out, H3.out, H4.out, H5.out]), (by repeat (first | (with_reducible exact Ex.refl _) | (with_reducible apply Ex.plus_add) | (with_reducible apply Ex.plus_drew) | (with_reducible apply Ex.plus) | (with_reducible apply Ex.alloc) | (with_reducible apply Ex.drew)))⟩

set_option maxRecDepth 100000 in
set_option maxHeartbeats 1000000 in
theorem rxOk_any_l6 (b s h t db dz dc eb ez ec dm sm vl tos id ttl si di kind sp dp seq ack fl win : Int) (bd : ByteArray) (hz hc : Int) (hold : Bool) (drop : Int) (hb : bd.size ≤ maxLen) (q1 : ringOkB b s h t = true) (q2 : queueOkB db dz dc = true) (q3 : queueOkB eb ez ec = true) (q4 : (db == eb) = true) (q5 : (dz == ez) = true) (q6 : inB drop 0 1000000000000 = false) (w : World) :
    Calls Try.prog 82 #[.agg #[.int .i64 b, .int .i64 s, .int .i64 h, .int .i64 t, .int .i64 db, .int .i64 dz, .int .i64 dc, .int .i64 eb, .int .i64 ez, .int .i64 ec, .int .i64 dm, .int .i64 sm, .int .i64 vl, .int .i64 tos, .int .i64 id, .int .i64 ttl, .int .i64 si, .int .i64 di, .int .i64 kind, .int .i64 sp, .int .i64 dp, .int .i64 seq, .int .i64 ack, .int .i64 fl, .int .i64 win, .string bd, .int .i64 hz, .int .i64 hc, .bool hold, .int .i64 drop]] w fun e w' => e = .returned (.bool (rxOkB b s h t db dz dc eb ez ec dm sm vl tos id ttl si di kind sp dp seq ack fl win bd hz hc hold drop)) ∧ Ex w w' := by
  have H1 := hid q1
  clear q1
  have H2 := hid q2
  clear q2
  have H3 := hid q3
  clear q3
  have H4 := hid q4
  have n_db : (db != eb) = false := by simp at q4 ⊢; exact q4
  have H5 := hid q5
  have n_dz : (dz != ez) = false := by simp at q5 ⊢; exact q5
  have H6 := hid q6
  clear q6
  go_enter Try.func82, Try.ntmps82
  go_wp2_with (first
        | (go_at_call 87; (first | (with_reducible refine (ringOk_v H1.out _).mono ?_)); rintro e w' ⟨rfl, hx⟩; obtain ⟨g, rfl⟩ := hx)
        | (go_at_call 15; (first | (with_reducible refine (queueOk_v H2.out _).mono ?_) | (with_reducible refine (queueOk_v H3.out _).mono ?_)); rintro e w' ⟨rfl, hx⟩; obtain ⟨g, rfl⟩ := hx)
        | (go_at_call 62; (first | (with_reducible refine (between_v H6.out _).mono ?_)); rintro e w' ⟨rfl, rfl⟩))
  go_ret
  exact ⟨ret_bool (by simp [rxOkB, H1.out, H2.out, H3.out, H4.out, H5.out, H6.out]), (by repeat (first | (with_reducible exact Ex.refl _) | (with_reducible apply Ex.plus_add) | (with_reducible apply Ex.plus_drew) | (with_reducible apply Ex.plus) | (with_reducible apply Ex.alloc) | (with_reducible apply Ex.drew)))⟩

set_option maxRecDepth 100000 in
set_option maxHeartbeats 1000000 in
theorem rxOk_any_l7 (b s h t db dz dc eb ez ec dm sm vl tos id ttl si di kind sp dp seq ack fl win : Int) (bd : ByteArray) (hz hc : Int) (hold : Bool) (drop : Int) (hb : bd.size ≤ maxLen) (q1 : ringOkB b s h t = true) (q2 : queueOkB db dz dc = true) (q3 : queueOkB eb ez ec = true) (q4 : (db == eb) = true) (q5 : (dz == ez) = true) (q6 : inB drop 0 1000000000000 = true) (q7 : hold = false) (q8 : zeroB dm sm vl tos id ttl si di kind sp dp seq ack fl win bd hz hc = false) (w : World) :
    Calls Try.prog 82 #[.agg #[.int .i64 b, .int .i64 s, .int .i64 h, .int .i64 t, .int .i64 db, .int .i64 dz, .int .i64 dc, .int .i64 eb, .int .i64 ez, .int .i64 ec, .int .i64 dm, .int .i64 sm, .int .i64 vl, .int .i64 tos, .int .i64 id, .int .i64 ttl, .int .i64 si, .int .i64 di, .int .i64 kind, .int .i64 sp, .int .i64 dp, .int .i64 seq, .int .i64 ack, .int .i64 fl, .int .i64 win, .string bd, .int .i64 hz, .int .i64 hc, .bool hold, .int .i64 drop]] w fun e w' => e = .returned (.bool (rxOkB b s h t db dz dc eb ez ec dm sm vl tos id ttl si di kind sp dp seq ack fl win bd hz hc hold drop)) ∧ Ex w w' := by
  have H1 := hid q1
  clear q1
  have H2 := hid q2
  clear q2
  have H3 := hid q3
  clear q3
  have H4 := hid q4
  have n_db : (db != eb) = false := by simp at q4 ⊢; exact q4
  have H5 := hid q5
  have n_dz : (dz != ez) = false := by simp at q5 ⊢; exact q5
  have H6 := hid q6
  obtain ⟨b_drop_0, b_drop_1⟩ := inB_iff.1 q6
  clear q6
  have H7 := hid q7
  have H8 := hid q8
  have ez0 := fun w => eq_held q8 w
  clear q8
  go_enter Try.func82, Try.ntmps82
  go_wp2_with (first
        | (go_at_call 87; (first | (with_reducible refine (ringOk_v H1.out _).mono ?_)); rintro e w' ⟨rfl, hx⟩; obtain ⟨g, rfl⟩ := hx)
        | (go_at_call 15; (first | (with_reducible refine (queueOk_v H2.out _).mono ?_) | (with_reducible refine (queueOk_v H3.out _).mono ?_)); rintro e w' ⟨rfl, hx⟩; obtain ⟨g, rfl⟩ := hx)
        | (go_at_call 62; (first | (with_reducible refine (between_v H6.out _).mono ?_)); rintro e w' ⟨rfl, rfl⟩))
  go_ret
  exact ⟨ret_bool (by simp [rxOkB, H1.out, H2.out, H3.out, H4.out, H5.out, H6.out, H7.out, H8.out]), (by repeat (first | (with_reducible exact Ex.refl _) | (with_reducible apply Ex.plus_add) | (with_reducible apply Ex.plus_drew) | (with_reducible apply Ex.plus) | (with_reducible apply Ex.alloc) | (with_reducible apply Ex.drew)))⟩

set_option maxRecDepth 100000 in
set_option maxHeartbeats 1000000 in
theorem rxOk_any_l8 (b s h t db dz dc eb ez ec dm sm vl tos id ttl si di kind sp dp seq ack fl win : Int) (bd : ByteArray) (hz hc : Int) (hold : Bool) (drop : Int) (hb : bd.size ≤ maxLen) (q1 : ringOkB b s h t = true) (q2 : queueOkB db dz dc = true) (q3 : queueOkB eb ez ec = true) (q4 : (db == eb) = true) (q5 : (dz == ez) = true) (q6 : inB drop 0 1000000000000 = true) (q7 : hold = false) (q8 : zeroB dm sm vl tos id ttl si di kind sp dp seq ack fl win bd hz hc = true) (w : World) :
    Calls Try.prog 82 #[.agg #[.int .i64 b, .int .i64 s, .int .i64 h, .int .i64 t, .int .i64 db, .int .i64 dz, .int .i64 dc, .int .i64 eb, .int .i64 ez, .int .i64 ec, .int .i64 dm, .int .i64 sm, .int .i64 vl, .int .i64 tos, .int .i64 id, .int .i64 ttl, .int .i64 si, .int .i64 di, .int .i64 kind, .int .i64 sp, .int .i64 dp, .int .i64 seq, .int .i64 ack, .int .i64 fl, .int .i64 win, .string bd, .int .i64 hz, .int .i64 hc, .bool hold, .int .i64 drop]] w fun e w' => e = .returned (.bool (rxOkB b s h t db dz dc eb ez ec dm sm vl tos id ttl si di kind sp dp seq ack fl win bd hz hc hold drop)) ∧ Ex w w' := by
  have H1 := hid q1
  clear q1
  have H2 := hid q2
  clear q2
  have H3 := hid q3
  clear q3
  have H4 := hid q4
  have n_db : (db != eb) = false := by simp at q4 ⊢; exact q4
  have H5 := hid q5
  have n_dz : (dz != ez) = false := by simp at q5 ⊢; exact q5
  have H6 := hid q6
  obtain ⟨b_drop_0, b_drop_1⟩ := inB_iff.1 q6
  clear q6
  have H7 := hid q7
  have H8 := hid q8
  have ez0 := fun w => eq_held q8 w
  clear q8
  go_enter Try.func82, Try.ntmps82
  go_wp2_with (first
        | (go_at_call 87; (first | (with_reducible refine (ringOk_v H1.out _).mono ?_)); rintro e w' ⟨rfl, hx⟩; obtain ⟨g, rfl⟩ := hx)
        | (go_at_call 15; (first | (with_reducible refine (queueOk_v H2.out _).mono ?_) | (with_reducible refine (queueOk_v H3.out _).mono ?_)); rintro e w' ⟨rfl, hx⟩; obtain ⟨g, rfl⟩ := hx)
        | (go_at_call 62; (first | (with_reducible refine (between_v H6.out _).mono ?_)); rintro e w' ⟨rfl, rfl⟩))
  go_ret
  exact ⟨ret_bool (by simp [rxOkB, H1.out, H2.out, H3.out, H4.out, H5.out, H6.out, H7.out, H8.out]), (by repeat (first | (with_reducible exact Ex.refl _) | (with_reducible apply Ex.plus_add) | (with_reducible apply Ex.plus_drew) | (with_reducible apply Ex.plus) | (with_reducible apply Ex.alloc) | (with_reducible apply Ex.drew)))⟩

set_option maxRecDepth 100000 in
set_option maxHeartbeats 1000000 in
theorem rxOk_any_l9 (b s h t db dz dc eb ez ec dm sm vl tos id ttl si di kind sp dp seq ack fl win : Int) (bd : ByteArray) (hz hc : Int) (hold : Bool) (drop : Int) (hb : bd.size ≤ maxLen) (q1 : ringOkB b s h t = true) (q2 : queueOkB db dz dc = true) (q3 : queueOkB eb ez ec = true) (q4 : (db == eb) = true) (q5 : (dz == ez) = true) (q6 : inB drop 0 1000000000000 = true) (q7 : hold = true) (q8 : superOkB dm sm vl tos id ttl si di kind sp dp seq ack fl win bd.size = false) (w : World) :
    Calls Try.prog 82 #[.agg #[.int .i64 b, .int .i64 s, .int .i64 h, .int .i64 t, .int .i64 db, .int .i64 dz, .int .i64 dc, .int .i64 eb, .int .i64 ez, .int .i64 ec, .int .i64 dm, .int .i64 sm, .int .i64 vl, .int .i64 tos, .int .i64 id, .int .i64 ttl, .int .i64 si, .int .i64 di, .int .i64 kind, .int .i64 sp, .int .i64 dp, .int .i64 seq, .int .i64 ack, .int .i64 fl, .int .i64 win, .string bd, .int .i64 hz, .int .i64 hc, .bool hold, .int .i64 drop]] w fun e w' => e = .returned (.bool (rxOkB b s h t db dz dc eb ez ec dm sm vl tos id ttl si di kind sp dp seq ack fl win bd hz hc hold drop)) ∧ Ex w w' := by
  have H1 := hid q1
  clear q1
  have H2 := hid q2
  clear q2
  have H3 := hid q3
  clear q3
  have H4 := hid q4
  have n_db : (db != eb) = false := by simp at q4 ⊢; exact q4
  have H5 := hid q5
  have n_dz : (dz != ez) = false := by simp at q5 ⊢; exact q5
  have H6 := hid q6
  obtain ⟨b_drop_0, b_drop_1⟩ := inB_iff.1 q6
  clear q6
  have H7 := hid q7
  have H8 := hid q8
  clear q8
  go_enter Try.func82, Try.ntmps82
  go_wp2_with (first
        | (go_at_call 87; (first | (with_reducible refine (ringOk_v H1.out _).mono ?_)); rintro e w' ⟨rfl, hx⟩; obtain ⟨g, rfl⟩ := hx)
        | (go_at_call 15; (first | (with_reducible refine (queueOk_v H2.out _).mono ?_) | (with_reducible refine (queueOk_v H3.out _).mono ?_)); rintro e w' ⟨rfl, hx⟩; obtain ⟨g, rfl⟩ := hx)
        | (go_at_call 62; (first | (with_reducible refine (between_v H6.out _).mono ?_)); rintro e w' ⟨rfl, rfl⟩)
        | (go_at_call 135; (first | (with_reducible refine (superOk_v hb H8.out _).mono ?_)); rintro e w' ⟨rfl, hx⟩; obtain ⟨g, rfl⟩ := hx))
  go_ret
  exact ⟨ret_bool (by simp [rxOkB, H1.out, H2.out, H3.out, H4.out, H5.out, H6.out, H7.out, H8.out]), (by repeat (first | (with_reducible exact Ex.refl _) | (with_reducible apply Ex.plus_add) | (with_reducible apply Ex.plus_drew) | (with_reducible apply Ex.plus) | (with_reducible apply Ex.alloc) | (with_reducible apply Ex.drew)))⟩

set_option maxRecDepth 100000 in
set_option maxHeartbeats 1000000 in
theorem rxOk_any_l10 (b s h t db dz dc eb ez ec dm sm vl tos id ttl si di kind sp dp seq ack fl win : Int) (bd : ByteArray) (hz hc : Int) (hold : Bool) (drop : Int) (hb : bd.size ≤ maxLen) (q1 : ringOkB b s h t = true) (q2 : queueOkB db dz dc = true) (q3 : queueOkB eb ez ec = true) (q4 : (db == eb) = true) (q5 : (dz == ez) = true) (q6 : inB drop 0 1000000000000 = true) (q7 : hold = true) (q8 : superOkB dm sm vl tos id ttl si di kind sp dp seq ack fl win bd.size = true) (q9 : inB hz 0 320 = false) (w : World) :
    Calls Try.prog 82 #[.agg #[.int .i64 b, .int .i64 s, .int .i64 h, .int .i64 t, .int .i64 db, .int .i64 dz, .int .i64 dc, .int .i64 eb, .int .i64 ez, .int .i64 ec, .int .i64 dm, .int .i64 sm, .int .i64 vl, .int .i64 tos, .int .i64 id, .int .i64 ttl, .int .i64 si, .int .i64 di, .int .i64 kind, .int .i64 sp, .int .i64 dp, .int .i64 seq, .int .i64 ack, .int .i64 fl, .int .i64 win, .string bd, .int .i64 hz, .int .i64 hc, .bool hold, .int .i64 drop]] w fun e w' => e = .returned (.bool (rxOkB b s h t db dz dc eb ez ec dm sm vl tos id ttl si di kind sp dp seq ack fl win bd hz hc hold drop)) ∧ Ex w w' := by
  have H1 := hid q1
  clear q1
  have H2 := hid q2
  clear q2
  have H3 := hid q3
  clear q3
  have H4 := hid q4
  have n_db : (db != eb) = false := by simp at q4 ⊢; exact q4
  have H5 := hid q5
  have n_dz : (dz != ez) = false := by simp at q5 ⊢; exact q5
  have H6 := hid q6
  obtain ⟨b_drop_0, b_drop_1⟩ := inB_iff.1 q6
  clear q6
  have H7 := hid q7
  have H8 := hid q8
  clear q8
  have H9 := hid q9
  clear q9
  go_enter Try.func82, Try.ntmps82
  go_wp2_with (first
        | (go_at_call 87; (first | (with_reducible refine (ringOk_v H1.out _).mono ?_)); rintro e w' ⟨rfl, hx⟩; obtain ⟨g, rfl⟩ := hx)
        | (go_at_call 15; (first | (with_reducible refine (queueOk_v H2.out _).mono ?_) | (with_reducible refine (queueOk_v H3.out _).mono ?_)); rintro e w' ⟨rfl, hx⟩; obtain ⟨g, rfl⟩ := hx)
        | (go_at_call 62; (first | (with_reducible refine (between_v H6.out _).mono ?_) | (with_reducible refine (between_v H9.out _).mono ?_)); rintro e w' ⟨rfl, rfl⟩)
        | (go_at_call 135; (first | (with_reducible refine (superOk_v hb H8.out _).mono ?_)); rintro e w' ⟨rfl, hx⟩; obtain ⟨g, rfl⟩ := hx))
  go_ret
  exact ⟨ret_bool (by simp [rxOkB, H1.out, H2.out, H3.out, H4.out, H5.out, H6.out, H7.out, H8.out, H9.out]), (by repeat (first | (with_reducible exact Ex.refl _) | (with_reducible apply Ex.plus_add) | (with_reducible apply Ex.plus_drew) | (with_reducible apply Ex.plus) | (with_reducible apply Ex.alloc) | (with_reducible apply Ex.drew)))⟩

set_option maxRecDepth 100000 in
set_option maxHeartbeats 1000000 in
theorem rxOk_any_l11 (b s h t db dz dc eb ez ec dm sm vl tos id ttl si di kind sp dp seq ack fl win : Int) (bd : ByteArray) (hz hc : Int) (hold : Bool) (drop : Int) (hb : bd.size ≤ maxLen) (q1 : ringOkB b s h t = true) (q2 : queueOkB db dz dc = true) (q3 : queueOkB eb ez ec = true) (q4 : (db == eb) = true) (q5 : (dz == ez) = true) (q6 : inB drop 0 1000000000000 = true) (q7 : hold = true) (q8 : superOkB dm sm vl tos id ttl si di kind sp dp seq ack fl win bd.size = true) (q9 : inB hz 0 320 = true) (q10 : inB hc 1 320 = false) (w : World) :
    Calls Try.prog 82 #[.agg #[.int .i64 b, .int .i64 s, .int .i64 h, .int .i64 t, .int .i64 db, .int .i64 dz, .int .i64 dc, .int .i64 eb, .int .i64 ez, .int .i64 ec, .int .i64 dm, .int .i64 sm, .int .i64 vl, .int .i64 tos, .int .i64 id, .int .i64 ttl, .int .i64 si, .int .i64 di, .int .i64 kind, .int .i64 sp, .int .i64 dp, .int .i64 seq, .int .i64 ack, .int .i64 fl, .int .i64 win, .string bd, .int .i64 hz, .int .i64 hc, .bool hold, .int .i64 drop]] w fun e w' => e = .returned (.bool (rxOkB b s h t db dz dc eb ez ec dm sm vl tos id ttl si di kind sp dp seq ack fl win bd hz hc hold drop)) ∧ Ex w w' := by
  have H1 := hid q1
  clear q1
  have H2 := hid q2
  clear q2
  have H3 := hid q3
  clear q3
  have H4 := hid q4
  have n_db : (db != eb) = false := by simp at q4 ⊢; exact q4
  have H5 := hid q5
  have n_dz : (dz != ez) = false := by simp at q5 ⊢; exact q5
  have H6 := hid q6
  obtain ⟨b_drop_0, b_drop_1⟩ := inB_iff.1 q6
  clear q6
  have H7 := hid q7
  have H8 := hid q8
  clear q8
  have H9 := hid q9
  obtain ⟨b_hz_0, b_hz_1⟩ := inB_iff.1 q9
  clear q9
  have H10 := hid q10
  clear q10
  go_enter Try.func82, Try.ntmps82
  go_wp2_with (first
        | (go_at_call 87; (first | (with_reducible refine (ringOk_v H1.out _).mono ?_)); rintro e w' ⟨rfl, hx⟩; obtain ⟨g, rfl⟩ := hx)
        | (go_at_call 15; (first | (with_reducible refine (queueOk_v H2.out _).mono ?_) | (with_reducible refine (queueOk_v H3.out _).mono ?_)); rintro e w' ⟨rfl, hx⟩; obtain ⟨g, rfl⟩ := hx)
        | (go_at_call 62; (first | (with_reducible refine (between_v H6.out _).mono ?_) | (with_reducible refine (between_v H9.out _).mono ?_) | (with_reducible refine (between_v H10.out _).mono ?_)); rintro e w' ⟨rfl, rfl⟩)
        | (go_at_call 135; (first | (with_reducible refine (superOk_v hb H8.out _).mono ?_)); rintro e w' ⟨rfl, hx⟩; obtain ⟨g, rfl⟩ := hx))
  go_ret
  exact ⟨ret_bool (by simp [rxOkB, H1.out, H2.out, H3.out, H4.out, H5.out, H6.out, H7.out, H8.out, H9.out, H10.out]), (by repeat (first | (with_reducible exact Ex.refl _) | (with_reducible apply Ex.plus_add) | (with_reducible apply Ex.plus_drew) | (with_reducible apply Ex.plus) | (with_reducible apply Ex.alloc) | (with_reducible apply Ex.drew)))⟩

set_option maxRecDepth 100000 in
set_option maxHeartbeats 1000000 in
theorem rxOk_any_l12 (b s h t db dz dc eb ez ec dm sm vl tos id ttl si di kind sp dp seq ack fl win : Int) (bd : ByteArray) (hz hc : Int) (hold : Bool) (drop : Int) (hb : bd.size ≤ maxLen) (q1 : ringOkB b s h t = true) (q2 : queueOkB db dz dc = true) (q3 : queueOkB eb ez ec = true) (q4 : (db == eb) = true) (q5 : (dz == ez) = true) (q6 : inB drop 0 1000000000000 = true) (q7 : hold = true) (q8 : superOkB dm sm vl tos id ttl si di kind sp dp seq ack fl win bd.size = true) (q9 : inB hz 0 320 = true) (q10 : inB hc 1 320 = true) (w : World) :
    Calls Try.prog 82 #[.agg #[.int .i64 b, .int .i64 s, .int .i64 h, .int .i64 t, .int .i64 db, .int .i64 dz, .int .i64 dc, .int .i64 eb, .int .i64 ez, .int .i64 ec, .int .i64 dm, .int .i64 sm, .int .i64 vl, .int .i64 tos, .int .i64 id, .int .i64 ttl, .int .i64 si, .int .i64 di, .int .i64 kind, .int .i64 sp, .int .i64 dp, .int .i64 seq, .int .i64 ack, .int .i64 fl, .int .i64 win, .string bd, .int .i64 hz, .int .i64 hc, .bool hold, .int .i64 drop]] w fun e w' => e = .returned (.bool (rxOkB b s h t db dz dc eb ez ec dm sm vl tos id ttl si di kind sp dp seq ack fl win bd hz hc hold drop)) ∧ Ex w w' := by
  have H1 := hid q1
  clear q1
  have H2 := hid q2
  clear q2
  have H3 := hid q3
  clear q3
  have H4 := hid q4
  have n_db : (db != eb) = false := by simp at q4 ⊢; exact q4
  have H5 := hid q5
  have n_dz : (dz != ez) = false := by simp at q5 ⊢; exact q5
  have H6 := hid q6
  obtain ⟨b_drop_0, b_drop_1⟩ := inB_iff.1 q6
  clear q6
  have H7 := hid q7
  have H8 := hid q8
  clear q8
  have H9 := hid q9
  obtain ⟨b_hz_0, b_hz_1⟩ := inB_iff.1 q9
  clear q9
  have H10 := hid q10
  obtain ⟨b_hc_0, b_hc_1⟩ := inB_iff.1 q10
  clear q10
  go_enter Try.func82, Try.ntmps82
  go_wp2_with (first
        | (go_at_call 87; (first | (with_reducible refine (ringOk_v H1.out _).mono ?_)); rintro e w' ⟨rfl, hx⟩; obtain ⟨g, rfl⟩ := hx)
        | (go_at_call 15; (first | (with_reducible refine (queueOk_v H2.out _).mono ?_) | (with_reducible refine (queueOk_v H3.out _).mono ?_)); rintro e w' ⟨rfl, hx⟩; obtain ⟨g, rfl⟩ := hx)
        | (go_at_call 62; (first | (with_reducible refine (between_v H6.out _).mono ?_) | (with_reducible refine (between_v H9.out _).mono ?_) | (with_reducible refine (between_v H10.out _).mono ?_)); rintro e w' ⟨rfl, rfl⟩)
        | (go_at_call 135; (first | (with_reducible refine (superOk_v hb H8.out _).mono ?_)); rintro e w' ⟨rfl, hx⟩; obtain ⟨g, rfl⟩ := hx))
  go_ret
  exact ⟨ret_bool (by simp [rxOkB, H1.out, H2.out, H3.out, H4.out, H5.out, H6.out, H7.out, H8.out, H9.out, H10.out]), (by repeat (first | (with_reducible exact Ex.refl _) | (with_reducible apply Ex.plus_add) | (with_reducible apply Ex.plus_drew) | (with_reducible apply Ex.plus) | (with_reducible apply Ex.alloc) | (with_reducible apply Ex.drew)))⟩

theorem rxOk_any (b s h t db dz dc eb ez ec dm sm vl tos id ttl si di kind sp dp seq ack fl win : Int) (bd : ByteArray) (hz hc : Int) (hold : Bool) (drop : Int) (hb : bd.size ≤ maxLen) (w : World) :
    Calls Try.prog 82 #[.agg #[.int .i64 b, .int .i64 s, .int .i64 h, .int .i64 t, .int .i64 db, .int .i64 dz, .int .i64 dc, .int .i64 eb, .int .i64 ez, .int .i64 ec, .int .i64 dm, .int .i64 sm, .int .i64 vl, .int .i64 tos, .int .i64 id, .int .i64 ttl, .int .i64 si, .int .i64 di, .int .i64 kind, .int .i64 sp, .int .i64 dp, .int .i64 seq, .int .i64 ack, .int .i64 fl, .int .i64 win, .string bd, .int .i64 hz, .int .i64 hc, .bool hold, .int .i64 drop]] w fun e w' => e = .returned (.bool (rxOkB b s h t db dz dc eb ez ec dm sm vl tos id ttl si di kind sp dp seq ack fl win bd hz hc hold drop)) ∧ Ex w w' := by
  rcases (Bool.eq_false_or_eq_true (ringOkB b s h t)).symm with q1 | q1
  · exact rxOk_any_l1 b s h t db dz dc eb ez ec dm sm vl tos id ttl si di kind sp dp seq ack fl win bd hz hc hold drop hb q1 w
  rcases (Bool.eq_false_or_eq_true (queueOkB db dz dc)).symm with q2 | q2
  · exact rxOk_any_l2 b s h t db dz dc eb ez ec dm sm vl tos id ttl si di kind sp dp seq ack fl win bd hz hc hold drop hb q1 q2 w
  rcases (Bool.eq_false_or_eq_true (queueOkB eb ez ec)).symm with q3 | q3
  · exact rxOk_any_l3 b s h t db dz dc eb ez ec dm sm vl tos id ttl si di kind sp dp seq ack fl win bd hz hc hold drop hb q1 q2 q3 w
  rcases (Bool.eq_false_or_eq_true ((db == eb))).symm with q4 | q4
  · exact rxOk_any_l4 b s h t db dz dc eb ez ec dm sm vl tos id ttl si di kind sp dp seq ack fl win bd hz hc hold drop hb q1 q2 q3 q4 w
  rcases (Bool.eq_false_or_eq_true ((dz == ez))).symm with q5 | q5
  · exact rxOk_any_l5 b s h t db dz dc eb ez ec dm sm vl tos id ttl si di kind sp dp seq ack fl win bd hz hc hold drop hb q1 q2 q3 q4 q5 w
  rcases (Bool.eq_false_or_eq_true (inB drop 0 1000000000000)).symm with q6 | q6
  · exact rxOk_any_l6 b s h t db dz dc eb ez ec dm sm vl tos id ttl si di kind sp dp seq ack fl win bd hz hc hold drop hb q1 q2 q3 q4 q5 q6 w
  rcases (Bool.eq_false_or_eq_true (hold)).symm with q7 | q7
  · rcases (Bool.eq_false_or_eq_true (zeroB dm sm vl tos id ttl si di kind sp dp seq ack fl win bd hz hc)).symm with q8 | q8
    · exact rxOk_any_l7 b s h t db dz dc eb ez ec dm sm vl tos id ttl si di kind sp dp seq ack fl win bd hz hc hold drop hb q1 q2 q3 q4 q5 q6 q7 q8 w
    exact rxOk_any_l8 b s h t db dz dc eb ez ec dm sm vl tos id ttl si di kind sp dp seq ack fl win bd hz hc hold drop hb q1 q2 q3 q4 q5 q6 q7 q8 w
  rcases (Bool.eq_false_or_eq_true (superOkB dm sm vl tos id ttl si di kind sp dp seq ack fl win bd.size)).symm with q8 | q8
  · exact rxOk_any_l9 b s h t db dz dc eb ez ec dm sm vl tos id ttl si di kind sp dp seq ack fl win bd hz hc hold drop hb q1 q2 q3 q4 q5 q6 q7 q8 w
  rcases (Bool.eq_false_or_eq_true (inB hz 0 320)).symm with q9 | q9
  · exact rxOk_any_l10 b s h t db dz dc eb ez ec dm sm vl tos id ttl si di kind sp dp seq ack fl win bd hz hc hold drop hb q1 q2 q3 q4 q5 q6 q7 q8 q9 w
  rcases (Bool.eq_false_or_eq_true (inB hc 1 320)).symm with q10 | q10
  · exact rxOk_any_l11 b s h t db dz dc eb ez ec dm sm vl tos id ttl si di kind sp dp seq ack fl win bd hz hc hold drop hb q1 q2 q3 q4 q5 q6 q7 q8 q9 q10 w
  exact rxOk_any_l12 b s h t db dz dc eb ez ec dm sm vl tos id ttl si di kind sp dp seq ack fl win bd hz hc hold drop hb q1 q2 q3 q4 q5 q6 q7 q8 q9 q10 w

end Go.Proofs.Ytelkplponnfkpaa
